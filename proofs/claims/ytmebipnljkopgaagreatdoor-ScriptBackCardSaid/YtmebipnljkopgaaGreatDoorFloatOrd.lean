/-
 The order of floats, and a number that rises with it. No program is walked here. Conditions: as each theorem names them.
-/
import Derived.Test.YtmebipnljkopgaaGreatDoorGSpec
namespace Go.Proofs.YtmebipnljkopgaaGreatDoor

/-- A magnitude, by its rung. -/
def rungV (r : Nat) : Nat := if r < 4503599627370496 then r else (4503599627370496 + r % 4503599627370496) * 2 ^ (r / 4503599627370496 - 1)
theorem rungV_mono {r s : Nat} (h : r < s) : rungV r < rungV s := by
 unfold rungV
 by_cases h1 : s < 4503599627370496
 ·
  rw [if_pos h1, if_pos (by omega)]; exact h
 rw [if_neg h1]
 have hs1 : 1 ≤ s / 4503599627370496 := by omega
 have hp : 1 ≤ 2 ^ (s / 4503599627370496 - 1) := Nat.one_le_two_pow
 have hb : 4503599627370496 * 2 ^ (s / 4503599627370496 - 1) ≤ (4503599627370496 + s % 4503599627370496) * 2 ^ (s / 4503599627370496 - 1) := Nat.mul_le_mul_right _ (by omega)
 by_cases h2 : r < 4503599627370496
 ·
  rw [if_pos h2]; omega
 rw [if_neg h2]
 have hr1 : 1 ≤ r / 4503599627370496 := by omega
 by_cases h3 : r / 4503599627370496 = s / 4503599627370496
 ·
  rw [h3]
  exact Nat.mul_lt_mul_of_pos_right (by omega) (by omega)
 ·
  have hq : r / 4503599627370496 < s / 4503599627370496 := by omega
  have e1 : (4503599627370496 + r % 4503599627370496) * 2 ^ (r / 4503599627370496 - 1) < 4503599627370496 * 2 * 2 ^ (r / 4503599627370496 - 1) := Nat.mul_lt_mul_of_pos_right (by omega) (Nat.two_pow_pos _)
  have e2 : 4503599627370496 * 2 * 2 ^ (r / 4503599627370496 - 1) = 4503599627370496 * 2 ^ (r / 4503599627370496) := by
   rw [Nat.mul_assoc, ← Nat.pow_succ', show (r / 4503599627370496 - 1).succ = r / 4503599627370496 from by omega]
  have e3 : 2 ^ (r / 4503599627370496) ≤ 2 ^ (s / 4503599627370496 - 1) := Nat.pow_le_pow_right (by omega) (by omega)
  have e4 := Nat.mul_le_mul_left 4503599627370496 e3
  omega
theorem rungV_lt {r s : Nat} : rungV r < rungV s ↔ r < s := by
 constructor
 ·
  intro h
  rcases Nat.lt_trichotomy r s with h1 | h1 | h1
  ·
   exact h1
  ·
   rw [h1] at h; omega
  ·
   have := rungV_mono h1; omega
 ·
  exact rungV_mono
theorem rungV_zero {r : Nat} : rungV r = 0 ↔ r = 0 := by
 constructor
 ·
  intro h
  rcases Nat.eq_zero_or_pos r with h1 | h1
  ·
   exact h1
  ·
   have := rungV_mono h1; omega
 ·
  rintro rfl; rfl

/-- A float's sign, and what stands below it. -/
def sgnB (x : Nat) : Bool := decide (9223372036854775808 ≤ x)
def rungB (x : Nat) : Nat := x % 9223372036854775808
def magOf (r : Nat) : Nat := if r < 4503599627370496 then r else 4503599627370496 + r % 4503599627370496
def upOf (r : Nat) : Nat := if r < 4503599627370496 then 0 else r / 4503599627370496 - 1
theorem rungV_eq (r : Nat) : rungV r = magOf r * 2 ^ upOf r := by
 unfold rungV magOf upOf
 split <;> simp
theorem read_eq {x : Nat} (hx : x < 18446744073709551616) : FloatKind.f64.format.read x =
  if rungB x < 9218868437227405312 then .number (sgnB x) (magOf (rungB x)) (-1074 + (upOf (rungB x) : Nat))
  else if rungB x = 9218868437227405312 then .infinity (sgnB x) else .nan (sgnB x) (rungB x - 9218868437227405312) := by
 have e1 : FloatKind.f64.format.signWeight = 9223372036854775808 := by decide
 have e2 : FloatKind.f64.format.binade = 4503599627370496 := by decide
 have e3 : FloatKind.f64.format.infRung = 9218868437227405312 := by decide
 have e4 : FloatKind.f64.format.leastPlace = -1074 := by decide
 have e5 : (x / 9223372036854775808 % 2 == 1) = sgnB x := by
  unfold sgnB
  rw [Bool.eq_iff_iff, beq_iff_eq, decide_eq_true_iff]
  omega
 unfold Ieee.Format.read
 simp only [e1, e2, e3, e4, e5]
 unfold rungB magOf upOf
 split
 ·
  rename_i h
  rw [if_pos (by omega)]
  simp
 ·
  rfl
/-- A float as a whole number, its order kept. -/
def sv (x : Nat) : Int := if sgnB x then -(rungV (rungB x) : Int) else (rungV (rungB x) : Int)
theorem compare_scale (a b : Int) (k : Nat) (hk : 0 < k) : compare (a * k) (b * k) = compare a b := by
 have hk' : (0 : Int) < k := by omega
 simp only [compare, compareOfLessAndEq]
 have h1 : (a * k < b * k) ↔ a < b := Int.mul_lt_mul_right hk'
 have h2 : (a * k = b * k) ↔ a = b := by
  constructor
  ·
   exact fun h => Int.eq_of_mul_eq_mul_right (by omega) h
  ·
   rintro rfl; rfl
 simp only [h1, h2]
theorem signed_scale (s : Bool) (m a c : Nat) (hc : c ≤ a) : Ieee.signed s m (a - c) * ((2 ^ c : Nat) : Int) = if s then -((m * 2 ^ a : Nat) : Int) else ((m * 2 ^ a : Nat) : Int) := by
 have e : (m <<< (a - c)) * 2 ^ c = m * 2 ^ a := by
  rw [Nat.shiftLeft_eq, Nat.mul_assoc, ← Nat.pow_add, Nat.sub_add_cancel hc]
 unfold Ieee.signed
 cases s
 ·
  simp only [Bool.false_eq_true, if_false]
  rw [← e, Int.natCast_mul]
 ·
  simp only [if_true]
  rw [← e, Int.natCast_mul, Int.neg_mul]
theorem order_num (s t : Bool) (m n a b : Nat) : Ieee.Datum.order (.number s m (-1074 + (a : Int))) (.number t n (-1074 + (b : Int))) =
  some (compare (if s then -((m * 2 ^ a : Nat) : Int) else ((m * 2 ^ a : Nat) : Int)) (if t then -((n * 2 ^ b : Nat) : Int) else ((n * 2 ^ b : Nat) : Int))) := by
 unfold Ieee.Datum.order
 simp only
 have e1 : (-1074 + (a : Int) - min (-1074 + (a : Int)) (-1074 + (b : Int))).toNat = a - min a b := by omega
 have e2 : (-1074 + (b : Int) - min (-1074 + (a : Int)) (-1074 + (b : Int))).toNat = b - min a b := by omega
 rw [e1, e2, ← compare_scale _ _ (2 ^ min a b) (Nat.two_pow_pos _), signed_scale s m a _ (Nat.min_le_left _ _), signed_scale t n b _ (Nat.min_le_right _ _)]
theorem nan_iff {x : Nat} (hx : x < 18446744073709551616) : isNaN x = decide (9218868437227405312 < rungB x) := by
 unfold isNaN Ieee.Format.order
 rw [read_eq hx]
 by_cases h1 : rungB x < 9218868437227405312
 ·
  rw [if_pos h1, order_num]
  simp only [compare, compareOfLessAndEq, Int.lt_irrefl, if_false, if_true]
  have : ¬ 9218868437227405312 < rungB x := by omega
  simp [this]
 ·
  rw [if_neg h1]
  by_cases h2 : rungB x = 9218868437227405312
  ·
   rw [if_pos h2]
   have : ¬ 9218868437227405312 < rungB x := by omega
   simp only [Ieee.Datum.order, this, decide_false]
   cases sgnB x <;> decide
  ·
   rw [if_neg h2]
   have : 9218868437227405312 < rungB x := by omega
   simp [Ieee.Datum.order, this]
theorem cmp_lt {a b : Int} (h : a < b) : compare a b = .lt := by simp [compare, compareOfLessAndEq, h]
theorem cmp_gt {a b : Int} (h : b < a) : compare a b = .gt := by
 have h1 : ¬ a < b := by omega
 have h2 : ¬ a = b := by omega
 simp [compare, compareOfLessAndEq, h1, h2]
theorem cmp_eq (a : Int) : compare a a = .eq := by simp [compare, compareOfLessAndEq]
/-- The order of two floats that are no NaN. -/
theorem order_eq {x y : Nat} (hx : x < 18446744073709551616) (hy : y < 18446744073709551616) (nx : isNaN x = false) (ny : isNaN y = false) : FloatKind.f64.format.order x y = some (compare (sv x) (sv y)) := by
 rw [nan_iff hx, decide_eq_false_iff_not] at nx
 rw [nan_iff hy, decide_eq_false_iff_not] at ny
 unfold Ieee.Format.order
 rw [read_eq hx, read_eq hy]
 unfold sv
 by_cases h1 : rungB x < 9218868437227405312
 ·
  rw [if_pos h1]
  by_cases h2 : rungB y < 9218868437227405312
  ·
   rw [if_pos h2, order_num, ← rungV_eq, ← rungV_eq]
  ·
   rw [if_neg h2, if_pos (by omega)]
   have h3 : rungV (rungB x) < rungV (rungB y) := rungV_mono (by omega)
   simp only [Ieee.Datum.order]
   cases sgnB x <;> cases sgnB y <;> simp only [Bool.false_eq_true, if_false, if_true, Option.some.injEq]
   ·
    rw [cmp_lt (by omega)]
   ·
    rw [cmp_gt (by omega)]
   ·
    rw [cmp_lt (by omega)]
   ·
    rw [cmp_gt (by omega)]
 ·
  rw [if_neg h1, if_pos (by omega)]
  by_cases h2 : rungB y < 9218868437227405312
  ·
   rw [if_pos h2]
   have h3 : rungV (rungB y) < rungV (rungB x) := rungV_mono (by omega)
   simp only [Ieee.Datum.order]
   cases sgnB x <;> cases sgnB y <;> simp only [Bool.false_eq_true, if_false, if_true, Option.some.injEq]
   ·
    rw [cmp_gt (by omega)]
   ·
    rw [cmp_gt (by omega)]
   ·
    rw [cmp_lt (by omega)]
   ·
    rw [cmp_lt (by omega)]
  ·
   rw [if_neg h2, if_pos (by omega)]
   have h3 : rungB x = rungB y := by omega
   rw [h3]
   have h4 : 0 < rungV (rungB y) := by
    have := rungV_mono (r := 0) (s := rungB y) (by omega)
    omega
   simp only [Ieee.Datum.order]
   cases sgnB x <;> cases sgnB y <;> simp only [Bool.false_eq_true, if_false, if_true, Option.some.injEq]
   ·
    rw [cmp_eq]; rfl
   ·
    rw [cmp_gt (by omega)]; rfl
   ·
    rw [cmp_lt (by omega)]; rfl
   ·
    rw [cmp_eq]; rfl
/-- As the program has it. -/
def lessG (a b : Nat) : Bool := if FloatKind.f64.format.order a b == some .eq then sgnB a && !sgnB b else FloatKind.f64.format.order a b == some .lt
theorem rank_eq {x : Nat} (hx : x < 18446744073709551616) (nx : isNaN x = false) : rank x = if sgnB x then 9223372036854775807 - rungB x else 9223372036854775808 + rungB x := by
 unfold rank canon sgnB rungB
 rw [nx]
 simp only [Bool.false_eq_true, if_false]
 by_cases h : 9223372036854775808 ≤ x
 ·
  rw [if_pos (by omega)]; simp only [h, decide_true, if_true]; omega
 ·
  rw [if_neg (by omega)]; simp only [h, decide_false, Bool.false_eq_true, if_false]; omega
theorem lessG_eq {a b : Nat} (ha : a < 18446744073709551616) (hb : b < 18446744073709551616) (na : isNaN a = false) (nb : isNaN b = false) : lessG a b = lessF a b := by
 unfold lessG lessF
 rw [order_eq ha hb na nb, rank_eq ha na, rank_eq hb nb]
 unfold sv
 have hra : rungB a < 9223372036854775808 := Nat.mod_lt _ (by omega)
 have hrb : rungB b < 9223372036854775808 := Nat.mod_lt _ (by omega)
 have hm1 := @rungV_lt (rungB a) (rungB b)
 have hm2 := @rungV_lt (rungB b) (rungB a)
 have hz1 := @rungV_zero (rungB a)
 have hz2 := @rungV_zero (rungB b)
 cases sgnB a <;> cases sgnB b <;> simp only [Bool.false_eq_true, if_false, if_true, Bool.not_true, Bool.not_false, Bool.and_false, Bool.and_true]
 ·
  rcases Nat.lt_trichotomy (rungB a) (rungB b) with h | h | h
  ·
   rw [cmp_lt (by have := hm1.2 h; omega)]
   have : 9223372036854775808 + rungB a < 9223372036854775808 + rungB b := by omega
   simp [this]
  ·
   rw [h, cmp_eq]; simp
  ·
   rw [cmp_gt (by have := hm2.2 h; omega)]
   have : ¬ 9223372036854775808 + rungB a < 9223372036854775808 + rungB b := by omega
   simp [this]
 ·
  have h0 : ¬ 9223372036854775808 + rungB a < 9223372036854775807 - rungB b := by omega
  simp only [h0, decide_false]
  by_cases hz : rungV (rungB a) = 0 ∧ rungV (rungB b) = 0
  ·
   rw [hz.1, hz.2]; decide
  ·
   rw [cmp_gt (by omega)]; decide
 ·
  have h0 : 9223372036854775807 - rungB a < 9223372036854775808 + rungB b := by omega
  simp only [h0, decide_true]
  by_cases hz : rungV (rungB a) = 0 ∧ rungV (rungB b) = 0
  ·
   rw [hz.1, hz.2]; decide
  ·
   rw [cmp_lt (by omega)]; decide
 ·
  rcases Nat.lt_trichotomy (rungB a) (rungB b) with h | h | h
  ·
   rw [cmp_gt (by have := hm1.2 h; omega)]
   have : ¬ 9223372036854775807 - rungB a < 9223372036854775807 - rungB b := by omega
   simp [this]
  ·
   rw [h, cmp_eq]; simp
  ·
   rw [cmp_lt (by have := hm2.2 h; omega)]
   have : 9223372036854775807 - rungB a < 9223372036854775807 - rungB b := by omega
   simp [this]
/-- What an addition that is none gives is a NaN. -/
theorem nan_bits (t : Nat) : isNaN ((t % 2) * 2 ^ 63 + 0x7ff0000000000000 + 1 + (t / 2) % (2 ^ 52 - 1)) = true := by
 have h1 : (t / 2) % (2 ^ 52 - 1) < 4503599627370495 := Nat.mod_lt _ (by omega)
 generalize (t / 2) % (2 ^ 52 - 1) = k at h1
 rw [nan_iff (by omega)]
 unfold rungB
 rw [decide_eq_true_iff]
 rcases Nat.mod_two_eq_zero_or_one t with h | h
 ·
  rw [h]; omega
 ·
  rw [h]; omega
end Go.Proofs.YtmebipnljkopgaaGreatDoor
