/-
 Contracts of the small functions on floats (num.Canon, math.IsNaN, the references' Canon), bit by bit. Conditions: none.
 Contracts of the verifier's comparisons of floats and values (skerrykeep). Conditions: as each theorem names them.
 The order of floats, and a number that rises with it. No program is walked here. Conditions: as each theorem names them.
 Contracts of the program's and the page's small functions on floats and values. Conditions: as each theorem names them.
-/
import Derived.Test.YtjhnlncgmejkcaaGreatRows
import Derived.Test.YtjhnlncgmejkcaaGreatGSpec
import Derived.IntWalk
namespace Go.Proofs.YtjhnlncgmejkcaaGreat
open Go.RowKit

theorem call_frombits (n : Int) (w : World) : (callFunc 185 #[.int .u64 n]).run Tryz.prog w = .ok (.value (.float .f64 n.toNat)) w := by kernel_rfl
theorem call_bits (n : Nat) (w : World) : (callFunc 111 #[.float .f64 n]).run Tryz.prog w = .ok (.value (.int .u64 n)) w := by kernel_rfl
attribute [local go_sem] call_frombits call_bits

set_option maxRecDepth 100000 in
set_option maxHeartbeats 400000 in
theorem nan_any (w : World) : Calls Tryz.prog 206 #[] w fun e w' => e = .returned (.float .f64 theNaN) ∧ w = w' := by
 go_enter Tryz.func206, Tryz.ntmps206
 go_wp2
 go_ret
 exact ⟨rfl, rfl⟩
set_option maxHeartbeats 400000 in
theorem isnan_any (x : Nat) (w : World) : Calls Tryz.prog 205 #[.float .f64 x] w fun e w' => e = .returned (.bool (isNaN x)) ∧ w = w' := by
 go_enter Tryz.func205, Tryz.ntmps205
 go_wp2
 go_ret
 exact ⟨rfl, rfl⟩
theorem canon_yes {x : Nat} (h : isNaN x = true) : canon x = theNaN := by unfold canon; rw [if_pos h]
theorem canon_no {x : Nat} (h : isNaN x = false) : canon x = x := by unfold canon; rw [if_neg (by rw [h]; decide)]
set_option maxHeartbeats 400000 in
theorem canon_any (x : Nat) (w : World) : Calls Tryz.prog 199 #[.float .f64 x] w fun e w' => e = .returned (.float .f64 (canon x)) ∧ w = w' := by
 rcases hn : isNaN x with _ | _
 ·
  rw [canon_no hn]
  go_enter Tryz.func199, Tryz.ntmps199
  go_wp2_with (go_at_call 205; refine (isnan_any _ _).mono ?_; rintro e w' ⟨rfl, rfl⟩)
  go_ret
  exact ⟨rfl, rfl⟩
 ·
  rw [canon_yes hn]
  go_enter Tryz.func199, Tryz.ntmps199
  go_wp2_with (first | (go_at_call 205; refine (isnan_any _ _).mono ?_; rintro e w' ⟨rfl, rfl⟩) | (go_at_call 206; refine (nan_any _).mono ?_; rintro e w' ⟨rfl, rfl⟩))
  go_ret
  exact ⟨rfl, rfl⟩
set_option maxHeartbeats 400000 in
theorem refnan_any (w : World) : Calls Tryz.prog 147 #[] w fun e w' => e = .returned (.float .f64 theNaN) ∧ w = w' := by
 go_enter Tryz.func147, Tryz.ntmps147
 go_wp2
 go_ret
 exact ⟨rfl, rfl⟩
set_option maxHeartbeats 400000 in
theorem refcanon_any (x : Nat) (w : World) : Calls Tryz.prog 112 #[.float .f64 x] w fun e w' => e = .returned (.float .f64 (canon x)) ∧ w = w' := by
 rcases hn : isNaN x with _ | _
 ·
  rw [canon_no hn]
  unfold isNaN at hn
  go_enter Tryz.func112, Tryz.ntmps112
  go_wp2
  go_ret
  exact ⟨rfl, rfl⟩
 ·
  rw [canon_yes hn]
  unfold isNaN at hn
  go_enter Tryz.func112, Tryz.ntmps112
  go_wp2_with (go_at_call 147; refine (refnan_any _).mono ?_; rintro e w' ⟨rfl, rfl⟩)
  go_ret
  exact ⟨rfl, rfl⟩
end Go.Proofs.YtjhnlncgmejkcaaGreat
namespace Go.Proofs.YtjhnlncgmejkcaaGreat
open Go.RowKit
attribute [local go_sem] call_frombits call_bits

set_option maxRecDepth 100000 in
set_option maxHeartbeats 400000 in
theorem k_float (a b : Nat) (w : World) : Calls Tryz.prog 187 #[.float .f64 a, .float .f64 b] w fun e w' => e = .returned (.bool (sameF a b)) ∧ w = w' := by
 have e1 : (FloatKind.f64.format.order a a != some Ordering.eq) = isNaN a := rfl
 have e2 : (FloatKind.f64.format.order b b != some Ordering.eq) = isNaN b := rfl
 have e3 : ((a : Int) == (b : Int)) = (a == b) := by rw [Bool.eq_iff_iff]; simp; omega
 rcases h1 : isNaN a with _ | _ <;> rcases h2 : isNaN b with _ | _
 all_goals
  have Hf : Hid (sameF a b = _) := Lib.hid (by unfold sameF; rw [h1, h2])
  go_enter Tryz.func187, Tryz.ntmps187
  go_wp2
  go_ret
  exact ⟨ret_bool (by rw [Hf.out]; simp), rfl⟩
set_option maxRecDepth 100000 in
set_option maxHeartbeats 400000 in
theorem k_value (a b : AVal) (w : World) : Calls Tryz.prog 160 #[.agg #[.int .i64 a.kind, .float .f64 a.num, .string a.text], .agg #[.int .i64 b.kind, .float .f64 b.num, .string b.text]] w fun e w' => e = .returned (.bool (eqVal a b)) ∧ Ext w w' := by
 have hT : (a.text.toList == b.text.toList) = eqT a.text b.text := rfl
 rcases h1 : (a.kind == b.kind) with _ | _
 ·
  go_enter Tryz.func160, Tryz.ntmps160
  go_wp2
  go_ret
  exact ⟨ret_bool (by simp [eqVal, h1]), ((Mod.refl _ w).alloc _).alloc _⟩
 ·
  rcases h2 : sameF a.num b.num with _ | _
  ·
   go_enter Tryz.func160, Tryz.ntmps160
   go_wp2_with (go_at_call 187; refine (k_float _ _ _).mono ?_; rintro e w' ⟨rfl, rfl⟩)
   go_ret
   exact ⟨ret_bool (by simp [eqVal, h2]), ((Mod.refl _ w).alloc _).alloc _⟩
  ·
   go_enter Tryz.func160, Tryz.ntmps160
   go_wp2_with (go_at_call 187; refine (k_float _ _ _).mono ?_; rintro e w' ⟨rfl, rfl⟩)
   go_ret
   exact ⟨ret_bool (by simp [eqVal, h1, h2]), ((Mod.refl _ w).alloc _).alloc _⟩
end Go.Proofs.YtjhnlncgmejkcaaGreat
namespace Go.Proofs.YtjhnlncgmejkcaaGreat

/-- A magnitude, by its rung. -/
def rungV (r : Nat) : Nat := if r < 4503599627370496 then r else (4503599627370496 + r % 4503599627370496) * 2 ^ (r / 4503599627370496 - 1)
theorem rungV_mono {r s : Nat} (h : r < s) : rungV r < rungV s := by
 unfold rungV
 by_cases h1 : s < 4503599627370496
 ·
  rw [if_pos h1, if_pos (by omega)]; exact h
 rw [if_neg h1]
 have hs1 : 1 ≤ s / 4503599627370496 := by omega
 have hp : 1 ≤ 2 ^ (s / 4503599627370496 - 1) := Nat.one_le_two_pow
 have hb : 4503599627370496 * 2 ^ (s / 4503599627370496 - 1) ≤ (4503599627370496 + s % 4503599627370496) * 2 ^ (s / 4503599627370496 - 1) := Nat.mul_le_mul_right _ (by omega)
 by_cases h2 : r < 4503599627370496
 ·
  rw [if_pos h2]; omega
 rw [if_neg h2]
 have hr1 : 1 ≤ r / 4503599627370496 := by omega
 by_cases h3 : r / 4503599627370496 = s / 4503599627370496
 ·
  rw [h3]
  exact Nat.mul_lt_mul_of_pos_right (by omega) (by omega)
 ·
  have hq : r / 4503599627370496 < s / 4503599627370496 := by omega
  have e1 : (4503599627370496 + r % 4503599627370496) * 2 ^ (r / 4503599627370496 - 1) < 4503599627370496 * 2 * 2 ^ (r / 4503599627370496 - 1) := Nat.mul_lt_mul_of_pos_right (by omega) (Nat.two_pow_pos _)
  have e2 : 4503599627370496 * 2 * 2 ^ (r / 4503599627370496 - 1) = 4503599627370496 * 2 ^ (r / 4503599627370496) := by
   rw [Nat.mul_assoc, ← Nat.pow_succ', show (r / 4503599627370496 - 1).succ = r / 4503599627370496 from by omega]
  have e3 : 2 ^ (r / 4503599627370496) ≤ 2 ^ (s / 4503599627370496 - 1) := Nat.pow_le_pow_right (by omega) (by omega)
  have e4 := Nat.mul_le_mul_left 4503599627370496 e3
  omega
theorem rungV_lt {r s : Nat} : rungV r < rungV s ↔ r < s := by
 constructor
 ·
  intro h
  rcases Nat.lt_trichotomy r s with h1 | h1 | h1
  ·
   exact h1
  ·
   rw [h1] at h; omega
  ·
   have := rungV_mono h1; omega
 ·
  exact rungV_mono
theorem rungV_zero {r : Nat} : rungV r = 0 ↔ r = 0 := by
 constructor
 ·
  intro h
  rcases Nat.eq_zero_or_pos r with h1 | h1
  ·
   exact h1
  ·
   have := rungV_mono h1; omega
 ·
  rintro rfl; rfl

/-- A float's sign, and what stands below it. -/
def sgnB (x : Nat) : Bool := decide (9223372036854775808 ≤ x)
def rungB (x : Nat) : Nat := x % 9223372036854775808
def magOf (r : Nat) : Nat := if r < 4503599627370496 then r else 4503599627370496 + r % 4503599627370496
def upOf (r : Nat) : Nat := if r < 4503599627370496 then 0 else r / 4503599627370496 - 1
theorem rungV_eq (r : Nat) : rungV r = magOf r * 2 ^ upOf r := by
 unfold rungV magOf upOf
 split <;> simp
theorem read_eq {x : Nat} (hx : x < 18446744073709551616) : FloatKind.f64.format.read x =
  if rungB x < 9218868437227405312 then .number (sgnB x) (magOf (rungB x)) (-1074 + (upOf (rungB x) : Nat))
  else if rungB x = 9218868437227405312 then .infinity (sgnB x) else .nan (sgnB x) (rungB x - 9218868437227405312) := by
 have e1 : FloatKind.f64.format.signWeight = 9223372036854775808 := by decide
 have e2 : FloatKind.f64.format.binade = 4503599627370496 := by decide
 have e3 : FloatKind.f64.format.infRung = 9218868437227405312 := by decide
 have e4 : FloatKind.f64.format.leastPlace = -1074 := by decide
 have e5 : (x / 9223372036854775808 % 2 == 1) = sgnB x := by
  unfold sgnB
  rw [Bool.eq_iff_iff, beq_iff_eq, decide_eq_true_iff]
  omega
 unfold Ieee.Format.read
 simp only [e1, e2, e3, e4, e5]
 unfold rungB magOf upOf
 split
 ·
  rename_i h
  rw [if_pos (by omega)]
  simp
 ·
  rfl
/-- A float as a whole number, its order kept. -/
def sv (x : Nat) : Int := if sgnB x then -(rungV (rungB x) : Int) else (rungV (rungB x) : Int)
theorem compare_scale (a b : Int) (k : Nat) (hk : 0 < k) : compare (a * k) (b * k) = compare a b := by
 have hk' : (0 : Int) < k := by omega
 simp only [compare, compareOfLessAndEq]
 have h1 : (a * k < b * k) ↔ a < b := Int.mul_lt_mul_right hk'
 have h2 : (a * k = b * k) ↔ a = b := by
  constructor
  ·
   exact fun h => Int.eq_of_mul_eq_mul_right (by omega) h
  ·
   rintro rfl; rfl
 simp only [h1, h2]
theorem signed_scale (s : Bool) (m a c : Nat) (hc : c ≤ a) : Ieee.signed s m (a - c) * ((2 ^ c : Nat) : Int) = if s then -((m * 2 ^ a : Nat) : Int) else ((m * 2 ^ a : Nat) : Int) := by
 have e : (m <<< (a - c)) * 2 ^ c = m * 2 ^ a := by
  rw [Nat.shiftLeft_eq, Nat.mul_assoc, ← Nat.pow_add, Nat.sub_add_cancel hc]
 unfold Ieee.signed
 cases s
 ·
  simp only [Bool.false_eq_true, if_false]
  rw [← e, Int.natCast_mul]
 ·
  simp only [if_true]
  rw [← e, Int.natCast_mul, Int.neg_mul]
theorem order_num (s t : Bool) (m n a b : Nat) : Ieee.Datum.order (.number s m (-1074 + (a : Int))) (.number t n (-1074 + (b : Int))) =
  some (compare (if s then -((m * 2 ^ a : Nat) : Int) else ((m * 2 ^ a : Nat) : Int)) (if t then -((n * 2 ^ b : Nat) : Int) else ((n * 2 ^ b : Nat) : Int))) := by
 unfold Ieee.Datum.order
 simp only
 have e1 : (-1074 + (a : Int) - min (-1074 + (a : Int)) (-1074 + (b : Int))).toNat = a - min a b := by omega
 have e2 : (-1074 + (b : Int) - min (-1074 + (a : Int)) (-1074 + (b : Int))).toNat = b - min a b := by omega
 rw [e1, e2, ← compare_scale _ _ (2 ^ min a b) (Nat.two_pow_pos _), signed_scale s m a _ (Nat.min_le_left _ _), signed_scale t n b _ (Nat.min_le_right _ _)]
theorem nan_iff {x : Nat} (hx : x < 18446744073709551616) : isNaN x = decide (9218868437227405312 < rungB x) := by
 unfold isNaN Ieee.Format.order
 rw [read_eq hx]
 by_cases h1 : rungB x < 9218868437227405312
 ·
  rw [if_pos h1, order_num]
  simp only [compare, compareOfLessAndEq, Int.lt_irrefl, if_false, if_true]
  have : ¬ 9218868437227405312 < rungB x := by omega
  simp [this]
 ·
  rw [if_neg h1]
  by_cases h2 : rungB x = 9218868437227405312
  ·
   rw [if_pos h2]
   have : ¬ 9218868437227405312 < rungB x := by omega
   simp only [Ieee.Datum.order, this, decide_false]
   cases sgnB x <;> decide
  ·
   rw [if_neg h2]
   have : 9218868437227405312 < rungB x := by omega
   simp [Ieee.Datum.order, this]
theorem cmp_lt {a b : Int} (h : a < b) : compare a b = .lt := by simp [compare, compareOfLessAndEq, h]
theorem cmp_gt {a b : Int} (h : b < a) : compare a b = .gt := by
 have h1 : ¬ a < b := by omega
 have h2 : ¬ a = b := by omega
 simp [compare, compareOfLessAndEq, h1, h2]
theorem cmp_eq (a : Int) : compare a a = .eq := by simp [compare, compareOfLessAndEq]
/-- The order of two floats that are no NaN. -/
theorem order_eq {x y : Nat} (hx : x < 18446744073709551616) (hy : y < 18446744073709551616) (nx : isNaN x = false) (ny : isNaN y = false) : FloatKind.f64.format.order x y = some (compare (sv x) (sv y)) := by
 rw [nan_iff hx, decide_eq_false_iff_not] at nx
 rw [nan_iff hy, decide_eq_false_iff_not] at ny
 unfold Ieee.Format.order
 rw [read_eq hx, read_eq hy]
 unfold sv
 by_cases h1 : rungB x < 9218868437227405312
 ·
  rw [if_pos h1]
  by_cases h2 : rungB y < 9218868437227405312
  ·
   rw [if_pos h2, order_num, ← rungV_eq, ← rungV_eq]
  ·
   rw [if_neg h2, if_pos (by omega)]
   have h3 : rungV (rungB x) < rungV (rungB y) := rungV_mono (by omega)
   simp only [Ieee.Datum.order]
   cases sgnB x <;> cases sgnB y <;> simp only [Bool.false_eq_true, if_false, if_true, Option.some.injEq]
   ·
    rw [cmp_lt (by omega)]
   ·
    rw [cmp_gt (by omega)]
   ·
    rw [cmp_lt (by omega)]
   ·
    rw [cmp_gt (by omega)]
 ·
  rw [if_neg h1, if_pos (by omega)]
  by_cases h2 : rungB y < 9218868437227405312
  ·
   rw [if_pos h2]
   have h3 : rungV (rungB y) < rungV (rungB x) := rungV_mono (by omega)
   simp only [Ieee.Datum.order]
   cases sgnB x <;> cases sgnB y <;> simp only [Bool.false_eq_true, if_false, if_true, Option.some.injEq]
   ·
    rw [cmp_gt (by omega)]
   ·
    rw [cmp_gt (by omega)]
   ·
    rw [cmp_lt (by omega)]
   ·
    rw [cmp_lt (by omega)]
  ·
   rw [if_neg h2, if_pos (by omega)]
   have h3 : rungB x = rungB y := by omega
   rw [h3]
   have h4 : 0 < rungV (rungB y) := by
    have := rungV_mono (r := 0) (s := rungB y) (by omega)
    omega
   simp only [Ieee.Datum.order]
   cases sgnB x <;> cases sgnB y <;> simp only [Bool.false_eq_true, if_false, if_true, Option.some.injEq]
   ·
    rw [cmp_eq]; rfl
   ·
    rw [cmp_gt (by omega)]; rfl
   ·
    rw [cmp_lt (by omega)]; rfl
   ·
    rw [cmp_eq]; rfl
/-- As the program has it. -/
def lessG (a b : Nat) : Bool := if FloatKind.f64.format.order a b == some .eq then sgnB a && !sgnB b else FloatKind.f64.format.order a b == some .lt
theorem rank_eq {x : Nat} (hx : x < 18446744073709551616) (nx : isNaN x = false) : rank x = if sgnB x then 9223372036854775807 - rungB x else 9223372036854775808 + rungB x := by
 unfold rank canon sgnB rungB
 rw [nx]
 simp only [Bool.false_eq_true, if_false]
 by_cases h : 9223372036854775808 ≤ x
 ·
  rw [if_pos (by omega)]; simp only [h, decide_true, if_true]; omega
 ·
  rw [if_neg (by omega)]; simp only [h, decide_false, Bool.false_eq_true, if_false]; omega
theorem lessG_eq {a b : Nat} (ha : a < 18446744073709551616) (hb : b < 18446744073709551616) (na : isNaN a = false) (nb : isNaN b = false) : lessG a b = lessF a b := by
 unfold lessG lessF
 rw [order_eq ha hb na nb, rank_eq ha na, rank_eq hb nb]
 unfold sv
 have hra : rungB a < 9223372036854775808 := Nat.mod_lt _ (by omega)
 have hrb : rungB b < 9223372036854775808 := Nat.mod_lt _ (by omega)
 have hm1 := @rungV_lt (rungB a) (rungB b)
 have hm2 := @rungV_lt (rungB b) (rungB a)
 have hz1 := @rungV_zero (rungB a)
 have hz2 := @rungV_zero (rungB b)
 cases sgnB a <;> cases sgnB b <;> simp only [Bool.false_eq_true, if_false, if_true, Bool.not_true, Bool.not_false, Bool.and_false, Bool.and_true]
 ·
  rcases Nat.lt_trichotomy (rungB a) (rungB b) with h | h | h
  ·
   rw [cmp_lt (by have := hm1.2 h; omega)]
   have : 9223372036854775808 + rungB a < 9223372036854775808 + rungB b := by omega
   simp [this]
  ·
   rw [h, cmp_eq]; simp
  ·
   rw [cmp_gt (by have := hm2.2 h; omega)]
   have : ¬ 9223372036854775808 + rungB a < 9223372036854775808 + rungB b := by omega
   simp [this]
 ·
  have h0 : ¬ 9223372036854775808 + rungB a < 9223372036854775807 - rungB b := by omega
  simp only [h0, decide_false]
  by_cases hz : rungV (rungB a) = 0 ∧ rungV (rungB b) = 0
  ·
   rw [hz.1, hz.2]; decide
  ·
   rw [cmp_gt (by omega)]; decide
 ·
  have h0 : 9223372036854775807 - rungB a < 9223372036854775808 + rungB b := by omega
  simp only [h0, decide_true]
  by_cases hz : rungV (rungB a) = 0 ∧ rungV (rungB b) = 0
  ·
   rw [hz.1, hz.2]; decide
  ·
   rw [cmp_lt (by omega)]; decide
 ·
  rcases Nat.lt_trichotomy (rungB a) (rungB b) with h | h | h
  ·
   rw [cmp_gt (by have := hm1.2 h; omega)]
   have : ¬ 9223372036854775807 - rungB a < 9223372036854775807 - rungB b := by omega
   simp [this]
  ·
   rw [h, cmp_eq]; simp
  ·
   rw [cmp_lt (by have := hm2.2 h; omega)]
   have : 9223372036854775807 - rungB a < 9223372036854775807 - rungB b := by omega
   simp [this]
/-- What an addition that is none gives is a NaN. -/
theorem nan_bits (t : Nat) : isNaN ((t % 2) * 2 ^ 63 + 0x7ff0000000000000 + 1 + (t / 2) % (2 ^ 52 - 1)) = true := by
 have h1 : (t / 2) % (2 ^ 52 - 1) < 4503599627370495 := Nat.mod_lt _ (by omega)
 generalize (t / 2) % (2 ^ 52 - 1) = k at h1
 rw [nan_iff (by omega)]
 unfold rungB
 rw [decide_eq_true_iff]
 rcases Nat.mod_two_eq_zero_or_one t with h | h
 ·
  rw [h]; omega
 ·
  rw [h]; omega
end Go.Proofs.YtjhnlncgmejkcaaGreat
namespace Go.Proofs.YtjhnlncgmejkcaaGreat
open Go.RowKit
attribute [local go_sem] call_frombits call_bits

set_option maxRecDepth 100000 in
set_option maxHeartbeats 400000 in
theorem nsame (a b : Nat) (w : World) : Calls Tryz.prog 188 #[.float .f64 a, .float .f64 b] w fun e w' => e = .returned (.bool (sameNum a b)) ∧ w = w' := by
 have e3 : ((canon a : Int) == (canon b : Int)) = sameNum a b := by unfold sameNum; rw [Bool.eq_iff_iff]; simp; omega
 go_enter Tryz.func188, Tryz.ntmps188
 go_wp2_with (go_at_call 199; refine (canon_any _ _).mono ?_; rintro e w' ⟨rfl, rfl⟩)
 go_ret
 exact ⟨rfl, rfl⟩
set_option maxRecDepth 100000 in
set_option maxHeartbeats 400000 in
theorem vcanon (a : Nat) (w : World) : Calls Tryz.prog 200 #[.float .f64 a] w fun e w' => e = .returned (.bool (canonB a)) ∧ w = w' := by
 have e3 : ((canon a : Int) == (a : Int)) = canonB a := by unfold canonB; rw [Bool.eq_iff_iff]; simp; omega
 go_enter Tryz.func200, Tryz.ntmps200
 go_wp2_with (go_at_call 199; refine (canon_any _ _).mono ?_; rintro e w' ⟨rfl, rfl⟩)
 go_ret
 exact ⟨rfl, rfl⟩

theorem canon_zero' : canon 0 = 0 := by kernel_rfl
theorem same_zero (n : Nat) : sameNum n 0 = decide (n = 0) := by
 unfold sameNum
 rw [canon_zero', Bool.eq_iff_iff, beq_iff_eq, decide_eq_true_iff]
 unfold canon
 split
 ·
  rename_i h
  constructor
  ·
   intro h'; simp [theNaN] at h'
  ·
   rintro rfl; revert h; decide +kernel
 ·
  exact Iff.rfl
theorem canonB_iff (n : Nat) : canonB n = !(decide (isNaN n = true ∧ n ≠ theNaN)) := by
 unfold canonB canon
 by_cases h : isNaN n = true
 ·
  rw [if_pos h]
  rw [Bool.eq_iff_iff, beq_iff_eq]
  simp [h]
  exact eq_comm
 ·
  rw [if_neg h]; simp [h]
theorem isNaN_zero : isNaN 0 = false := by kernel_rfl
theorem chk0 (x : Nat) (t : ByteArray) : chk ⟨0, x, t⟩ = if (sameNum x 0 && isEmptyT t) = true then 0 else 8 := by
 rw [same_zero]
 unfold chk
 by_cases h : x = 0
 ·
  subst h; rcases isEmptyT t with _ | _ <;> simp [isNaN_zero]
 ·
  rcases isEmptyT t with _ | _ <;> simp [h]
theorem chk1 (x : Nat) (t : ByteArray) : chk ⟨1, x, t⟩ = if (canonB x && isEmptyT t) = true then 0 else 8 := by
 rw [canonB_iff]
 unfold chk
 by_cases h : isNaN x = true ∧ x ≠ theNaN
 ·
  rcases isEmptyT t with _ | _ <;> simp [h]
 ·
  rcases isEmptyT t with _ | _ <;> simp [h]
theorem chk2 (x : Nat) (t : ByteArray) : chk ⟨2, x, t⟩ = if 32 < t.size then 2 else if sameNum x 0 = true then 0 else 8 := by
 rw [same_zero]
 unfold chk
 by_cases h : x = 0
 ·
  subst h; by_cases h2 : 32 < t.size <;> simp [h2, isNaN_zero]
 ·
  by_cases h2 : 32 < t.size <;> simp [h, h2]
theorem chk3 {k : Int} (x : Nat) (t : ByteArray) (h0 : k ≠ 0) (h1 : k ≠ 1) (h2 : k ≠ 2) : chk ⟨k, x, t⟩ = 15 := by
 unfold chk
 rw [if_pos (by simp only; omega)]

set_option maxRecDepth 100000 in
set_option maxHeartbeats 1000000 in
theorem v_check (v : AVal) (w : World) : Calls Tryz.prog 190 #[.agg #[.int .i64 v.kind, .float .f64 v.num, .string v.text]] w fun e w' => e = .returned (.int .i64 (chk v)) ∧ Ext w w' := by
 obtain ⟨k, x, t⟩ := v
 have hT : t.toList.isEmpty = isEmptyT t := rfl
 have hE : Ext w (w.alloc (.cells #[.int .i64 k, .float .f64 x, .string t] 50)) := (Mod.refl _ w).alloc _
 simp only
 by_cases h0 : k = 0
 ·
  subst h0
  rw [chk0]
  rcases hs : sameNum x 0 with _ | _ <;> rcases he : isEmptyT t with _ | _
  all_goals
   rw [he] at hT
   go_enter Tryz.func190, Tryz.ntmps190
   go_wp2_with (go_at_call 188; refine (nsame _ _ _).mono ?_; rintro e w' ⟨rfl, rfl⟩)
   go_ret
   exact ⟨rfl, hE⟩
 by_cases h1 : k = 1
 ·
  subst h1
  rw [chk1]
  rcases hs : canonB x with _ | _ <;> rcases he : isEmptyT t with _ | _
  all_goals
   rw [he] at hT
   go_enter Tryz.func190, Tryz.ntmps190
   go_wp2_with (first | (go_at_call 188; refine (nsame _ _ _).mono ?_; rintro e w' ⟨rfl, rfl⟩) | (go_at_call 200; refine (vcanon _ _).mono ?_; rintro e w' ⟨rfl, rfl⟩))
   go_ret
   exact ⟨rfl, hE⟩
 by_cases h2 : k = 2
 ·
  subst h2
  rw [chk2]
  by_cases hl : 32 < t.size
  ·
   rw [if_pos hl]
   have d : decide ((32 : Int) < (t.size : Int)) = true := by simp; omega
   go_enter Tryz.func190, Tryz.ntmps190
   go_wp2_with (go_at_call 188; refine (nsame _ _ _).mono ?_; rintro e w' ⟨rfl, rfl⟩)
   go_ret
   exact ⟨rfl, hE⟩
  ·
   rw [if_neg hl]
   have d : decide ((32 : Int) < (t.size : Int)) = false := by simp; omega
   rcases hs : sameNum x 0 with _ | _
   all_goals
    go_enter Tryz.func190, Tryz.ntmps190
    go_wp2_with (go_at_call 188; refine (nsame _ _ _).mono ?_; rintro e w' ⟨rfl, rfl⟩)
    go_ret
    exact ⟨rfl, hE⟩
 ·
  rw [chk3 x t h0 h1 h2]
  have k0 : (k == 0) = false := by simpa using h0
  have k1 : (k == 1) = false := by simpa using h1
  have k2 : (k == 2) = false := by simpa using h2
  clear h0 h1 h2
  go_enter Tryz.func190, Tryz.ntmps190
  go_wp2_with (go_at_call 188; refine (nsame _ _ _).mono ?_; rintro e w' ⟨rfl, rfl⟩)
  go_ret
  exact ⟨rfl, hE⟩
end Go.Proofs.YtjhnlncgmejkcaaGreat
