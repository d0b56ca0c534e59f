/-
 The order of floats, and a number that rises with it. No program is walked here. Conditions: as each theorem names them.
 Contracts of the small functions on floats (num.Canon, math.IsNaN, the references' Canon), bit by bit. Conditions: none.
 Contracts of the verifier's comparisons of floats and values (skerrykeep). Conditions: as each theorem names them.
 Contracts of the program's and the page's small functions on floats and values. Conditions: as each theorem names them.
 Contracts of the program's and the page's sums and greater ones of floats. Conditions: as each theorem names them.
 Small words on memory. No program is named here. Conditions: as each theorem names them.
 Contracts of value.Same, value.both, Add and Max. Conditions: as each theorem names them.
-/
import Derived.Test.YtbclnghbgoblcaaGreatGSpec
import Derived.Test.YtbclnghbgoblcaaGreatRows
import Derived.IntWalk
import Derived.Laws.FloatArith
import Derived.Test.YtbclnghbgoblcaaGreatMem
namespace Go.Proofs.YtbclnghbgoblcaaGreat

/-- A magnitude, by its rung. -/
def rungV (r : Nat) : Nat := if r < 4503599627370496 then r else (4503599627370496 + r % 4503599627370496) * 2 ^ (r / 4503599627370496 - 1)
theorem rungV_mono {r s : Nat} (h : r < s) : rungV r < rungV s := by
 unfold rungV
 by_cases h1 : s < 4503599627370496
 ·
  rw [if_pos h1, if_pos (by omega)]; exact h
 rw [if_neg h1]
 have hs1 : 1 ≤ s / 4503599627370496 := by omega
 have hp : 1 ≤ 2 ^ (s / 4503599627370496 - 1) := Nat.one_le_two_pow
 have hb : 4503599627370496 * 2 ^ (s / 4503599627370496 - 1) ≤ (4503599627370496 + s % 4503599627370496) * 2 ^ (s / 4503599627370496 - 1) := Nat.mul_le_mul_right _ (by omega)
 by_cases h2 : r < 4503599627370496
 ·
  rw [if_pos h2]; omega
 rw [if_neg h2]
 have hr1 : 1 ≤ r / 4503599627370496 := by omega
 by_cases h3 : r / 4503599627370496 = s / 4503599627370496
 ·
  rw [h3]
  exact Nat.mul_lt_mul_of_pos_right (by omega) (by omega)
 ·
  have hq : r / 4503599627370496 < s / 4503599627370496 := by omega
  have e1 : (4503599627370496 + r % 4503599627370496) * 2 ^ (r / 4503599627370496 - 1) < 4503599627370496 * 2 * 2 ^ (r / 4503599627370496 - 1) := Nat.mul_lt_mul_of_pos_right (by omega) (Nat.two_pow_pos _)
  have e2 : 4503599627370496 * 2 * 2 ^ (r / 4503599627370496 - 1) = 4503599627370496 * 2 ^ (r / 4503599627370496) := by
   rw [Nat.mul_assoc, ← Nat.pow_succ', show (r / 4503599627370496 - 1).succ = r / 4503599627370496 from by omega]
  have e3 : 2 ^ (r / 4503599627370496) ≤ 2 ^ (s / 4503599627370496 - 1) := Nat.pow_le_pow_right (by omega) (by omega)
  have e4 := Nat.mul_le_mul_left 4503599627370496 e3
  omega
theorem rungV_lt {r s : Nat} : rungV r < rungV s ↔ r < s := by
 constructor
 ·
  intro h
  rcases Nat.lt_trichotomy r s with h1 | h1 | h1
  ·
   exact h1
  ·
   rw [h1] at h; omega
  ·
   have := rungV_mono h1; omega
 ·
  exact rungV_mono
theorem rungV_zero {r : Nat} : rungV r = 0 ↔ r = 0 := by
 constructor
 ·
  intro h
  rcases Nat.eq_zero_or_pos r with h1 | h1
  ·
   exact h1
  ·
   have := rungV_mono h1; omega
 ·
  rintro rfl; rfl

/-- A float's sign, and what stands below it. -/
def sgnB (x : Nat) : Bool := decide (9223372036854775808 ≤ x)
def rungB (x : Nat) : Nat := x % 9223372036854775808
def magOf (r : Nat) : Nat := if r < 4503599627370496 then r else 4503599627370496 + r % 4503599627370496
def upOf (r : Nat) : Nat := if r < 4503599627370496 then 0 else r / 4503599627370496 - 1
theorem rungV_eq (r : Nat) : rungV r = magOf r * 2 ^ upOf r := by
 unfold rungV magOf upOf
 split <;> simp
theorem read_eq {x : Nat} (hx : x < 18446744073709551616) : FloatKind.f64.format.read x =
  if rungB x < 9218868437227405312 then .number (sgnB x) (magOf (rungB x)) (-1074 + (upOf (rungB x) : Nat))
  else if rungB x = 9218868437227405312 then .infinity (sgnB x) else .nan (sgnB x) (rungB x - 9218868437227405312) := by
 have e1 : FloatKind.f64.format.signWeight = 9223372036854775808 := by decide
 have e2 : FloatKind.f64.format.binade = 4503599627370496 := by decide
 have e3 : FloatKind.f64.format.infRung = 9218868437227405312 := by decide
 have e4 : FloatKind.f64.format.leastPlace = -1074 := by decide
 have e5 : (x / 9223372036854775808 % 2 == 1) = sgnB x := by
  unfold sgnB
  rw [Bool.eq_iff_iff, beq_iff_eq, decide_eq_true_iff]
  omega
 unfold Ieee.Format.read
 simp only [e1, e2, e3, e4, e5]
 unfold rungB magOf upOf
 split
 ·
  rename_i h
  rw [if_pos (by omega)]
  simp
 ·
  rfl
/-- A float as a whole number, its order kept. -/
def sv (x : Nat) : Int := if sgnB x then -(rungV (rungB x) : Int) else (rungV (rungB x) : Int)
theorem compare_scale (a b : Int) (k : Nat) (hk : 0 < k) : compare (a * k) (b * k) = compare a b := by
 have hk' : (0 : Int) < k := by omega
 simp only [compare, compareOfLessAndEq]
 have h1 : (a * k < b * k) ↔ a < b := Int.mul_lt_mul_right hk'
 have h2 : (a * k = b * k) ↔ a = b := by
  constructor
  ·
   exact fun h => Int.eq_of_mul_eq_mul_right (by omega) h
  ·
   rintro rfl; rfl
 simp only [h1, h2]
theorem signed_scale (s : Bool) (m a c : Nat) (hc : c ≤ a) : Ieee.signed s m (a - c) * ((2 ^ c : Nat) : Int) = if s then -((m * 2 ^ a : Nat) : Int) else ((m * 2 ^ a : Nat) : Int) := by
 have e : (m <<< (a - c)) * 2 ^ c = m * 2 ^ a := by
  rw [Nat.shiftLeft_eq, Nat.mul_assoc, ← Nat.pow_add, Nat.sub_add_cancel hc]
 unfold Ieee.signed
 cases s
 ·
  simp only [Bool.false_eq_true, if_false]
  rw [← e, Int.natCast_mul]
 ·
  simp only [if_true]
  rw [← e, Int.natCast_mul, Int.neg_mul]
theorem order_num (s t : Bool) (m n a b : Nat) : Ieee.Datum.order (.number s m (-1074 + (a : Int))) (.number t n (-1074 + (b : Int))) =
  some (compare (if s then -((m * 2 ^ a : Nat) : Int) else ((m * 2 ^ a : Nat) : Int)) (if t then -((n * 2 ^ b : Nat) : Int) else ((n * 2 ^ b : Nat) : Int))) := by
 unfold Ieee.Datum.order
 simp only
 have e1 : (-1074 + (a : Int) - min (-1074 + (a : Int)) (-1074 + (b : Int))).toNat = a - min a b := by omega
 have e2 : (-1074 + (b : Int) - min (-1074 + (a : Int)) (-1074 + (b : Int))).toNat = b - min a b := by omega
 rw [e1, e2, ← compare_scale _ _ (2 ^ min a b) (Nat.two_pow_pos _), signed_scale s m a _ (Nat.min_le_left _ _), signed_scale t n b _ (Nat.min_le_right _ _)]
theorem nan_iff {x : Nat} (hx : x < 18446744073709551616) : isNaN x = decide (9218868437227405312 < rungB x) := by
 unfold isNaN Ieee.Format.order
 rw [read_eq hx]
 by_cases h1 : rungB x < 9218868437227405312
 ·
  rw [if_pos h1, order_num]
  simp only [compare, compareOfLessAndEq, Int.lt_irrefl, if_false, if_true]
  have : ¬ 9218868437227405312 < rungB x := by omega
  simp [this]
 ·
  rw [if_neg h1]
  by_cases h2 : rungB x = 9218868437227405312
  ·
   rw [if_pos h2]
   have : ¬ 9218868437227405312 < rungB x := by omega
   simp only [Ieee.Datum.order, this, decide_false]
   cases sgnB x <;> decide
  ·
   rw [if_neg h2]
   have : 9218868437227405312 < rungB x := by omega
   simp [Ieee.Datum.order, this]
theorem cmp_lt {a b : Int} (h : a < b) : compare a b = .lt := by simp [compare, compareOfLessAndEq, h]
theorem cmp_gt {a b : Int} (h : b < a) : compare a b = .gt := by
 have h1 : ¬ a < b := by omega
 have h2 : ¬ a = b := by omega
 simp [compare, compareOfLessAndEq, h1, h2]
theorem cmp_eq (a : Int) : compare a a = .eq := by simp [compare, compareOfLessAndEq]
/-- The order of two floats that are no NaN. -/
theorem order_eq {x y : Nat} (hx : x < 18446744073709551616) (hy : y < 18446744073709551616) (nx : isNaN x = false) (ny : isNaN y = false) : FloatKind.f64.format.order x y = some (compare (sv x) (sv y)) := by
 rw [nan_iff hx, decide_eq_false_iff_not] at nx
 rw [nan_iff hy, decide_eq_false_iff_not] at ny
 unfold Ieee.Format.order
 rw [read_eq hx, read_eq hy]
 unfold sv
 by_cases h1 : rungB x < 9218868437227405312
 ·
  rw [if_pos h1]
  by_cases h2 : rungB y < 9218868437227405312
  ·
   rw [if_pos h2, order_num, ← rungV_eq, ← rungV_eq]
  ·
   rw [if_neg h2, if_pos (by omega)]
   have h3 : rungV (rungB x) < rungV (rungB y) := rungV_mono (by omega)
   simp only [Ieee.Datum.order]
   cases sgnB x <;> cases sgnB y <;> simp only [Bool.false_eq_true, if_false, if_true, Option.some.injEq]
   ·
    rw [cmp_lt (by omega)]
   ·
    rw [cmp_gt (by omega)]
   ·
    rw [cmp_lt (by omega)]
   ·
    rw [cmp_gt (by omega)]
 ·
  rw [if_neg h1, if_pos (by omega)]
  by_cases h2 : rungB y < 9218868437227405312
  ·
   rw [if_pos h2]
   have h3 : rungV (rungB y) < rungV (rungB x) := rungV_mono (by omega)
   simp only [Ieee.Datum.order]
   cases sgnB x <;> cases sgnB y <;> simp only [Bool.false_eq_true, if_false, if_true, Option.some.injEq]
   ·
    rw [cmp_gt (by omega)]
   ·
    rw [cmp_gt (by omega)]
   ·
    rw [cmp_lt (by omega)]
   ·
    rw [cmp_lt (by omega)]
  ·
   rw [if_neg h2, if_pos (by omega)]
   have h3 : rungB x = rungB y := by omega
   rw [h3]
   have h4 : 0 < rungV (rungB y) := by
    have := rungV_mono (r := 0) (s := rungB y) (by omega)
    omega
   simp only [Ieee.Datum.order]
   cases sgnB x <;> cases sgnB y <;> simp only [Bool.false_eq_true, if_false, if_true, Option.some.injEq]
   ·
    rw [cmp_eq]; rfl
   ·
    rw [cmp_gt (by omega)]; rfl
   ·
    rw [cmp_lt (by omega)]; rfl
   ·
    rw [cmp_eq]; rfl
/-- As the program has it. -/
def lessG (a b : Nat) : Bool := if FloatKind.f64.format.order a b == some .eq then sgnB a && !sgnB b else FloatKind.f64.format.order a b == some .lt
theorem rank_eq {x : Nat} (hx : x < 18446744073709551616) (nx : isNaN x = false) : rank x = if sgnB x then 9223372036854775807 - rungB x else 9223372036854775808 + rungB x := by
 unfold rank canon sgnB rungB
 rw [nx]
 simp only [Bool.false_eq_true, if_false]
 by_cases h : 9223372036854775808 ≤ x
 ·
  rw [if_pos (by omega)]; simp only [h, decide_true, if_true]; omega
 ·
  rw [if_neg (by omega)]; simp only [h, decide_false, Bool.false_eq_true, if_false]; omega
theorem lessG_eq {a b : Nat} (ha : a < 18446744073709551616) (hb : b < 18446744073709551616) (na : isNaN a = false) (nb : isNaN b = false) : lessG a b = lessF a b := by
 unfold lessG lessF
 rw [order_eq ha hb na nb, rank_eq ha na, rank_eq hb nb]
 unfold sv
 have hra : rungB a < 9223372036854775808 := Nat.mod_lt _ (by omega)
 have hrb : rungB b < 9223372036854775808 := Nat.mod_lt _ (by omega)
 have hm1 := @rungV_lt (rungB a) (rungB b)
 have hm2 := @rungV_lt (rungB b) (rungB a)
 have hz1 := @rungV_zero (rungB a)
 have hz2 := @rungV_zero (rungB b)
 cases sgnB a <;> cases sgnB b <;> simp only [Bool.false_eq_true, if_false, if_true, Bool.not_true, Bool.not_false, Bool.and_false, Bool.and_true]
 ·
  rcases Nat.lt_trichotomy (rungB a) (rungB b) with h | h | h
  ·
   rw [cmp_lt (by have := hm1.2 h; omega)]
   have : 9223372036854775808 + rungB a < 9223372036854775808 + rungB b := by omega
   simp [this]
  ·
   rw [h, cmp_eq]; simp
  ·
   rw [cmp_gt (by have := hm2.2 h; omega)]
   have : ¬ 9223372036854775808 + rungB a < 9223372036854775808 + rungB b := by omega
   simp [this]
 ·
  have h0 : ¬ 9223372036854775808 + rungB a < 9223372036854775807 - rungB b := by omega
  simp only [h0, decide_false]
  by_cases hz : rungV (rungB a) = 0 ∧ rungV (rungB b) = 0
  ·
   rw [hz.1, hz.2]; decide
  ·
   rw [cmp_gt (by omega)]; decide
 ·
  have h0 : 9223372036854775807 - rungB a < 9223372036854775808 + rungB b := by omega
  simp only [h0, decide_true]
  by_cases hz : rungV (rungB a) = 0 ∧ rungV (rungB b) = 0
  ·
   rw [hz.1, hz.2]; decide
  ·
   rw [cmp_lt (by omega)]; decide
 ·
  rcases Nat.lt_trichotomy (rungB a) (rungB b) with h | h | h
  ·
   rw [cmp_gt (by have := hm1.2 h; omega)]
   have : ¬ 9223372036854775807 - rungB a < 9223372036854775807 - rungB b := by omega
   simp [this]
  ·
   rw [h, cmp_eq]; simp
  ·
   rw [cmp_lt (by have := hm2.2 h; omega)]
   have : 9223372036854775807 - rungB a < 9223372036854775807 - rungB b := by omega
   simp [this]
/-- What an addition that is none gives is a NaN. -/
theorem nan_bits (t : Nat) : isNaN ((t % 2) * 2 ^ 63 + 0x7ff0000000000000 + 1 + (t / 2) % (2 ^ 52 - 1)) = true := by
 have h1 : (t / 2) % (2 ^ 52 - 1) < 4503599627370495 := Nat.mod_lt _ (by omega)
 generalize (t / 2) % (2 ^ 52 - 1) = k at h1
 rw [nan_iff (by omega)]
 unfold rungB
 rw [decide_eq_true_iff]
 rcases Nat.mod_two_eq_zero_or_one t with h | h
 ·
  rw [h]; omega
 ·
  rw [h]; omega
end Go.Proofs.YtbclnghbgoblcaaGreat

namespace Go.Proofs.YtbclnghbgoblcaaGreat
open Go.RowKit

theorem call_frombits (n : Int) (w : World) : (callFunc 101 #[.int .u64 n]).run Tryz.prog w = .ok (.value (.float .f64 n.toNat)) w := by kernel_rfl
theorem call_bits (n : Nat) (w : World) : (callFunc 84 #[.float .f64 n]).run Tryz.prog w = .ok (.value (.int .u64 n)) w := by kernel_rfl
attribute [local go_sem] call_frombits call_bits

set_option maxRecDepth 100000 in
set_option maxHeartbeats 400000 in
theorem nan_any (w : World) : Calls Tryz.prog 100 #[] w fun e w' => e = .returned (.float .f64 theNaN) ∧ w = w' := by
 go_enter Tryz.func100, Tryz.ntmps100
 go_wp2
 go_ret
 exact ⟨rfl, rfl⟩
set_option maxHeartbeats 400000 in
theorem isnan_any (x : Nat) (w : World) : Calls Tryz.prog 99 #[.float .f64 x] w fun e w' => e = .returned (.bool (isNaN x)) ∧ w = w' := by
 go_enter Tryz.func99, Tryz.ntmps99
 go_wp2
 go_ret
 exact ⟨rfl, rfl⟩
theorem canon_yes {x : Nat} (h : isNaN x = true) : canon x = theNaN := by unfold canon; rw [if_pos h]
theorem canon_no {x : Nat} (h : isNaN x = false) : canon x = x := by unfold canon; rw [if_neg (by rw [h]; decide)]
set_option maxHeartbeats 400000 in
theorem canon_any (x : Nat) (w : World) : Calls Tryz.prog 85 #[.float .f64 x] w fun e w' => e = .returned (.float .f64 (canon x)) ∧ w = w' := by
 rcases hn : isNaN x with _ | _
 ·
  rw [canon_no hn]
  go_enter Tryz.func85, Tryz.ntmps85
  go_wp2_with (go_at_call 99; refine (isnan_any _ _).mono ?_; rintro e w' ⟨rfl, rfl⟩)
  go_ret
  exact ⟨rfl, rfl⟩
 ·
  rw [canon_yes hn]
  go_enter Tryz.func85, Tryz.ntmps85
  go_wp2_with (first | (go_at_call 99; refine (isnan_any _ _).mono ?_; rintro e w' ⟨rfl, rfl⟩) | (go_at_call 100; refine (nan_any _).mono ?_; rintro e w' ⟨rfl, rfl⟩))
  go_ret
  exact ⟨rfl, rfl⟩
set_option maxHeartbeats 400000 in
theorem refnan_any (w : World) : Calls Tryz.prog 87 #[] w fun e w' => e = .returned (.float .f64 theNaN) ∧ w = w' := by
 go_enter Tryz.func87, Tryz.ntmps87
 go_wp2
 go_ret
 exact ⟨rfl, rfl⟩
set_option maxHeartbeats 400000 in
theorem refcanon_any (x : Nat) (w : World) : Calls Tryz.prog 97 #[.float .f64 x] w fun e w' => e = .returned (.float .f64 (canon x)) ∧ w = w' := by
 rcases hn : isNaN x with _ | _
 ·
  rw [canon_no hn]
  unfold isNaN at hn
  go_enter Tryz.func97, Tryz.ntmps97
  go_wp2
  go_ret
  exact ⟨rfl, rfl⟩
 ·
  rw [canon_yes hn]
  unfold isNaN at hn
  go_enter Tryz.func97, Tryz.ntmps97
  go_wp2_with (go_at_call 87; refine (refnan_any _).mono ?_; rintro e w' ⟨rfl, rfl⟩)
  go_ret
  exact ⟨rfl, rfl⟩
end Go.Proofs.YtbclnghbgoblcaaGreat

namespace Go.Proofs.YtbclnghbgoblcaaGreat
open Go.RowKit
attribute [local go_sem] call_frombits call_bits

set_option maxRecDepth 100000 in
set_option maxHeartbeats 400000 in
theorem k_float (a b : Nat) (w : World) : Calls Tryz.prog 76 #[.float .f64 a, .float .f64 b] w fun e w' => e = .returned (.bool (sameF a b)) ∧ w = w' := by
 have e1 : (FloatKind.f64.format.order a a != some Ordering.eq) = isNaN a := rfl
 have e2 : (FloatKind.f64.format.order b b != some Ordering.eq) = isNaN b := rfl
 have e3 : ((a : Int) == (b : Int)) = (a == b) := by rw [Bool.eq_iff_iff]; simp; omega
 rcases h1 : isNaN a with _ | _ <;> rcases h2 : isNaN b with _ | _
 all_goals
  have Hf : Hid (sameF a b = _) := Lib.hid (by unfold sameF; rw [h1, h2])
  go_enter Tryz.func76, Tryz.ntmps76
  go_wp2
  go_ret
  exact ⟨ret_bool (by rw [Hf.out]; simp), rfl⟩
set_option maxRecDepth 100000 in
set_option maxHeartbeats 400000 in
theorem k_value (a b : AVal) (w : World) : Calls Tryz.prog 53 #[.agg #[.int .i64 a.kind, .float .f64 a.num, .string a.text], .agg #[.int .i64 b.kind, .float .f64 b.num, .string b.text]] w fun e w' => e = .returned (.bool (eqVal a b)) ∧ Ext w w' := by
 have hT : (a.text.toList == b.text.toList) = eqT a.text b.text := rfl
 rcases h1 : (a.kind == b.kind) with _ | _
 ·
  go_enter Tryz.func53, Tryz.ntmps53
  go_wp2
  go_ret
  exact ⟨ret_bool (by simp [eqVal, h1]), ((Mod.refl _ w).alloc _).alloc _⟩
 ·
  rcases h2 : sameF a.num b.num with _ | _
  ·
   go_enter Tryz.func53, Tryz.ntmps53
   go_wp2_with (go_at_call 76; refine (k_float _ _ _).mono ?_; rintro e w' ⟨rfl, rfl⟩)
   go_ret
   exact ⟨ret_bool (by simp [eqVal, h2]), ((Mod.refl _ w).alloc _).alloc _⟩
  ·
   go_enter Tryz.func53, Tryz.ntmps53
   go_wp2_with (go_at_call 76; refine (k_float _ _ _).mono ?_; rintro e w' ⟨rfl, rfl⟩)
   go_ret
   exact ⟨ret_bool (by simp [eqVal, h1, h2]), ((Mod.refl _ w).alloc _).alloc _⟩
end Go.Proofs.YtbclnghbgoblcaaGreat

namespace Go.Proofs.YtbclnghbgoblcaaGreat
open Go.RowKit
attribute [local go_sem] call_frombits call_bits

set_option maxRecDepth 100000 in
set_option maxHeartbeats 400000 in
theorem nsame (a b : Nat) (w : World) : Calls Tryz.prog 70 #[.float .f64 a, .float .f64 b] w fun e w' => e = .returned (.bool (sameNum a b)) ∧ w = w' := by
 have e3 : ((canon a : Int) == (canon b : Int)) = sameNum a b := by unfold sameNum; rw [Bool.eq_iff_iff]; simp; omega
 go_enter Tryz.func70, Tryz.ntmps70
 go_wp2_with (go_at_call 85; refine (canon_any _ _).mono ?_; rintro e w' ⟨rfl, rfl⟩)
 go_ret
 exact ⟨rfl, rfl⟩
set_option maxRecDepth 100000 in
set_option maxHeartbeats 400000 in
theorem vcanon (a : Nat) (w : World) : Calls Tryz.prog 83 #[.float .f64 a] w fun e w' => e = .returned (.bool (canonB a)) ∧ w = w' := by
 have e3 : ((canon a : Int) == (a : Int)) = canonB a := by unfold canonB; rw [Bool.eq_iff_iff]; simp; omega
 go_enter Tryz.func83, Tryz.ntmps83
 go_wp2_with (go_at_call 85; refine (canon_any _ _).mono ?_; rintro e w' ⟨rfl, rfl⟩)
 go_ret
 exact ⟨rfl, rfl⟩

theorem canon_zero' : canon 0 = 0 := by kernel_rfl
theorem same_zero (n : Nat) : sameNum n 0 = decide (n = 0) := by
 unfold sameNum
 rw [canon_zero', Bool.eq_iff_iff, beq_iff_eq, decide_eq_true_iff]
 unfold canon
 split
 ·
  rename_i h
  constructor
  ·
   intro h'; simp [theNaN] at h'
  ·
   rintro rfl; revert h; decide +kernel
 ·
  exact Iff.rfl
theorem canonB_iff (n : Nat) : canonB n = !(decide (isNaN n = true ∧ n ≠ theNaN)) := by
 unfold canonB canon
 by_cases h : isNaN n = true
 ·
  rw [if_pos h]
  rw [Bool.eq_iff_iff, beq_iff_eq]
  simp [h]
  exact eq_comm
 ·
  rw [if_neg h]; simp [h]
theorem isNaN_zero : isNaN 0 = false := by kernel_rfl
theorem chk0 (x : Nat) (t : ByteArray) : chk ⟨0, x, t⟩ = if (sameNum x 0 && isEmptyT t) = true then 0 else 8 := by
 rw [same_zero]
 unfold chk
 by_cases h : x = 0
 ·
  subst h; rcases isEmptyT t with _ | _ <;> simp [isNaN_zero]
 ·
  rcases isEmptyT t with _ | _ <;> simp [h]
theorem chk1 (x : Nat) (t : ByteArray) : chk ⟨1, x, t⟩ = if (canonB x && isEmptyT t) = true then 0 else 8 := by
 rw [canonB_iff]
 unfold chk
 by_cases h : isNaN x = true ∧ x ≠ theNaN
 ·
  rcases isEmptyT t with _ | _ <;> simp [h]
 ·
  rcases isEmptyT t with _ | _ <;> simp [h]
theorem chk2 (x : Nat) (t : ByteArray) : chk ⟨2, x, t⟩ = if 32 < t.size then 2 else if sameNum x 0 = true then 0 else 8 := by
 rw [same_zero]
 unfold chk
 by_cases h : x = 0
 ·
  subst h; by_cases h2 : 32 < t.size <;> simp [h2, isNaN_zero]
 ·
  by_cases h2 : 32 < t.size <;> simp [h, h2]
theorem chk3 {k : Int} (x : Nat) (t : ByteArray) (h0 : k ≠ 0) (h1 : k ≠ 1) (h2 : k ≠ 2) : chk ⟨k, x, t⟩ = 15 := by
 unfold chk
 rw [if_pos (by simp only; omega)]

set_option maxRecDepth 100000 in
set_option maxHeartbeats 1000000 in
theorem v_check (v : AVal) (w : World) : Calls Tryz.prog 68 #[.agg #[.int .i64 v.kind, .float .f64 v.num, .string v.text]] w fun e w' => e = .returned (.int .i64 (chk v)) ∧ Ext w w' := by
 obtain ⟨k, x, t⟩ := v
 have hT : t.toList.isEmpty = isEmptyT t := rfl
 have hE : Ext w (w.alloc (.cells #[.int .i64 k, .float .f64 x, .string t] 40)) := (Mod.refl _ w).alloc _
 simp only
 by_cases h0 : k = 0
 ·
  subst h0
  rw [chk0]
  rcases hs : sameNum x 0 with _ | _ <;> rcases he : isEmptyT t with _ | _
  all_goals
   rw [he] at hT
   go_enter Tryz.func68, Tryz.ntmps68
   go_wp2_with (go_at_call 70; refine (nsame _ _ _).mono ?_; rintro e w' ⟨rfl, rfl⟩)
   go_ret
   exact ⟨rfl, hE⟩
 by_cases h1 : k = 1
 ·
  subst h1
  rw [chk1]
  rcases hs : canonB x with _ | _ <;> rcases he : isEmptyT t with _ | _
  all_goals
   rw [he] at hT
   go_enter Tryz.func68, Tryz.ntmps68
   go_wp2_with (first | (go_at_call 70; refine (nsame _ _ _).mono ?_; rintro e w' ⟨rfl, rfl⟩) | (go_at_call 83; refine (vcanon _ _).mono ?_; rintro e w' ⟨rfl, rfl⟩))
   go_ret
   exact ⟨rfl, hE⟩
 by_cases h2 : k = 2
 ·
  subst h2
  rw [chk2]
  by_cases hl : 32 < t.size
  ·
   rw [if_pos hl]
   have d : decide ((32 : Int) < (t.size : Int)) = true := by simp; omega
   go_enter Tryz.func68, Tryz.ntmps68
   go_wp2_with (go_at_call 70; refine (nsame _ _ _).mono ?_; rintro e w' ⟨rfl, rfl⟩)
   go_ret
   exact ⟨rfl, hE⟩
  ·
   rw [if_neg hl]
   have d : decide ((32 : Int) < (t.size : Int)) = false := by simp; omega
   rcases hs : sameNum x 0 with _ | _
   all_goals
    go_enter Tryz.func68, Tryz.ntmps68
    go_wp2_with (go_at_call 70; refine (nsame _ _ _).mono ?_; rintro e w' ⟨rfl, rfl⟩)
    go_ret
    exact ⟨rfl, hE⟩
 ·
  rw [chk3 x t h0 h1 h2]
  have k0 : (k == 0) = false := by simpa using h0
  have k1 : (k == 1) = false := by simpa using h1
  have k2 : (k == 2) = false := by simpa using h2
  clear h0 h1 h2
  go_enter Tryz.func68, Tryz.ntmps68
  go_wp2_with (go_at_call 70; refine (nsame _ _ _).mono ?_; rintro e w' ⟨rfl, rfl⟩)
  go_ret
  exact ⟨rfl, hE⟩
end Go.Proofs.YtbclnghbgoblcaaGreat

namespace Go.Proofs.YtbclnghbgoblcaaGreat
open Go.RowKit
attribute [local go_sem] call_frombits call_bits

theorem ret_float {k : FloatKind} {a b : Nat} (h : a = b) : Ending.returned (.float k a) = .returned (.float k b) := by rw [h]
/-- The bits of a sum, be it a NaN or not. -/
theorem run_addF (a b : Nat) (t : TypeId) (w : World) : ∃ r q, (binOp .add t (.float .f64 a) (.float .f64 b)).run Tryz.prog w = .ok (.float .f64 r) (w.drewN q) ∧ canon r = addF a b := by
 rcases h : FloatKind.f64.format.add a b with _ | r
 ·
  refine ⟨Question.cut (.nanBits .f64 a b) (w.tape w.drawn (.nanBits .f64 a b)), 1, ?_, ?_⟩
  ·
   simp [binOp, Op.floatArith, h, Question.forced]
   rfl
  ·
   unfold addF
   rw [h]
   exact canon_yes (nan_bits _)
 ·
  refine ⟨r, 0, run_float_arith (P := Tryz.prog) w .add t .f64 a b r h, ?_⟩
  unfold addF
  rw [h]
set_option maxRecDepth 100000 in
set_option maxHeartbeats 400000 in
theorem n_add (a b : Nat) (w : World) : Calls Tryz.prog 95 #[.float .f64 a, .float .f64 b] w fun e w' => e = .returned (.float .f64 (addF a b)) ∧ Ext w w' := by
 obtain ⟨r, q, hr, hc⟩ := run_addF a b 38 w
 have HC := Lib.hid hc
 clear hc
 go_enter Tryz.func95, Tryz.ntmps95
 go_wp2_with (go_at_call 85; refine (canon_any _ _).mono ?_; rintro e w' ⟨rfl, rfl⟩)
 go_ret
 exact ⟨ret_float HC.out, (Mod.refl _ w).drewN q⟩
set_option maxRecDepth 100000 in
set_option maxHeartbeats 400000 in
theorem r_add (a b : Nat) (w : World) : Calls Tryz.prog 81 #[.float .f64 a, .float .f64 b] w fun e w' => e = .returned (.float .f64 (addF a b)) ∧ Ext w w' := by
 obtain ⟨r, q, hr, hc⟩ := run_addF a b 38 w
 have HC := Lib.hid hc
 clear hc
 go_enter Tryz.func81, Tryz.ntmps81
 go_wp2_with (go_at_call 97; refine (refcanon_any _ _).mono ?_; rintro e w' ⟨rfl, rfl⟩)
 go_ret
 exact ⟨ret_float HC.out, (Mod.refl _ w).drewN q⟩
theorem sgn_conv {a : Nat} (h : a < 18446744073709551616) : decide (wrap64 (a : Int) < 0) = sgnB a := by
 unfold sgnB wrap64
 rw [decide_eq_decide]
 omega
set_option maxRecDepth 100000 in
set_option maxHeartbeats 400000 in
theorem m_sign (a : Nat) (h : a < 18446744073709551616) (w : World) : Calls Tryz.prog 110 #[.float .f64 a] w fun e w' => e = .returned (.bool (sgnB a)) ∧ w = w' := by
 have hs := sgn_conv h
 go_enter Tryz.func110, Tryz.ntmps110
 go_wp2
 go_ret
 exact ⟨rfl, rfl⟩
set_option maxRecDepth 100000 in
set_option maxHeartbeats 400000 in
theorem n_less (a b : Nat) (ha : a < 18446744073709551616) (hb : b < 18446744073709551616) (na : isNaN a = false) (nb : isNaN b = false) (w : World) : Calls Tryz.prog 107 #[.float .f64 a, .float .f64 b] w fun e w' => e = .returned (.bool (lessF a b)) ∧ w = w' := by
 rw [← lessG_eq ha hb na nb]
 unfold lessG
 rcases ho : (FloatKind.f64.format.order a b == some Ordering.eq) with _ | _
 ·
  go_enter Tryz.func107, Tryz.ntmps107
  go_wp2_with (go_at_call 99; refine (isnan_any _ _).mono ?_; rintro e w' ⟨rfl, rfl⟩)
  go_ret
  exact ⟨rfl, rfl⟩
 ·
  rcases hs : sgnB a with _ | _
  all_goals
   go_enter Tryz.func107, Tryz.ntmps107
   go_wp2_with (first | (go_at_call 99; refine (isnan_any _ _).mono ?_; rintro e w' ⟨rfl, rfl⟩) | (go_at_call 110; refine (m_sign _ (by assumption) _).mono ?_; rintro e w' ⟨rfl, rfl⟩))
   go_ret
   exact ⟨rfl, rfl⟩
set_option maxRecDepth 100000 in
set_option maxHeartbeats 400000 in
theorem n_max (a b : Nat) (ha : a < 18446744073709551616) (hb : b < 18446744073709551616) (w : World) : Calls Tryz.prog 96 #[.float .f64 a, .float .f64 b] w fun e w' => e = .returned (.float .f64 (maxF a b)) ∧ Ext w w' := by
 unfold maxF
 rcases na : isNaN a with _ | _
 ·
  rcases nb : isNaN b with _ | _
  ·
   rcases hl : lessF a b with _ | _
   all_goals
    go_enter Tryz.func96, Tryz.ntmps96
    go_wp2_with (first | (go_at_call 99; refine (isnan_any _ _).mono ?_; rintro e w' ⟨rfl, rfl⟩) | (go_at_call 107; refine (n_less _ _ ha hb na nb _).mono ?_; rintro e w' ⟨rfl, rfl⟩))
    go_ret
    exact ⟨rfl, Mod.refl _ _⟩
  ·
   go_enter Tryz.func96, Tryz.ntmps96
   go_wp2_with (first | (go_at_call 99; refine (isnan_any _ _).mono ?_; rintro e w' ⟨rfl, rfl⟩) | (go_at_call 100; refine (nan_any _).mono ?_; rintro e w' ⟨rfl, rfl⟩))
   go_ret
   exact ⟨rfl, Mod.refl _ _⟩
 ·
  go_enter Tryz.func96, Tryz.ntmps96
  go_wp2_with (first | (go_at_call 99; refine (isnan_any _ _).mono ?_; rintro e w' ⟨rfl, rfl⟩) | (go_at_call 100; refine (nan_any _).mono ?_; rintro e w' ⟨rfl, rfl⟩))
  go_ret
  exact ⟨rfl, Mod.refl _ _⟩
theorem bv_nat {x : Nat} (h : x < 18446744073709551616) : (BitVec.ofInt 64 (x : Int)).toNat = x := by
 rw [BitVec.ofInt_natCast, BitVec.toNat_ofNat]; exact Nat.mod_eq_of_lt (by omega)
theorem rank_hi {a : Nat} (hc : canon a < 18446744073709551616) (h : ((canon a : Int) / 9223372036854775808 == 1) = true) : bits .xor .u64 IntKind.u64.max (canon a : Int) = (rank a : Nat) := by
 have h1 : (canon a : Int) / 9223372036854775808 = 1 := by simpa using h
 have e : IntKind.u64.max = ((18446744073709551615 : Nat) : Int) := by decide
 unfold rank
 rw [if_pos (by omega), e]
 show IntKind.u64.wrap ((BitVec.ofInt 64 ((18446744073709551615 : Nat) : Int) ^^^ BitVec.ofInt 64 (canon a : Int)).toNat : Int) = _
 have e2 : BitVec.ofInt 64 ((18446744073709551615 : Nat) : Int) = BitVec.allOnes 64 := by decide
 rw [e2, ← BitVec.not_def, BitVec.toNat_not, bv_nat hc]
 simp [IntKind.wrap, IntKind.bits, IntKind.signed]
 omega
theorem rank_lo {a : Nat} (hc : canon a < 18446744073709551616) (h : ((canon a : Int) / 9223372036854775808 == 1) = false) : bits .or .u64 (canon a : Int) 9223372036854775808 = (rank a : Nat) := by
 have h1 : (canon a : Int) / 9223372036854775808 ≠ 1 := by simpa using h
 unfold rank
 rw [if_neg (by omega)]
 show IntKind.u64.wrap ((BitVec.ofInt 64 (canon a : Int) ||| BitVec.ofInt 64 ((9223372036854775808 : Nat) : Int)).toNat : Int) = _
 rw [BitVec.toNat_or, bv_nat hc, bv_nat (by omega)]
 have e : canon a ||| 9223372036854775808 = canon a + 9223372036854775808 := by
  have := Nat.two_pow_add_eq_or_of_lt (i := 63) (b := canon a) (by omega) 1
  rw [Nat.or_comm]
  simpa [Nat.add_comm] using this.symm
 rw [e]
 simp [IntKind.wrap, IntKind.bits, IntKind.signed]
 omega
set_option maxRecDepth 100000 in
set_option maxHeartbeats 400000 in
theorem r_rank (a : Nat) (ha : a < 18446744073709551616) (w : World) : Calls Tryz.prog 108 #[.float .f64 a] w fun e w' => e = .returned (.int .u64 (rank a : Nat)) ∧ w = w' := by
 have hc : canon a < 18446744073709551616 := by
  unfold canon; split
  ·
   decide
  ·
   exact ha
 go_enter Tryz.func108, Tryz.ntmps108
 go_wp2_with (go_at_call 97; refine (refcanon_any _ _).mono ?_; rintro e w' ⟨rfl, rfl⟩)
 ·
  go_ret
  exact ⟨ret_int (rank_hi hc (by assumption)), rfl⟩
 ·
  go_ret
  exact ⟨ret_int (rank_lo hc (by assumption)), rfl⟩
set_option maxRecDepth 100000 in
set_option maxHeartbeats 400000 in
theorem r_less (a b : Nat) (ha : a < 18446744073709551616) (hb : b < 18446744073709551616) (w : World) : Calls Tryz.prog 98 #[.float .f64 a, .float .f64 b] w fun e w' => e = .returned (.bool (lessF a b)) ∧ w = w' := by
 have e : decide ((rank a : Int) < (rank b : Int)) = lessF a b := by unfold lessF; rw [decide_eq_decide]; omega
 have H := Lib.hid e
 clear e
 go_enter Tryz.func98, Tryz.ntmps98
 go_wp2_with (go_at_call 108; refine (r_rank _ (by assumption) _).mono ?_; rintro e w' ⟨rfl, rfl⟩)
 go_ret
 exact ⟨ret_bool (by rw [← H.out]; rw [decide_eq_decide]; omega), rfl⟩
set_option maxRecDepth 100000 in
set_option maxHeartbeats 400000 in
theorem r_max (a b : Nat) (ha : a < 18446744073709551616) (hb : b < 18446744073709551616) (w : World) : Calls Tryz.prog 82 #[.float .f64 a, .float .f64 b] w fun e w' => e = .returned (.float .f64 (maxF a b)) ∧ Ext w w' := by
 have e1 : (FloatKind.f64.format.order a a != some Ordering.eq) = isNaN a := rfl
 have e2 : (FloatKind.f64.format.order b b != some Ordering.eq) = isNaN b := rfl
 unfold maxF
 rcases na : isNaN a with _ | _
 ·
  rcases nb : isNaN b with _ | _
  ·
   rcases hl : lessF a b with _ | _
   all_goals
    rw [na] at e1
    rw [nb] at e2
    go_enter Tryz.func82, Tryz.ntmps82
    go_wp2_with (go_at_call 98; refine (r_less _ _ ha hb _).mono ?_; rintro e w' ⟨rfl, rfl⟩)
    go_ret
    exact ⟨rfl, Mod.refl _ _⟩
  ·
   rw [na] at e1
   rw [nb] at e2
   go_enter Tryz.func82, Tryz.ntmps82
   go_wp2_with (go_at_call 87; refine (refnan_any _).mono ?_; rintro e w' ⟨rfl, rfl⟩)
   go_ret
   exact ⟨rfl, Mod.refl _ _⟩
 ·
  rw [na] at e1
  go_enter Tryz.func82, Tryz.ntmps82
  go_wp2_with (go_at_call 87; refine (refnan_any _).mono ?_; rintro e w' ⟨rfl, rfl⟩)
  go_ret
  exact ⟨rfl, Mod.refl _ _⟩
end Go.Proofs.YtbclnghbgoblcaaGreat

namespace Go.Proofs.YtbclnghbgoblcaaGreat
/-- Old cells read as before. -/
theorem bcell {W w1 : World} (hb : Ext W w1) : (∀ b o, b < W.heap.size → w1.cell? ⟨b, o, none⟩ = W.cell? ⟨b, o, none⟩) ∧ (∀ b o, b < W.heap.size → w1.frozen? ⟨b, o, none⟩ = W.frozen? ⟨b, o, none⟩) :=
 ⟨fun b o h => hb.below.cell (p := ⟨b, o, none⟩) h, fun b o h => hb.below.frozen (p := ⟨b, o, none⟩) h⟩
end Go.Proofs.YtbclnghbgoblcaaGreat

namespace Go.Proofs.YtbclnghbgoblcaaGreat
set_option linter.unusedSimpArgs false
open Go.RowKit

theorem sameNum_eq (a b : Nat) : sameNum a b = sameF a b := by
 unfold sameNum sameF canon
 rw [Bool.eq_iff_iff]
 by_cases ha : isNaN a = true <;> by_cases hb : isNaN b = true
 ·
  simp [ha, hb]
 ·
  simp [ha, hb]
  constructor
  ·
   intro h; rw [← h] at hb; exact absurd (by decide +kernel) hb
  ·
   rintro rfl; exact absurd ha hb
 ·
  simp [ha, hb]
  constructor
  ·
   intro h; rw [h] at ha; exact absurd (by decide +kernel) ha
  ·
   rintro rfl; exact absurd hb ha
 ·
  simp [ha, hb]
set_option maxRecDepth 100000 in
set_option maxHeartbeats 400000 in
theorem v_same (a b : AVal) (w : World) : Calls Tryz.prog 46 #[.agg #[.int .i64 a.kind, .float .f64 a.num, .string a.text], .agg #[.int .i64 b.kind, .float .f64 b.num, .string b.text]] w fun e w' => e = .returned (.bool (eqVal a b)) ∧ Ext w w' := by
 have hT : (a.text.toList == b.text.toList) = eqT a.text b.text := rfl
 have hE : Ext w ((w.alloc (.cells #[.int .i64 a.kind, .float .f64 a.num, .string a.text] 40)).alloc (.cells #[.int .i64 b.kind, .float .f64 b.num, .string b.text] 40)) := ((Mod.refl _ w).alloc _).alloc _
 unfold eqVal
 rw [← sameNum_eq]
 rcases h1 : (a.kind == b.kind) with _ | _
 ·
  go_enter Tryz.func46, Tryz.ntmps46
  go_wp2
  go_ret
  exact ⟨rfl, hE⟩
 ·
  rcases h2 : sameNum a.num b.num with _ | _
  all_goals
   go_enter Tryz.func46, Tryz.ntmps46
   go_wp2_with (go_at_call 70; refine (nsame _ _ _).mono ?_; rintro e w' ⟨rfl, rfl⟩)
   go_ret
   exact ⟨rfl, hE⟩

/-- What value.both tells, r being what the two numbers make. -/
def bothV (r : Nat) (a b : AVal) : AVal × Int :=
 if chk a ≠ 0 then (AVal.zero, chk a) else if chk b ≠ 0 then (AVal.zero, chk b)
 else if a.kind = 0 then (b, 0) else if a.kind ≠ 1 ∨ b.kind ≠ 1 then (AVal.zero, 8)
 else (⟨1, r, ⟨#[]⟩⟩, 0)
theorem joinV_both (add : Bool) (a b : AVal) : joinV add a b = bothV (if add then addF a.num b.num else maxF a.num b.num) a b := rfl

set_option maxRecDepth 100000 in
set_option maxHeartbeats 2000000 in
theorem v_both (f : FuncId) (r : Nat) (a b : AVal) (w : World) (hcall : ∀ args W, (callFunc f args).run Tryz.prog W = .ok (.enter f args) W)
  (hf : ∀ W, Calls Tryz.prog f #[.float .f64 a.num, .float .f64 b.num] W fun e w' => e = .returned (.float .f64 r) ∧ Ext W w') :
  Calls Tryz.prog 94 #[.agg #[.int .i64 a.kind, .float .f64 a.num, .string a.text], .agg #[.int .i64 b.kind, .float .f64 b.num, .string b.text], .func (Fn.func f) #[] #[]] w fun e w' =>
   e = .returned (.tuple #[.agg #[.int .i64 (bothV r a b).1.kind, .float .f64 (bothV r a b).1.num, .string (bothV r a b).1.text], .int .i64 (bothV r a b).2]) ∧ Ext w w' := by
 have Hf := Lib.hid hf
 clear hf
 by_cases ca : chk a = 0
 case neg =>
  have Hr : Hid (bothV r a b = (AVal.zero, chk a)) := Lib.hid (by unfold bothV; rw [if_pos ca])
  have na : (chk a != 0) = true := by simpa using ca
  rw [Hr.out]
  clear ca
  go_enter Tryz.func94, Tryz.ntmps94
  go_wp2
  refine wp_loop_rounds 3 ?_
  rw [rounds_succ]
  go_wp2_with fail
  refine (v_check a _).mono ?_
  rintro e w1 ⟨rfl, hE1⟩
  obtain ⟨hc1, hf1⟩ := bcell hE1
  have hz1 := hE1.size
  simp at hz1
  have q10 : w.heap.size < w1.heap.size := by omega
  have q11 : w.heap.size + 1 < w1.heap.size := by omega
  have q12 : w.heap.size + 1 + 1 < w1.heap.size := by omega
  have q13 : w.heap.size + 1 + 1 + 1 < w1.heap.size := by omega
  have HM : Hid (Mod (Since w.heap.size) w w1) := Lib.hid ((((((Mod.refl (Since w.heap.size) w).alloc _).alloc _).alloc _).alloc _).alloc _ |>.ext hE1)
  clear hE1 hz1
  go_wp2
  refine bodyPost_ret (v := .tuple #[.agg #[.int .i64 0, .float .f64 0, .string ⟨#[]⟩], .int .i64 (chk a)]) (by simp [results, Tryz.results94, go_sem, hc1, q10, q11, q12, q13]) rfl ⟨rfl, ?_⟩
  refine Mod.toExt ?_
  repeat (first | exact HM.out | (refine Mod.setCell ?_ (.inl (by first | omega | (simp <;> omega))) _) | refine Mod.alloc ?_ _)
 by_cases cb : chk b = 0
 case neg =>
  have Hr : Hid (bothV r a b = (AVal.zero, chk b)) := Lib.hid (by unfold bothV; rw [if_neg (by simpa using ca), if_pos cb])
  have nb : (chk b != 0) = true := by simpa using cb
  rw [Hr.out]
  clear cb
  go_enter Tryz.func94, Tryz.ntmps94
  go_wp2
  refine wp_loop_rounds 3 ?_
  rw [rounds_succ]
  go_wp2_with fail
  refine (v_check a _).mono ?_
  rintro e w1 ⟨rfl, hE1⟩
  obtain ⟨hc1, hf1⟩ := bcell hE1
  have hz1 := hE1.size
  simp at hz1
  have q10 : w.heap.size < w1.heap.size := by omega
  have q11 : w.heap.size + 1 < w1.heap.size := by omega
  have q12 : w.heap.size + 1 + 1 < w1.heap.size := by omega
  have q13 : w.heap.size + 1 + 1 + 1 < w1.heap.size := by omega
  have HM : Hid (Mod (Since w.heap.size) w w1) := Lib.hid ((((((Mod.refl (Since w.heap.size) w).alloc _).alloc _).alloc _).alloc _).alloc _ |>.ext hE1)
  clear hE1
  rw [ca]
  go_wp2_with fail
  rw [rounds_succ]
  go_wp2_with fail
  refine (v_check b _).mono ?_
  rintro e w2 ⟨rfl, hE2⟩
  obtain ⟨hc2, hf2⟩ := bcell hE2
  have hz2 := hE2.size
  simp at hz2
  have q20 : w.heap.size < w2.heap.size := by omega
  have q21 : w.heap.size + 1 < w2.heap.size := by omega
  have q22 : w.heap.size + 1 + 1 < w2.heap.size := by omega
  have q23 : w.heap.size + 1 + 1 + 1 < w2.heap.size := by omega
  have HM : Hid (Mod (Since w.heap.size) w w2) := Lib.hid ((HM.out.alloc _).ext hE2)
  clear hE2
  go_wp2
  refine bodyPost_ret (v := .tuple #[.agg #[.int .i64 0, .float .f64 0, .string ⟨#[]⟩], .int .i64 (chk b)]) (by simp [results, Tryz.results94, go_sem, hc1, hc2, q10, q11, q12, q13, q20, q21, q22, q23]) rfl ⟨rfl, ?_⟩
  refine Mod.toExt ?_
  repeat (first | exact HM.out | (refine Mod.setCell ?_ (.inl (by first | omega | (simp <;> omega))) _) | refine Mod.alloc ?_ _)
 by_cases k0 : a.kind = 0
 ·
  have Hr : Hid (bothV r a b = (b, 0)) := Lib.hid (by unfold bothV; rw [if_neg (by simpa using ca), if_neg (by simpa using cb), if_pos k0])
  have e0 : (a.kind == 0) = true := by simpa using k0
  rw [Hr.out]
  clear k0
  go_enter Tryz.func94, Tryz.ntmps94
  go_wp2
  refine wp_loop_rounds 3 ?_
  rw [rounds_succ]
  go_wp2_with fail
  refine (v_check a _).mono ?_
  rintro e w1 ⟨rfl, hE1⟩
  obtain ⟨hc1, hf1⟩ := bcell hE1
  have hz1 := hE1.size
  simp at hz1
  have q10 : w.heap.size < w1.heap.size := by omega
  have q11 : w.heap.size + 1 < w1.heap.size := by omega
  have q12 : w.heap.size + 1 + 1 < w1.heap.size := by omega
  have q13 : w.heap.size + 1 + 1 + 1 < w1.heap.size := by omega
  have HM : Hid (Mod (Since w.heap.size) w w1) := Lib.hid ((((((Mod.refl (Since w.heap.size) w).alloc _).alloc _).alloc _).alloc _).alloc _ |>.ext hE1)
  clear hE1
  rw [ca]
  go_wp2_with fail
  rw [rounds_succ]
  go_wp2_with fail
  refine (v_check b _).mono ?_
  rintro e w2 ⟨rfl, hE2⟩
  obtain ⟨hc2, hf2⟩ := bcell hE2
  have hz2 := hE2.size
  simp at hz2
  have q20 : w.heap.size < w2.heap.size := by omega
  have q21 : w.heap.size + 1 < w2.heap.size := by omega
  have q22 : w.heap.size + 1 + 1 < w2.heap.size := by omega
  have q23 : w.heap.size + 1 + 1 + 1 < w2.heap.size := by omega
  have HM : Hid (Mod (Since w.heap.size) w w2) := Lib.hid ((HM.out.alloc _).ext hE2)
  clear hE2
  rw [cb]
  go_wp2_with fail
  rw [rounds_succ]
  go_wp2
  refine bodyPost_ret (v := .tuple #[.agg #[.int .i64 b.kind, .float .f64 b.num, .string b.text], .int .i64 0]) (by simp [results, Tryz.results94, go_sem, hc1, hc2, q10, q11, q12, q13, q20, q21, q22, q23]) rfl ⟨rfl, ?_⟩
  refine Mod.toExt ?_
  repeat (first | exact HM.out | (refine Mod.setCell ?_ (.inl (by first | omega | (simp <;> omega))) _) | refine Mod.alloc ?_ _)
 have e0 : (a.kind == 0) = false := by simpa using k0
 by_cases k1 : a.kind = 1
 case neg =>
  have Hr : Hid (bothV r a b = (AVal.zero, 8)) := Lib.hid (by unfold bothV; rw [if_neg (by simpa using ca), if_neg (by simpa using cb), if_neg k0, if_pos (.inl k1)])
  have e1 : (a.kind != 1) = true := by simpa using k1
  rw [Hr.out]
  clear k0 k1
  go_enter Tryz.func94, Tryz.ntmps94
  go_wp2
  refine wp_loop_rounds 3 ?_
  rw [rounds_succ]
  go_wp2_with fail
  refine (v_check a _).mono ?_
  rintro e w1 ⟨rfl, hE1⟩
  obtain ⟨hc1, hf1⟩ := bcell hE1
  have hz1 := hE1.size
  simp at hz1
  have q10 : w.heap.size < w1.heap.size := by omega
  have q11 : w.heap.size + 1 < w1.heap.size := by omega
  have q12 : w.heap.size + 1 + 1 < w1.heap.size := by omega
  have q13 : w.heap.size + 1 + 1 + 1 < w1.heap.size := by omega
  have HM : Hid (Mod (Since w.heap.size) w w1) := Lib.hid ((((((Mod.refl (Since w.heap.size) w).alloc _).alloc _).alloc _).alloc _).alloc _ |>.ext hE1)
  clear hE1
  rw [ca]
  go_wp2_with fail
  rw [rounds_succ]
  go_wp2_with fail
  refine (v_check b _).mono ?_
  rintro e w2 ⟨rfl, hE2⟩
  obtain ⟨hc2, hf2⟩ := bcell hE2
  have hz2 := hE2.size
  simp at hz2
  have q20 : w.heap.size < w2.heap.size := by omega
  have q21 : w.heap.size + 1 < w2.heap.size := by omega
  have q22 : w.heap.size + 1 + 1 < w2.heap.size := by omega
  have q23 : w.heap.size + 1 + 1 + 1 < w2.heap.size := by omega
  have HM : Hid (Mod (Since w.heap.size) w w2) := Lib.hid ((HM.out.alloc _).ext hE2)
  clear hE2
  rw [cb]
  go_wp2_with fail
  rw [rounds_succ]
  go_wp2
  refine bodyPost_ret (v := .tuple #[.agg #[.int .i64 0, .float .f64 0, .string ⟨#[]⟩], .int .i64 8]) (by simp [results, Tryz.results94, go_sem, hc1, hc2, q10, q11, q12, q13, q20, q21, q22, q23]) rfl ⟨rfl, ?_⟩
  refine Mod.toExt ?_
  repeat (first | exact HM.out | (refine Mod.setCell ?_ (.inl (by first | omega | (simp <;> omega))) _) | refine Mod.alloc ?_ _)
 have e1 : (a.kind != 1) = false := by simpa using k1
 by_cases k2 : b.kind = 1
 case neg =>
  have Hr : Hid (bothV r a b = (AVal.zero, 8)) := Lib.hid (by unfold bothV; rw [if_neg (by simpa using ca), if_neg (by simpa using cb), if_neg k0, if_pos (.inr k2)])
  have e2 : (b.kind != 1) = true := by simpa using k2
  rw [Hr.out]
  clear k0 k1 k2
  go_enter Tryz.func94, Tryz.ntmps94
  go_wp2
  refine wp_loop_rounds 3 ?_
  rw [rounds_succ]
  go_wp2_with fail
  refine (v_check a _).mono ?_
  rintro e w1 ⟨rfl, hE1⟩
  obtain ⟨hc1, hf1⟩ := bcell hE1
  have hz1 := hE1.size
  simp at hz1
  have q10 : w.heap.size < w1.heap.size := by omega
  have q11 : w.heap.size + 1 < w1.heap.size := by omega
  have q12 : w.heap.size + 1 + 1 < w1.heap.size := by omega
  have q13 : w.heap.size + 1 + 1 + 1 < w1.heap.size := by omega
  have HM : Hid (Mod (Since w.heap.size) w w1) := Lib.hid ((((((Mod.refl (Since w.heap.size) w).alloc _).alloc _).alloc _).alloc _).alloc _ |>.ext hE1)
  clear hE1
  rw [ca]
  go_wp2_with fail
  rw [rounds_succ]
  go_wp2_with fail
  refine (v_check b _).mono ?_
  rintro e w2 ⟨rfl, hE2⟩
  obtain ⟨hc2, hf2⟩ := bcell hE2
  have hz2 := hE2.size
  simp at hz2
  have q20 : w.heap.size < w2.heap.size := by omega
  have q21 : w.heap.size + 1 < w2.heap.size := by omega
  have q22 : w.heap.size + 1 + 1 < w2.heap.size := by omega
  have q23 : w.heap.size + 1 + 1 + 1 < w2.heap.size := by omega
  have HM : Hid (Mod (Since w.heap.size) w w2) := Lib.hid ((HM.out.alloc _).ext hE2)
  clear hE2
  rw [cb]
  go_wp2_with fail
  rw [rounds_succ]
  go_wp2
  refine bodyPost_ret (v := .tuple #[.agg #[.int .i64 0, .float .f64 0, .string ⟨#[]⟩], .int .i64 8]) (by simp [results, Tryz.results94, go_sem, hc1, hc2, q10, q11, q12, q13, q20, q21, q22, q23]) rfl ⟨rfl, ?_⟩
  refine Mod.toExt ?_
  repeat (first | exact HM.out | (refine Mod.setCell ?_ (.inl (by first | omega | (simp <;> omega))) _) | refine Mod.alloc ?_ _)
 ·
  have Hr : Hid (bothV r a b = (⟨1, r, ⟨#[]⟩⟩, 0)) := Lib.hid (by unfold bothV; rw [if_neg (by simpa using ca), if_neg (by simpa using cb), if_neg k0, if_neg (by simp [k1, k2])])
  have e2 : (b.kind != 1) = false := by simpa using k2
  rw [Hr.out]
  clear k0 k1 k2
  go_enter Tryz.func94, Tryz.ntmps94
  go_wp2
  refine wp_loop_rounds 3 ?_
  rw [rounds_succ]
  go_wp2_with fail
  refine (v_check a _).mono ?_
  rintro e w1 ⟨rfl, hE1⟩
  obtain ⟨hc1, hf1⟩ := bcell hE1
  have hz1 := hE1.size
  simp at hz1
  have q10 : w.heap.size < w1.heap.size := by omega
  have q11 : w.heap.size + 1 < w1.heap.size := by omega
  have q12 : w.heap.size + 1 + 1 < w1.heap.size := by omega
  have q13 : w.heap.size + 1 + 1 + 1 < w1.heap.size := by omega
  have HM : Hid (Mod (Since w.heap.size) w w1) := Lib.hid ((((((Mod.refl (Since w.heap.size) w).alloc _).alloc _).alloc _).alloc _).alloc _ |>.ext hE1)
  clear hE1
  rw [ca]
  go_wp2_with fail
  rw [rounds_succ]
  go_wp2_with fail
  refine (v_check b _).mono ?_
  rintro e w2 ⟨rfl, hE2⟩
  obtain ⟨hc2, hf2⟩ := bcell hE2
  have hz2 := hE2.size
  simp at hz2
  have q20 : w.heap.size < w2.heap.size := by omega
  have q21 : w.heap.size + 1 < w2.heap.size := by omega
  have q22 : w.heap.size + 1 + 1 < w2.heap.size := by omega
  have q23 : w.heap.size + 1 + 1 + 1 < w2.heap.size := by omega
  have HM : Hid (Mod (Since w.heap.size) w w2) := Lib.hid ((HM.out.alloc _).ext hE2)
  clear hE2
  rw [cb]
  go_wp2_with fail
  rw [rounds_succ]
  go_wp2_with fail
  refine (Hf.out _).mono ?_
  rintro e w3 ⟨rfl, hE3⟩
  obtain ⟨hc3, hf3⟩ := bcell hE3
  have hz3 := hE3.size
  have q30 : w.heap.size < w3.heap.size := by omega
  have q31 : w.heap.size + 1 < w3.heap.size := by omega
  have q32 : w.heap.size + 1 + 1 < w3.heap.size := by omega
  have q33 : w.heap.size + 1 + 1 + 1 < w3.heap.size := by omega
  have HM : Hid (Mod (Since w.heap.size) w w3) := Lib.hid (HM.out.ext hE3)
  clear hE3
  go_wp2
  refine bodyPost_ret (v := .tuple #[.agg #[.int .i64 1, .float .f64 r, .string ⟨#[]⟩], .int .i64 0]) (by simp [results, Tryz.results94, go_sem, hc1, hc2, hc3, q10, q11, q12, q13, q20, q21, q22, q23, q30, q31, q32, q33]) rfl ⟨rfl, ?_⟩
  refine Mod.toExt ?_
  repeat (first | exact HM.out | (refine Mod.setCell ?_ (.inl (by first | omega | (simp <;> omega))) _) | refine Mod.alloc ?_ _)
end Go.Proofs.YtbclnghbgoblcaaGreat
