/-
 Contracts of the verifier's comparisons of floats and values (skerrykeep). Conditions: as each theorem names them.
-/
import Derived.Test.YtmebipnljkopgaaGreatDoorNum
import Derived.Test.YtmebipnljkopgaaGreatDoorGSpec
namespace Go.Proofs.YtmebipnljkopgaaGreatDoor
open Go.RowKit
attribute [local go_sem] call_frombits call_bits

set_option maxRecDepth 100000 in
set_option maxHeartbeats 400000 in
theorem k_float (a b : Nat) (w : World) : Calls Tryz.prog 81 #[.float .f64 a, .float .f64 b] w fun e w' => e = .returned (.bool (sameF a b)) ∧ w = w' := by
 have e1 : (FloatKind.f64.format.order a a != some Ordering.eq) = isNaN a := rfl
 have e2 : (FloatKind.f64.format.order b b != some Ordering.eq) = isNaN b := rfl
 have e3 : ((a : Int) == (b : Int)) = (a == b) := by rw [Bool.eq_iff_iff]; simp; omega
 rcases h1 : isNaN a with _ | _ <;> rcases h2 : isNaN b with _ | _
 all_goals
  have Hf : Hid (sameF a b = _) := Lib.hid (by unfold sameF; rw [h1, h2])
  go_enter Tryz.func81, Tryz.ntmps81
  go_wp2
  go_ret
  exact ⟨ret_bool (by rw [Hf.out]; simp), rfl⟩
set_option maxRecDepth 100000 in
set_option maxHeartbeats 400000 in
theorem k_value (a b : AVal) (w : World) : Calls Tryz.prog 54 #[.agg #[.int .i64 a.kind, .float .f64 a.num, .string a.text], .agg #[.int .i64 b.kind, .float .f64 b.num, .string b.text]] w fun e w' => e = .returned (.bool (eqVal a b)) ∧ Ext w w' := by
 have hT : (a.text.toList == b.text.toList) = eqT a.text b.text := rfl
 rcases h1 : (a.kind == b.kind) with _ | _
 ·
  go_enter Tryz.func54, Tryz.ntmps54
  go_wp2
  go_ret
  exact ⟨ret_bool (by simp [eqVal, h1]), ((Mod.refl _ w).alloc _).alloc _⟩
 ·
  rcases h2 : sameF a.num b.num with _ | _
  ·
   go_enter Tryz.func54, Tryz.ntmps54
   go_wp2_with (go_at_call 81; refine (k_float _ _ _).mono ?_; rintro e w' ⟨rfl, rfl⟩)
   go_ret
   exact ⟨ret_bool (by simp [eqVal, h2]), ((Mod.refl _ w).alloc _).alloc _⟩
  ·
   go_enter Tryz.func54, Tryz.ntmps54
   go_wp2_with (go_at_call 81; refine (k_float _ _ _).mono ?_; rintro e w' ⟨rfl, rfl⟩)
   go_ret
   exact ⟨ret_bool (by simp [eqVal, h1, h2]), ((Mod.refl _ w).alloc _).alloc _⟩
end Go.Proofs.YtmebipnljkopgaaGreatDoor
