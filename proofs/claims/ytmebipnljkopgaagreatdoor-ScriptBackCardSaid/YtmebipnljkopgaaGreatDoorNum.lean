/-
 Contracts of the small functions on floats (num.Canon, math.IsNaN, the references' Canon), bit by bit. Conditions: none.
-/
import Derived.Test.YtmebipnljkopgaaGreatDoorRows
import Derived.Test.YtmebipnljkopgaaGreatDoorGSpec
namespace Go.Proofs.YtmebipnljkopgaaGreatDoor
open Go.RowKit

theorem call_frombits (n : Int) (w : World) : (callFunc 87 #[.int .u64 n]).run Tryz.prog w = .ok (.value (.float .f64 n.toNat)) w := by kernel_rfl
theorem call_bits (n : Nat) (w : World) : (callFunc 62 #[.float .f64 n]).run Tryz.prog w = .ok (.value (.int .u64 n)) w := by kernel_rfl
attribute [local go_sem] call_frombits call_bits

set_option maxRecDepth 100000 in
set_option maxHeartbeats 400000 in
theorem nan_any (w : World) : Calls Tryz.prog 125 #[] w fun e w' => e = .returned (.float .f64 theNaN) ∧ w = w' := by
 go_enter Tryz.func125, Tryz.ntmps125
 go_wp2
 go_ret
 exact ⟨rfl, rfl⟩
set_option maxHeartbeats 400000 in
theorem isnan_any (x : Nat) (w : World) : Calls Tryz.prog 124 #[.float .f64 x] w fun e w' => e = .returned (.bool (isNaN x)) ∧ w = w' := by
 go_enter Tryz.func124, Tryz.ntmps124
 go_wp2
 go_ret
 exact ⟨rfl, rfl⟩
theorem canon_yes {x : Nat} (h : isNaN x = true) : canon x = theNaN := by unfold canon; rw [if_pos h]
theorem canon_no {x : Nat} (h : isNaN x = false) : canon x = x := by unfold canon; rw [if_neg (by rw [h]; decide)]
set_option maxHeartbeats 400000 in
theorem canon_any (x : Nat) (w : World) : Calls Tryz.prog 107 #[.float .f64 x] w fun e w' => e = .returned (.float .f64 (canon x)) ∧ w = w' := by
 rcases hn : isNaN x with _ | _
 ·
  rw [canon_no hn]
  go_enter Tryz.func107, Tryz.ntmps107
  go_wp2_with (go_at_call 124; refine (isnan_any _ _).mono ?_; rintro e w' ⟨rfl, rfl⟩)
  go_ret
  exact ⟨rfl, rfl⟩
 ·
  rw [canon_yes hn]
  go_enter Tryz.func107, Tryz.ntmps107
  go_wp2_with (first | (go_at_call 124; refine (isnan_any _ _).mono ?_; rintro e w' ⟨rfl, rfl⟩) | (go_at_call 125; refine (nan_any _).mono ?_; rintro e w' ⟨rfl, rfl⟩))
  go_ret
  exact ⟨rfl, rfl⟩
set_option maxHeartbeats 400000 in
theorem refnan_any (w : World) : Calls Tryz.prog 63 #[] w fun e w' => e = .returned (.float .f64 theNaN) ∧ w = w' := by
 go_enter Tryz.func63, Tryz.ntmps63
 go_wp2
 go_ret
 exact ⟨rfl, rfl⟩
set_option maxHeartbeats 400000 in
theorem refcanon_any (x : Nat) (w : World) : Calls Tryz.prog 89 #[.float .f64 x] w fun e w' => e = .returned (.float .f64 (canon x)) ∧ w = w' := by
 rcases hn : isNaN x with _ | _
 ·
  rw [canon_no hn]
  unfold isNaN at hn
  go_enter Tryz.func89, Tryz.ntmps89
  go_wp2
  go_ret
  exact ⟨rfl, rfl⟩
 ·
  rw [canon_yes hn]
  unfold isNaN at hn
  go_enter Tryz.func89, Tryz.ntmps89
  go_wp2_with (go_at_call 63; refine (refnan_any _).mono ?_; rintro e w' ⟨rfl, rfl⟩)
  go_ret
  exact ⟨rfl, rfl⟩
end Go.Proofs.YtmebipnljkopgaaGreatDoor
