/-
 Contracts of the small functions on floats (num.Canon, math.IsNaN, the references' Canon), bit by bit. Conditions: none.
-/
import Derived.Test.YtfkacakbengboaaRows
import Derived.Test.YtfkacakbengboaaGSpec
namespace Go.Proofs.Ytfkacakbengboaa
open Go.RowKit

theorem call_frombits (n : Int) (w : World) : (callFunc 107 #[.int .u64 n]).run Try.prog w = .ok (.value (.float .f64 n.toNat)) w := by kernel_rfl
theorem call_bits (n : Nat) (w : World) : (callFunc 92 #[.float .f64 n]).run Try.prog w = .ok (.value (.int .u64 n)) w := by kernel_rfl
attribute [local go_sem] call_frombits call_bits

set_option maxRecDepth 100000 in
set_option maxHeartbeats 400000 in
theorem nan_any (w : World) : Calls Try.prog 111 #[] w fun e w' => e = .returned (.float .f64 theNaN) ∧ w = w' := by
 go_enter Try.func111, Try.ntmps111
 go_wp2
 go_ret
 exact ⟨rfl, rfl⟩
set_option maxHeartbeats 400000 in
theorem isnan_any (x : Nat) (w : World) : Calls Try.prog 110 #[.float .f64 x] w fun e w' => e = .returned (.bool (isNaN x)) ∧ w = w' := by
 go_enter Try.func110, Try.ntmps110
 go_wp2
 go_ret
 exact ⟨rfl, rfl⟩
theorem canon_yes {x : Nat} (h : isNaN x = true) : canon x = theNaN := by unfold canon; rw [if_pos h]
theorem canon_no {x : Nat} (h : isNaN x = false) : canon x = x := by unfold canon; rw [if_neg (by rw [h]; decide)]
set_option maxHeartbeats 400000 in
theorem canon_any (x : Nat) (w : World) : Calls Try.prog 101 #[.float .f64 x] w fun e w' => e = .returned (.float .f64 (canon x)) ∧ w = w' := by
 rcases hn : isNaN x with _ | _
 ·
  rw [canon_no hn]
  go_enter Try.func101, Try.ntmps101
  go_wp2_with (go_at_call 110; refine (isnan_any _ _).mono ?_; rintro e w' ⟨rfl, rfl⟩)
  go_ret
  exact ⟨rfl, rfl⟩
 ·
  rw [canon_yes hn]
  go_enter Try.func101, Try.ntmps101
  go_wp2_with (first | (go_at_call 110; refine (isnan_any _ _).mono ?_; rintro e w' ⟨rfl, rfl⟩) | (go_at_call 111; refine (nan_any _).mono ?_; rintro e w' ⟨rfl, rfl⟩))
  go_ret
  exact ⟨rfl, rfl⟩
set_option maxHeartbeats 400000 in
theorem refnan_any (w : World) : Calls Try.prog 104 #[] w fun e w' => e = .returned (.float .f64 theNaN) ∧ w = w' := by
 go_enter Try.func104, Try.ntmps104
 go_wp2
 go_ret
 exact ⟨rfl, rfl⟩
set_option maxHeartbeats 400000 in
theorem refcanon_any (x : Nat) (w : World) : Calls Try.prog 93 #[.float .f64 x] w fun e w' => e = .returned (.float .f64 (canon x)) ∧ w = w' := by
 rcases hn : isNaN x with _ | _
 ·
  rw [canon_no hn]
  unfold isNaN at hn
  go_enter Try.func93, Try.ntmps93
  go_wp2
  go_ret
  exact ⟨rfl, rfl⟩
 ·
  rw [canon_yes hn]
  unfold isNaN at hn
  go_enter Try.func93, Try.ntmps93
  go_wp2_with (go_at_call 104; refine (refnan_any _).mono ?_; rintro e w' ⟨rfl, rfl⟩)
  go_ret
  exact ⟨rfl, rfl⟩
end Go.Proofs.Ytfkacakbengboaa
