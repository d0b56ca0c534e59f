/-
  The contract of bytes.Equal. Conditions: as each theorem names them.
-/
import Derived.Test.YtplpegjnmlabkaaSesR
import Derived.Test.YtplpegjnmlabkaaKeep
namespace Go.Proofs.Ytplpegjnmlabkaa
set_option linter.unusedSimpArgs false
open Go.RowKit

set_option maxRecDepth 100000 in
set_option maxHeartbeats 400000 in
theorem b_equal (w : World) (T U : Nat → Prop) (a b : Value) (xs ys : List UInt8) (ha : Byt w T a xs) (hb : Byt w U b ys) :
    Calls Try.prog 64 #[a, b] w fun e w' => e = .returned (.bool (xs == ys)) ∧ w = w' := by
  have ca := conv_bs ha
  have cb := conv_bs hb
  obtain ⟨A, c, rfl⟩ := ha.form
  obtain ⟨A', c', rfl⟩ := hb.form
  clear ha hb
  go_enter Try.func64, Try.ntmps64
  go_wp2
  go_ret
  exact ⟨rfl, rfl⟩
end Go.Proofs.Ytplpegjnmlabkaa
