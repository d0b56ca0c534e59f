/-
 Small plain laws for the statements of layer 6. No program is walked here. Conditions: as each theorem names them.
-/
import Derived.Test.YtbclnghbgoblcaaGreatKvLib
namespace Go.Proofs.YtbclnghbgoblcaaGreat
theorem eqPrs_refl (l : List APair) : eqPrs l l = true :=
 (eqL_iff _ _ _).2 ⟨rfl, fun i x y hx hy => by rw [hx] at hy; cases hy; simp [eqPair, eqT_refl, eqVal_refl]⟩
theorem eqReply_refl (r : AReply) : eqReply r r = true := by simp [eqReply, eqVal_refl]
theorem eqVal_ne {a b : AVal} (h : eqVal a b = false) : a ≠ b := by rintro rfl; rw [eqVal_refl] at h; cases h
end Go.Proofs.YtbclnghbgoblcaaGreat
