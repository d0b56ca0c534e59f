/- The facts of the row of NodeOff: plain. Conditions: none. -/
import Derived.Test.YtjbkjhhjofeldaaGreatRows
import Derived.ProofKit
import Derived.OpenShut
import Derived.ShutString
import Derived.ChangeOld
import Derived.Below
set_option maxRecDepth 100000
set_option maxHeartbeats 8000000
namespace Go.Proofs.YtjbkjhhjofeldaaGreat.nodeOff
open Go.RowKit Go.ChangeShapes Go.WideShapes Go.ChangeAt
set_option linter.unusedVariables false
theorem own : ownKnob Tryz.prog.godebug = none := by kernel_rfl
theorem laidOut : laidOutB Tryz.prog = true := by kernel_rfl
theorem and_mk {a b : Bool} (ha : a = true) (hb : b = true) : (a && b) = true := by rw [ha, hb]; rfl
theorem joined : joinedFacts Tryz.pinned.checked.prog 7 Tryz.f7 Rows.nodeOffSpec Rows.nodeOffRow = true := by
  unfold joinedFacts
  repeat' with_reducible refine and_mk ?_ ?_
  all_goals as_aux_lemma => kernel_rfl
theorem named : Tryz.pinned.checked.prog.funcNamed Rows.nodeOffRow.func = some 7 := by kernel_rfl
theorem instd : Tryz.f7.isInstance Tryz.pinned.checked.prog Rows.nodeOffRow.origin Rows.nodeOffRow.targs := of_decide_eq_true (by kernel_rfl)
theorem wrapd : Tryz.f7.isWrapper Tryz.pinned.checked.prog Rows.nodeOffRow.wrapper Rows.nodeOffRow.mainSum := by
  unfold Func.isWrapper
  first | (rw [if_pos (by decide +kernel)]; kernel_rfl) | (rw [if_neg (by decide +kernel)]; exact ⟨rfl, rfl⟩)
end Go.Proofs.YtjbkjhhjofeldaaGreat.nodeOff
