/- The facts of the row of NodeAgain: plain. Conditions: none. -/
import Derived.Test.YtjbkjhhjofeldaaGreatRows
import Derived.ProofKit
import Derived.OpenShut
import Derived.ShutString
import Derived.ChangeOld
import Derived.Below
set_option maxRecDepth 100000
set_option maxHeartbeats 8000000
namespace Go.Proofs.YtjbkjhhjofeldaaGreat.nodeAgain
open Go.RowKit Go.ChangeShapes Go.WideShapes Go.ChangeAt
set_option linter.unusedVariables false
theorem own:ownKnob Tryz.prog.godebug=none:=by kernel_rfl
theorem laidOut:laidOutB Tryz.prog=true:=by kernel_rfl
theorem and_mk {a b:Bool} (ha:a=true) (hb:b=true):(a&&b)=true:=by rw[ha,hb];rfl
theorem joined:joinedFacts Tryz.pinned.checked.prog 3 Tryz.f3 Rows.nodeAgainSpec Rows.nodeAgainRow=true:=by
  unfold joinedFacts
  repeat' with_reducible refine and_mk ?_ ?_
  all_goals as_aux_lemma=>kernel_rfl
theorem named:Tryz.pinned.checked.prog.funcNamed Rows.nodeAgainRow.func=some 3:=by kernel_rfl
theorem instd:Tryz.f3.isInstance Tryz.pinned.checked.prog Rows.nodeAgainRow.origin Rows.nodeAgainRow.targs:=of_decide_eq_true (by kernel_rfl)
theorem wrapd:Tryz.f3.isWrapper Tryz.pinned.checked.prog Rows.nodeAgainRow.wrapper Rows.nodeAgainRow.mainSum:=by
  unfold Func.isWrapper
  first|(rw[if_pos (by decide +kernel)];kernel_rfl)|(rw[if_neg (by decide +kernel)];exact ⟨rfl,rfl⟩)
end Go.Proofs.YtjbkjhhjofeldaaGreat.nodeAgain
