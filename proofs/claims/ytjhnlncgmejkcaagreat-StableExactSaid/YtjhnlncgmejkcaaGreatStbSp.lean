/-
 Plain: one act more on a small disk (the law StableSmall); an allocation as one step of a region that draws its order. Conditions: as each theorem names them.
-/
import Derived.Test.YtjhnlncgmejkcaaGreatS25
import Derived.Test.YtjhnlncgmejkcaaGreatStbPu
namespace Go.Proofs.YtjhnlncgmejkcaaGreat
set_option linter.unusedSimpArgs false
open Go.RowKit
section
variable {ops : Array Oper} {o : Oper} {a : Act} {w : World} {Q : Exit → Act → World → Prop}
theorem zgN {K : Act → World → Prop} {E : Prop} (hgd : o.guard = none) (ho : o.op = .alloc 34)
  (h : ∀ (b : Nat) (w' : World), w'.heap[b]? = some (.cells zH.toArray 34 (0, 0)) → Ext w w' → w.heap.size ≤ b → b < w'.heap.size → K (a.put o.dst (.pointer (some ⟨b, 0, none⟩))) w') :
  if Region.wanted o (yielded ops a.tmps) = true then Oper.wp Tryz.prog o a w K Q else E := by
 have hw : Region.wanted o (yielded ops a.tmps) = true := by simp [Region.wanted, hgd]
 rw [if_pos hw]
 have hz := h w.heap.size (w.alloc (.cells zH.toArray 34)) (heap_alloc_new w _) ((Mod.refl _ w).alloc _) (Nat.le_refl _) (by simp)
 unfold Oper.wp execOp
 simp only [ho]
 go_simp
 exact hz
end
end Go.Proofs.YtjhnlncgmejkcaaGreat
