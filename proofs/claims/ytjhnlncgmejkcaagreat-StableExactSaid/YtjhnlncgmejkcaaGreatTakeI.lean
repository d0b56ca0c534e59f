/-
 One operation of a region is taken first; that it is ready is tested at once. No program is named here. Conditions: none.
-/
import Derived.Test.YtjhnlncgmejkcaaGreatTake
namespace Go.Proofs.YtjhnlncgmejkcaaGreat
theorem tkI {P : Program} {ops : Array Oper} {Q : Exit → Act → World → Prop} {md : Region.Mode} {S : World → Prop} {oi : Oper} {fuel : Nat} {listed : Array Bool} {a : Act} {w : World} (i : Nat) (d : Option Tmp)
  (hi : ops[i]? = some oi) (hd : oi.dst = d) (v : Value) (hS : S w) (hy : ∀ w, S w → (execOp a.eval oi).run P w = .ok (.value v) w)
  (h : wpAnyH P md ops Q S fuel (listed.setIfInBounds i true) (a.put d v) w)
  (hs : Region.noSelect ops = true := by kernel_rfl) (hf : Region.free md ops listed i = true := by kernel_rfl) (hr : (Region.ready md ops listed).contains i = true := by decide +kernel)
  (hw : Region.wanted oi (yielded ops a.tmps) = true := by kernel_rfl) (hQ : ∀ c a w, Q (.panic c) (a.put d v) w → Q (.panic c) a w := by exact fun _ _ _ h => h) : wpAnyH P md ops Q S (fuel + 1) listed a w :=
 tkH i d hi hd v hS hy h hs hf hr hw hQ
theorem tuI {P : Program} {ops : Array Oper} {Q : Exit → Act → World → Prop} {md : Region.Mode} {S : World → Prop} {oi : Oper} {fuel : Nat} {listed : Array Bool} {a : Act} {w : World} (i : Nat) (d : Option Tmp)
  (hi : ops[i]? = some oi) (hd : oi.dst = d) (hS : S w) (h : wpAnyH P md ops Q S fuel (listed.setIfInBounds i true) (a.put d undef) w)
  (hs : Region.noSelect ops = true := by kernel_rfl) (hf : Region.free md ops listed i = true := by kernel_rfl) (hr : (Region.ready md ops listed).contains i = true := by decide +kernel)
  (hw : Region.wanted oi (yielded ops a.tmps) = false := by kernel_rfl) (hQ : ∀ c a w, Q (.panic c) (a.put d undef) w → Q (.panic c) a w := by exact fun _ _ _ h => h) : wpAnyH P md ops Q S (fuel + 1) listed a w :=
 tuH i d hi hd hS h hs hf hr hw hQ
theorem tkJ {P : Program} {ops : Array Oper} {Q : Exit → Act → World → Prop} {md : Region.Mode} {oi : Oper} {fuel : Nat} {listed : Array Bool} {a : Act} {W w : World} (i : Nat) (d : Option Tmp)
  (hi : ops[i]? = some oi) (hd : oi.dst = d) (v : Value) (hS : Ext W w) (hy : ∀ w, (∀ b o, b < W.heap.size → w.cell? ⟨b, o, none⟩ = W.cell? ⟨b, o, none⟩) → (∀ b o, b < W.heap.size → w.frozen? ⟨b, o, none⟩ = W.frozen? ⟨b, o, none⟩) → (execOp a.eval oi).run P w = .ok (.value v) w)
  (h : wpAnyH P md ops Q (fun W' => Ext W W') fuel (listed.setIfInBounds i true) (a.put d v) w)
  (hs : Region.noSelect ops = true := by kernel_rfl) (hf : Region.free md ops listed i = true := by kernel_rfl) (hr : (Region.ready md ops listed).contains i = true := by decide +kernel)
  (hw : Region.wanted oi (yielded ops a.tmps) = true := by kernel_rfl) (hQ : ∀ c a w, Q (.panic c) (a.put d v) w → Q (.panic c) a w := by exact fun _ _ _ h => h) : wpAnyH P md ops Q (fun W' => Ext W W') (fuel + 1) listed a w :=
 tkE i d hi hd v hS hy h hs hf hr hw hQ
end Go.Proofs.YtjhnlncgmejkcaaGreat
