/-
 Plain: one act more on a small disk (the law StableSmall); an allocation as one step of a region that draws its order. Conditions: as each theorem names them.
-/
import Derived.Test.YtjhnlncgmejkcaaGreatS25
import Derived.Test.YtjhnlncgmejkcaaGreatStbPu
namespace Go.Proofs.YtjhnlncgmejkcaaGreat
set_option linter.unusedSimpArgs false
open Go.RowKit

theorem StP.small {D : ADisk} {g : AHard} {x : AAct} {room : Int} {i : Nat} (h : StP D g room (200 * i)) (hi : i < 40) (ht : g.term ≤ 2 * i) (hq : um x.d 9 < 4) (hx : Fit x.h) (hxl : ∀ y ∈ x.l, y.ok) (h1 : x.h.log.length ≤ 200 ∧ x.h.snap.length ≤ 32768 ∧ x.l.length ≤ 200 ∧ x.b.length ≤ 32768) :
  (nextP g x).log.length ≤ 200 * (i + 1) ∧ (nextP g x).snap.length ≤ 32768 ∧ StP (saveP D g (nextP g x)).1 (saveP D g (nextP g x)).2.1 room (200 * (i + 1)) ∧ (saveP D g (nextP g x)).2.1.term ≤ 2 * ((i + 1 : Nat) : Int) ∧
  (((saveP D g (nextP g x)).2.2 = 0 ∧ (saveP D g (nextP g x)).2.1 = nextP g x) ∨ ((saveP D g (nextP g x)).2.1 = g ∧ ((saveP D g (nextP g x)).2.2 = 2 ∨ (saveP D g (nextP g x)).2.2 = 5))) := by
 obtain ⟨h2, h3, h4⟩ := act_more h.hd h.lg hx hxl h1
 obtain ⟨r1, r2, r3, r4⟩ := next_right h.hd.1 (by omega) hq
 obtain ⟨k1, k2⟩ := h.save (k := 200 * (i + 1)) h2.1 h2.2 h3 (by omega) (by omega)
 have k3 : ((saveP D g (nextP g x)).2.2 = 0 ∧ (saveP D g (nextP g x)).2.1 = nextP g x) ∨ ((saveP D g (nextP g x)).2.1 = g ∧ ((saveP D g (nextP g x)).2.2 = 2 ∨ (saveP D g (nextP g x)).2.2 = 5)) := by
  rcases k2 with k2 | ⟨k2, k3 | k3⟩
  ·
   exact .inl k2
  ·
   exfalso
   rcases k3.2 with e | e | e
   ·
    rw [(checkH_iff _).2 r1] at e; cases e
   ·
    omega
   ·
    omega
  ·
   exact .inr ⟨k2, k3⟩
 refine ⟨h3, h4, k1, ?_, k3⟩
 rcases k3 with ⟨_, e⟩ | ⟨e, _⟩ <;> rw [e] <;> omega
theorem act_cap {w : World} {T T' : Nat → Prop} {x : AActM} (h : x.ok w T) (hT : ∀ k, T k → k < w.heap.size → T' k) : x.ok w T' :=
 ⟨h.1, h.2.1, h.2.2.1, h.2.2.2.1, h.2.2.2.2.1.cap.mono (fun k a => hT k a.1 a.2), ⟨(h.2.2.2.2.2.1.1.cap (by omega)).mono (fun k a => hT k a.1 a.2), h.2.2.2.2.2.1.2⟩, (h.2.2.2.2.2.2.cap (by omega)).mono (fun k a => hT k a.1 a.2)⟩
section
variable {ops : Array Oper} {o : Oper} {a : Act} {w : World} {Q : Exit → Act → World → Prop}
theorem step_allocH {K : Act → World → Prop} {E : Prop} (hgd : o.guard = none) (ho : o.op = .alloc 34)
  (h : ∀ (b : Nat) (w' : World), w'.heap[b]? = some (.cells #[.int .i64 0, .int .i64 0, .int .i64 0, .int .i64 0, .int .i64 0, .int .i64 0, .int .i64 0, .int .i64 0, .slice none 0 0, .slice none 0 0] 34 (0, 0)) → Ext w w' → w.heap.size ≤ b → b < w'.heap.size → K (a.put o.dst (.pointer (some ⟨b, 0, none⟩))) w') :
  if Region.wanted o (yielded ops a.tmps) = true then Oper.wp Tryz.prog o a w K Q else E := by
 have hw : Region.wanted o (yielded ops a.tmps) = true := by simp [Region.wanted, hgd]
 rw [if_pos hw]
 have hz := h w.heap.size (w.alloc (.cells #[.int .i64 0, .int .i64 0, .int .i64 0, .int .i64 0, .int .i64 0, .int .i64 0, .int .i64 0, .int .i64 0, .slice none 0 0, .slice none 0 0] 34)) (heap_alloc_new w _) ((Mod.refl _ w).alloc _) (Nat.le_refl _) (by simp)
 unfold Oper.wp execOp
 simp only [ho]
 go_simp
 exact hz
end
end Go.Proofs.YtjhnlncgmejkcaaGreat
