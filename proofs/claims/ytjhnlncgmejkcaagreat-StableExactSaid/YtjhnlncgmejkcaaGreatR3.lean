/-
 A store and the page's, side by side: their disks, their boxes, what they have, in memory apart from one another; what a step on one leaves of the other (layer 11's law StableExact). No program is walked here. Conditions: as each theorem names them.
-/
import Derived.Test.YtjhnlncgmejkcaaGreatR2
import Derived.Test.YtjhnlncgmejkcaaGreatStbEs
import Derived.Test.YtjhnlncgmejkcaaGreatTakeI
import Derived.Test.YtjhnlncgmejkcaaGreatS25
import Derived.Test.YtjhnlncgmejkcaaGreatS24
namespace Go.Proofs.YtjhnlncgmejkcaaGreat
set_option linter.unusedSimpArgs false
open Go.RowKit
def Gt (d q s r : Nat) (fv fq : Value) (k : Nat) : Prop := k = d ∨ k = q ∨ k = s ∨ k = r ∨ fv.ownBlock = some k ∨ fq.ownBlock = some k
structure Dk2 (w : World) (N d : Nat) (fv : Value) (D : zJ) (q : Nat) (fq : Value) (E : zJ) : Prop where
 a : Dsk w d fv D
 b : Qsk w q fq E
 na : N ≤ d ∧ ∀ k, fv.ownBlock = some k → N ≤ k
 nb : N ≤ q ∧ ∀ k, fq.ownBlock = some k → N ≤ k
 x : ∀ k, fv.ownBlock = some k → fq.ownBlock ≠ some k
structure Kq (N : Nat) (F F' : Nat → Prop) (w w' : World) : Prop where
 hm : ∀ (P : Nat → Prop) (sv lv : Value) (x : zC), zY w (fun k => ¬ F k ∧ P k) sv lv x → zY w' (fun k => ¬ F' k ∧ P k) sv lv x
 ho : ∀ (sv lv : Value) (x : zC), ze4 w sv lv x → (∀ k, sv.ownBlock = some k ∨ lv.ownBlock = some k → ¬ F k) → ze4 w' sv lv x ∧ ∀ k, sv.ownBlock = some k ∨ lv.ownBlock = some k → ¬ F' k
 md : Mod (fun k => N ≤ k) w w'
 bx : ∀ (b : Nat) (cs : Array Value) (t : TypeId) (q : Nat × Nat), t ≠ 85 → t ≠ 67 → t ≠ 88 → t ≠ 76 → 5 ≠ t → w.heap[b]? = some (.cells cs t q) → w'.heap[b]? = some (.cells cs t q)
section
variable {w w' : World} {N s d r q : Nat} {P : Nat → Prop} {fv gs gl fq qs ql : Value} {D E : zJ} {g g2 : zC}
theorem QtB.off (h : QtB w r q g2 qs ql) {b : Nat} {cs : Array Value} {t : TypeId} {p : Nat × Nat} (hb : w.heap[b]? = some (.cells cs t p)) (ht : t ≠ 76) : b ≠ r := fun e => by
 unfold QtB at h
 rw [← e, hb] at h
 injection h with h
 injection h with _ h
 exact ht h
theorem StB.off (h : StB w s d g gs gl) {b : Nat} {cs : Array Value} {t : TypeId} {p : Nat × Nat} (hb : w.heap[b]? = some (.cells cs t p)) (ht : t ≠ 88) : b ≠ s := fun e => by
 unfold StB at h
 rw [← e, hb] at h
 injection h with h
 injection h with _ h
 exact ht h
theorem Dk2.da (h : Dk2 w N d fv D q fq E) {b : Nat} {cs : Array Value} {t : TypeId} {p : Nat × Nat} (hb : w.heap[b]? = some (.cells cs t p)) (h1 : t ≠ 85) (h3 : 5 ≠ t) : ¬ (b = d ∨ fv.ownBlock = some b) := fun e => by
 rcases e with e | e
 · exact h.a.ne hb h1 e
 exact zT h.a.2.1 e hb h3 rfl
theorem Dk2.db (h : Dk2 w N d fv D q fq E) {b : Nat} {cs : Array Value} {t : TypeId} {p : Nat × Nat} (hb : w.heap[b]? = some (.cells cs t p)) (h1 : t ≠ 67) (h3 : 5 ≠ t) : ¬ (b = q ∨ fq.ownBlock = some b) := fun e => by
 rcases e with e | e
 · exact h.b.ne hb h1 e
 exact zT h.b.2.1 e hb h3 rfl
theorem Dk2.lt (h : Dk2 w N d fv D q fq E) : d < w.heap.size ∧ q < w.heap.size ∧ (∀ k, fv.ownBlock = some k → k < w.heap.size) ∧ ∀ k, fq.ownBlock = some k → k < w.heap.size := ⟨h.a.lt, h.b.lt, fun _ e => zaR h.a.2.1 e, fun _ e => zaR h.b.2.1 e⟩
theorem Dk2.ext (h : Dk2 w N d fv D q fq E) (hE : Ext w w') : Dk2 w' N d fv D q fq E := ⟨h.a.ext hE, h.b.ext hE, h.na, h.nb, h.x⟩
theorem Dk2.dm (h : Dk2 w N d fv D q fq E) {fv' : Value} {D' : zJ} {S : Nat → Prop} (h1 : Dsk w' d fv' D') (h2 : Mod S w w') (hS : ∀ k, S k → k = d ∨ fv.ownBlock = some k ∨ (k ≠ q ∧ fq.ownBlock ≠ some k)) (h3 : ∀ k, fv'.ownBlock = some k → fv.ownBlock = some k ∨ w.heap.size ≤ k) : Dk2 w' N d fv' D' q fq E := by
 have hl := h.lt
 refine ⟨h1, h.b.mod h2 (fun e => ?_) (fun k hk e => ?_), ⟨h.na.1, fun k e => ?_⟩, h.nb, fun k hk e => ?_⟩
 ·
  rcases hS q e with e | e | e
  · exact h.da h.b.1 (by decide) (by decide) (.inl e)
  · exact h.da h.b.1 (by decide) (by decide) (.inr e)
  exact e.1 rfl
 ·
  rcases hS k e with e | e | e
  · exact zT h.b.2.1 hk h.a.1 (by decide) e
  · exact h.x k e hk
  exact e.2 hk
 ·
  rcases h3 k e with e | e
  · exact h.na.2 k e
  have := h.na.1; have := hl.1; omega
 rcases h3 k hk with e2 | e2
 · exact h.x k e2 e
 have := hl.2.2.2 k e; omega
theorem Dk2.qm (h : Dk2 w N d fv D q fq E) {fq' : Value} {E' : zJ} {S : Nat → Prop} (h1 : Qsk w' q fq' E') (h2 : Mod S w w') (hS : ∀ k, S k → k = q ∨ fq.ownBlock = some k ∨ (k ≠ d ∧ fv.ownBlock ≠ some k)) (h3 : ∀ k, fq'.ownBlock = some k → fq.ownBlock = some k ∨ w.heap.size ≤ k) : Dk2 w' N d fv D q fq' E' := by
 have hl := h.lt
 refine ⟨h.a.mod h2 (fun e => ?_) (fun k hk e => ?_), h1, h.na, ⟨h.nb.1, fun k e => ?_⟩, fun k hk e => ?_⟩
 ·
  rcases hS d e with e | e | e
  · exact h.db h.a.1 (by decide) (by decide) (.inl e)
  · exact h.db h.a.1 (by decide) (by decide) (.inr e)
  exact e.1 rfl
 ·
  rcases hS k e with e | e | e
  · exact zT h.a.2.1 hk h.b.1 (by decide) e
  · exact h.x k hk e
  exact e.2 hk
 ·
  rcases h3 k e with e | e
  · exact h.nb.2 k e
  have := h.nb.1; have := hl.2.1; omega
 rcases h3 k e with e2 | e2
 · exact h.x k hk e2
 have := hl.2.2.1 k hk; omega
theorem kq_of {F F' : Nat → Prop} (hM : Mod F w w') (hF : ∀ k, F' k → F k ∨ w.heap.size ≤ k) (hN : ∀ k, F k → N ≤ k) (hb : ∀ (b : Nat) (cs : Array Value) (t : TypeId) (q : Nat × Nat), t ≠ 85 → t ≠ 67 → t ≠ 88 → t ≠ 76 → 5 ≠ t → w.heap[b]? = some (.cells cs t q) → ¬ F b) : Kq N F F' w w' :=
 ⟨fun P sv lv x h => (h.cap.mod hM (fun k hk => hk.1.1)).mono (fun k hk => ⟨fun e => by
   rcases hF k e with e | e
   · exact hk.1.1 e
   have := hk.2; omega, hk.1.2⟩),
  fun sv lv x h hk => ⟨h.mod hM hk, fun k e e2 => by
   rcases hF k e2 with e2 | e2
   · exact hk k e e2
   have : k < w.heap.size := by
    rcases e with e | e
    · exact zaR h.1 e
    exact zaR h.2.1 e
   omega⟩,
  hM.mono (fun k _ e => hN k e), fun b cs t p h1 h2 h3 h4 h5 h => hM.blk h (hb b cs t p h1 h2 h3 h4 h5 h)⟩
structure Pr (w : World) (N : Nat) (P : Nat → Prop) (s d : Nat) (fv gs gl : Value) (D : zJ) (g : zC) (r q : Nat) (fq qs ql : Value) (E : zJ) (g2 : zC) : Prop where
 dk : Dk2 w N d fv D q fq E
 st : StB w s d g gs gl
 qt : QtB w r q g2 qs ql
 hs : zY w (fun k => ¬ Gt d q s r fv fq k ∧ P k) gs gl g
 hr : zY w (fun k => ¬ Gt d q s r fv fq k ∧ P k) qs ql g2
 ns : N ≤ s
 nr : N ≤ r
 hx : ∀ k, w.heap.size ≤ k → P k
theorem Pr.ext (h : Pr w N P s d fv gs gl D g r q fq qs ql E g2) (hE : Ext w w') : Pr w' N P s d fv gs gl D g r q fq qs ql E g2 := ⟨h.dk.ext hE, hE.blk h.st id, hE.blk h.qt id, h.hs.mod hE (fun _ _ => id), h.hr.mod hE (fun _ _ => id), h.ns, h.nr, fun k hk => h.hx k (Nat.le_trans hE.size hk)⟩
theorem Pr.gn (h : Pr w N P s d fv gs gl D g r q fq qs ql E g2) {k : Nat} (e : Gt d q s r fv fq k) : N ≤ k := by
 rcases e with e | e | e | e | e | e
 · rw [e]; exact h.dk.na.1
 · rw [e]; exact h.dk.nb.1
 · rw [e]; exact h.ns
 · rw [e]; exact h.nr
 · exact h.dk.na.2 k e
 exact h.dk.nb.2 k e
theorem Pr.glt (h : Pr w N P s d fv gs gl D g r q fq qs ql E g2) {k : Nat} (e : Gt d q s r fv fq k) : k < w.heap.size := by
 have hl := h.dk.lt
 rcases e with e | e | e | e | e | e
 · rw [e]; exact hl.1
 · rw [e]; exact hl.2.1
 · rw [e]; exact (Array.getElem?_eq_some_iff.1 h.st).1
 · rw [e]; exact (Array.getElem?_eq_some_iff.1 h.qt).1
 · exact hl.2.2.1 k e
 exact hl.2.2.2 k e
theorem Pr.gb (h : Pr w N P s d fv gs gl D g r q fq qs ql E g2) (b : Nat) (cs : Array Value) (t : TypeId) (p : Nat × Nat) (h1 : t ≠ 85) (h2 : t ≠ 67) (h3 : t ≠ 88) (h4 : t ≠ 76) (h5 : 5 ≠ t) (hb : w.heap[b]? = some (.cells cs t p)) : ¬ Gt d q s r fv fq b := fun e => by
 rcases e with e | e | e | e | e | e
 · exact h.dk.da hb h1 h5 (.inl e)
 · exact h.dk.db hb h2 h5 (.inl e)
 · exact h.st.off hb h3 e
 · exact h.qt.off hb h4 e
 · exact h.dk.da hb h1 h5 (.inr e)
 exact h.dk.db hb h2 h5 (.inr e)
theorem Pr.kq (h : Pr w N P s d fv gs gl D g r q fq qs ql E g2) {F' : Nat → Prop} {S : Nat → Prop} (hM : Mod S w w') (hS : ∀ k, S k → Gt d q s r fv fq k) (hF : ∀ k, F' k → Gt d q s r fv fq k ∨ w.heap.size ≤ k) : Kq N (Gt d q s r fv fq) F' w w' :=
 kq_of (hM.mono (fun k _ e => hS k e)) hF (fun _ e => h.gn e) h.gb
theorem Pr.dm (h : Pr w N P s d fv gs gl D g r q fq qs ql E g2) {D' : zJ} (hM : DM w d fv D' w') : ∃ fv', Pr w' N P s d fv' gs gl D' g r q fq qs ql E g2 ∧ Kq N (Gt d q s r fv fq) (Gt d q s r fv' fq) w w' := by
 obtain ⟨fv', h1, h2, h3⟩ := hM
 have hK : Kq N (Gt d q s r fv fq) (Gt d q s r fv' fq) w w' := h.kq h2 (fun k e => by rcases e with e | e; exact .inl e; exact .inr (.inr (.inr (.inr (.inl e))))) (fun k e => by
  rcases e with e | e | e | e | e | e
  · exact .inl (.inl e)
  · exact .inl (.inr (.inl e))
  · exact .inl (.inr (.inr (.inl e)))
  · exact .inl (.inr (.inr (.inr (.inl e))))
  ·
   rcases h3 k e with e | e
   · exact .inl (.inr (.inr (.inr (.inr (.inl e)))))
   exact .inr e
  exact .inl (.inr (.inr (.inr (.inr (.inr e))))))
 exact ⟨fv', ⟨h.dk.dm h1 h2 (fun k e => by rcases e with e | e; exact .inl e; exact .inr (.inl e)) h3, h2.blk h.st (h.dk.da h.st (by decide) (by decide)), h2.blk h.qt (h.dk.da h.qt (by decide) (by decide)), hK.hm _ _ _ _ h.hs, hK.hm _ _ _ _ h.hr, h.ns, h.nr, fun k hk => h.hx k (Nat.le_trans hK.md.size hk)⟩, hK⟩
theorem Pr.qm (h : Pr w N P s d fv gs gl D g r q fq qs ql E g2) {E' : zJ} (hM : QM w q fq E' w') : ∃ fq', Pr w' N P s d fv gs gl D g r q fq' qs ql E' g2 ∧ Kq N (Gt d q s r fv fq) (Gt d q s r fv fq') w w' := by
 obtain ⟨fq', h1, h2, h3⟩ := hM
 have hK : Kq N (Gt d q s r fv fq) (Gt d q s r fv fq') w w' := h.kq h2 (fun k e => by rcases e with e | e; exact .inr (.inl e); exact .inr (.inr (.inr (.inr (.inr e))))) (fun k e => by
  rcases e with e | e | e | e | e | e
  · exact .inl (.inl e)
  · exact .inl (.inr (.inl e))
  · exact .inl (.inr (.inr (.inl e)))
  · exact .inl (.inr (.inr (.inr (.inl e))))
  · exact .inl (.inr (.inr (.inr (.inr (.inl e)))))
  rcases h3 k e with e | e
  · exact .inl (.inr (.inr (.inr (.inr (.inr e)))))
  exact .inr e)
 exact ⟨fq', ⟨h.dk.qm h1 h2 (fun k e => by rcases e with e | e; exact .inl e; exact .inr (.inl e)) h3, h2.blk h.st (h.dk.db h.st (by decide) (by decide)), h2.blk h.qt (h.dk.db h.qt (by decide) (by decide)), hK.hm _ _ _ _ h.hs, hK.hm _ _ _ _ h.hr, h.ns, h.nr, fun k hk => h.hx k (Nat.le_trans hK.md.size hk)⟩, hK⟩
theorem Pr.saveA (h : Pr w N P s d fv gs gl D g r q fq qs ql E g2) {y : zC} {e : Ending} (hS : ziH w s d fv gs gl (yQ D g y) e w') :
  e = .returned (.int .i64 (yQ D g y).2.2) ∧ ∃ fv' gs' gl', Pr w' N P s d fv' gs' gl' (yQ D g y).1 (yQ D g y).2.1 r q fq qs ql E g2 ∧ Kq N (Gt d q s r fv fq) (Gt d q s r fv' fq) w w' := by
 obtain ⟨he, fv', gs', gl', h1, h2, h3, h4, h5⟩ := hS
 have hK : Kq N (Gt d q s r fv fq) (Gt d q s r fv' fq) w w' := h.kq h3 (fun k e => by rcases e with e | e | e; exact .inl e; exact .inr (.inr (.inr (.inr (.inl e)))); exact .inr (.inr (.inl e))) (fun k e => by
  rcases e with e | e | e | e | e | e
  · exact .inl (.inl e)
  · exact .inl (.inr (.inl e))
  · exact .inl (.inr (.inr (.inl e)))
  · exact .inl (.inr (.inr (.inr (.inl e))))
  ·
   rcases h4 k e with e | e
   · exact .inl (.inr (.inr (.inr (.inr (.inl e)))))
   exact .inr e
  exact .inl (.inr (.inr (.inr (.inr (.inr e))))))
 have hH : zY w' (fun k => ¬ Gt d q s r fv' fq k ∧ P k) gs' gl' (yQ D g y).2.1 := by
  rcases h5 with ⟨rfl, rfl, h6⟩ | ⟨h6, h7⟩
  ·
   have hg : (yQ D g y).2.1 = g := by
    revert h6
    unfold yQ
    split
    · intro _; rfl
    split
    · intro _; rfl
    intro h6
    simp only at h6 ⊢
    rw [if_neg h6]
   rw [hg]
   exact hK.hm _ _ _ _ h.hs
  refine h6.mem.mono (fun k hk => ⟨fun e => ?_, h.hx k (by rcases hk with e | e; exact h6.1.2 k e; exact h6.2.2.2 k e)⟩)
  have hw : w.heap.size ≤ k := by rcases hk with e | e; exact h6.1.2 k e; exact h6.2.2.2 k e
  have hl := h.dk.lt
  have hs := (Array.getElem?_eq_some_iff.1 h.st).1
  have hr := (Array.getElem?_eq_some_iff.1 h.qt).1
  rcases e with e | e | e | e | e | e
  · omega
  · omega
  · omega
  · omega
  ·
   rcases hk with hk | hk
   · exact h7 k hk e
   exact zbV h6.2.1 h1.2.1 (by decide) hk e
  have := hl.2.2.2 k e; omega
 refine ⟨he, fv', gs', gl', ⟨h.dk.dm h1 h3 (fun k e => ?_) h4, h2, h3.blk h.qt (fun e => ?_), hH, hK.hm _ _ _ _ h.hr, h.ns, h.nr, fun k hk => h.hx k (Nat.le_trans hK.md.size hk)⟩, hK⟩
 ·
  rcases e with e | e | e
  · exact .inl e
  · exact .inr (.inl e)
  refine .inr (.inr ⟨fun e2 => h.st.off h.dk.b.1 (by decide) (e2.symm.trans e), fun e2 => zT h.dk.b.2.1 e2 h.st (by decide) e⟩)
 rcases e with e | e | e
 · exact h.dk.da h.qt (by decide) (by decide) (.inl e)
 · exact h.dk.da h.qt (by decide) (by decide) (.inr e)
 exact h.st.off h.qt (by decide) e
theorem Pr.saveB (h : Pr w N P s d fv gs gl D g r q fq qs ql E g2) {y : zC} {e : Ending} (hS : ziI w r q fq qs ql g2 (yQ E g2 y) e w') :
  e = .returned (.int .i64 (yQ E g2 y).2.2) ∧ ∃ fq' qs' ql', Pr w' N P s d fv gs gl D g r q fq' qs' ql' (yQ E g2 y).1 (yQ E g2 y).2.1 ∧ Kq N (Gt d q s r fv fq) (Gt d q s r fv fq') w w' := by
 obtain ⟨he, fq', qs', ql', h1, h2, h3, h4, h5⟩ := hS
 have hK : Kq N (Gt d q s r fv fq) (Gt d q s r fv fq') w w' := h.kq h3 (fun k e => by rcases e with e | e | e; exact .inr (.inl e); exact .inr (.inr (.inr (.inr (.inr e)))); exact .inr (.inr (.inr (.inl e)))) (fun k e => by
  rcases e with e | e | e | e | e | e
  · exact .inl (.inl e)
  · exact .inl (.inr (.inl e))
  · exact .inl (.inr (.inr (.inl e)))
  · exact .inl (.inr (.inr (.inr (.inl e))))
  · exact .inl (.inr (.inr (.inr (.inr (.inl e)))))
  rcases h4 k e with e | e
  · exact .inl (.inr (.inr (.inr (.inr (.inr e)))))
  exact .inr e)
 have hH : zY w' (fun k => ¬ Gt d q s r fv fq' k ∧ P k) qs' ql' (yQ E g2 y).2.1 := by
  rcases h5 with ⟨rfl, rfl, h6⟩ | ⟨h6, h7⟩
  · rw [h6]
    exact hK.hm _ _ _ _ h.hr
  refine h6.mem.mono (fun k hk => ⟨fun e => ?_, h.hx k (by rcases hk with e | e; exact h6.1.2 k e; exact h6.2.2.2 k e)⟩)
  have hw : w.heap.size ≤ k := by rcases hk with e | e; exact h6.1.2 k e; exact h6.2.2.2 k e
  have hl := h.dk.lt
  have hs := (Array.getElem?_eq_some_iff.1 h.st).1
  have hr := (Array.getElem?_eq_some_iff.1 h.qt).1
  rcases e with e | e | e | e | e | e
  · omega
  · omega
  · omega
  · omega
  · have := hl.2.2.1 k e; omega
  rcases hk with hk | hk
  · exact h7 k hk e
  exact zbV h6.2.1 h1.2.1 (by decide) hk e
 refine ⟨he, fq', qs', ql', ⟨h.dk.qm h1 h3 (fun k e => ?_) h4, h3.blk h.st (fun e => ?_), h2, hK.hm _ _ _ _ h.hs, hH, h.ns, h.nr, fun k hk => h.hx k (Nat.le_trans hK.md.size hk)⟩, hK⟩
 ·
  rcases e with e | e | e
  · exact .inl e
  · exact .inr (.inl e)
  refine .inr (.inr ⟨fun e2 => h.qt.off h.dk.a.1 (by decide) (e2.symm.trans e), fun e2 => zT h.dk.a.2.1 e2 h.qt (by decide) e⟩)
 rcases e with e | e | e
 · exact h.dk.db h.st (by decide) (by decide) (.inl e)
 · exact h.dk.db h.st (by decide) (by decide) (.inr e)
 exact h.qt.off h.st (by decide) e
def InB (sv lv : Value) (k : Nat) : Prop := sv.ownBlock = some k ∨ lv.ownBlock = some k
theorem Pr.more (h : Pr w N P s d fv gs gl D g r q fq qs ql E g2) {sv lv : Value} {y : zC} (hE : Ext w w') (hN : jP w w' sv lv y) : Pr w' N (fun k => P k ∧ ¬ InB sv lv k) s d fv gs gl D g r q fq qs ql E g2 := by
 have hn : ∀ k, InB sv lv k → w.heap.size ≤ k ∧ k < w'.heap.size := fun k e => by
  rcases e with e | e
  · exact ⟨hN.1.2 k e, zaR hN.1.1 e⟩
  exact ⟨hN.2.2.2 k e, zaR hN.2.1 e⟩
 have hE2 := h.ext hE
 exact ⟨hE2.dk, hE2.st, hE2.qt, (h.hs.cap.mod hE (fun _ _ => id)).mono (fun k hk => ⟨hk.1.1, hk.1.2, fun e => by have := hn k e; have := hk.2; omega⟩), (h.hr.cap.mod hE (fun _ _ => id)).mono (fun k hk => ⟨hk.1.1, hk.1.2, fun e => by have := hn k e; have := hk.2; omega⟩), h.ns, h.nr, fun k hk => ⟨hE2.hx k hk, fun e => by have := hn k e; omega⟩⟩
theorem Pr.spoil {sv lv : Value} (h : Pr w N (fun k => P k ∧ ¬ InB sv lv k) s d fv gs gl D g r q fq qs ql E g2) (hM : Mod (fun k => sv.ownBlock = some k ∨ lv.ownBlock = some k) w w') (hap : ∀ k, sv.ownBlock = some k ∨ lv.ownBlock = some k → ¬ Gt d q s r fv fq k) : Pr w' N P s d fv gs gl D g r q fq qs ql E g2 :=
 ⟨⟨h.dk.a.mod hM (fun e => hap d e (.inl rfl)) (fun k hk e => hap k e (.inr (.inr (.inr (.inr (.inl hk)))))), h.dk.b.mod hM (fun e => hap q e (.inr (.inl rfl))) (fun k hk e => hap k e (.inr (.inr (.inr (.inr (.inr hk)))))), h.dk.na, h.dk.nb, h.dk.x⟩,
  hM.blk h.st (fun e => hap s e (.inr (.inr (.inl rfl)))), hM.blk h.qt (fun e => hap r e (.inr (.inr (.inr (.inl rfl))))), (h.hs.mod hM (fun _ hk e => hk.2.2 e)).mono (fun _ hk => ⟨hk.1, hk.2.1⟩), (h.hr.mod hM (fun _ hk e => hk.2.2 e)).mono (fun _ hk => ⟨hk.1, hk.2.1⟩), h.ns, h.nr, fun k hk => (h.hx k (Nat.le_trans hM.size hk)).1⟩
def OpA (w w' : World) (d : Nat) (fv fq : Value) (R : zJ × Option zC × Int) (v : Value) : Prop := match R.2.1 with
 | none => v = .pointer none ∧ R.2.2 ≠ 0
 | some g => ∃ s gs gl, v = .pointer (some ⟨s, 0, none⟩) ∧ R.2.2 = 0 ∧ w.heap.size ≤ s ∧ StB w' s d g gs gl ∧ zY w' (fun k => w.heap.size ≤ k ∧ k ≠ s ∧ fv.ownBlock ≠ some k ∧ fq.ownBlock ≠ some k) gs gl g
def OpB (w w' : World) (q : Nat) (fv fq : Value) (R : zJ × Option zC × Int) (v : Value) : Prop := match R.2.1 with
 | none => v = .pointer none ∧ R.2.2 ≠ 0
 | some g => ∃ r qs ql, v = .pointer (some ⟨r, 0, none⟩) ∧ R.2.2 = 0 ∧ w.heap.size ≤ r ∧ QtB w' r q g qs ql ∧ zY w' (fun k => w.heap.size ≤ k ∧ k ≠ r ∧ fv.ownBlock ≠ some k ∧ fq.ownBlock ≠ some k) qs ql g
theorem Dk2.openA (h : Dk2 w N d fv D q fq E) {R : zJ × Option zC × Int} {e : Ending} (hO : zgX w d fv R e w') : ∃ fv' v, e = .returned (.tuple #[v, .int .i64 R.2.2]) ∧ Dk2 w' N d fv' R.1 q fq E ∧ Mod (fun k => k = d ∨ fv.ownBlock = some k) w w' ∧ OpA w w' d fv' fq R v := by
 obtain ⟨fv', h1, h2, h3, h4⟩ := hO
 have hl := h.lt
 have hD := h.dm h1 h2 (fun k e => by rcases e with e | e; exact .inl e; exact .inr (.inl e)) h3
 unfold OpA
 rcases hr : R.2.1 with _ | g
 · rw [hr] at h4
   exact ⟨fv', _, h4.1, hD, h2, rfl, h4.2⟩
 rw [hr] at h4
 obtain ⟨s, gs, gl, rfl, hc, h5, h6, h7, h8⟩ := h4
 refine ⟨fv', _, rfl, hD, h2, s, gs, gl, rfl, hc, h8, h5, h6.mem.mono (fun k hk => ?_)⟩
 have hw : w.heap.size ≤ k := by rcases hk with e | e; exact h6.1.2 k e; exact h6.2.2.2 k e
 refine ⟨hw, fun e => ?_, fun e => ?_, fun e => by have := hl.2.2.2 k e; omega⟩
 ·
  rcases hk with hk | hk
  · exact zT h6.1.1 hk h5 (by decide) e
  exact zT h6.2.1 hk h5 (by decide) e
 rcases hk with hk | hk
 · exact h7 k hk e
 exact zbV h6.2.1 h1.2.1 (by decide) hk e
theorem Dk2.openB (h : Dk2 w N d fv D q fq E) {R : zJ × Option zC × Int} {e : Ending} (hO : ze5 w q fq R e w') : ∃ fq' v, e = .returned (.tuple #[v, .int .i64 R.2.2]) ∧ Dk2 w' N d fv D q fq' R.1 ∧ Mod (fun k => k = q ∨ fq.ownBlock = some k) w w' ∧ (∀ k, fq'.ownBlock = some k → fq.ownBlock = some k ∨ w.heap.size ≤ k) ∧ OpB w w' q fv fq' R v := by
 obtain ⟨fq', h1, h2, h3, h4⟩ := hO
 have hl := h.lt
 have hD := h.qm h1 h2 (fun k e => by rcases e with e | e; exact .inl e; exact .inr (.inl e)) h3
 unfold OpB
 rcases hr : R.2.1 with _ | g
 · rw [hr] at h4
   exact ⟨fq', _, h4.1, hD, h2, h3, rfl, h4.2⟩
 rw [hr] at h4
 obtain ⟨s, gs, gl, rfl, hc, h5, h6, h7, _⟩ := h4
 exact ⟨fq', _, by rw [hc], hD, h2, h3, s, gs, gl, rfl, hc, h7, h5, h6.mono (fun k hk => ⟨hk.1, hk.2.1, fun e => by have := hl.2.2.1 k e; omega, hk.2.2⟩)⟩
theorem zqT {w0 w1 w2 : World} {fv1 fq1 va vb : Value} {R : zJ × Option zC × Int} (hA : OpA w0 w1 d fv1 fq R va) (hB : OpB w1 w2 q fv1 fq1 R vb) (hD1 : Dk2 w1 N d fv1 R.1 q fq E) (hD2 : Dk2 w2 N d fv1 R.1 q fq1 R.1) (h0 : N ≤ w0.heap.size) (hx : ∀ k, w0.heap.size ≤ k → P k) (hlow : d < w0.heap.size ∧ q < w0.heap.size)
  (hM : Mod (fun k => k = q ∨ fq.ownBlock = some k) w1 w2) (hf : ∀ k, fq1.ownBlock = some k → fq.ownBlock = some k ∨ w1.heap.size ≤ k) :
  match R.2.1 with
  | none => va = .pointer none ∧ vb = .pointer none ∧ R.2.2 ≠ 0
  | some g => ∃ s gs gl r qs ql, va = .pointer (some ⟨s, 0, none⟩) ∧ vb = .pointer (some ⟨r, 0, none⟩) ∧ R.2.2 = 0 ∧ Pr w2 N P s d fv1 gs gl R.1 g r q fq1 qs ql R.1 g := by
 unfold OpA at hA
 unfold OpB at hB
 rcases hr : R.2.1 with _ | g
 · rw [hr] at hA hB
   exact ⟨hA.1, hB.1, hA.2⟩
 rw [hr] at hA hB
 obtain ⟨s, gs, gl, rfl, hc, hsw, hst, hsh⟩ := hA
 obtain ⟨r, qs, ql, rfl, _, hrw, hrt, hrh⟩ := hB
 have hl2 := hD2.lt
 have hst2 : StB w2 s d g gs gl := hM.blk hst (hD1.db hst (by decide) (by decide))
 have hs1 : s < w1.heap.size := (Array.getElem?_eq_some_iff.1 hst).1
 have hsh2 := hsh.cap.mod hM (fun k hk e => by
  rcases e with e | e
  · have := hk.1.1; omega
  exact hk.1.2.2.2 e)
 refine ⟨s, gs, gl, r, qs, ql, rfl, rfl, hc, hD2, hst2, hrt, hsh2.mono (fun k hk => ⟨fun e => ?_, hx k hk.1.1⟩), hrh.mono (fun k hk => ⟨fun e => ?_, hx k (by have := hk.1; omega)⟩), by omega, by omega, fun k hk => hx k (by have := hM.size; omega)⟩
 ·
  rcases e with e | e | e | e | e | e
  · have := hk.1.1; omega
  · have := hk.1.1; omega
  · exact hk.1.2.1 e
  · have := hk.2; omega
  · exact hk.1.2.2.1 e
  rcases hf k e with e | e
  · exact hk.1.2.2.2 e
  have := hk.2; omega
 rcases e with e | e | e | e | e | e
 · have := hk.1; omega
 · have := hk.1; omega
 · have := hk.1; omega
 · exact hk.2.1 e
 · exact hk.2.2.1 e
 exact hk.2.2.2 e
end
end Go.Proofs.YtjhnlncgmejkcaaGreat
set_option maxRecDepth 100000
set_option maxHeartbeats 2000000
namespace Go.Proofs.YtjhnlncgmejkcaaGreat
set_option linter.unusedSimpArgs false
open Go.RowKit
def PB (w : World) (x d q : Nat) (v0 v2 : Value) (fi : zC) (fs fl : Value) : Prop := w.heap[x]? = some (.cells #[v0, .pointer (some ⟨d, 0, none⟩), v2, .pointer (some ⟨q, 0, none⟩), .int .i64 fi.term, .int .i64 fi.vote, .int .i64 fi.base, .int .i64 fi.baseTerm, .int .i64 fi.conf.full, .int .i64 fi.conf.wit, .int .i64 fi.conf.learn, .int .i64 fi.conf.learnWit, fs, fl] 70 (0, 0))
def PairD (w : World) (N x d q : Nat) (fi : zC) (fs fl : Value) (D : zJ) : Prop := ∃ fv fq v0 v2, Dk2 w N d fv D q fq D ∧ PB w x d q v0 v2 fi fs fl
def zeF (w : World) (N x d q : Nat) (fi : zC) (fs fl : Value) (D : zJ) : Option zC → Prop
 | none => ∃ fv fq, Dk2 w N d fv D q fq D ∧ PB w x d q (.pointer none) (.pointer none) fi fs fl
 | some g => ∃ s fv gs gl r fq qs ql, Pr w N (fun k => k ≠ x) s d fv gs gl D g r q fq qs ql D g ∧ PB w x d q (.pointer (some ⟨s, 0, none⟩)) (.pointer (some ⟨r, 0, none⟩)) fi fs fl
theorem zeF.d {w : World} {N x d q : Nat} {fi : zC} {fs fl : Value} {D : zJ} {o : Option zC} (h : zeF w N x d q fi fs fl D o) : PairD w N x d q fi fs fl D := by
 cases o with
 | none =>
  obtain ⟨fv, fq, h1, h2⟩ := h
  exact ⟨fv, fq, _, _, h1, h2⟩
 | some g =>
  obtain ⟨s, fv, gs, gl, r, fq, qs, ql, h1, h2⟩ := h
  exact ⟨fv, fq, _, _, h1.dk, h2⟩
theorem PB.c {w : World} {x d q : Nat} {v0 v2 : Value} {fi : zC} {fs fl : Value} (h : PB w x d q v0 v2 fi fs fl) : w.cell? ⟨x, 0, none⟩ = some v0 ∧ w.cell? ⟨x, 1, none⟩ = some (.pointer (some ⟨d, 0, none⟩)) ∧ w.cell? ⟨x, 2, none⟩ = some v2 ∧ w.cell? ⟨x, 3, none⟩ = some (.pointer (some ⟨q, 0, none⟩)) := by
 unfold PB at h
 exact ⟨zB (cs := [v0, .pointer (some ⟨d, 0, none⟩), v2, .pointer (some ⟨q, 0, none⟩), .int .i64 fi.term, .int .i64 fi.vote, .int .i64 fi.base, .int .i64 fi.baseTerm, .int .i64 fi.conf.full, .int .i64 fi.conf.wit, .int .i64 fi.conf.learn, .int .i64 fi.conf.learnWit, fs, fl]) h rfl, zB (cs := [v0, .pointer (some ⟨d, 0, none⟩), v2, .pointer (some ⟨q, 0, none⟩), .int .i64 fi.term, .int .i64 fi.vote, .int .i64 fi.base, .int .i64 fi.baseTerm, .int .i64 fi.conf.full, .int .i64 fi.conf.wit, .int .i64 fi.conf.learn, .int .i64 fi.conf.learnWit, fs, fl]) h rfl, zB (cs := [v0, .pointer (some ⟨d, 0, none⟩), v2, .pointer (some ⟨q, 0, none⟩), .int .i64 fi.term, .int .i64 fi.vote, .int .i64 fi.base, .int .i64 fi.baseTerm, .int .i64 fi.conf.full, .int .i64 fi.conf.wit, .int .i64 fi.conf.learn, .int .i64 fi.conf.learnWit, fs, fl]) h rfl, zB (cs := [v0, .pointer (some ⟨d, 0, none⟩), v2, .pointer (some ⟨q, 0, none⟩), .int .i64 fi.term, .int .i64 fi.vote, .int .i64 fi.base, .int .i64 fi.baseTerm, .int .i64 fi.conf.full, .int .i64 fi.conf.wit, .int .i64 fi.conf.learn, .int .i64 fi.conf.learnWit, fs, fl]) h rfl⟩
def Kb (x : Nat) (w w' : World) : Prop := ∀ (b : Nat) (cs : Array Value) (t : TypeId) (p : Nat × Nat), t ≠ 85 → t ≠ 67 → 5 ≠ t → b ≠ x → w.heap[b]? = some (.cells cs t p) → w'.heap[b]? = some (.cells cs t p)
theorem Kb.trans {x : Nat} {w w1 w2 : World} (h : Kb x w w1) (k : Kb x w1 w2) : Kb x w w2 := fun b cs t p h1 h2 h3 h4 h5 => k b cs t p h1 h2 h3 h4 (h b cs t p h1 h2 h3 h4 h5)
def FiM (w : World) (N : Nat) (fi : zC) (fs fl : Value) : Prop := zY w (fun k => k < N) fs fl fi ∧ fi.log.length ≤ 12700
theorem FiM.mod {w w' : World} {N : Nat} {fi : zC} {fs fl : Value} (h : FiM w N fi fs fl) (hM : Mod (fun k => N ≤ k) w w') : FiM w' N fi fs fl := ⟨h.1.mod hM (fun k hk e => by omega), h.2⟩
theorem Dk2.low {w : World} {N d q : Nat} {fv fq : Value} {D E : zJ} (h : Dk2 w N d fv D q fq E) {k : Nat} (hk : k < N) : (k ≠ d ∧ fv.ownBlock ≠ some k) ∧ k ≠ q ∧ fq.ownBlock ≠ some k := ⟨⟨fun e => by have := h.na.1; omega, fun e => by have := h.na.2 k e; omega⟩, fun e => by have := h.nb.1; omega, fun e => by have := h.nb.2 k e; omega⟩
theorem ziK (w : World) (N x d q : Nat) (fi : zC) (fs fl : Value) (D : zJ) (hP : PairD w N x d q fi fs fl D) (hF : FiM w N fi fs fl) (hx : N ≤ x) (h0 : N ≤ w.heap.size) :
  Calls Tryz.prog 24 #[.pointer (some ⟨x, 0, none⟩)] w fun e w' => e = .returned (.bool true) ∧ zeF w' N x d q fi fs fl (yW D fi).1 (yW D fi).2.1 ∧ Mod (fun k => N ≤ k) w w' ∧ Kb x w w' := by
 obtain ⟨fv, fq, v0, v2, hD, hB⟩ := hP
 obtain ⟨R, hR⟩ : ∃ R, yW D fi = R := ⟨_, rfl⟩
 rw [hR]
 have hl := hD.lt
 obtain ⟨c0, c1, c2, c3⟩ := hB.c
 have hxl : x < w.heap.size := (Array.getElem?_eq_some_iff.1 hB).1
 have HD := hJ hD
 have HB := hJ hB
 have HF := hJ hF
 have HR := hJ hR
 have Hl := hJ hl
 clear hD hB hF hR hl
 go_enter Tryz.func24, Tryz.ntmps24
 go_upto_region 1 with fail
 go_cut [3, 4] (fun s3 s4 wx => ∃ fv' va, s3 = va ∧ s4 = .int .i64 R.2.2 ∧ Dk2 wx N d fv' R.1 q fq D ∧ OpA w wx d fv' fq R va ∧ PB wx x d q v0 v2 fi fs fl ∧ Mod (fun k => N ≤ k) w wx ∧ Kb x w wx)
 case first =>
  have hxn := HD.out.da HB.out (by decide) (by decide)
  refine wp_region_held_drew (S := fun W' => Mod (fun k => k = d ∨ fv.ownBlock = some k) w W') (by kernel_rfl) (Mod.refl _ w).drew (fun hS => ?_)
  iterate 7
   first | refine tkI 0 (some 8) rfl rfl ?_ hS ?_ ?_ | refine tkI 1 (some 9) rfl rfl ?_ hS ?_ ?_ | refine tkI 2 (some 10) rfl rfl ?_ hS ?_ ?_ | refine tkI 3 (some 11) rfl rfl ?_ hS ?_ ?_ | refine tkI 4 (some 12) rfl rfl ?_ hS ?_ ?_ | refine tkI 5 (some 13) rfl rfl ?_ hS ?_ ?_ | refine tkI 6 (some 14) rfl rfl ?_ hS ?_ ?_
   rotate_left
   · rintro W' hW'
     have y1 := hW'.cell c1 hxn
     go_simp
     try rfl
   try simp only [pL]
  refine tkH 7 (some 15) rfl rfl (.agg (fi.cells fs fl).toArray) hS ?_ ?_
  · rintro W' hW'
    have y1 := hW'.cell c1 hxn
    exact yD _ _ rfl (.pointer (some ⟨x, 4, none⟩)) _ rfl (zF (P := Tryz.prog) (o := 4) (cs := fi.cells fs fl) zA (hW'.blk HB.out hxn) rfl (fun j u hu => by rw [Nat.add_comm]; exact hu))
  try simp only [pL]
  refine xJ 8 rfl (fun K hK => ?_)
  go_simp
  go_wp2_with fail
  refine (zk2 w.drew (fun k => k < N) d fi fs fl fv D (HD.out.a.ext (Mod.refl _ w).drew) (HF.out.1.mod (Mod.refl (fun _ => False) w).drew (fun _ _ => id)) HF.out.2).mono ?_
  rintro e w2 hO
  rw [HR.out] at hO
  obtain ⟨fv1, va, rfl, hD1, hM1, hA⟩ := (HD.out.ext (Mod.refl (fun _ => False) w).drew).openA hO
  have HD1 := hJ hD1
  have HA : Hid (OpA w w2 d fv1 fq R va) := hJ hA
  clear hD1 hA hO
  have hX := (hS.self hM1)
  go_simp
  refine hK.out _ _ hX (fun hS => ?_)
  clear hK K hX
  try simp only [pL]
  iterate 5
   first | refine tkI 9 (some 7) rfl rfl ?_ hS ?_ ?_ | refine tkI 10 (some 17) rfl rfl ?_ hS ?_ ?_ | refine tkI 11 (some 18) rfl rfl ?_ hS ?_ ?_ | refine tkI 12 (some 3) rfl rfl ?_ hS ?_ ?_ | refine tkI 13 (some 4) rfl rfl ?_ hS ?_ ?_
   rotate_left
   · rintro W' hW'
     have y1 := hW'.cell c1 hxn
     go_simp
     try rfl
   try simp only [pL]
  refine wpAnyH_done (by kernel_rfl) ?_ _
  go_wp2_with fail
  go_meet
  exact ⟨fv1, va, rfl, rfl, HD1.out, HA.out, hS.blk HB.out hxn, hS.mono (fun k _ e => by rcases e with e | e; rw [e]; exact HD.out.na.1; exact HD.out.na.2 k e), fun b cs t p h1 h2 h3 _ h => hS.blk h (HD.out.da h h1 h3)⟩
 obtain ⟨fv1, va, hva, rfl, hD1, hA, hB1, hM1, hK1⟩ := hcut
 have hva := hva.symm
 subst hva
 have hq : wc.heap.size = wc.heap.size := rfl
 obtain ⟨w1, hw1⟩ : ∃ w1, wc = w1 := ⟨_, rfl⟩
 rw [hw1] at hD1 hA hB1 hM1 hK1 ⊢
 obtain ⟨k0, k1, k2, k3⟩ := hB1.c
 have hsz : w.heap.size ≤ w1.heap.size := hM1.size
 have HD1 := hJ hD1
 have HA := hJ hA
 have HB1 := hJ hB1
 have HM1 := hJ hM1
 have HK1 := hJ hK1
 clear hD1 hA hB1 hM1 hK1 hw1 hq c0 c1 c2 c3
 go_upto_region 2 with fail
 go_cut [5, 6] (fun s5 s6 wx => ∃ fq' vb, s5 = vb ∧ s6 = .int .i64 R.2.2 ∧ Dk2 wx N d fv1 R.1 q fq' R.1 ∧ (Mod (fun k => k = q ∨ fq.ownBlock = some k) w1 wx ∧ ∀ k, fq'.ownBlock = some k → fq.ownBlock = some k ∨ w1.heap.size ≤ k) ∧ OpB w1 wx q fv1 fq' R vb ∧ PB wx x d q v0 v2 fi fs fl ∧ Mod (fun k => N ≤ k) w1 wx ∧ Kb x w1 wx)
 case first =>
  have hxq := HD1.out.db HB1.out (by decide) (by decide)
  refine wp_region_held_drew (S := fun W' => Mod (fun k => k = q ∨ fq.ownBlock = some k) w1 W') (by kernel_rfl) (Mod.refl _ w1).drew (fun hS => ?_)
  iterate 7
   first | refine tkI 0 (some 20) rfl rfl ?_ hS ?_ ?_ | refine tkI 1 (some 21) rfl rfl ?_ hS ?_ ?_ | refine tkI 2 (some 22) rfl rfl ?_ hS ?_ ?_ | refine tkI 3 (some 23) rfl rfl ?_ hS ?_ ?_ | refine tkI 4 (some 24) rfl rfl ?_ hS ?_ ?_ | refine tkI 5 (some 25) rfl rfl ?_ hS ?_ ?_ | refine tkI 6 (some 26) rfl rfl ?_ hS ?_ ?_
   rotate_left
   · rintro W' hW'
     have y3 := hW'.cell k3 hxq
     go_simp
     try rfl
   try simp only [pL]
  refine tkH 7 (some 27) rfl rfl (.agg (fi.cells fs fl).toArray) hS ?_ ?_
  · rintro W' hW'
    have y3 := hW'.cell k3 hxq
    exact yD _ _ rfl (.pointer (some ⟨x, 4, none⟩)) _ rfl (zF (P := Tryz.prog) (o := 4) (cs := fi.cells fs fl) zA (hW'.blk HB1.out hxq) rfl (fun j u hu => by rw [Nat.add_comm]; exact hu))
  try simp only [pL]
  refine xJ 8 rfl (fun K hK => ?_)
  go_simp
  go_wp2_with fail
  refine (r10_open w1.drew (fun k => k < N) q fi fs fl fq D (HD1.out.b.ext (Mod.refl _ w1).drew) ((HF.out.mod HM1.out).1.mod (Mod.refl (fun _ => False) w1).drew (fun _ _ => id)) HF.out.2 (fun k hk => (HD1.out.low hk).2)).mono ?_
  rintro e w2 hO
  rw [HR.out] at hO
  obtain ⟨fq1, vb, rfl, hD2, hM2, hf2, hB2⟩ := (HD1.out.ext (Mod.refl (fun _ => False) w1).drew).openB hO
  have HD2 := hJ hD2
  have HBb : Hid (OpB w1 w2 q fv1 fq1 R vb) := hJ hB2
  have Hf2 : Hid (∀ k, fq1.ownBlock = some k → fq.ownBlock = some k ∨ w1.heap.size ≤ k) := hJ hf2
  clear hD2 hB2 hO hf2
  have hX := (hS.self hM2)
  go_simp
  refine hK.out _ _ hX (fun hS => ?_)
  clear hK K hX
  try simp only [pL]
  iterate 5
   first | refine tkI 9 (some 19) rfl rfl ?_ hS ?_ ?_ | refine tkI 10 (some 29) rfl rfl ?_ hS ?_ ?_ | refine tkI 11 (some 30) rfl rfl ?_ hS ?_ ?_ | refine tkI 12 (some 5) rfl rfl ?_ hS ?_ ?_ | refine tkI 13 (some 6) rfl rfl ?_ hS ?_ ?_
   rotate_left
   · rintro W' hW'
     have y3 := hW'.cell k3 hxq
     go_simp
     try rfl
   try simp only [pL]
  refine wpAnyH_done (by kernel_rfl) ?_ _
  go_wp2_with fail
  go_meet
  exact ⟨fq1, vb, rfl, rfl, HD2.out, ⟨hS, Hf2.out⟩, HBb.out, hS.blk HB1.out hxq, hS.mono (fun k _ e => by rcases e with e | e; rw [e]; exact HD1.out.nb.1; exact HD1.out.nb.2 k e), fun b cs t p h1 h2 h3 _ h => hS.blk h (HD1.out.db h h2 h3)⟩
 obtain ⟨fq1, vb, hvb, rfl, hD2, hM2, hBb, hB2, hMn, hKn⟩ := hcut
 have hvb := hvb.symm
 subst hvb
 have hb := zqT (P := fun k => k ≠ x) HA.out hBb HD1.out hD2 h0 (fun k hk => by omega) ⟨Hl.out.1, Hl.out.2.1⟩ hM2.1 hM2.2
 obtain ⟨k0, k1, k2, k3⟩ := hB2.c
 have f0 : wc.frozen? ⟨x, 0, none⟩ = false := zK 0 hB2
 have f2 : wc.frozen? ⟨x, 2, none⟩ = false := zK 2 hB2
 obtain ⟨w5, hw5⟩ : ∃ w5, (wc.setCell ⟨x, 0, none⟩ va).setCell ⟨x, 2, none⟩ vb = w5 := ⟨_, rfl⟩
 have hB5 : PB w5 x d q va vb fi fs fl := by rw [← hw5]; exact yC (yC (cs := [v0, .pointer (some ⟨d, 0, none⟩), v2, .pointer (some ⟨q, 0, none⟩), .int .i64 fi.term, .int .i64 fi.vote, .int .i64 fi.base, .int .i64 fi.baseTerm, .int .i64 fi.conf.full, .int .i64 fi.conf.wit, .int .i64 fi.conf.learn, .int .i64 fi.conf.learnWit, fs, fl]) hB2 0 va) 2 vb
 have hm5 : Mod (fun k => k = x) wc w5 := by rw [← hw5]; exact zO (zO (Mod.refl _ _) _ _) _ _
 have hd5 : Dk2 w5 N d fv1 R.1 q fq1 R.1 := ⟨hD2.a.mod hm5 (fun e => hD2.a.ne hB2 (by decide) e.symm) (fun k hk e => zT hD2.a.2.1 hk hB2 (by decide) e), hD2.b.mod hm5 (fun e => hD2.b.ne hB2 (by decide) e.symm) (fun k hk e => zT hD2.b.2.1 hk hB2 (by decide) e), hD2.na, hD2.nb, hD2.x⟩
 have hM5 : Mod (fun k => N ≤ k) w w5 := (HM1.out.self hMn).self (hm5.mono (fun k _ e => by rw [e]; exact hx))
 have hK5 : Kb x w w5 := (HK1.out.trans hKn).trans (fun b cs t p _ _ _ h4 h => hm5.blk h h4)
 have HK5 := hJ hK5
 have Hd5 := hJ hd5
 have HB5 := hJ hB5
 have HM5 := hJ hM5
 have HW5 := hJ hw5
 rcases hr : R.2.1 with _ | g
 ·
  rw [hr] at hb
  obtain ⟨rfl, rfl, hc⟩ := hb
  have hcb : (R.2.2 != 0) = true := by simpa using hc
  have Hr := hJ hr
  clear hd5 hB5 hM5 hw5 hm5 hK5 hKn hD2 hM2 hBb hB2 hMn hc hr
  go_upto_region 4 with fail
  rw [HW5.out]
  obtain ⟨c, hc⟩ : ∃ c, R.2.2 = c := ⟨_, rfl⟩
  rw [hc] at hcb ⊢
  go_wp2
  go_ret
  exact ⟨rfl, by rw [Hr.out]; exact ⟨fv1, fq1, Hd5.out, HB5.out⟩, HM5.out, HK5.out⟩
 rw [hr] at hb
 obtain ⟨s, gs, gl, r, qs, ql, rfl, rfl, hc, hPr⟩ := hb
 have hPr5 : Pr w5 N (fun k => k ≠ x) s d fv1 gs gl R.1 g r q fq1 qs ql R.1 g :=
  ⟨hd5, hm5.blk hPr.st (fun e => hPr.st.off hB2 (by decide) e.symm), hm5.blk hPr.qt (fun e => hPr.qt.off hB2 (by decide) e.symm), hPr.hs.mod hm5 (fun k hk e => hk.2 e), hPr.hr.mod hm5 (fun k hk e => hk.2 e), hPr.ns, hPr.nr, fun k hk => hPr.hx k (Nat.le_trans hm5.size hk)⟩
 have HPr := hJ hPr5
 rw [hc]
 have Hr := hJ hr
 clear hd5 hB5 hM5 hw5 hm5 hK5 hKn hD2 hM2 hBb hB2 hMn hc hr hPr hPr5
 go_upto_region 4 with fail
 rw [HW5.out]
 go_wp2
 go_ret
 exact ⟨rfl, by rw [Hr.out]; exact ⟨s, fv1, gs, gl, r, fq1, qs, ql, HPr.out, HB5.out⟩, HM5.out, HK5.out⟩
theorem zmP (w : World) (N x d q : Nat) (fi : zC) (fs fl : Value) (D : zJ) (keep : Int) (hP : PairD w N x d q fi fs fl D) (hF : FiM w N fi fs fl) (hx : N ≤ x) (h0 : N ≤ w.heap.size) (hk : -9223372036854775808 ≤ keep ∧ keep ≤ 9223372036854775807) :
  Calls Tryz.prog 27 #[.pointer (some ⟨x, 0, none⟩), .int .i64 keep] w fun e w' => e = .returned (.bool true) ∧ zeF w' N x d q fi fs fl (yW (D.crash keep).start fi).1 (yW (D.crash keep).start fi).2.1 ∧ Mod (fun k => N ≤ k) w w' ∧ Kb x w w' := by
 obtain ⟨fv, fq, v0, v2, hD, hB⟩ := hP
 obtain ⟨c0, c1, c2, c3⟩ := hB.c
 have HD0 := hJ hD
 have HB0 := hJ hB
 have HM0 : Hid (Mod (fun k => N ≤ k) w w) := hJ (Mod.refl _ w)
 have HK0 : Hid (Kb x w w) := hJ (fun _ _ _ _ _ _ _ _ h => h)
 have HF := hJ hF
 clear hD hB hF
 go_enter Tryz.func27, Tryz.ntmps27
 go_wp2_with fail
 refine (zgB w d fv D HD0.out.a keep hk).mono ?_
 rintro e w1 ⟨rfl, hM⟩
 obtain ⟨fv1, h1, h2, h3⟩ := hM
 have HD1 := hJ (HD0.out.dm h1 h2 (fun k e => by rcases e with e | e; exact .inl e; exact .inr (.inl e)) h3)
 have HB1 : Hid (PB w1 x d q v0 v2 fi fs fl) := hJ (h2.blk HB0.out (HD0.out.da HB0.out (by decide) (by decide)))
 have HK1 : Hid (Kb x w w1) := hJ (HK0.out.trans (fun b cs t p k1 k2 k3 _ h => h2.blk h (HD0.out.da h k1 k3)))
 have HM1 := hJ (HM0.out.self (h2.mono (T := fun k => N ≤ k) (fun k _ e => by rcases e with e | e; rw [e]; exact HD0.out.na.1; exact HD0.out.na.2 k e)))
 clear h1 h2 h3 c0 c1 c2 c3
 obtain ⟨c0, c1, c2, c3⟩ := HB1.out.c
 go_wp2_with fail
 refine (ziF w1 q fq D HD1.out.b keep hk).mono ?_
 rintro e w2 ⟨rfl, hM⟩
 obtain ⟨fq1, h1, h2, h3⟩ := hM
 have HD2 := hJ (HD1.out.qm h1 h2 (fun k e => by rcases e with e | e; exact .inl e; exact .inr (.inl e)) h3)
 have HB2 : Hid (PB w2 x d q v0 v2 fi fs fl) := hJ (h2.blk HB1.out (HD1.out.db HB1.out (by decide) (by decide)))
 have HK2 : Hid (Kb x w w2) := hJ (HK1.out.trans (fun b cs t p k1 k2 k3 _ h => h2.blk h (HD1.out.db h k2 k3)))
 have HM2 := hJ (HM1.out.self (h2.mono (T := fun k => N ≤ k) (fun k _ e => by rcases e with e | e; rw [e]; exact HD1.out.nb.1; exact HD1.out.nb.2 k e)))
 clear h1 h2 h3 c0 c1 c2 c3
 obtain ⟨c0, c1, c2, c3⟩ := HB2.out.c
 go_wp2_with fail
 refine (zpW w2 d fv1 _ HD2.out.a).mono ?_
 rintro e w3 ⟨rfl, hD, hm⟩
 obtain ⟨fv2, h1, h2, h3⟩ := dm_of hD hm
 have HD3 := hJ (HD2.out.dm h1 h2 (fun k e => by rcases e with e | e; exact .inl e; exact .inr (.inl e)) h3)
 have HB3 : Hid (PB w3 x d q v0 v2 fi fs fl) := hJ (h2.blk HB2.out (HD2.out.da HB2.out (by decide) (by decide)))
 have HK3 : Hid (Kb x w w3) := hJ (HK2.out.trans (fun b cs t p k1 k2 k3 _ h => h2.blk h (HD2.out.da h k1 k3)))
 have HM3 := hJ (HM2.out.self (h2.mono (T := fun k => N ≤ k) (fun k _ e => by rcases e with e | e; rw [e]; exact HD2.out.na.1; exact HD2.out.na.2 k e)))
 clear h1 h2 h3 c0 c1 c2 c3
 obtain ⟨c0, c1, c2, c3⟩ := HB3.out.c
 go_wp2_with fail
 refine (q_start w3 q fq1 _ HD3.out.b).mono ?_
 rintro e w4 ⟨rfl, hD, hm⟩
 obtain ⟨fq2, h1, h2, h3⟩ := qm_of hD hm
 have HD4 := hJ (HD3.out.qm h1 h2 (fun k e => by rcases e with e | e; exact .inl e; exact .inr (.inl e)) h3)
 have HB4 : Hid (PB w4 x d q v0 v2 fi fs fl) := hJ (h2.blk HB3.out (HD3.out.db HB3.out (by decide) (by decide)))
 have HK4 : Hid (Kb x w w4) := hJ (HK3.out.trans (fun b cs t p k1 k2 k3 _ h => h2.blk h (HD3.out.db h k2 k3)))
 have HM4 := hJ (HM3.out.self (h2.mono (T := fun k => N ≤ k) (fun k _ e => by rcases e with e | e; rw [e]; exact HD3.out.nb.1; exact HD3.out.nb.2 k e)))
 clear h1 h2 h3 c0 c1 c2 c3
 obtain ⟨c0, c1, c2, c3⟩ := HB4.out.c
 clear c0 c1 c2 c3
 go_wp2_with fail
 refine (ziK w4 N x d q fi fs fl _ ⟨_, _, _, _, HD4.out, HB4.out⟩ (HF.out.mod HM4.out) hx (Nat.le_trans h0 HM4.out.size)).mono ?_
 rintro e w5 ⟨rfl, hS, hM, hK⟩
 have HS := hJ hS
 have HM5 := hJ (HM4.out.self hM)
 have HK5 := hJ (HK4.out.trans hK)
 clear hS hM hK
 go_wp2
 go_ret
 exact ⟨rfl, HS.out, HM5.out, HK5.out⟩
end Go.Proofs.YtjhnlncgmejkcaaGreat
namespace Go.Proofs.YtjhnlncgmejkcaaGreat
set_option linter.unusedSimpArgs false
theorem zmQ {r : RS} (h : r.entP.2.e = 0) : r.e = 0 ∧ r.entP.2.left.length + 2 ≤ r.left.length := by
 unfold RS.entP at h ⊢
 simp only at h ⊢
 have hlast : ∀ s : RS, s = r.int.2.int.2 → s.e = 0 → r.e = 0 ∧ s.left.length + 2 ≤ r.left.length := by
  rintro s rfl h
  obtain ⟨h5, l5⟩ := zbH h
  obtain ⟨h6, l6⟩ := zbH h5
  exact ⟨h6, by omega⟩
 split at h
 ·
  rename_i h0
  rw [if_pos h0]
  exact hlast _ rfl h
 rename_i h0
 rw [if_neg h0]
 split at h
 ·
  rename_i h1
  rw [if_pos h1]
  obtain ⟨h2, l2⟩ := zlH h
  obtain ⟨h3, l3⟩ := hlast _ rfl h2
  exact ⟨h3, by simp only; omega⟩
 rename_i h1
 rw [if_neg h1]
 split at h
 ·
  rename_i h2
  rw [if_pos h2]
  obtain ⟨h3, l3⟩ := zlI h
  obtain ⟨h4, l4⟩ := hlast _ rfl h3
  exact ⟨h4, by simp only; omega⟩
 exact absurd h (zfO _)
theorem zmR : ∀ (n : Nat) (r : RS), (zcB n r).2.e = 0 → r.e = 0 ∧ 2 * (zcB n r).1.length ≤ r.left.length
 | 0, r, h => ⟨h, Nat.zero_le _⟩
 | n + 1, r, h => by
  by_cases he : r.e = 0
  ·
   have hs := zcL n he
   rw [hs] at h ⊢
   obtain ⟨h1, h2⟩ := zmR n r.entP.2 h
   obtain ⟨h3, h4⟩ := zmQ h1
   refine ⟨h3, ?_⟩
   simp only [List.length_cons]
   omega
  rw [zdE _ he] at h
  exact absurd h he
theorem done_e {r : RS} (h : r.done = 0) : r.e = 0 := by
 unfold RS.done at h
 split at h
 · cases h
 exact h
theorem zlA {b : List UInt8} {x : zI} (h : jV b = some x) : 2 ≤ b.length := by
 unfold jV at h
 split at h
 ·
  rename_i h0
  have h1 := (zmQ (done_e h0.1)).2
  simp only at h1
  omega
 cases h
theorem zjU {b : List UInt8} {y : zC} (h : jS b = some y) : 2 * y.log.length ≤ b.length ∧ b.length ≤ 16384 := by
 unfold jS at h
 split at h
 ·
  rename_i h0
  obtain ⟨h0, hb⟩ := h0
  have he := done_e h0
  cases h
  unfold RS.hardP RS.listP at he ⊢
  simp only at he ⊢
  obtain ⟨h1, h2⟩ := zmR _ _ he
  refine ⟨?_, hb⟩
  have l0 : ∀ r : RS, r.int.2.left.length ≤ r.left.length := yJ
  have f0 : ∀ (r : RS) (n : Int), (if r.int.1 < 0 ∨ n < r.int.1 then r.int.2.fail 3 else r.int.2).left.length ≤ r.left.length := fun r n => by
   split
   ·
    unfold RS.fail
    split
    · exact l0 r
    exact l0 r
   exact l0 r
  have k1 := f0 ((RS.int ⟨b, 0⟩).2.int.2.int.2.int.2.confP.2.text.2) (b.length : Int)
  have k2 := zbN ((RS.int ⟨b, 0⟩).2.int.2.int.2.int.2.confP.2)
  have k3 := za5 ((RS.int ⟨b, 0⟩).2.int.2.int.2.int.2)
  have k4 := l0 ((RS.int ⟨b, 0⟩).2.int.2.int.2)
  have k5 := l0 ((RS.int ⟨b, 0⟩).2.int.2)
  have k6 := l0 ((RS.int ⟨b, 0⟩).2)
  have k7 := l0 ⟨b, 0⟩
  simp only at k7
  omega
 cases h
def Few (f : List UInt8) (g : zC) : Prop := 12 * g.log.length ≤ f.length + 81920
theorem zlB {h g : zC} {p : List UInt8} (e : yE h p = some g) : 12 * g.log.length ≤ 12 * h.log.length + (zR p).length ∧ Right g := by
 refine ⟨?_, (zgH e).1⟩
 rw [yL]
 cases p with
 | nil => cases e
 | cons c b =>
  rw [yZ] at e
  have e2 : zaB h c.toNat b = some g := by
   unfold xE at e
   split at e
   · cases e
   rename_i y hy
   rw [hy]
   split at e
   · cases e; rfl
   cases e
  unfold zaB at e2
  rw [List.length_cons]
  split at e2
  ·
   split at e2
   · cases e2
   split at e2
   · cases e2
   cases e2; simp only; omega
  split at e2
  ·
   split at e2
   · cases e2
   split at e2
   · cases e2
   cases e2; simp only [List.length_take]; omega
  split at e2
  ·
   split at e2
   · cases e2
   rename_i x hx
   rw [zhZ] at hx
   have := zlA hx
   cases e2
   simp only [List.length_append, List.length_cons, List.length_nil]
   omega
  cases e2
theorem zjV : ∀ {ps : List (List UInt8)} {h g : zC}, xP h ps = some g → Right h → 12 * g.log.length ≤ 12 * h.log.length + (ps.flatMap zR).length ∧ Right g
 | [], h, g, e, hr => by cases e; exact ⟨by simp, hr⟩
 | p :: ps, h, g, e, _ => by
  rw [xP] at e
  rcases hc : yE h p with _ | h'
  · rw [hc] at e; cases e
  rw [hc] at e
  obtain ⟨h1, h2⟩ := zlB hc
  obtain ⟨h3, h4⟩ := zjV e h2
  rw [List.flatMap_cons, List.length_append]
  exact ⟨by omega, h4⟩
theorem made_few {ps : List (List UInt8)} {g : zC} (e : za6 ps = some g) : 12 * g.log.length ≤ (ps.flatMap zR).length + 81920 ∧ Right g := by
 cases ps with
 | nil => cases e
 | cons p ps =>
  rw [za6] at e
  rcases hb : zaK p with _ | h
  · rw [hb] at e; cases e
  rw [hb] at e
  have hl : 12 * h.log.length ≤ (zR p).length + 81920 ∧ Right h := by
   refine ⟨?_, (zjL hb).1⟩
   rw [yL]
   cases p with
   | nil => cases hb
   | cons c b =>
    rw [zc2] at hb
    split at hb
    ·
     unfold xE at hb
     split at hb
     · cases hb
     rename_i y hy
     split at hb
     · cases hb
       rw [zfP] at hy
       have := zjU hy
       rw [List.length_cons]
       omega
     cases hb
    cases hb
  obtain ⟨h3, h4⟩ := zjV e hl.2
  rw [List.flatMap_cons, List.length_append]
  exact ⟨by omega, h4⟩
theorem scan_len (b : List UInt8) : ((yY b).1.flatMap zR).length = (yY b).2 := by
 obtain ⟨n, hn⟩ : ∃ n, b.length = n := ⟨_, rfl⟩
 induction n using Nat.strongRecOn generalizing b with
 | _ n ih =>
  rcases h : xD b with _ | ⟨p, m⟩
  · rw [zb2 h]; rfl
  obtain ⟨h1, h2, _⟩ := zaT h
  rw [zb3 h]
  have := ih (b.drop m).length (by rw [List.length_drop]; omega) (b.drop m) rfl
  rw [List.flatMap_cons, List.length_append, yL]
  omega
theorem zcX {D : zJ} {b : List UInt8} (h : (D.replace b).2 = 0) : (D.replace b).1.file = b ∧ (D.replace b).1.off = D.off := by
 have hc : D.count.1.off = D.off := by unfold zJ.count; split <;> rfl
 unfold zJ.replace at h ⊢
 split at h
 · cases h
 split at h
 · cases h
 split at h
 · cases h
 rename_i h1 h2 h3
 rw [if_neg h1, if_neg h2, if_neg h3]
 exact ⟨rfl, hc⟩
theorem zlC {D : zJ} {b : List UInt8} (h : (D.replace b).2 ≠ 0) (ho : (D.replace b).1.off = false) : (D.replace b).1 = D := by
 unfold zJ.replace at h ho ⊢
 split at h
 · rename_i h1
   rw [if_pos h1]
 rename_i h1
 rw [if_neg h1] at ho ⊢
 split at h
 · rename_i h2
   rw [if_pos h2]
 rename_i h2
 rw [if_neg h2] at ho ⊢
 split at h
 ·
  rename_i h3
  rw [if_pos h3] at ho
  simp only at ho
  unfold zJ.crash at ho
  split at ho
  ·
   rename_i h4
   simp only at ho
   rw [h4] at ho
   cases ho
  simp at ho
 simp at h
theorem zbS {D : zJ} {fi g : zC} (hf : fi.log.length ≤ 200) (h : (yW D fi).2.1 = some g) : Few (yW D fi).1.file g ∧ Right g ∧ (yW D fi).1.off = false := by
 unfold yW at h ⊢
 split at h
 · cases h
 rename_i h1
 rw [if_neg h1]
 have h1 : D.off = false := by simpa using h1
 split at h
 · cases h
 rename_i h2
 rw [if_neg h2]
 have h2 : yG fi = true := by simpa using h2
 split at h
 ·
  rename_i h3
  rw [if_pos h3]
  simp only at h ⊢
  split at h
  ·
   rename_i h4
   cases h
   refine ⟨by unfold Few; omega, (yI _).1 h2, ?_⟩
   unfold xG at h4 ⊢
   split at h4
   · cases h4
   rename_i h5
   rw [if_neg h5, (zcX h4).2, h1]
  cases h
 rename_i h3
 rw [if_neg h3]
 split at h
 · cases h
 rename_i y hy
 have hm := made_few hy
 rw [scan_len] at hm
 split at h
 ·
  rename_i h4
  rw [if_pos h4]
  simp only at h ⊢
  split at h
  ·
   rename_i h5
   cases h
   have h6 := zcX h5
   refine ⟨?_, hm.2, by rw [h6.2, h1]⟩
   unfold Few
   rw [h6.1, List.length_take]
   have := hm.1
   omega
  cases h
 rename_i h4
 rw [if_neg h4]
 cases h
 refine ⟨?_, hm.2, h1⟩
 unfold Few
 have := hm.1
 have := zkC D.file
 simp only
 omega
theorem enc_two (h : zC) : 2 * h.log.length ≤ h.enc.length := by
 have h1 : ∀ l : List zI, 2 * l.length ≤ (l.flatMap xT).length := fun l => by
  induction l with
  | nil => simp
  | cons x l ih =>
   have h2 : 2 ≤ (xT x).length := by
    unfold xT zQ
    have h3 := zfJ 9 (zig x.term)
    have h4 := zfJ 9 (zig x.kind)
    simp only [List.flatMap_cons, List.length_append]
    unfold zS
    omega
   simp only [List.flatMap_cons, List.length_append, List.length_cons]
   omega
 have h2 := h1 h.log
 unfold zC.enc encH zdO
 simp only [List.length_append]
 omega
theorem zjW (D : zJ) (k : Int) : (D.crash k).off = true := by
 unfold zJ.crash
 split
 · rename_i h; simpa using h
 rfl
theorem zmS {D : zJ} {h : zC} (hc : (xG D h).2 = 0) : Few (xG D h).1.file h := by
 unfold xG at hc ⊢
 split at hc
 · cases hc
 rename_i h1
 rw [if_neg h1]
 unfold Few
 rw [(zcX hc).1, yL, List.length_cons]
 have := enc_two h
 omega
theorem zmT {D : zJ} {h : zC} (hc : (xG D h).2 ≠ 0) (ho : (xG D h).1.off = false) : (xG D h).1 = D := by
 unfold xG at hc ho ⊢
 split at hc
 · rename_i h1
   rw [if_pos h1]
 rename_i h1
 rw [if_neg h1] at ho ⊢
 exact zlC hc ho
theorem zjX (D : zJ) (b : List UInt8) : ((D.append b).2 = 0 ∧ (D.append b).1.file = D.file ++ b) ∨ ((D.append b).2 = 5 ∧ (D.append b).1 = D) ∨ ((D.append b).2 = 4 ∧ (D.append b).1.off = true) := by
 unfold zJ.append
 split
 · rename_i h; exact .inr (.inr ⟨rfl, by simpa using h⟩)
 split
 · exact .inr (.inl ⟨rfl, rfl⟩)
 simp only
 split
 · exact .inr (.inr ⟨rfl, zjW _ _⟩)
 refine .inl ⟨rfl, ?_⟩
 unfold zJ.count
 split <;> rfl
theorem znN (D : zJ) : (D.sync.2 = 0 ∧ D.sync.1.file = D.file) ∨ (D.sync.2 = 4 ∧ D.sync.1.off = true) := by
 unfold zJ.sync
 split
 · rename_i h; exact .inr ⟨rfl, by simpa using h⟩
 split
 · exact .inr ⟨rfl, zjW _ _⟩
 refine .inl ⟨rfl, ?_⟩
 show D.count.1.file = D.file
 unfold zJ.count
 split <;> rfl
theorem recs_few (l : List zI) : 12 * l.length ≤ ((l.map ze2).flatMap zR).length := by
 induction l with
 | nil => simp
 | cons x l ih =>
  have h2 : 2 ≤ (xT x).length := by
   unfold xT zQ
   have h3 := zfJ 9 (zig x.term)
   have h4 := zfJ 9 (zig x.kind)
   simp only [List.flatMap_cons, List.length_append]
   unfold zS
   omega
  simp only [List.map_cons, List.flatMap_cons, List.length_append, List.length_cons, yL, ze2]
  omega
theorem more_few (g h : zC) : 12 * h.log.length ≤ 12 * g.log.length + (zaL g h).length := by
 have h1 := recs_few (h.log.drop (zaN h.log g.log))
 have h2 := zeP h.log g.log
 rw [List.length_drop] at h1
 unfold zaL zc5
 rw [List.flatMap_append, List.length_append]
 omega
theorem zqW {D : zJ} {g h : zC} (hf : Few D.file g) (hg : zeQ g) (hh : zeQ h) (ho : (yS D g h).1.off = false) : ((yS D g h).2 = 0 → Few (yS D g h).1.file h) ∧ ((yS D g h).2 ≠ 0 → (yS D g h).1 = D) := by
 unfold yS at ho ⊢
 split
 ·
  rename_i h1
  rw [if_pos h1] at ho
  exact ⟨zmS, fun hc => zmT hc ho⟩
 rename_i h1
 rw [if_neg h1] at ho
 split
 ·
  rename_i h2
  refine ⟨fun _ => ?_, fun hc => absurd rfl hc⟩
  rw [zmO hg hh (by simpa using h1) h2]
  exact hf
 rename_i h2
 rw [if_neg h2] at ho
 have hm := more_few g h
 rcases zjX D (zaL g h) with ⟨a1, a2⟩ | ⟨a1, a2⟩ | ⟨a1, a2⟩
 ·
  rw [if_pos a1] at ho ⊢
  rcases znN (D.append (zaL g h)).1 with ⟨b1, b2⟩ | ⟨_, b2⟩
  ·
   refine ⟨fun _ => ?_, fun hc => absurd b1 hc⟩
   unfold Few at hf ⊢
   rw [b2, a2, List.length_append]
   omega
  rw [b2] at ho; cases ho
 · rw [if_neg (by omega), if_pos a1, a2] at ho ⊢
   exact ⟨zmS, fun hc => zmT hc ho⟩
 rw [if_neg (by omega), if_neg (by omega), a2] at ho
 cases ho
theorem save_few {D : zJ} {g h : zC} (hf : Few D.file g) (hg : zeQ g) (hho : ∀ x ∈ h.log, x.ok) (hhl : h.log.length ≤ 1000000) (ho : (yQ D g h).1.off = false) : Few (yQ D g h).1.file (yQ D g h).2.1 ∧ Right (yQ D g h).2.1 := by
 unfold yQ at ho ⊢
 split
 · exact ⟨hf, hg.1⟩
 rename_i h1
 rw [if_neg h1] at ho
 split
 · exact ⟨hf, hg.1⟩
 rename_i h2
 rw [if_neg h2] at ho
 have hr : Right h := (yI h).1 (by
  rcases hc : yG h with _ | _
  · exact absurd (.inl hc) h2
  rfl)
 have hw := zqW hf hg ⟨hr, hho, zb9 hr.c, hhl⟩ ho
 simp only at ho ⊢
 by_cases hc : (yS D g h).2 = 0
 · rw [if_pos hc]
   exact ⟨hw.1 hc, hr⟩
 rw [if_neg hc, hw.2 hc]
 exact ⟨hf, hg.1⟩
theorem zgO (D : zJ) (k : Int) : (D.crash k).start.off = false := rfl
end Go.Proofs.YtjhnlncgmejkcaaGreat
