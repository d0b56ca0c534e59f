/-
 Plain laws for the statements of layer 7; a store into a box of another type leaves what one owns. Conditions: as each theorem names them.
-/
import Derived.Test.YtbclnghbgoblcaaGreatSesLib
import Derived.Test.YtbclnghbgoblcaaGreatKvMore
namespace Go.Proofs.YtbclnghbgoblcaaGreat
set_option linter.unusedSimpArgs false
open Go.RowKit

theorem eqSess_refl (s : ASess) : eqSess s s = true := by simp [eqSess, eqReply_refl]
theorem eqM_refl (m : AMach) : eqM m m = true :=
 eqM_yes (eqPrs_refl _) ((eqL_iff _ _ _).2 ⟨rfl, fun i x y hx hy => by rw [hx] at hy; cases hy; exact eqSess_refl _⟩)
theorem chkM_ok {m : AMach} (h : machB m = true) : chkM m = 0 := by unfold chkM; rw [h]; rfl
theorem chkM_bad {m : AMach} (h : machB m = false) : chkM m = 6 := by unfold chkM; rw [h]; rfl
/-- Calls of two clients on unlike keys may be done in any order. -/
theorem once_comm {m : AMach} {a b : ACall} (hm : machB m = true) (hp : m.pairs.length ≤ 30) (hc : a.client ≠ b.client) (hk : eqT a.cmd.key b.cmd.key = false) :
  (onceP (onceP m a).1 b).1 = (onceP (onceP m b).1 a).1 ∧ (onceP m a).2 = (onceP (onceP m b).1 a).2 ∧ (onceP (onceP m a).1 b).2 = (onceP m b).2 := by
 have hma := once_right a hm
 have hmb := once_right b hm
 have hla : lastS (onceP m b).1.sess a.client = lastS m.sess a.client := once_other hm (fun e => hc e.symm)
 have hlb : lastS (onceP m a).1.sess b.client = lastS m.sess b.client := once_other hm hc
 -- a call that does nothing does nothing in any machine where its client's last number is the same
 have stay : ∀ (m m' : AMach) (c : ACall), machB m = true → machB m' = true → lastS m'.sess c.client = lastS m.sess c.client → (onceP m c).1 = m → ¬ (callE c = 0 ∧ (lastS m.sess c.client).1 < c.seq) → (onceP m' c).1 = m' ∧ (onceP m' c).2 = (onceP m c).2 := by
  intro m m' c h1 h2 hl _ hn
  unfold onceP
  by_cases h0 : callE c = 0
  case neg => rw [if_pos h0, if_pos h0]; exact ⟨rfl, rfl⟩
  simp only [ne_eq, h0, not_true_eq_false, if_false, h1, h2, Bool.true_eq_false, hl]
  by_cases he : c.seq = (lastS m.sess c.client).1
  ·
   rw [if_pos he, if_pos he]; exact ⟨rfl, rfl⟩
  rw [if_neg he, if_neg he]
  by_cases hlt : c.seq < (lastS m.sess c.client).1
  ·
   rw [if_pos hlt, if_pos hlt]; exact ⟨rfl, rfl⟩
  ·
   exact absurd ⟨h0, by omega⟩ hn
 have act : ∀ (m : AMach) (c : ACall), machB m = true → (callE c = 0 ∧ (lastS m.sess c.client).1 < c.seq) → onceP m c = (⟨(doP m.pairs c.cmd).1, setS ⟨c.client, c.seq, (doP m.pairs c.cmd).2⟩ false m.sess⟩, (doP m.pairs c.cmd).2) := by
  intro m c h1 ⟨h2, h3⟩
  unfold onceP
  rw [if_neg (by simpa using h2), h1, if_neg (by simp), if_neg (by omega), if_neg (by omega)]
 have still : ∀ (m : AMach) (c : ACall), machB m = true → ¬ (callE c = 0 ∧ (lastS m.sess c.client).1 < c.seq) → (onceP m c).1 = m := by
  intro m c h1 h2
  rcases once_form c h1 with h | h
  ·
   exact h.1
  ·
   exact absurd ⟨h.1, h.2.1⟩ h2
 by_cases ha : callE a = 0 ∧ (lastS m.sess a.client).1 < a.seq
 ·
  by_cases hb : callE b = 0 ∧ (lastS m.sess b.client).1 < b.seq
  ·
   have ea := act m a hm ha
   have eb := act m b hm hb
   have eab := act (onceP m a).1 b hma (by rw [hlb]; exact hb)
   have eba := act (onceP m b).1 a hmb (by rw [hla]; exact ha)
   rw [ea] at eab
   rw [eb] at eba
   have hpp : pairsB m.pairs = true := by unfold machB at hm; rw [Bool.and_eq_true] at hm; exact hm.1
   obtain ⟨d1, d2, d3⟩ := do_parts (a := a.cmd) (b := b.cmd) hpp hp hk
   simp only at eab eba
   rw [ea, eb]
   simp only
   rw [eab, eba]
   simp only
   refine ⟨?_, d2, d3⟩
   rw [d1, d3, ← d2, setS_comm (mach_srt hm) (fun e => hc e.symm)]
  ·
   have sb := still m b hm hb
   rw [sb]
   have := stay m (onceP m a).1 b hm hma hlb sb hb
   exact ⟨this.1, rfl, this.2⟩
 ·
  have sa := still m a hm ha
  rw [sa]
  have := stay m (onceP m b).1 a hm hmb hla sa ha
  exact ⟨this.1.symm, this.2.symm, rfl⟩
end Go.Proofs.YtbclnghbgoblcaaGreat
