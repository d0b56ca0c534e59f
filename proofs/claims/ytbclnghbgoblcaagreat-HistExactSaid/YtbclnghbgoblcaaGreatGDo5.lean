/-
 The contract of the page's Do. Conditions: as each theorem names them.
 The contract of the page's Do, what is done. Conditions: as each theorem names them.
 The contract of the page's Do, where pairs turn; and whole. Conditions: as each theorem names them.
-/
import Derived.Test.YtbclnghbgoblcaaGreatKvSet
import Derived.Test.YtbclnghbgoblcaaGreatGGet
import Derived.Test.YtbclnghbgoblcaaGreatGCmd
import Derived.Deep.DeepCutAuto
import Derived.Deep.CutBlock
import Derived.Deep.RegionHeld3
import Derived.StillTailTactics
namespace Go.Proofs.YtbclnghbgoblcaaGreat
set_option linter.unusedSimpArgs false
open Go.RowKit

/-- What a Do tells: pairs of its own, and a reply. -/
def DoOut (w : World) (l : List APair) (r : AReply) (e : Ending) (w' : World) : Prop :=
 ∃ v', e = .returned (.tuple #[v', .agg #[.int .i64 r.code, .int .i64 r.val.kind, .float .f64 r.val.num, .string r.val.text]]) ∧ NewP w w' v' l ∧ Ext w w'
theorem newP_mod {W w1 w2 : World} {S : Nat → Prop} {v : Value} {l : List APair} (h : NewP W w1 v l) (hm : Mod S w1 w2) (hd : ∀ g, v.ownBlock = some g → ¬ S g) : NewP W w2 v l :=
 ⟨own_mod h.1 hm hd, h.2.1, h.2.2⟩
theorem newP_up {W w0 w1 : World} {v : Value} {l : List APair} (h : NewP w0 w1 v l) (hs : W.heap.size ≤ w0.heap.size) : NewP W w1 v l :=
 ⟨h.1, h.2.1, fun g hg => Nat.le_trans hs (h.2.2 g hg)⟩
theorem blk_cell {w : World} {b j : Nat} {cs : List Value} {t : TypeId} {u : Value} (h : w.heap[b]? = some (.cells cs.toArray t (0, 0))) (hj : cs[j]? = some u) : w.cell? ⟨b, j, none⟩ = some u := by
 simp [World.cell?, h, hj]
theorem blk_free {w : World} {b : Nat} {cs : Array Value} {t : TypeId} (j : Nat) (h : w.heap[b]? = some (.cells cs t (0, 0))) : w.frozen? ⟨b, j, none⟩ = false := by
 simp [World.frozen?, h]
theorem doOut_of {w W0 w2 w' : World} {b : Nat} {v : Value} {l : List APair} {r : AReply} {e : Ending} (hN : NewP W0 w2 v l) (hE : Ext w w2) (hm : Mod (fun k => k = b + 1) w2 w') (hb : b + 1 < W0.heap.size) (hz : b ≥ w.heap.size)
  (he : e = .returned (.tuple #[v, .agg #[.int .i64 r.code, .int .i64 r.val.kind, .float .f64 r.val.num, .string r.val.text]])) : DoOut w l r e w' :=
 ⟨v, he, newP_up (newP_mod hN hm (fun g hg h => by have := hN.2.2 g hg; omega)) (by omega), Mod.toExt ((hE.mod (Since w.heap.size)).trans hm (fun k _ h => by unfold Since; omega))⟩
theorem mod_same {a w : World} {b : Nat} (h : Mod (fun k => k = b) a w) (j : Nat) (u : Value) : Mod (fun k => k = b) a (w.setCell ⟨b, j, none⟩ u) := h.setCell (p := ⟨b, j, none⟩) (.inr rfl) u
theorem two_new (w : World) (o p : Obj) : ((w.alloc o).alloc p).heap[w.heap.size]? = some o ∧ ((w.alloc o).alloc p).heap[w.heap.size + 1]? = some p ∧ ((w.alloc o).alloc p).heap.size = w.heap.size + 2 := by
 refine ⟨?_, ?_, by simp⟩
 ·
  rw [Below.heap_alloc _ _ _ (by simp)]; exact heap_alloc_new w _
 ·
  have := heap_alloc_new (w.alloc o) p; simpa using this

set_option maxRecDepth 100000 in
set_option maxHeartbeats 4000000 in
theorem r_do_bad (w : World) (T : Nat → Prop) (v : Value) (l : List APair) (c : ACmd) (h : Prs w T v l) (hl : l.length ≤ 1000000) (n : Int) (hn : n ≠ 0) (hc : cmdE c = n ∨ (cmdE c = 0 ∧ pairsB l = false ∧ n = 6)) :
  Calls Tryz.prog 36 #[v, .agg #[.int .i64 c.kind, .string c.key, .int .i64 c.old.kind, .float .f64 c.old.num, .string c.old.text, .int .i64 c.val.kind, .float .f64 c.val.num, .string c.val.text]] w (DoOut w l ⟨n, AVal.zero⟩) := by
 have dn : (n != 0) = true := by simpa using hn
 rcases hc with hc | ⟨hc, hp, rfl⟩
 ·
  have dc : (n == 0) = false := by simpa using hn
  clear hn
  go_enter Tryz.func36, Tryz.ntmps36
  go_wp2_with fail
  obtain ⟨W0, hW0⟩ : ∃ W0, W0 = (w.alloc (.cells #[.int .i64 c.kind, .string c.key, .int .i64 c.old.kind, .float .f64 c.old.num, .string c.old.text, .int .i64 c.val.kind, .float .f64 c.val.num, .string c.val.text] 42)).alloc (.cells #[.int .i64 0, .int .i64 0, .float .f64 0, .string ⟨#[]⟩] 46) := ⟨_, rfl⟩
  obtain ⟨b3, hb3⟩ : ∃ b3, b3 = w.heap.size := ⟨_, rfl⟩
  obtain ⟨hB3, hB5, hZ0⟩ := two_new w (.cells #[.int .i64 c.kind, .string c.key, .int .i64 c.old.kind, .float .f64 c.old.num, .string c.old.text, .int .i64 c.val.kind, .float .f64 c.val.num, .string c.val.text] 42) (.cells #[.int .i64 0, .int .i64 0, .float .f64 0, .string ⟨#[]⟩] 46)
  have hE : Ext w W0 := by rw [hW0]; exact ((Mod.refl _ w).alloc _).alloc _
  rw [← hW0, ← hb3] at hB3 hB5 hZ0 ⊢
  have hZ : w.heap.size ≤ b3 := Nat.le_of_eq hb3.symm
  have Hb3 := Lib.hid hb3
  have HW0 := Lib.hid hW0
  have hw0 : b3 + 1 < W0.heap.size := by omega
  have hw0' : b3 < W0.heap.size := by omega
  clear hW0 hb3
  obtain ⟨k0, k1, k2, k3, k4, k5, k6, k7⟩ := cq8 hB3
  obtain ⟨g0, g1, g2, g3⟩ := cq4 hB5
  have f0 : W0.frozen? ⟨b3 + 1, 0, none⟩ = false := blk_free 0 hB5
  have f1 : W0.frozen? ⟨b3 + 1, 1, none⟩ = false := blk_free 1 hB5
  have f2 : W0.frozen? ⟨b3 + 1, 2, none⟩ = false := blk_free 2 hB5
  have f3 : W0.frozen? ⟨b3 + 1, 3, none⟩ = false := blk_free 3 hB5
  have HB3 := Lib.hid hB3
  have HB5 := Lib.hid hB5
  have h2 := h.ext hE
  clear hB3 hB5 hZ0
  refine (k_twinPairs _ T v l h2 hl).mono ?_
  rintro e w1 ⟨vs, rfl, hN, hE1⟩
  obtain ⟨hc1, hf1⟩ := bcell hE1
  have hz1 := hE1.size
  have p0 : b3 < w1.heap.size := by omega
  have p1 : b3 + 1 < w1.heap.size := by omega
  have HE1 := Lib.hid (hE.ext hE1)
  have HF1 := Lib.hid hE1
  have HN := Lib.hid hN
  have h3 := h2.ext hE1
  clear hN hE1
  go_wp2_with fail
  refine (r_cmd c _).mono ?_
  rintro e w2 ⟨rfl, hE2⟩
  obtain ⟨hc2, hf2⟩ := bcell hE2
  have hz2 := hE2.size
  have p2 : b3 < w2.heap.size := by omega
  have p3 : b3 + 1 < w2.heap.size := by omega
  have HE2 := Lib.hid (HE1.out.ext hE2)
  have HF2 := Lib.hid (HF1.out.ext hE2)
  have HN2 := Lib.hid (newP_mod HN.out hE2 (fun _ _ => id))
  have h4 := h3.ext hE2
  clear hE2
  rw [hc]
  clear hc
  go_wp2
  refine bodyPost_ret (v := .tuple #[vs, .agg #[.int .i64 n, .int .i64 0, .float .f64 0, .string ⟨#[]⟩]]) (by simp [results, Tryz.results36, go_sem, g0, g1, g2, g3, hc1, hc2, p0, p1, p2, p3, hw0]) rfl ?_
  refine doOut_of (r := ⟨n, AVal.zero⟩) HN2.out HE2.out ?_ hw0 hZ rfl
  repeat (first | refine mod_same ?_ _ _ | refine Mod.drew ?_)
  exact Mod.refl _ _
 ·
  clear hn
  go_enter Tryz.func36, Tryz.ntmps36
  go_wp2_with fail
  obtain ⟨W0, hW0⟩ : ∃ W0, W0 = (w.alloc (.cells #[.int .i64 c.kind, .string c.key, .int .i64 c.old.kind, .float .f64 c.old.num, .string c.old.text, .int .i64 c.val.kind, .float .f64 c.val.num, .string c.val.text] 42)).alloc (.cells #[.int .i64 0, .int .i64 0, .float .f64 0, .string ⟨#[]⟩] 46) := ⟨_, rfl⟩
  obtain ⟨b3, hb3⟩ : ∃ b3, b3 = w.heap.size := ⟨_, rfl⟩
  obtain ⟨hB3, hB5, hZ0⟩ := two_new w (.cells #[.int .i64 c.kind, .string c.key, .int .i64 c.old.kind, .float .f64 c.old.num, .string c.old.text, .int .i64 c.val.kind, .float .f64 c.val.num, .string c.val.text] 42) (.cells #[.int .i64 0, .int .i64 0, .float .f64 0, .string ⟨#[]⟩] 46)
  have hE : Ext w W0 := by rw [hW0]; exact ((Mod.refl _ w).alloc _).alloc _
  rw [← hW0, ← hb3] at hB3 hB5 hZ0 ⊢
  have hZ : w.heap.size ≤ b3 := Nat.le_of_eq hb3.symm
  have Hb3 := Lib.hid hb3
  have HW0 := Lib.hid hW0
  have hw0 : b3 + 1 < W0.heap.size := by omega
  have hw0' : b3 < W0.heap.size := by omega
  clear hW0 hb3
  obtain ⟨k0, k1, k2, k3, k4, k5, k6, k7⟩ := cq8 hB3
  obtain ⟨g0, g1, g2, g3⟩ := cq4 hB5
  have f0 : W0.frozen? ⟨b3 + 1, 0, none⟩ = false := blk_free 0 hB5
  have f1 : W0.frozen? ⟨b3 + 1, 1, none⟩ = false := blk_free 1 hB5
  have f2 : W0.frozen? ⟨b3 + 1, 2, none⟩ = false := blk_free 2 hB5
  have f3 : W0.frozen? ⟨b3 + 1, 3, none⟩ = false := blk_free 3 hB5
  have HB3 := Lib.hid hB3
  have HB5 := Lib.hid hB5
  have h2 := h.ext hE
  clear hB3 hB5 hZ0
  refine (k_twinPairs _ T v l h2 hl).mono ?_
  rintro e w1 ⟨vs, rfl, hN, hE1⟩
  obtain ⟨hc1, hf1⟩ := bcell hE1
  have hz1 := hE1.size
  have p0 : b3 < w1.heap.size := by omega
  have p1 : b3 + 1 < w1.heap.size := by omega
  have HE1 := Lib.hid (hE.ext hE1)
  have HF1 := Lib.hid hE1
  have HN := Lib.hid hN
  have h3 := h2.ext hE1
  clear hN hE1
  go_wp2_with fail
  refine (r_cmd c _).mono ?_
  rintro e w2 ⟨rfl, hE2⟩
  obtain ⟨hc2, hf2⟩ := bcell hE2
  have hz2 := hE2.size
  have p2 : b3 < w2.heap.size := by omega
  have p3 : b3 + 1 < w2.heap.size := by omega
  have HE2 := Lib.hid (HE1.out.ext hE2)
  have HF2 := Lib.hid (HF1.out.ext hE2)
  have HN2 := Lib.hid (newP_mod HN.out hE2 (fun _ _ => id))
  have h4 := h3.ext hE2
  clear hE2
  rw [hc]
  clear hc
  go_wp2_with fail
  refine (r_pairs _ T v l h4).mono ?_
  rintro e w3 ⟨rfl, hE3⟩
  obtain ⟨hc3, hf3⟩ := bcell hE3
  have hz3 := hE3.size
  have p4 : b3 < w3.heap.size := by omega
  have p5 : b3 + 1 < w3.heap.size := by omega
  have HE3 := Lib.hid (HE2.out.ext hE3)
  have HF3 := Lib.hid (HF2.out.ext hE3)
  have HN3 := Lib.hid (newP_mod HN2.out hE3 (fun _ _ => id))
  have h5 := h4.ext hE3
  clear hE3
  rw [hp]
  clear hp
  go_wp2
  refine bodyPost_ret (v := .tuple #[vs, .agg #[.int .i64 6, .int .i64 0, .float .f64 0, .string ⟨#[]⟩]]) (by simp [results, Tryz.results36, go_sem, g0, g1, g2, g3, hc1, hc2, hc3, p0, p1, p2, p3, p4, p5, hw0]) rfl ?_
  refine doOut_of (r := ⟨6, AVal.zero⟩) HN3.out HE3.out ?_ hw0 hZ rfl
  repeat (first | refine mod_same ?_ _ _ | refine Mod.drew ?_)
  exact Mod.refl _ _
end Go.Proofs.YtbclnghbgoblcaaGreat

namespace Go.Proofs.YtbclnghbgoblcaaGreat
set_option linter.unusedSimpArgs false
open Go.RowKit

/-- The three values that a Do keeps: what was there, what is next, what is told. -/
structure DoS (W0 : World) (v n t : AVal) (vs : Value) (l : List APair) (r p q : Nat) (wx : World) : Prop where
 ext : Ext W0 wx
 br : wx.heap[r]? = some (.cells #[.int .i64 v.kind, .float .f64 v.num, .string v.text] 40 (0, 0))
 bp : wx.heap[p]? = some (.cells #[.int .i64 n.kind, .float .f64 n.num, .string n.text] 40 (0, 0))
 bq : wx.heap[q]? = some (.cells #[.int .i64 t.kind, .float .f64 t.num, .string t.text] 40 (0, 0))
 r0 : W0.heap.size ≤ r
 p0 : W0.heap.size ≤ p
 q0 : W0.heap.size ≤ q
 rp : r ≠ p
 rq : r ≠ q
 pq : p ≠ q
 own : NewP W0 wx vs l
 far : ∀ g, vs.ownBlock = some g → g ≠ r ∧ g ≠ p ∧ g ≠ q
theorem three_new (w : World) (o p q : Obj) : (((w.alloc o).alloc p).alloc q).heap[w.heap.size]? = some o ∧ (((w.alloc o).alloc p).alloc q).heap[w.heap.size + 1]? = some p ∧ (((w.alloc o).alloc p).alloc q).heap[w.heap.size + 1 + 1]? = some q := by
 obtain ⟨h1, h2, h3⟩ := two_new w o p
 refine ⟨?_, ?_, ?_⟩
 ·
  rw [Below.heap_alloc _ _ _ (by omega)]; exact h1
 ·
  rw [Below.heap_alloc _ _ _ (by omega)]; exact h2
 ·
  have := heap_alloc_new ((w.alloc o).alloc p) q; simpa using this

theorem doS_start {W0 w4 : World} {x : AVal} {vs : Value} {l : List APair} (hE : Ext W0 w4) (hN : NewP W0 w4 vs l) :
  DoS W0 x x x vs l w4.heap.size (w4.heap.size + 1) (w4.heap.size + 1 + 1) (((w4.alloc (.cells #[.int .i64 x.kind, .float .f64 x.num, .string x.text] 40)).alloc (.cells #[.int .i64 x.kind, .float .f64 x.num, .string x.text] 40)).alloc (.cells #[.int .i64 x.kind, .float .f64 x.num, .string x.text] 40)).drew ∧
  DoS W0 x x x vs l w4.heap.size (w4.heap.size + 1 + 1) (w4.heap.size + 1) (((w4.alloc (.cells #[.int .i64 x.kind, .float .f64 x.num, .string x.text] 40)).alloc (.cells #[.int .i64 x.kind, .float .f64 x.num, .string x.text] 40)).alloc (.cells #[.int .i64 x.kind, .float .f64 x.num, .string x.text] 40)).drew := by
 obtain ⟨h1, h2, h3⟩ := three_new w4 (.cells #[.int .i64 x.kind, .float .f64 x.num, .string x.text] 40) (.cells #[.int .i64 x.kind, .float .f64 x.num, .string x.text] 40) (.cells #[.int .i64 x.kind, .float .f64 x.num, .string x.text] 40)
 have hE2 : Ext w4 (((w4.alloc (.cells #[.int .i64 x.kind, .float .f64 x.num, .string x.text] 40)).alloc (.cells #[.int .i64 x.kind, .float .f64 x.num, .string x.text] 40)).alloc (.cells #[.int .i64 x.kind, .float .f64 x.num, .string x.text] 40)).drew := ((((Mod.refl _ w4).alloc _).alloc _).alloc _).drew
 have hs := hE.size
 have hlt : ∀ g, vs.ownBlock = some g → g < w4.heap.size := fun g hg => (hN.1.lt g hg).2
 have hN2 := newP_mod hN hE2 (fun _ _ => id)
 exact ⟨⟨hE.ext hE2, h1, h2, h3, hs, by omega, by omega, by omega, by omega, by omega, hN2, fun g hg => by have := hlt g hg; omega⟩,
  ⟨hE.ext hE2, h1, h3, h2, hs, by omega, by omega, by omega, by omega, by omega, hN2, fun g hg => by have := hlt g hg; omega⟩⟩
/-- A value is stored over another one. -/
theorem val_set {w : World} {b : Nat} {y : AVal} (x : AVal) (h : w.heap[b]? = some (.cells #[.int .i64 y.kind, .float .f64 y.num, .string y.text] 40 (0, 0))) :
  (((w.setCell ⟨b, 0, none⟩ (.int .i64 x.kind)).setCell ⟨b, 1, none⟩ (.float .f64 x.num)).setCell ⟨b, 2, none⟩ (.string x.text)).heap[b]? = some (.cells #[.int .i64 x.kind, .float .f64 x.num, .string x.text] 40 (0, 0)) := by
 simp [World.setCell, Array.getElem?_modify, h]
theorem val_set_mod (w : World) (b : Nat) (x y z : Value) : Mod (fun k => k = b) w (((w.setCell ⟨b, 0, none⟩ x).setCell ⟨b, 1, none⟩ y).setCell ⟨b, 2, none⟩ z) :=
 mod_same (mod_same (mod_same (Mod.refl _ w) _ _) _ _) _ _
theorem DoS.next {W0 wx : World} {v n t : AVal} {vs : Value} {l : List APair} {r p q : Nat} (h : DoS W0 v n t vs l r p q wx) (x : AVal) :
  DoS W0 v x t vs l r p q (((wx.setCell ⟨p, 0, none⟩ (.int .i64 x.kind)).setCell ⟨p, 1, none⟩ (.float .f64 x.num)).setCell ⟨p, 2, none⟩ (.string x.text)) := by
 have hm := val_set_mod wx p (.int .i64 x.kind) (.float .f64 x.num) (.string x.text)
 have := h.p0
 exact ⟨h.ext.trans (hm.mono (T := Since W0.heap.size) (fun k _ e => by rw [e]; exact this)) (fun k hk hS => by have : W0.heap.size ≤ k := hS; omega), hm.blk h.br h.rp, val_set x h.bp, hm.blk h.bq (Ne.symm h.pq), h.r0, h.p0, h.q0, h.rp, h.rq, h.pq,
  newP_mod h.own hm (fun g hg e => (h.far g hg).2.1 e), h.far⟩
theorem DoS.told {W0 wx : World} {v n t : AVal} {vs : Value} {l : List APair} {r p q : Nat} (h : DoS W0 v n t vs l r p q wx) (x : AVal) :
  DoS W0 v n x vs l r p q (((wx.setCell ⟨q, 0, none⟩ (.int .i64 x.kind)).setCell ⟨q, 1, none⟩ (.float .f64 x.num)).setCell ⟨q, 2, none⟩ (.string x.text)) := by
 have hm := val_set_mod wx q (.int .i64 x.kind) (.float .f64 x.num) (.string x.text)
 have := h.q0
 exact ⟨h.ext.trans (hm.mono (T := Since W0.heap.size) (fun k _ e => by rw [e]; exact this)) (fun k hk hS => by have : W0.heap.size ≤ k := hS; omega), hm.blk h.br h.rq, hm.blk h.bp h.pq, val_set x h.bq, h.r0, h.p0, h.q0, h.rp, h.rq, h.pq,
  newP_mod h.own hm (fun g hg e => (h.far g hg).2.2 e), h.far⟩
theorem DoS.mod {W0 wx wy : World} {v n t : AVal} {vs : Value} {l : List APair} {r p q : Nat} (h : DoS W0 v n t vs l r p q wx) (hE : Ext wx wy) : DoS W0 v n t vs l r p q wy :=
 ⟨h.ext.ext hE, hE.blk h.br id, hE.blk h.bp id, hE.blk h.bq id, h.r0, h.p0, h.q0, h.rp, h.rq, h.pq, newP_mod h.own hE (fun _ _ => id), h.far⟩


set_option maxRecDepth 100000 in
set_option maxHeartbeats 4000000 in
theorem r_do_get (w : World) (T : Nat → Prop) (v : Value) (l : List APair) (c : ACmd) (h : Prs w T v l) (hl : l.length ≤ 1000000) (hc : cmdE c = 0) (hp : pairsB l = true) (x : AVal) (hx : getP l c.key = x) (hk : c.kind = 1) :
  Calls Tryz.prog 36 #[v, .agg #[.int .i64 c.kind, .string c.key, .int .i64 c.old.kind, .float .f64 c.old.num, .string c.old.text, .int .i64 c.val.kind, .float .f64 c.val.num, .string c.val.text]] w (DoOut w l ⟨0, x⟩) := by
 have d1 : (c.kind == 1) = true := by simpa using hk
 clear hk
 go_enter Tryz.func36, Tryz.ntmps36
 go_wp2_with fail
 obtain ⟨W0, hW0⟩ : ∃ W0, W0 = (w.alloc (.cells #[.int .i64 c.kind, .string c.key, .int .i64 c.old.kind, .float .f64 c.old.num, .string c.old.text, .int .i64 c.val.kind, .float .f64 c.val.num, .string c.val.text] 42)).alloc (.cells #[.int .i64 0, .int .i64 0, .float .f64 0, .string ⟨#[]⟩] 46) := ⟨_, rfl⟩
 obtain ⟨b3, hb3⟩ : ∃ b3, b3 = w.heap.size := ⟨_, rfl⟩
 obtain ⟨hB3, hB5, hZ0⟩ := two_new w (.cells #[.int .i64 c.kind, .string c.key, .int .i64 c.old.kind, .float .f64 c.old.num, .string c.old.text, .int .i64 c.val.kind, .float .f64 c.val.num, .string c.val.text] 42) (.cells #[.int .i64 0, .int .i64 0, .float .f64 0, .string ⟨#[]⟩] 46)
 have hE : Ext w W0 := by rw [hW0]; exact ((Mod.refl _ w).alloc _).alloc _
 rw [← hW0, ← hb3] at hB3 hB5 hZ0 ⊢
 have hZ : w.heap.size ≤ b3 := Nat.le_of_eq hb3.symm
 have Hb3 := Lib.hid hb3
 have HW0 := Lib.hid hW0
 have hw0 : b3 + 1 < W0.heap.size := by omega
 have hw0' : b3 < W0.heap.size := by omega
 clear hW0 hb3
 obtain ⟨k0, k1, k2, k3, k4, k5, k6, k7⟩ := cq8 hB3
 obtain ⟨g0, g1, g2, g3⟩ := cq4 hB5
 have f0 : W0.frozen? ⟨b3 + 1, 0, none⟩ = false := blk_free 0 hB5
 have f1 : W0.frozen? ⟨b3 + 1, 1, none⟩ = false := blk_free 1 hB5
 have f2 : W0.frozen? ⟨b3 + 1, 2, none⟩ = false := blk_free 2 hB5
 have f3 : W0.frozen? ⟨b3 + 1, 3, none⟩ = false := blk_free 3 hB5
 have HB3 := Lib.hid hB3
 have HB5 := Lib.hid hB5
 have h2 := h.ext hE
 clear hB3 hB5 hZ0
 refine (k_twinPairs _ T v l h2 hl).mono ?_
 rintro e w1 ⟨vs, rfl, hN, hE1⟩
 obtain ⟨hc1, hf1⟩ := bcell hE1
 have hz1 := hE1.size
 have p0 : b3 < w1.heap.size := by omega
 have p1 : b3 + 1 < w1.heap.size := by omega
 have HE1 := Lib.hid (hE.ext hE1)
 have HF1 := Lib.hid hE1
 have HN := Lib.hid hN
 have h3 := h2.ext hE1
 clear hN hE1
 go_wp2_with fail
 refine (r_cmd c _).mono ?_
 rintro e w2 ⟨rfl, hE2⟩
 obtain ⟨hc2, hf2⟩ := bcell hE2
 have hz2 := hE2.size
 have p2 : b3 < w2.heap.size := by omega
 have p3 : b3 + 1 < w2.heap.size := by omega
 have HE2 := Lib.hid (HE1.out.ext hE2)
 have HF2 := Lib.hid (HF1.out.ext hE2)
 have HN2 := Lib.hid (newP_mod HN.out hE2 (fun _ _ => id))
 have h4 := h3.ext hE2
 clear hE2
 rw [hc]
 clear hc
 go_wp2_with fail
 refine (r_pairs _ T v l h4).mono ?_
 rintro e w3 ⟨rfl, hE3⟩
 obtain ⟨hc3, hf3⟩ := bcell hE3
 have hz3 := hE3.size
 have p4 : b3 < w3.heap.size := by omega
 have p5 : b3 + 1 < w3.heap.size := by omega
 have HE3 := Lib.hid (HE2.out.ext hE3)
 have HF3 := Lib.hid (HF2.out.ext hE3)
 have HN3 := Lib.hid (newP_mod HN2.out hE3 (fun _ _ => id))
 have h5 := h4.ext hE3
 clear hE3
 rw [hp]
 clear hp
 go_wp2_with fail
 refine (r_get w3 T v l c.key h5).mono ?_
 rintro e w4 ⟨rfl, hE4⟩
 rw [hx]
 obtain ⟨hc4, hf4⟩ := bcell hE4
 have hz4 := hE4.size
 have p6 : b3 < w4.heap.size := by omega
 have p7 : b3 + 1 < w4.heap.size := by omega
 have HS4 := Lib.hid (doS_start (x := x) (HF3.out.ext hE4) (newP_mod HN3.out hE4 (fun _ _ => id)))
 have HX := Lib.hid hx
 clear hE4 hx
 go_upto_region 8 with fail
 go_cut [8, 9, 10] (fun s8 s9 s10 wx => ∃ r p q : Nat, s8 = .pointer (some ⟨r, 0, none⟩) ∧ s9 = .pointer (some ⟨p, 0, none⟩) ∧ s10 = .pointer (some ⟨q, 0, none⟩) ∧ DoS W0 x x x vs l r p q wx)
 case first =>
  go_region_held3 (fun w' => w'.cell? ⟨w4.heap.size, 0, none⟩ = some (.int .i64 x.kind) ∧ w'.cell? ⟨w4.heap.size, 1, none⟩ = some (.float .f64 x.num) ∧ w'.cell? ⟨w4.heap.size, 2, none⟩ = some (.string x.text)) (go_keep) (fail)
  all_goals
   go_wp2_with fail
   go_meet
   first | exact ⟨_, _, _, rfl, rfl, rfl, HS4.out.1⟩ | exact ⟨_, _, _, rfl, rfl, rfl, HS4.out.2⟩
 case rest =>
  obtain ⟨r, p, q, rfl, rfl, rfl, hS⟩ := hcut
  obtain ⟨hac, haf⟩ := bcell hS.ext
  obtain ⟨ar0, ar1, ar2⟩ := cq3 hS.br
  obtain ⟨ap0, ap1, ap2⟩ := cq3 hS.bp
  obtain ⟨aq0, aq1, aq2⟩ := cq3 hS.bq
  have afp0 : wc.frozen? ⟨p, 0, none⟩ = false := blk_free 0 hS.bp
  have afp1 : wc.frozen? ⟨p, 1, none⟩ = false := blk_free 1 hS.bp
  have afp2 : wc.frozen? ⟨p, 2, none⟩ = false := blk_free 2 hS.bp
  have afq0 : wc.frozen? ⟨q, 0, none⟩ = false := blk_free 0 hS.bq
  have afq1 : wc.frozen? ⟨q, 1, none⟩ = false := blk_free 1 hS.bq
  have afq2 : wc.frozen? ⟨q, 2, none⟩ = false := blk_free 2 hS.bq
  have az1 : b3 < wc.heap.size := by have := hS.ext.size; omega
  have az2 : b3 + 1 < wc.heap.size := by have := hS.ext.size; omega
  have n1 := hS.rp
  have n2 := hS.rq
  have n3 := hS.pq
  have n4 := Ne.symm n1
  have n5 := Ne.symm n2
  have n6 := Ne.symm n3
  have n7 : ¬ b3 = r := by have := hS.r0; omega
  have n8 : ¬ b3 = p := by have := hS.p0; omega
  have n9 : ¬ b3 = q := by have := hS.q0; omega
  have m7 : ¬ b3 + 1 = r := by have := hS.r0; omega
  have m8 : ¬ b3 + 1 = p := by have := hS.p0; omega
  have m9 : ¬ b3 + 1 = q := by have := hS.q0; omega
  have l7 : ¬ r = b3 + 1 := by omega
  have l8 : ¬ p = b3 + 1 := by omega
  have l9 : ¬ q = b3 + 1 := by omega
  have HO := Lib.hid hS.own
  have HE := Lib.hid (hE.ext hS.ext)
  clear hS
  go_wp2_with fail
  go_region_held3 (fun w' => w'.cell? ⟨r, 0, none⟩ = some (.int .i64 x.kind) ∧ w'.cell? ⟨r, 1, none⟩ = some (.float .f64 x.num) ∧ w'.cell? ⟨r, 2, none⟩ = some (.string x.text)) (go_keep) (fail)
  all_goals
   go_wp2_with fail
   refine bodyPost_ret (v := .tuple #[vs, .agg #[.int .i64 0, .int .i64 x.kind, .float .f64 x.num, .string x.text]]) (by simp [results, Tryz.results36, go_sem, g0, g1, g2, g3, hac, az1, az2, hw0]) rfl ?_
   refine doOut_of (r := ⟨0, x⟩) HO.out HE.out ?_ hw0 hZ rfl
   repeat (first | refine mod_same ?_ _ _ | refine Mod.drew ?_)
   exact Mod.refl _ _


set_option maxRecDepth 100000 in
set_option maxHeartbeats 4000000 in
theorem r_do_other (w : World) (T : Nat → Prop) (v : Value) (l : List APair) (c : ACmd) (h : Prs w T v l) (hl : l.length ≤ 1000000) (hc : cmdE c = 0) (hp : pairsB l = true) (x : AVal) (hx : getP l c.key = x) (hk : c.kind = 4) (he : eqVal x c.old = false) :
  Calls Tryz.prog 36 #[v, .agg #[.int .i64 c.kind, .string c.key, .int .i64 c.old.kind, .float .f64 c.old.num, .string c.old.text, .int .i64 c.val.kind, .float .f64 c.val.num, .string c.val.text]] w (DoOut w l ⟨9, x⟩) := by
 have d1 : (c.kind == 1) = false := by simp [hk]
 have d2 : (c.kind == 2) = false := by simp [hk]
 have d3 : (c.kind == 3) = false := by simp [hk]
 have d4 : (c.kind == 4) = true := by simp [hk]
 clear hk
 go_enter Tryz.func36, Tryz.ntmps36
 go_wp2_with fail
 obtain ⟨W0, hW0⟩ : ∃ W0, W0 = (w.alloc (.cells #[.int .i64 c.kind, .string c.key, .int .i64 c.old.kind, .float .f64 c.old.num, .string c.old.text, .int .i64 c.val.kind, .float .f64 c.val.num, .string c.val.text] 42)).alloc (.cells #[.int .i64 0, .int .i64 0, .float .f64 0, .string ⟨#[]⟩] 46) := ⟨_, rfl⟩
 obtain ⟨b3, hb3⟩ : ∃ b3, b3 = w.heap.size := ⟨_, rfl⟩
 obtain ⟨hB3, hB5, hZ0⟩ := two_new w (.cells #[.int .i64 c.kind, .string c.key, .int .i64 c.old.kind, .float .f64 c.old.num, .string c.old.text, .int .i64 c.val.kind, .float .f64 c.val.num, .string c.val.text] 42) (.cells #[.int .i64 0, .int .i64 0, .float .f64 0, .string ⟨#[]⟩] 46)
 have hE : Ext w W0 := by rw [hW0]; exact ((Mod.refl _ w).alloc _).alloc _
 rw [← hW0, ← hb3] at hB3 hB5 hZ0 ⊢
 have hZ : w.heap.size ≤ b3 := Nat.le_of_eq hb3.symm
 have Hb3 := Lib.hid hb3
 have HW0 := Lib.hid hW0
 have hw0 : b3 + 1 < W0.heap.size := by omega
 have hw0' : b3 < W0.heap.size := by omega
 clear hW0 hb3
 obtain ⟨k0, k1, k2, k3, k4, k5, k6, k7⟩ := cq8 hB3
 obtain ⟨g0, g1, g2, g3⟩ := cq4 hB5
 have f0 : W0.frozen? ⟨b3 + 1, 0, none⟩ = false := blk_free 0 hB5
 have f1 : W0.frozen? ⟨b3 + 1, 1, none⟩ = false := blk_free 1 hB5
 have f2 : W0.frozen? ⟨b3 + 1, 2, none⟩ = false := blk_free 2 hB5
 have f3 : W0.frozen? ⟨b3 + 1, 3, none⟩ = false := blk_free 3 hB5
 have HB3 := Lib.hid hB3
 have HB5 := Lib.hid hB5
 have h2 := h.ext hE
 clear hB3 hB5 hZ0
 refine (k_twinPairs _ T v l h2 hl).mono ?_
 rintro e w1 ⟨vs, rfl, hN, hE1⟩
 obtain ⟨hc1, hf1⟩ := bcell hE1
 have hz1 := hE1.size
 have p0 : b3 < w1.heap.size := by omega
 have p1 : b3 + 1 < w1.heap.size := by omega
 have HE1 := Lib.hid (hE.ext hE1)
 have HF1 := Lib.hid hE1
 have HN := Lib.hid hN
 have h3 := h2.ext hE1
 clear hN hE1
 go_wp2_with fail
 refine (r_cmd c _).mono ?_
 rintro e w2 ⟨rfl, hE2⟩
 obtain ⟨hc2, hf2⟩ := bcell hE2
 have hz2 := hE2.size
 have p2 : b3 < w2.heap.size := by omega
 have p3 : b3 + 1 < w2.heap.size := by omega
 have HE2 := Lib.hid (HE1.out.ext hE2)
 have HF2 := Lib.hid (HF1.out.ext hE2)
 have HN2 := Lib.hid (newP_mod HN.out hE2 (fun _ _ => id))
 have h4 := h3.ext hE2
 clear hE2
 rw [hc]
 clear hc
 go_wp2_with fail
 refine (r_pairs _ T v l h4).mono ?_
 rintro e w3 ⟨rfl, hE3⟩
 obtain ⟨hc3, hf3⟩ := bcell hE3
 have hz3 := hE3.size
 have p4 : b3 < w3.heap.size := by omega
 have p5 : b3 + 1 < w3.heap.size := by omega
 have HE3 := Lib.hid (HE2.out.ext hE3)
 have HF3 := Lib.hid (HF2.out.ext hE3)
 have HN3 := Lib.hid (newP_mod HN2.out hE3 (fun _ _ => id))
 have h5 := h4.ext hE3
 clear hE3
 rw [hp]
 clear hp
 go_wp2_with fail
 refine (r_get w3 T v l c.key h5).mono ?_
 rintro e w4 ⟨rfl, hE4⟩
 rw [hx]
 obtain ⟨hc4, hf4⟩ := bcell hE4
 have hz4 := hE4.size
 have p6 : b3 < w4.heap.size := by omega
 have p7 : b3 + 1 < w4.heap.size := by omega
 have HS4 := Lib.hid (doS_start (x := x) (HF3.out.ext hE4) (newP_mod HN3.out hE4 (fun _ _ => id)))
 have HX := Lib.hid hx
 clear hE4 hx
 go_upto_region 8 with fail
 go_cut [8, 9, 10] (fun s8 s9 s10 wx => ∃ r p q : Nat, s8 = .pointer (some ⟨r, 0, none⟩) ∧ s9 = .pointer (some ⟨p, 0, none⟩) ∧ s10 = .pointer (some ⟨q, 0, none⟩) ∧ DoS W0 x x x vs l r p q wx)
 case first =>
  go_region_held3 (fun w' => w'.cell? ⟨w4.heap.size, 0, none⟩ = some (.int .i64 x.kind) ∧ w'.cell? ⟨w4.heap.size, 1, none⟩ = some (.float .f64 x.num) ∧ w'.cell? ⟨w4.heap.size, 2, none⟩ = some (.string x.text)) (go_keep) (fail)
  all_goals
   go_wp2_with fail
   go_meet
   first | exact ⟨_, _, _, rfl, rfl, rfl, HS4.out.1⟩ | exact ⟨_, _, _, rfl, rfl, rfl, HS4.out.2⟩
 case rest =>
  obtain ⟨r, p, q, rfl, rfl, rfl, hS⟩ := hcut
  obtain ⟨hac, haf⟩ := bcell hS.ext
  obtain ⟨ar0, ar1, ar2⟩ := cq3 hS.br
  obtain ⟨ap0, ap1, ap2⟩ := cq3 hS.bp
  obtain ⟨aq0, aq1, aq2⟩ := cq3 hS.bq
  have afp0 : wc.frozen? ⟨p, 0, none⟩ = false := blk_free 0 hS.bp
  have afp1 : wc.frozen? ⟨p, 1, none⟩ = false := blk_free 1 hS.bp
  have afp2 : wc.frozen? ⟨p, 2, none⟩ = false := blk_free 2 hS.bp
  have afq0 : wc.frozen? ⟨q, 0, none⟩ = false := blk_free 0 hS.bq
  have afq1 : wc.frozen? ⟨q, 1, none⟩ = false := blk_free 1 hS.bq
  have afq2 : wc.frozen? ⟨q, 2, none⟩ = false := blk_free 2 hS.bq
  have az1 : b3 < wc.heap.size := by have := hS.ext.size; omega
  have az2 : b3 + 1 < wc.heap.size := by have := hS.ext.size; omega
  have n1 := hS.rp
  have n2 := hS.rq
  have n3 := hS.pq
  have n4 := Ne.symm n1
  have n5 := Ne.symm n2
  have n6 := Ne.symm n3
  have n7 : ¬ b3 = r := by have := hS.r0; omega
  have n8 : ¬ b3 = p := by have := hS.p0; omega
  have n9 : ¬ b3 = q := by have := hS.q0; omega
  have m7 : ¬ b3 + 1 = r := by have := hS.r0; omega
  have m8 : ¬ b3 + 1 = p := by have := hS.p0; omega
  have m9 : ¬ b3 + 1 = q := by have := hS.q0; omega
  have l7 : ¬ r = b3 + 1 := by omega
  have l8 : ¬ p = b3 + 1 := by omega
  have l9 : ¬ q = b3 + 1 := by omega
  have HS := Lib.hid hS
  clear hS
  go_wp2_with fail
  refine (k_value x c.old _).mono ?_
  rintro e w5 ⟨rfl, hE5⟩
  have hS5 := HS.out.mod hE5
  rw [he]
  clear he hE5
  obtain ⟨hec, hef⟩ := bcell hS5.ext
  obtain ⟨er0, er1, er2⟩ := cq3 hS5.br
  obtain ⟨ep0, ep1, ep2⟩ := cq3 hS5.bp
  obtain ⟨eq0, eq1, eq2⟩ := cq3 hS5.bq
  have efp0 : w5.frozen? ⟨p, 0, none⟩ = false := blk_free 0 hS5.bp
  have efp1 : w5.frozen? ⟨p, 1, none⟩ = false := blk_free 1 hS5.bp
  have efp2 : w5.frozen? ⟨p, 2, none⟩ = false := blk_free 2 hS5.bp
  have efq0 : w5.frozen? ⟨q, 0, none⟩ = false := blk_free 0 hS5.bq
  have efq1 : w5.frozen? ⟨q, 1, none⟩ = false := blk_free 1 hS5.bq
  have efq2 : w5.frozen? ⟨q, 2, none⟩ = false := blk_free 2 hS5.bq
  have ez1 : b3 < w5.heap.size := by have := hS5.ext.size; omega
  have ez2 : b3 + 1 < w5.heap.size := by have := hS5.ext.size; omega
  have HO := Lib.hid hS5.own
  have HE := Lib.hid (hE.ext hS5.ext)
  clear hS5
  go_wp2_with fail
  go_region_held3 (fun w' => w'.cell? ⟨r, 0, none⟩ = some (.int .i64 x.kind) ∧ w'.cell? ⟨r, 1, none⟩ = some (.float .f64 x.num) ∧ w'.cell? ⟨r, 2, none⟩ = some (.string x.text)) (go_keep) (fail)
  all_goals
   go_wp2_with fail
   refine bodyPost_ret (v := .tuple #[vs, .agg #[.int .i64 9, .int .i64 x.kind, .float .f64 x.num, .string x.text]]) (by simp [results, Tryz.results36, go_sem, g0, g1, g2, g3, hec, ez1, ez2, hw0]) rfl ?_
   refine doOut_of (r := ⟨9, x⟩) HO.out HE.out ?_ hw0 hZ rfl
   repeat (first | refine mod_same ?_ _ _ | refine Mod.drew ?_)
   exact Mod.refl _ _

set_option maxRecDepth 100000 in
set_option maxHeartbeats 4000000 in
theorem r_do_type (w : World) (T : Nat → Prop) (v : Value) (l : List APair) (c : ACmd) (h : Prs w T v l) (hl : l.length ≤ 1000000) (hc : cmdE c = 0) (hp : pairsB l = true) (x : AVal) (hx : getP l c.key = x) (hk : c.kind = 5 ∨ c.kind = 6)
  (hxn : x.num < 18446744073709551616) (hvn : c.val.num < 18446744073709551616) (y : AVal) (n : Int) (hj : joinV (c.kind == 5) x c.val = (y, n)) (hn : n ≠ 0) :
  Calls Tryz.prog 36 #[v, .agg #[.int .i64 c.kind, .string c.key, .int .i64 c.old.kind, .float .f64 c.old.num, .string c.old.text, .int .i64 c.val.kind, .float .f64 c.val.num, .string c.val.text]] w (DoOut w l ⟨n, AVal.zero⟩) := by
 have d1 : (c.kind == 1) = false := by rcases hk with hk | hk <;> simp [hk]
 have d2 : (c.kind == 2) = false := by rcases hk with hk | hk <;> simp [hk]
 have d3 : (c.kind == 3) = false := by rcases hk with hk | hk <;> simp [hk]
 have d4 : (c.kind == 4) = false := by rcases hk with hk | hk <;> simp [hk]
 have dn : (n != 0) = true := by simpa using hn
 obtain ⟨add, hadd⟩ : ∃ add, (c.kind == 5) = add := ⟨_, rfl⟩
 rw [hadd] at hj
 have HJ := Lib.hid hj
 clear hk hn hj
 go_enter Tryz.func36, Tryz.ntmps36
 go_wp2_with fail
 obtain ⟨W0, hW0⟩ : ∃ W0, W0 = (w.alloc (.cells #[.int .i64 c.kind, .string c.key, .int .i64 c.old.kind, .float .f64 c.old.num, .string c.old.text, .int .i64 c.val.kind, .float .f64 c.val.num, .string c.val.text] 42)).alloc (.cells #[.int .i64 0, .int .i64 0, .float .f64 0, .string ⟨#[]⟩] 46) := ⟨_, rfl⟩
 obtain ⟨b3, hb3⟩ : ∃ b3, b3 = w.heap.size := ⟨_, rfl⟩
 obtain ⟨hB3, hB5, hZ0⟩ := two_new w (.cells #[.int .i64 c.kind, .string c.key, .int .i64 c.old.kind, .float .f64 c.old.num, .string c.old.text, .int .i64 c.val.kind, .float .f64 c.val.num, .string c.val.text] 42) (.cells #[.int .i64 0, .int .i64 0, .float .f64 0, .string ⟨#[]⟩] 46)
 have hE : Ext w W0 := by rw [hW0]; exact ((Mod.refl _ w).alloc _).alloc _
 rw [← hW0, ← hb3] at hB3 hB5 hZ0 ⊢
 have hZ : w.heap.size ≤ b3 := Nat.le_of_eq hb3.symm
 have Hb3 := Lib.hid hb3
 have HW0 := Lib.hid hW0
 have hw0 : b3 + 1 < W0.heap.size := by omega
 have hw0' : b3 < W0.heap.size := by omega
 clear hW0 hb3
 obtain ⟨k0, k1, k2, k3, k4, k5, k6, k7⟩ := cq8 hB3
 obtain ⟨g0, g1, g2, g3⟩ := cq4 hB5
 have f0 : W0.frozen? ⟨b3 + 1, 0, none⟩ = false := blk_free 0 hB5
 have f1 : W0.frozen? ⟨b3 + 1, 1, none⟩ = false := blk_free 1 hB5
 have f2 : W0.frozen? ⟨b3 + 1, 2, none⟩ = false := blk_free 2 hB5
 have f3 : W0.frozen? ⟨b3 + 1, 3, none⟩ = false := blk_free 3 hB5
 have HB3 := Lib.hid hB3
 have HB5 := Lib.hid hB5
 have h2 := h.ext hE
 clear hB3 hB5 hZ0
 refine (k_twinPairs _ T v l h2 hl).mono ?_
 rintro e w1 ⟨vs, rfl, hN, hE1⟩
 obtain ⟨hc1, hf1⟩ := bcell hE1
 have hz1 := hE1.size
 have p0 : b3 < w1.heap.size := by omega
 have p1 : b3 + 1 < w1.heap.size := by omega
 have HE1 := Lib.hid (hE.ext hE1)
 have HF1 := Lib.hid hE1
 have HN := Lib.hid hN
 have h3 := h2.ext hE1
 clear hN hE1
 go_wp2_with fail
 refine (r_cmd c _).mono ?_
 rintro e w2 ⟨rfl, hE2⟩
 obtain ⟨hc2, hf2⟩ := bcell hE2
 have hz2 := hE2.size
 have p2 : b3 < w2.heap.size := by omega
 have p3 : b3 + 1 < w2.heap.size := by omega
 have HE2 := Lib.hid (HE1.out.ext hE2)
 have HF2 := Lib.hid (HF1.out.ext hE2)
 have HN2 := Lib.hid (newP_mod HN.out hE2 (fun _ _ => id))
 have h4 := h3.ext hE2
 clear hE2
 rw [hc]
 clear hc
 go_wp2_with fail
 refine (r_pairs _ T v l h4).mono ?_
 rintro e w3 ⟨rfl, hE3⟩
 obtain ⟨hc3, hf3⟩ := bcell hE3
 have hz3 := hE3.size
 have p4 : b3 < w3.heap.size := by omega
 have p5 : b3 + 1 < w3.heap.size := by omega
 have HE3 := Lib.hid (HE2.out.ext hE3)
 have HF3 := Lib.hid (HF2.out.ext hE3)
 have HN3 := Lib.hid (newP_mod HN2.out hE3 (fun _ _ => id))
 have h5 := h4.ext hE3
 clear hE3
 rw [hp]
 clear hp
 go_wp2_with fail
 refine (r_get w3 T v l c.key h5).mono ?_
 rintro e w4 ⟨rfl, hE4⟩
 rw [hx]
 obtain ⟨hc4, hf4⟩ := bcell hE4
 have hz4 := hE4.size
 have p6 : b3 < w4.heap.size := by omega
 have p7 : b3 + 1 < w4.heap.size := by omega
 have HS4 := Lib.hid (doS_start (x := x) (HF3.out.ext hE4) (newP_mod HN3.out hE4 (fun _ _ => id)))
 have HX := Lib.hid hx
 clear hE4 hx
 go_upto_region 8 with fail
 go_cut [8, 9, 10] (fun s8 s9 s10 wx => ∃ r p q : Nat, s8 = .pointer (some ⟨r, 0, none⟩) ∧ s9 = .pointer (some ⟨p, 0, none⟩) ∧ s10 = .pointer (some ⟨q, 0, none⟩) ∧ DoS W0 x x x vs l r p q wx)
 case first =>
  go_region_held3 (fun w' => w'.cell? ⟨w4.heap.size, 0, none⟩ = some (.int .i64 x.kind) ∧ w'.cell? ⟨w4.heap.size, 1, none⟩ = some (.float .f64 x.num) ∧ w'.cell? ⟨w4.heap.size, 2, none⟩ = some (.string x.text)) (go_keep) (fail)
  all_goals
   go_wp2_with fail
   go_meet
   first | exact ⟨_, _, _, rfl, rfl, rfl, HS4.out.1⟩ | exact ⟨_, _, _, rfl, rfl, rfl, HS4.out.2⟩
 case rest =>
  obtain ⟨r, p, q, rfl, rfl, rfl, hS⟩ := hcut
  obtain ⟨hac, haf⟩ := bcell hS.ext
  obtain ⟨ar0, ar1, ar2⟩ := cq3 hS.br
  obtain ⟨ap0, ap1, ap2⟩ := cq3 hS.bp
  obtain ⟨aq0, aq1, aq2⟩ := cq3 hS.bq
  have afp0 : wc.frozen? ⟨p, 0, none⟩ = false := blk_free 0 hS.bp
  have afp1 : wc.frozen? ⟨p, 1, none⟩ = false := blk_free 1 hS.bp
  have afp2 : wc.frozen? ⟨p, 2, none⟩ = false := blk_free 2 hS.bp
  have afq0 : wc.frozen? ⟨q, 0, none⟩ = false := blk_free 0 hS.bq
  have afq1 : wc.frozen? ⟨q, 1, none⟩ = false := blk_free 1 hS.bq
  have afq2 : wc.frozen? ⟨q, 2, none⟩ = false := blk_free 2 hS.bq
  have az1 : b3 < wc.heap.size := by have := hS.ext.size; omega
  have az2 : b3 + 1 < wc.heap.size := by have := hS.ext.size; omega
  have n1 := hS.rp
  have n2 := hS.rq
  have n3 := hS.pq
  have n4 := Ne.symm n1
  have n5 := Ne.symm n2
  have n6 := Ne.symm n3
  have n7 : ¬ b3 = r := by have := hS.r0; omega
  have n8 : ¬ b3 = p := by have := hS.p0; omega
  have n9 : ¬ b3 = q := by have := hS.q0; omega
  have m7 : ¬ b3 + 1 = r := by have := hS.r0; omega
  have m8 : ¬ b3 + 1 = p := by have := hS.p0; omega
  have m9 : ¬ b3 + 1 = q := by have := hS.q0; omega
  have l7 : ¬ r = b3 + 1 := by omega
  have l8 : ¬ p = b3 + 1 := by omega
  have l9 : ¬ q = b3 + 1 := by omega
  have HS := Lib.hid hS
  clear hS
  go_wp2_with fail
  refine (r_join x c.val add hxn hvn _).mono ?_
  rintro e w5 ⟨rfl, hE5⟩
  rw [HJ.out]
  have hS5 := HS.out.mod hE5
  clear hE5
  obtain ⟨hec, hef⟩ := bcell hS5.ext
  obtain ⟨er0, er1, er2⟩ := cq3 hS5.br
  obtain ⟨ep0, ep1, ep2⟩ := cq3 hS5.bp
  obtain ⟨eq0, eq1, eq2⟩ := cq3 hS5.bq
  have efp0 : w5.frozen? ⟨p, 0, none⟩ = false := blk_free 0 hS5.bp
  have efp1 : w5.frozen? ⟨p, 1, none⟩ = false := blk_free 1 hS5.bp
  have efp2 : w5.frozen? ⟨p, 2, none⟩ = false := blk_free 2 hS5.bp
  have efq0 : w5.frozen? ⟨q, 0, none⟩ = false := blk_free 0 hS5.bq
  have efq1 : w5.frozen? ⟨q, 1, none⟩ = false := blk_free 1 hS5.bq
  have efq2 : w5.frozen? ⟨q, 2, none⟩ = false := blk_free 2 hS5.bq
  have ez1 : b3 < w5.heap.size := by have := hS5.ext.size; omega
  have ez2 : b3 + 1 < w5.heap.size := by have := hS5.ext.size; omega
  have hS6 := hS5.next y
  have HO := Lib.hid hS6.own
  have HE := Lib.hid (hE.ext hS6.ext)
  clear hS5 hS6
  go_wp2
  refine bodyPost_ret (v := .tuple #[vs, .agg #[.int .i64 n, .int .i64 0, .float .f64 0, .string ⟨#[]⟩]]) (by simp [results, Tryz.results36, go_sem, g0, g1, g2, g3, hec, ez1, ez2, hw0, m7, m8, m9, l7, l8, l9]) rfl ?_
  refine doOut_of (r := ⟨n, AVal.zero⟩) HO.out HE.out ?_ hw0 hZ rfl
  repeat (first | refine mod_same ?_ _ _ | refine Mod.drew ?_)
  exact Mod.refl _ _

end Go.Proofs.YtbclnghbgoblcaaGreat

namespace Go.Proofs.YtbclnghbgoblcaaGreat
set_option linter.unusedSimpArgs false
open Go.RowKit

set_option maxRecDepth 100000 in
set_option maxHeartbeats 8000000 in
theorem r_do_step (w : World) (T : Nat → Prop) (v : Value) (l : List APair) (c : ACmd) (h : Prs w T v l) (hl : l.length ≤ 1000000) (hc : cmdE c = 0) (hp : pairsB l = true) (x : AVal) (hx : getP l c.key = x)
  (hks : c.key.size ≤ maxLen) (hcv : c.val.ok) (hxok : x.ok) (y t : AVal) (hy : y.ok) (h1 : c.kind ≠ 1) (hst : stepV x c = (0, y, t)) (m : Nat) (hm : (setP c.key y (y.kind == 0) l).length = m) (hk6 : 1 ≤ c.kind ∧ c.kind ≤ 6)
  (lo : List APair) (ro : AReply) (hlo : (if 32 < m then (l, ⟨5, AVal.zero⟩) else (setP c.key y (y.kind == 0) l, ⟨0, t⟩)) = (lo, ro)) :
  Calls Tryz.prog 36 #[v, .agg #[.int .i64 c.kind, .string c.key, .int .i64 c.old.kind, .float .f64 c.old.num, .string c.old.text, .int .i64 c.val.kind, .float .f64 c.val.num, .string c.val.text]] w (DoOut w lo ro) := by
 have Hlo := Lib.hid hlo
 have d1 : (c.kind == 1) = false := by simpa using h1
 have Hy := Lib.hid hy
 have Hxok := Lib.hid hxok
 have Hcv := Lib.hid hcv
 have Hst := Lib.hid hst
 have Hm := Lib.hid hm
 have Hks := Lib.hid hks
 clear hks hcv hxok hst hm hy hlo
 go_enter Tryz.func36, Tryz.ntmps36
 go_wp2_with fail
 obtain ⟨W0, hW0⟩ : ∃ W0, W0 = (w.alloc (.cells #[.int .i64 c.kind, .string c.key, .int .i64 c.old.kind, .float .f64 c.old.num, .string c.old.text, .int .i64 c.val.kind, .float .f64 c.val.num, .string c.val.text] 42)).alloc (.cells #[.int .i64 0, .int .i64 0, .float .f64 0, .string ⟨#[]⟩] 46) := ⟨_, rfl⟩
 obtain ⟨b3, hb3⟩ : ∃ b3, b3 = w.heap.size := ⟨_, rfl⟩
 obtain ⟨hB3, hB5, hZ0⟩ := two_new w (.cells #[.int .i64 c.kind, .string c.key, .int .i64 c.old.kind, .float .f64 c.old.num, .string c.old.text, .int .i64 c.val.kind, .float .f64 c.val.num, .string c.val.text] 42) (.cells #[.int .i64 0, .int .i64 0, .float .f64 0, .string ⟨#[]⟩] 46)
 have hE : Ext w W0 := by rw [hW0]; exact ((Mod.refl _ w).alloc _).alloc _
 rw [← hW0, ← hb3] at hB3 hB5 hZ0 ⊢
 have hZ : w.heap.size ≤ b3 := Nat.le_of_eq hb3.symm
 have Hb3 := Lib.hid hb3
 have HW0 := Lib.hid hW0
 have hw0 : b3 + 1 < W0.heap.size := by omega
 have hw0' : b3 < W0.heap.size := by omega
 clear hW0 hb3
 obtain ⟨k0, k1, k2, k3, k4, k5, k6, k7⟩ := cq8 hB3
 obtain ⟨g0, g1, g2, g3⟩ := cq4 hB5
 have f0 : W0.frozen? ⟨b3 + 1, 0, none⟩ = false := blk_free 0 hB5
 have f1 : W0.frozen? ⟨b3 + 1, 1, none⟩ = false := blk_free 1 hB5
 have f2 : W0.frozen? ⟨b3 + 1, 2, none⟩ = false := blk_free 2 hB5
 have f3 : W0.frozen? ⟨b3 + 1, 3, none⟩ = false := blk_free 3 hB5
 have HB3 := Lib.hid hB3
 have HB5 := Lib.hid hB5
 have h2 := h.ext hE
 clear hB3 hB5 hZ0
 refine (k_twinPairs _ T v l h2 hl).mono ?_
 rintro e w1 ⟨vs, rfl, hN, hE1⟩
 obtain ⟨hc1, hf1⟩ := bcell hE1
 have hz1 := hE1.size
 have p0 : b3 < w1.heap.size := by omega
 have p1 : b3 + 1 < w1.heap.size := by omega
 have HE1 := Lib.hid (hE.ext hE1)
 have HF1 := Lib.hid hE1
 have HN := Lib.hid hN
 have h3 := h2.ext hE1
 clear hN hE1
 go_wp2_with fail
 refine (r_cmd c _).mono ?_
 rintro e w2 ⟨rfl, hE2⟩
 obtain ⟨hc2, hf2⟩ := bcell hE2
 have hz2 := hE2.size
 have p2 : b3 < w2.heap.size := by omega
 have p3 : b3 + 1 < w2.heap.size := by omega
 have HE2 := Lib.hid (HE1.out.ext hE2)
 have HF2 := Lib.hid (HF1.out.ext hE2)
 have HN2 := Lib.hid (newP_mod HN.out hE2 (fun _ _ => id))
 have h4 := h3.ext hE2
 clear hE2
 rw [hc]
 clear hc
 go_wp2_with fail
 refine (r_pairs _ T v l h4).mono ?_
 rintro e w3 ⟨rfl, hE3⟩
 obtain ⟨hc3, hf3⟩ := bcell hE3
 have hz3 := hE3.size
 have p4 : b3 < w3.heap.size := by omega
 have p5 : b3 + 1 < w3.heap.size := by omega
 have HE3 := Lib.hid (HE2.out.ext hE3)
 have HF3 := Lib.hid (HF2.out.ext hE3)
 have HN3 := Lib.hid (newP_mod HN2.out hE3 (fun _ _ => id))
 have h5 := h4.ext hE3
 clear hE3
 rw [hp]
 clear hp
 go_wp2_with fail
 refine (r_get w3 T v l c.key h5).mono ?_
 rintro e w4 ⟨rfl, hE4⟩
 rw [hx]
 obtain ⟨hc4, hf4⟩ := bcell hE4
 have hz4 := hE4.size
 have p6 : b3 < w4.heap.size := by omega
 have p7 : b3 + 1 < w4.heap.size := by omega
 have HS4 := Lib.hid (doS_start (x := x) (HF3.out.ext hE4) (newP_mod HN3.out hE4 (fun _ _ => id)))
 have HX := Lib.hid hx
 clear hE4 hx
 go_upto_region 8 with fail
 go_cut [8, 9, 10] (fun s8 s9 s10 wx => ∃ r p q : Nat, s8 = .pointer (some ⟨r, 0, none⟩) ∧ s9 = .pointer (some ⟨p, 0, none⟩) ∧ s10 = .pointer (some ⟨q, 0, none⟩) ∧ DoS W0 x x x vs l r p q wx)
 case first =>
  go_region_held3 (fun w' => w'.cell? ⟨w4.heap.size, 0, none⟩ = some (.int .i64 x.kind) ∧ w'.cell? ⟨w4.heap.size, 1, none⟩ = some (.float .f64 x.num) ∧ w'.cell? ⟨w4.heap.size, 2, none⟩ = some (.string x.text)) (go_keep) (fail)
  all_goals
   go_wp2_with fail
   go_meet
   first | exact ⟨_, _, _, rfl, rfl, rfl, HS4.out.1⟩ | exact ⟨_, _, _, rfl, rfl, rfl, HS4.out.2⟩
 case rest =>
  obtain ⟨r, p, q, rfl, rfl, rfl, hS⟩ := hcut
  obtain ⟨hac, haf⟩ := bcell hS.ext
  obtain ⟨ar0, ar1, ar2⟩ := cq3 hS.br
  obtain ⟨ap0, ap1, ap2⟩ := cq3 hS.bp
  obtain ⟨aq0, aq1, aq2⟩ := cq3 hS.bq
  have afp0 : wc.frozen? ⟨p, 0, none⟩ = false := blk_free 0 hS.bp
  have afp1 : wc.frozen? ⟨p, 1, none⟩ = false := blk_free 1 hS.bp
  have afp2 : wc.frozen? ⟨p, 2, none⟩ = false := blk_free 2 hS.bp
  have afq0 : wc.frozen? ⟨q, 0, none⟩ = false := blk_free 0 hS.bq
  have afq1 : wc.frozen? ⟨q, 1, none⟩ = false := blk_free 1 hS.bq
  have afq2 : wc.frozen? ⟨q, 2, none⟩ = false := blk_free 2 hS.bq
  have az1 : b3 < wc.heap.size := by have := hS.ext.size; omega
  have az2 : b3 + 1 < wc.heap.size := by have := hS.ext.size; omega
  have n1 := hS.rp
  have n2 := hS.rq
  have n3 := hS.pq
  have n4 := Ne.symm n1
  have n5 := Ne.symm n2
  have n6 := Ne.symm n3
  have n7 : ¬ b3 = r := by have := hS.r0; omega
  have n8 : ¬ b3 = p := by have := hS.p0; omega
  have n9 : ¬ b3 = q := by have := hS.q0; omega
  have m7 : ¬ b3 + 1 = r := by have := hS.r0; omega
  have m8 : ¬ b3 + 1 = p := by have := hS.p0; omega
  have m9 : ¬ b3 + 1 = q := by have := hS.q0; omega
  have l7 : ¬ r = b3 + 1 := by omega
  have l8 : ¬ p = b3 + 1 := by omega
  have l9 : ¬ q = b3 + 1 := by omega
  go_upto_block 0 with fail
  go_cut [7] (fun s7 wy => DoS W0 x y t vs l r p q wy)
  case first =>
   have hcase : c.kind = 2 ∨ c.kind = 3 ∨ c.kind = 4 ∨ (c.kind = 5 ∨ c.kind = 6) := by omega
   have HS := Lib.hid hS
   clear hS
   rcases hcase with hk | hk | hk | hk
   ·
    have d2 : (c.kind == 2) = true := by simp [hk]
    have e := Hst.out
    unfold stepV at e
    rw [if_pos hk] at e
    simp only [Prod.mk.injEq, true_and] at e
    have hS2 := HS.out.next y
    rw [← e.1] at hS2
    have HS2 := Lib.hid hS2
    have He := Lib.hid e
    clear hk e h1 hk6 hS2
    go_wp2_with fail
    go_meet
    have := HS2.out
    rw [← He.out.1, ← He.out.2]
    exact this
   ·
    have d2 : (c.kind == 2) = false := by simp [hk]
    have d3 : (c.kind == 3) = true := by simp [hk]
    have e := Hst.out
    unfold stepV at e
    rw [if_neg (by omega), if_pos hk] at e
    simp only [Prod.mk.injEq, true_and] at e
    have hS2 := HS.out.next AVal.zero
    have HS2 := Lib.hid hS2
    have He := Lib.hid e
    clear hk e h1 hk6 hS2
    go_wp2_with fail
    go_meet
    have := HS2.out
    rw [← He.out.1, ← He.out.2]
    exact this
   ·
    have d2 : (c.kind == 2) = false := by simp [hk]
    have d3 : (c.kind == 3) = false := by simp [hk]
    have d4 : (c.kind == 4) = true := by simp [hk]
    have e := Hst.out
    unfold stepV at e
    rw [if_neg (by omega), if_neg (by omega), if_pos hk] at e
    have he : eqVal x c.old = true := by
     rcases h : eqVal x c.old with _ | _
     ·
      rw [h] at e; simp at e
     ·
      rfl
    rw [he] at e
    simp only [if_true, Prod.mk.injEq, true_and] at e
    have He := Lib.hid e
    clear hk e h1 hk6
    go_wp2_with fail
    refine (k_value x c.old _).mono ?_
    rintro e w5 ⟨rfl, hE5⟩
    have hS5 := HS.out.mod hE5
    rw [he]
    clear he hE5
    obtain ⟨hec, hef⟩ := bcell hS5.ext
    obtain ⟨er0, er1, er2⟩ := cq3 hS5.br
    obtain ⟨ep0, ep1, ep2⟩ := cq3 hS5.bp
    obtain ⟨eq0, eq1, eq2⟩ := cq3 hS5.bq
    have efp0 : w5.frozen? ⟨p, 0, none⟩ = false := blk_free 0 hS5.bp
    have efp1 : w5.frozen? ⟨p, 1, none⟩ = false := blk_free 1 hS5.bp
    have efp2 : w5.frozen? ⟨p, 2, none⟩ = false := blk_free 2 hS5.bp
    have efq0 : w5.frozen? ⟨q, 0, none⟩ = false := blk_free 0 hS5.bq
    have efq1 : w5.frozen? ⟨q, 1, none⟩ = false := blk_free 1 hS5.bq
    have efq2 : w5.frozen? ⟨q, 2, none⟩ = false := blk_free 2 hS5.bq
    have ez1 : b3 < w5.heap.size := by have := hS5.ext.size; omega
    have ez2 : b3 + 1 < w5.heap.size := by have := hS5.ext.size; omega
    have HS6 := Lib.hid (hS5.next c.val)
    clear hS5
    go_wp2_with fail
    go_meet
    have := HS6.out
    rw [← He.out.1, ← He.out.2]
    exact this
   ·
    have d2 : (c.kind == 2) = false := by rcases hk with hk | hk <;> simp [hk]
    have d3 : (c.kind == 3) = false := by rcases hk with hk | hk <;> simp [hk]
    have d4 : (c.kind == 4) = false := by rcases hk with hk | hk <;> simp [hk]
    obtain ⟨add, hadd⟩ : ∃ add, (c.kind == 5) = add := ⟨_, rfl⟩
    have e := Hst.out
    unfold stepV at e
    rw [if_neg (by omega), if_neg (by omega), if_neg (by omega), hadd] at e
    rcases hj : joinV add x c.val with ⟨z, n⟩
    rw [hj] at e
    simp only at e
    have hn : n = 0 := by
     apply Classical.byContradiction
     intro hn
     rw [if_neg hn] at e
     simp only [Prod.mk.injEq] at e
     exact hn e.1
    subst hn
    simp only [if_true, Prod.mk.injEq, true_and] at e
    obtain ⟨e1, e2⟩ := e
    rw [e1] at hj
    have HJ := Lib.hid hj
    have Het : Hid (t = y) := Lib.hid (by rw [← e2, e1])
    have hxn := Hxok.out.2.1
    have hvn := Hcv.out.2.1
    clear hk hj e1 e2 h1 hk6
    go_wp2_with fail
    refine (r_join x c.val add hxn hvn _).mono ?_
    rintro e w5 ⟨rfl, hE5⟩
    rw [HJ.out]
    have hS5 := HS.out.mod hE5
    clear hE5
    obtain ⟨hec, hef⟩ := bcell hS5.ext
    obtain ⟨er0, er1, er2⟩ := cq3 hS5.br
    obtain ⟨ep0, ep1, ep2⟩ := cq3 hS5.bp
    obtain ⟨eq0, eq1, eq2⟩ := cq3 hS5.bq
    have efp0 : w5.frozen? ⟨p, 0, none⟩ = false := blk_free 0 hS5.bp
    have efp1 : w5.frozen? ⟨p, 1, none⟩ = false := blk_free 1 hS5.bp
    have efp2 : w5.frozen? ⟨p, 2, none⟩ = false := blk_free 2 hS5.bp
    have efq0 : w5.frozen? ⟨q, 0, none⟩ = false := blk_free 0 hS5.bq
    have efq1 : w5.frozen? ⟨q, 1, none⟩ = false := blk_free 1 hS5.bq
    have efq2 : w5.frozen? ⟨q, 2, none⟩ = false := blk_free 2 hS5.bq
    have ez1 : b3 < w5.heap.size := by have := hS5.ext.size; omega
    have ez2 : b3 + 1 < w5.heap.size := by have := hS5.ext.size; omega
    have HS6 := Lib.hid ((hS5.next y).told y)
    clear hS5 hxn hvn
    go_wp2_with fail
    go_meet
    have := HS6.out
    rw [Het.out]
    exact this
  case rest =>
   clear hac haf ar0 ar1 ar2 ap0 ap1 ap2 aq0 aq1 aq2 afp0 afp1 afp2 afq0 afq1 afq2 az1 az2
   have hY := hcut
   obtain ⟨hyc, hyf⟩ := bcell hY.ext
   obtain ⟨yr0, yr1, yr2⟩ := cq3 hY.br
   obtain ⟨yp0, yp1, yp2⟩ := cq3 hY.bp
   obtain ⟨yq0, yq1, yq2⟩ := cq3 hY.bq
   have yfp0 : wc.frozen? ⟨p, 0, none⟩ = false := blk_free 0 hY.bp
   have yfp1 : wc.frozen? ⟨p, 1, none⟩ = false := blk_free 1 hY.bp
   have yfp2 : wc.frozen? ⟨p, 2, none⟩ = false := blk_free 2 hY.bp
   have yfq0 : wc.frozen? ⟨q, 0, none⟩ = false := blk_free 0 hY.bq
   have yfq1 : wc.frozen? ⟨q, 1, none⟩ = false := blk_free 1 hY.bq
   have yfq2 : wc.frozen? ⟨q, 2, none⟩ = false := blk_free 2 hY.bq
   have yz1 : b3 < wc.heap.size := by have := hY.ext.size; omega
   have yz2 : b3 + 1 < wc.heap.size := by have := hY.ext.size; omega
   have h7 := h2.ext hY.ext
   have HY := Lib.hid hY
   clear hY hcut hS
   obtain ⟨d, hd⟩ : ∃ d, (y.kind == 0) = d := ⟨_, rfl⟩
   go_wp2_with fail
   refine (r_set wc T v l c.key y d h7 hl Hks.out Hy.out hd).mono ?_
   rintro e w6 ⟨v6, rfl, hN6, hE6⟩
   obtain ⟨A6, c6, rfl⟩ := own_form hN6.1
   have Hd := Lib.hid hd
   have hm := Hm.out
   rw [hd] at hm
   rw [hm] at hN6 ⊢
   have hS6 := HY.out.mod hE6
   have HN6 := Lib.hid hN6
   clear hE6 hd hm hN6
   obtain ⟨hzc, hzf⟩ := bcell hS6.ext
   obtain ⟨zr0, zr1, zr2⟩ := cq3 hS6.br
   obtain ⟨zp0, zp1, zp2⟩ := cq3 hS6.bp
   obtain ⟨zq0, zq1, zq2⟩ := cq3 hS6.bq
   have zfp0 : w6.frozen? ⟨p, 0, none⟩ = false := blk_free 0 hS6.bp
   have zfp1 : w6.frozen? ⟨p, 1, none⟩ = false := blk_free 1 hS6.bp
   have zfp2 : w6.frozen? ⟨p, 2, none⟩ = false := blk_free 2 hS6.bp
   have zfq0 : w6.frozen? ⟨q, 0, none⟩ = false := blk_free 0 hS6.bq
   have zfq1 : w6.frozen? ⟨q, 1, none⟩ = false := blk_free 1 hS6.bq
   have zfq2 : w6.frozen? ⟨q, 2, none⟩ = false := blk_free 2 hS6.bq
   have zz1 : b3 < w6.heap.size := by have := hS6.ext.size; omega
   have zz2 : b3 + 1 < w6.heap.size := by have := hS6.ext.size; omega
   have HO := Lib.hid hS6.own
   have HE := Lib.hid (hE.ext hS6.ext)
   have hyw := HY.out.ext.size
   clear hS6
   by_cases h32 : 32 < m
   ·
    have dm : decide ((m : Int) > 32) = true := by simp; omega
    have e := Hlo.out
    rw [if_pos h32] at e
    simp only [Prod.mk.injEq] at e
    obtain ⟨rfl, rfl⟩ := e
    go_wp2
    refine bodyPost_ret (v := .tuple #[vs, .agg #[.int .i64 5, .int .i64 0, .float .f64 0, .string ⟨#[]⟩]]) (by simp [results, Tryz.results36, go_sem, g0, g1, g2, g3, hzc, zz1, zz2, hw0]) rfl ?_
    refine doOut_of (r := ⟨5, AVal.zero⟩) HO.out HE.out ?_ hw0 hZ rfl
    repeat (first | refine mod_same ?_ _ _ | refine Mod.drew ?_)
    exact Mod.refl _ _
   ·
    have dm : decide ((m : Int) > 32) = false := by simp; omega
    have e := Hlo.out
    rw [if_neg h32, Hd.out] at e
    simp only [Prod.mk.injEq] at e
    obtain ⟨e1, rfl⟩ := e
    have E1 := Lib.hid e1
    have HN7 : Hid (NewP wc w6 (.slice A6 m c6) lo) := Lib.hid (by
     rw [← E1.out]
     exact HN6.out)
    clear e1
    go_wp2_with fail
    go_region_held3 (fun w' => w'.cell? ⟨q, 0, none⟩ = some (.int .i64 t.kind) ∧ w'.cell? ⟨q, 1, none⟩ = some (.float .f64 t.num) ∧ w'.cell? ⟨q, 2, none⟩ = some (.string t.text)) (go_keep) (fail)
    all_goals
     go_wp2_with fail
     refine bodyPost_ret (v := .tuple #[.slice A6 m c6, .agg #[.int .i64 0, .int .i64 t.kind, .float .f64 t.num, .string t.text]]) (by simp [results, Tryz.results36, go_sem, g0, g1, g2, g3, hzc, zz1, zz2, hw0]) rfl ?_
     refine doOut_of (W0 := W0) (r := ⟨0, t⟩) (newP_up HN7.out hyw) HE.out ?_ hw0 hZ rfl
     repeat (first | refine mod_same ?_ _ _ | refine Mod.drew ?_)
     exact Mod.refl _ _

theorem zero_ok : AVal.zero.ok := ⟨⟨by decide, by decide⟩, by decide, Nat.zero_le _⟩
theorem getP_ok {l : List APair} (h : ∀ p ∈ l, p.ok) (k : ByteArray) : (getP l k).ok := by
 induction l with
 | nil => exact zero_ok
 | cons p l ih =>
  rw [getP_cons]
  split
  ·
   exact (h p (by simp)).2
  ·
   exact ih fun q hq => h q (by simp [hq])
theorem canon_lt (x : Nat) (h : x < 18446744073709551616) : canon x < 18446744073709551616 := by
 unfold canon
 split
 ·
  decide
 ·
  exact h
theorem addF_lt (a b : Nat) : addF a b < 18446744073709551616 := by
 unfold addF
 split
 ·
  rename_i r hr
  exact canon_lt r (FloatKind.f64.format.add_lt hr)
 ·
  decide
theorem maxF_lt {a b : Nat} (ha : a < 18446744073709551616) (hb : b < 18446744073709551616) : maxF a b < 18446744073709551616 := by
 unfold maxF
 split
 ·
  decide
 ·
  split
  ·
   exact hb
  ·
   exact ha
theorem join_ok2 {add : Bool} {a b x : AVal} {n : Int} (ha : a.ok) (hb : b.ok) (h : joinV add a b = (x, n)) : x.ok := by
 unfold joinV at h
 split at h
 ·
  simp only [Prod.mk.injEq] at h; rw [← h.1]; exact zero_ok
 split at h
 ·
  simp only [Prod.mk.injEq] at h; rw [← h.1]; exact zero_ok
 split at h
 ·
  simp only [Prod.mk.injEq] at h; rw [← h.1]; exact hb
 split at h
 ·
  simp only [Prod.mk.injEq] at h; rw [← h.1]; exact zero_ok
 ·
  simp only [Prod.mk.injEq] at h
  rw [← h.1]
  refine ⟨⟨by show (-9223372036854775808 : Int) ≤ 1; decide, by show (1 : Int) ≤ 9223372036854775807; decide⟩, ?_, Nat.zero_le _⟩
  cases add
  ·
   exact maxF_lt ha.2.1 hb.2.1
  ·
   exact addF_lt _ _
theorem step_ok2 {v x t : AVal} {c : ACmd} {n : Int} (hv : v.ok) (hc : c.val.ok) (h : stepV v c = (n, x, t)) : x.ok ∧ t.ok := by
 unfold stepV at h
 split at h
 ·
  simp only [Prod.mk.injEq] at h; rw [← h.2.1, ← h.2.2]; exact ⟨hc, hv⟩
 split at h
 ·
  simp only [Prod.mk.injEq] at h; rw [← h.2.1, ← h.2.2]; exact ⟨zero_ok, hv⟩
 split at h
 ·
  split at h
  ·
   simp only [Prod.mk.injEq] at h; rw [← h.2.1, ← h.2.2]; exact ⟨hc, hv⟩
  ·
   simp only [Prod.mk.injEq] at h; rw [← h.2.1, ← h.2.2]; exact ⟨hv, hv⟩
 ·
  split at h
  rename_i y e hj
  have := join_ok2 hv hc hj
  split at h
  ·
   simp only [Prod.mk.injEq] at h; rw [← h.2.1, ← h.2.2]; exact ⟨this, this⟩
  ·
   simp only [Prod.mk.injEq] at h; rw [← h.2.1, ← h.2.2]; exact ⟨zero_ok, zero_ok⟩
theorem do_bad {l : List APair} {c : ACmd} {n : Int} (hn : n ≠ 0) (hc : cmdE c = n ∨ (cmdE c = 0 ∧ pairsB l = false ∧ n = 6)) : doP l c = (l, ⟨n, AVal.zero⟩) := by
 unfold doP
 rcases hc with h | ⟨h, h', rfl⟩
 ·
  rw [if_pos (by rw [h]; exact hn), h]
 ·
  rw [if_neg (by simpa using h), if_pos h']
theorem do_get1 {l : List APair} {c : ACmd} (hc : cmdE c = 0) (hl : pairsB l = true) (h1 : c.kind = 1) : doP l c = (l, ⟨0, getP l c.key⟩) := by
 unfold doP
 rw [if_neg (by simpa using hc), hl, if_neg (by simp), if_pos h1]

/-- The page's Do is doP. -/
theorem r_do (w : World) (T : Nat → Prop) (v : Value) (l : List APair) (c : ACmd) (h : Prs w T v l) (hl : l.length ≤ 1000000) (hcv : c.val.ok) :
  Calls Tryz.prog 36 #[v, .agg #[.int .i64 c.kind, .string c.key, .int .i64 c.old.kind, .float .f64 c.old.num, .string c.old.text, .int .i64 c.val.kind, .float .f64 c.val.num, .string c.val.text]] w (DoOut w (doP l c).1 (doP l c).2) := by
 by_cases hc : cmdE c = 0
 case neg =>
  rw [do_bad hc (.inl rfl)]
  exact r_do_bad w T v l c h hl _ hc (.inl rfl)
 rcases hp : pairsB l with _ | _
 ·
  rw [do_bad (n := 6) (by decide) (.inr ⟨hc, hp, rfl⟩)]
  exact r_do_bad w T v l c h hl 6 (by decide) (.inr ⟨hc, hp, rfl⟩)
 by_cases h1 : c.kind = 1
 ·
  rw [do_get1 hc hp h1]
  exact r_do_get w T v l c h hl hc hp _ rfl h1
 obtain ⟨hk, hks, _, _, _, _⟩ := cmd_ok hc
 have hxok := getP_ok h.2 c.key
 rw [do_eq hc hp h1]
 rcases hst : stepV (getP l c.key) c with ⟨e, y, t⟩
 simp only
 by_cases he : e = 0
 ·
  subst he
  have hy := step_ok2 hxok hcv hst
  rw [if_neg (by simp)]
  refine r_do_step w T v l c h hl hc hp _ rfl (by unfold maxLen; omega) hcv hxok y t hy.1 h1 hst _ rfl hk _ _ ?_
  split <;> rfl
 ·
  rw [if_pos he]
  have hst' := hst
  unfold stepV at hst
  split at hst
  ·
   simp only [Prod.mk.injEq] at hst; exact absurd hst.1.symm he
  split at hst
  ·
   simp only [Prod.mk.injEq] at hst; exact absurd hst.1.symm he
  split at hst
  ·
   rename_i h4
   rcases hq : eqVal (getP l c.key) c.old with _ | _
   ·
    rw [hq] at hst
    simp only [Bool.false_eq_true, if_false, Prod.mk.injEq] at hst
    rw [← hst.1, ← hst.2.2]
    exact r_do_other w T v l c h hl hc hp _ rfl h4 hq
   ·
    rw [hq] at hst
    simp only [if_true, Prod.mk.injEq] at hst
    exact absurd hst.1.symm he
  ·
   rename_i h2 h3 h4
   rcases hj : joinV (c.kind == 5) (getP l c.key) c.val with ⟨z, n⟩
   rw [hj] at hst
   simp only at hst
   split at hst
   ·
    simp only [Prod.mk.injEq] at hst; exact absurd hst.1.symm he
   ·
    rename_i hn
    simp only [Prod.mk.injEq] at hst
    rw [← hst.1, ← hst.2.2]
    exact r_do_type w T v l c h hl hc hp _ rfl (by omega) hxok.2.1 hcv.2.1 z n hj hn
end Go.Proofs.YtbclnghbgoblcaaGreat
