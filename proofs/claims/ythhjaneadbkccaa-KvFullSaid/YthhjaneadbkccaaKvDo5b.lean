/-
  The contract of the page's Do, what is done. Conditions: as each theorem names them.
-/
import Derived.Test.YthhjaneadbkccaaKvDo5
namespace Go.Proofs.Ythhjaneadbkccaa
set_option linter.unusedSimpArgs false
open Go.RowKit

/-- The three values that a Do keeps: what was there, what is next, what is told. -/
structure DoS (W0 : World) (v n t : AVal) (vs : Value) (l : List APair) (r p q : Nat) (wx : World) : Prop where
  ext : Ext W0 wx
  br : wx.heap[r]? = some (.cells #[.int .i64 v.kind, .float .f64 v.num, .string v.text] 25 (0, 0))
  bp : wx.heap[p]? = some (.cells #[.int .i64 n.kind, .float .f64 n.num, .string n.text] 25 (0, 0))
  bq : wx.heap[q]? = some (.cells #[.int .i64 t.kind, .float .f64 t.num, .string t.text] 25 (0, 0))
  r0 : W0.heap.size ≤ r
  p0 : W0.heap.size ≤ p
  q0 : W0.heap.size ≤ q
  rp : r ≠ p
  rq : r ≠ q
  pq : p ≠ q
  own : NewP W0 wx vs l
  far : ∀ g, vs.ownBlock = some g → g ≠ r ∧ g ≠ p ∧ g ≠ q
theorem three_new (w : World) (o p q : Obj) : (((w.alloc o).alloc p).alloc q).heap[w.heap.size]? = some o ∧ (((w.alloc o).alloc p).alloc q).heap[w.heap.size + 1]? = some p ∧ (((w.alloc o).alloc p).alloc q).heap[w.heap.size + 1 + 1]? = some q := by
  obtain ⟨h1, h2, h3⟩ := two_new w o p
  refine ⟨?_, ?_, ?_⟩
  · rw [Below.heap_alloc _ _ _ (by omega)]; exact h1
  · rw [Below.heap_alloc _ _ _ (by omega)]; exact h2
  · have := heap_alloc_new ((w.alloc o).alloc p) q; simpa using this

theorem doS_start {W0 w4 : World} {x : AVal} {vs : Value} {l : List APair} (hE : Ext W0 w4) (hN : NewP W0 w4 vs l) :
    DoS W0 x x x vs l w4.heap.size (w4.heap.size + 1) (w4.heap.size + 1 + 1) (((w4.alloc (.cells #[.int .i64 x.kind, .float .f64 x.num, .string x.text] 25)).alloc (.cells #[.int .i64 x.kind, .float .f64 x.num, .string x.text] 25)).alloc (.cells #[.int .i64 x.kind, .float .f64 x.num, .string x.text] 25)).drew ∧
    DoS W0 x x x vs l w4.heap.size (w4.heap.size + 1 + 1) (w4.heap.size + 1) (((w4.alloc (.cells #[.int .i64 x.kind, .float .f64 x.num, .string x.text] 25)).alloc (.cells #[.int .i64 x.kind, .float .f64 x.num, .string x.text] 25)).alloc (.cells #[.int .i64 x.kind, .float .f64 x.num, .string x.text] 25)).drew := by
  obtain ⟨h1, h2, h3⟩ := three_new w4 (.cells #[.int .i64 x.kind, .float .f64 x.num, .string x.text] 25) (.cells #[.int .i64 x.kind, .float .f64 x.num, .string x.text] 25) (.cells #[.int .i64 x.kind, .float .f64 x.num, .string x.text] 25)
  have hE2 : Ext w4 (((w4.alloc (.cells #[.int .i64 x.kind, .float .f64 x.num, .string x.text] 25)).alloc (.cells #[.int .i64 x.kind, .float .f64 x.num, .string x.text] 25)).alloc (.cells #[.int .i64 x.kind, .float .f64 x.num, .string x.text] 25)).drew := ((((Mod.refl _ w4).alloc _).alloc _).alloc _).drew
  have hs := hE.size
  have hlt : ∀ g, vs.ownBlock = some g → g < w4.heap.size := fun g hg => (hN.1.lt g hg).2
  have hN2 := newP_mod hN hE2 (fun _ _ => id)
  exact ⟨⟨hE.ext hE2, h1, h2, h3, hs, by omega, by omega, by omega, by omega, by omega, hN2, fun g hg => by have := hlt g hg; omega⟩,
    ⟨hE.ext hE2, h1, h3, h2, hs, by omega, by omega, by omega, by omega, by omega, hN2, fun g hg => by have := hlt g hg; omega⟩⟩
/-- A value is stored over another one. -/
theorem val_set {w : World} {b : Nat} {y : AVal} (x : AVal) (h : w.heap[b]? = some (.cells #[.int .i64 y.kind, .float .f64 y.num, .string y.text] 25 (0, 0))) :
    (((w.setCell ⟨b, 0, none⟩ (.int .i64 x.kind)).setCell ⟨b, 1, none⟩ (.float .f64 x.num)).setCell ⟨b, 2, none⟩ (.string x.text)).heap[b]? = some (.cells #[.int .i64 x.kind, .float .f64 x.num, .string x.text] 25 (0, 0)) := by
  simp [World.setCell, Array.getElem?_modify, h]
theorem val_set_mod (w : World) (b : Nat) (x y z : Value) : Mod (fun k => k = b) w (((w.setCell ⟨b, 0, none⟩ x).setCell ⟨b, 1, none⟩ y).setCell ⟨b, 2, none⟩ z) :=
  mod_same (mod_same (mod_same (Mod.refl _ w) _ _) _ _) _ _
theorem DoS.next {W0 wx : World} {v n t : AVal} {vs : Value} {l : List APair} {r p q : Nat} (h : DoS W0 v n t vs l r p q wx) (x : AVal) :
    DoS W0 v x t vs l r p q (((wx.setCell ⟨p, 0, none⟩ (.int .i64 x.kind)).setCell ⟨p, 1, none⟩ (.float .f64 x.num)).setCell ⟨p, 2, none⟩ (.string x.text)) := by
  have hm := val_set_mod wx p (.int .i64 x.kind) (.float .f64 x.num) (.string x.text)
  have := h.p0
  exact ⟨h.ext.trans (hm.mono (T := Since W0.heap.size) (fun k _ e => by rw [e]; exact this)) (fun k hk hS => by have : W0.heap.size ≤ k := hS; omega), hm.blk h.br h.rp, val_set x h.bp, hm.blk h.bq (Ne.symm h.pq), h.r0, h.p0, h.q0, h.rp, h.rq, h.pq,
    newP_mod h.own hm (fun g hg e => (h.far g hg).2.1 e), h.far⟩
theorem DoS.told {W0 wx : World} {v n t : AVal} {vs : Value} {l : List APair} {r p q : Nat} (h : DoS W0 v n t vs l r p q wx) (x : AVal) :
    DoS W0 v n x vs l r p q (((wx.setCell ⟨q, 0, none⟩ (.int .i64 x.kind)).setCell ⟨q, 1, none⟩ (.float .f64 x.num)).setCell ⟨q, 2, none⟩ (.string x.text)) := by
  have hm := val_set_mod wx q (.int .i64 x.kind) (.float .f64 x.num) (.string x.text)
  have := h.q0
  exact ⟨h.ext.trans (hm.mono (T := Since W0.heap.size) (fun k _ e => by rw [e]; exact this)) (fun k hk hS => by have : W0.heap.size ≤ k := hS; omega), hm.blk h.br h.rq, hm.blk h.bp h.pq, val_set x h.bq, h.r0, h.p0, h.q0, h.rp, h.rq, h.pq,
    newP_mod h.own hm (fun g hg e => (h.far g hg).2.2 e), h.far⟩
theorem DoS.mod {W0 wx wy : World} {v n t : AVal} {vs : Value} {l : List APair} {r p q : Nat} (h : DoS W0 v n t vs l r p q wx) (hE : Ext wx wy) : DoS W0 v n t vs l r p q wy :=
  ⟨h.ext.ext hE, hE.blk h.br id, hE.blk h.bp id, hE.blk h.bq id, h.r0, h.p0, h.q0, h.rp, h.rq, h.pq, newP_mod h.own hE (fun _ _ => id), h.far⟩


set_option maxRecDepth 100000 in
set_option maxHeartbeats 4000000 in
theorem r_do_get (w : World) (T : Nat → Prop) (v : Value) (l : List APair) (c : ACmd) (h : Prs w T v l) (hl : l.length ≤ 1000000) (hc : cmdE c = 0) (hp : pairsB l = true) (x : AVal) (hx : getP l c.key = x) (hk : c.kind = 1) :
    Calls Try.prog 30 #[v, .agg #[.int .i64 c.kind, .string c.key, .int .i64 c.old.kind, .float .f64 c.old.num, .string c.old.text, .int .i64 c.val.kind, .float .f64 c.val.num, .string c.val.text]] w (DoOut w l ⟨0, x⟩) := by
  have d1 : (c.kind == 1) = true := by simpa using hk
  clear hk
  go_enter Try.func30, Try.ntmps30
  go_wp2_with fail
  obtain ⟨W0, hW0⟩ : ∃ W0, W0 = (w.alloc (.cells #[.int .i64 c.kind, .string c.key, .int .i64 c.old.kind, .float .f64 c.old.num, .string c.old.text, .int .i64 c.val.kind, .float .f64 c.val.num, .string c.val.text] 27)).alloc (.cells #[.int .i64 0, .int .i64 0, .float .f64 0, .string ⟨#[]⟩] 33) := ⟨_, rfl⟩
  obtain ⟨b3, hb3⟩ : ∃ b3, b3 = w.heap.size := ⟨_, rfl⟩
  obtain ⟨hB3, hB5, hZ0⟩ := two_new w (.cells #[.int .i64 c.kind, .string c.key, .int .i64 c.old.kind, .float .f64 c.old.num, .string c.old.text, .int .i64 c.val.kind, .float .f64 c.val.num, .string c.val.text] 27) (.cells #[.int .i64 0, .int .i64 0, .float .f64 0, .string ⟨#[]⟩] 33)
  have hE : Ext w W0 := by rw [hW0]; exact ((Mod.refl _ w).alloc _).alloc _
  rw [← hW0, ← hb3] at hB3 hB5 hZ0 ⊢
  have hZ : w.heap.size ≤ b3 := Nat.le_of_eq hb3.symm
  have Hb3 := Lib.hid hb3
  have HW0 := Lib.hid hW0
  have hw0 : b3 + 1 < W0.heap.size := by omega
  have hw0' : b3 < W0.heap.size := by omega
  clear hW0 hb3
  have k0 : W0.cell? ⟨b3, 0, none⟩ = some _ := blk_cell hB3 rfl
  have k1 : W0.cell? ⟨b3, 1, none⟩ = some _ := blk_cell hB3 rfl
  have k2 : W0.cell? ⟨b3, 2, none⟩ = some _ := blk_cell hB3 rfl
  have k3 : W0.cell? ⟨b3, 3, none⟩ = some _ := blk_cell hB3 rfl
  have k4 : W0.cell? ⟨b3, 4, none⟩ = some _ := blk_cell hB3 rfl
  have k5 : W0.cell? ⟨b3, 5, none⟩ = some _ := blk_cell hB3 rfl
  have k6 : W0.cell? ⟨b3, 6, none⟩ = some _ := blk_cell hB3 rfl
  have k7 : W0.cell? ⟨b3, 7, none⟩ = some _ := blk_cell hB3 rfl
  have g0 : W0.cell? ⟨b3 + 1, 0, none⟩ = some _ := blk_cell hB5 rfl
  have g1 : W0.cell? ⟨b3 + 1, 1, none⟩ = some _ := blk_cell hB5 rfl
  have g2 : W0.cell? ⟨b3 + 1, 2, none⟩ = some _ := blk_cell hB5 rfl
  have g3 : W0.cell? ⟨b3 + 1, 3, none⟩ = some _ := blk_cell hB5 rfl
  have f0 : W0.frozen? ⟨b3 + 1, 0, none⟩ = false := blk_free 0 hB5
  have f1 : W0.frozen? ⟨b3 + 1, 1, none⟩ = false := blk_free 1 hB5
  have f2 : W0.frozen? ⟨b3 + 1, 2, none⟩ = false := blk_free 2 hB5
  have f3 : W0.frozen? ⟨b3 + 1, 3, none⟩ = false := blk_free 3 hB5
  have HB3 := Lib.hid hB3
  have HB5 := Lib.hid hB5
  have h2 := h.ext hE
  clear hB3 hB5 hZ0
  refine (k_twinPairs _ T v l h2 hl).mono ?_
  rintro e w1 ⟨vs, rfl, hN, hE1⟩
  obtain ⟨hc1, hf1⟩ := bcell hE1
  have hz1 := hE1.size
  have p0 : b3 < w1.heap.size := by omega
  have p1 : b3 + 1 < w1.heap.size := by omega
  have HE1 := Lib.hid (hE.ext hE1)
  have HF1 := Lib.hid hE1
  have HN := Lib.hid hN
  have h3 := h2.ext hE1
  clear hN hE1
  go_wp2_with fail
  refine (r_cmd c _).mono ?_
  rintro e w2 ⟨rfl, hE2⟩
  obtain ⟨hc2, hf2⟩ := bcell hE2
  have hz2 := hE2.size
  have p2 : b3 < w2.heap.size := by omega
  have p3 : b3 + 1 < w2.heap.size := by omega
  have HE2 := Lib.hid (HE1.out.ext hE2)
  have HF2 := Lib.hid (HF1.out.ext hE2)
  have HN2 := Lib.hid (newP_mod HN.out hE2 (fun _ _ => id))
  have h4 := h3.ext hE2
  clear hE2
  rw [hc]
  clear hc
  go_wp2_with fail
  refine (r_pairs _ T v l h4).mono ?_
  rintro e w3 ⟨rfl, hE3⟩
  obtain ⟨hc3, hf3⟩ := bcell hE3
  have hz3 := hE3.size
  have p4 : b3 < w3.heap.size := by omega
  have p5 : b3 + 1 < w3.heap.size := by omega
  have HE3 := Lib.hid (HE2.out.ext hE3)
  have HF3 := Lib.hid (HF2.out.ext hE3)
  have HN3 := Lib.hid (newP_mod HN2.out hE3 (fun _ _ => id))
  have h5 := h4.ext hE3
  clear hE3
  rw [hp]
  clear hp
  go_wp2_with fail
  refine (r_get w3 T v l c.key h5).mono ?_
  rintro e w4 ⟨rfl, hE4⟩
  rw [hx]
  obtain ⟨hc4, hf4⟩ := bcell hE4
  have hz4 := hE4.size
  have p6 : b3 < w4.heap.size := by omega
  have p7 : b3 + 1 < w4.heap.size := by omega
  have HS4 := Lib.hid (doS_start (x := x) (HF3.out.ext hE4) (newP_mod HN3.out hE4 (fun _ _ => id)))
  have HX := Lib.hid hx
  clear hE4 hx
  go_upto_region 8 with fail
  go_cut [8, 9, 10] (fun s8 s9 s10 wx => ∃ r p q : Nat, s8 = .pointer (some ⟨r, 0, none⟩) ∧ s9 = .pointer (some ⟨p, 0, none⟩) ∧ s10 = .pointer (some ⟨q, 0, none⟩) ∧ DoS W0 x x x vs l r p q wx)
  case first =>
    go_region_held3 (fun w' => w'.cell? ⟨w4.heap.size, 0, none⟩ = some (.int .i64 x.kind) ∧ w'.cell? ⟨w4.heap.size, 1, none⟩ = some (.float .f64 x.num) ∧ w'.cell? ⟨w4.heap.size, 2, none⟩ = some (.string x.text)) (go_keep) (fail)
    all_goals
      go_wp2_with fail
      go_meet
      first | exact ⟨_, _, _, rfl, rfl, rfl, HS4.out.1⟩ | exact ⟨_, _, _, rfl, rfl, rfl, HS4.out.2⟩
  case rest =>
    obtain ⟨r, p, q, rfl, rfl, rfl, hS⟩ := hcut
    obtain ⟨hac, haf⟩ := bcell hS.ext
    have ar0 : wc.cell? ⟨r, 0, none⟩ = some _ := blk_cell hS.br rfl
    have ar1 : wc.cell? ⟨r, 1, none⟩ = some _ := blk_cell hS.br rfl
    have ar2 : wc.cell? ⟨r, 2, none⟩ = some _ := blk_cell hS.br rfl
    have ap0 : wc.cell? ⟨p, 0, none⟩ = some _ := blk_cell hS.bp rfl
    have ap1 : wc.cell? ⟨p, 1, none⟩ = some _ := blk_cell hS.bp rfl
    have ap2 : wc.cell? ⟨p, 2, none⟩ = some _ := blk_cell hS.bp rfl
    have aq0 : wc.cell? ⟨q, 0, none⟩ = some _ := blk_cell hS.bq rfl
    have aq1 : wc.cell? ⟨q, 1, none⟩ = some _ := blk_cell hS.bq rfl
    have aq2 : wc.cell? ⟨q, 2, none⟩ = some _ := blk_cell hS.bq rfl
    have afp0 : wc.frozen? ⟨p, 0, none⟩ = false := blk_free 0 hS.bp
    have afp1 : wc.frozen? ⟨p, 1, none⟩ = false := blk_free 1 hS.bp
    have afp2 : wc.frozen? ⟨p, 2, none⟩ = false := blk_free 2 hS.bp
    have afq0 : wc.frozen? ⟨q, 0, none⟩ = false := blk_free 0 hS.bq
    have afq1 : wc.frozen? ⟨q, 1, none⟩ = false := blk_free 1 hS.bq
    have afq2 : wc.frozen? ⟨q, 2, none⟩ = false := blk_free 2 hS.bq
    have az1 : b3 < wc.heap.size := by have := hS.ext.size; omega
    have az2 : b3 + 1 < wc.heap.size := by have := hS.ext.size; omega
    have n1 := hS.rp
    have n2 := hS.rq
    have n3 := hS.pq
    have n4 := Ne.symm n1
    have n5 := Ne.symm n2
    have n6 := Ne.symm n3
    have n7 : ¬ b3 = r := by have := hS.r0; omega
    have n8 : ¬ b3 = p := by have := hS.p0; omega
    have n9 : ¬ b3 = q := by have := hS.q0; omega
    have m7 : ¬ b3 + 1 = r := by have := hS.r0; omega
    have m8 : ¬ b3 + 1 = p := by have := hS.p0; omega
    have m9 : ¬ b3 + 1 = q := by have := hS.q0; omega
    have l7 : ¬ r = b3 + 1 := by omega
    have l8 : ¬ p = b3 + 1 := by omega
    have l9 : ¬ q = b3 + 1 := by omega
    have HO := Lib.hid hS.own
    have HE := Lib.hid (hE.ext hS.ext)
    clear hS
    go_wp2_with fail
    go_region_held3 (fun w' => w'.cell? ⟨r, 0, none⟩ = some (.int .i64 x.kind) ∧ w'.cell? ⟨r, 1, none⟩ = some (.float .f64 x.num) ∧ w'.cell? ⟨r, 2, none⟩ = some (.string x.text)) (go_keep) (fail)
    all_goals
      go_wp2_with fail
      refine bodyPost_ret (v := .tuple #[vs, .agg #[.int .i64 0, .int .i64 x.kind, .float .f64 x.num, .string x.text]]) (by simp [results, Try.results30, go_sem, g0, g1, g2, g3, hac, az1, az2, hw0]) rfl ?_
      refine doOut_of (r := ⟨0, x⟩) HO.out HE.out ?_ hw0 hZ rfl
      repeat (first | refine mod_same ?_ _ _ | refine Mod.drew ?_)
      exact Mod.refl _ _


set_option maxRecDepth 100000 in
set_option maxHeartbeats 4000000 in
theorem r_do_other (w : World) (T : Nat → Prop) (v : Value) (l : List APair) (c : ACmd) (h : Prs w T v l) (hl : l.length ≤ 1000000) (hc : cmdE c = 0) (hp : pairsB l = true) (x : AVal) (hx : getP l c.key = x) (hk : c.kind = 4) (he : eqVal x c.old = false) :
    Calls Try.prog 30 #[v, .agg #[.int .i64 c.kind, .string c.key, .int .i64 c.old.kind, .float .f64 c.old.num, .string c.old.text, .int .i64 c.val.kind, .float .f64 c.val.num, .string c.val.text]] w (DoOut w l ⟨9, x⟩) := by
  have d1 : (c.kind == 1) = false := by simp [hk]
  have d2 : (c.kind == 2) = false := by simp [hk]
  have d3 : (c.kind == 3) = false := by simp [hk]
  have d4 : (c.kind == 4) = true := by simp [hk]
  clear hk
  go_enter Try.func30, Try.ntmps30
  go_wp2_with fail
  obtain ⟨W0, hW0⟩ : ∃ W0, W0 = (w.alloc (.cells #[.int .i64 c.kind, .string c.key, .int .i64 c.old.kind, .float .f64 c.old.num, .string c.old.text, .int .i64 c.val.kind, .float .f64 c.val.num, .string c.val.text] 27)).alloc (.cells #[.int .i64 0, .int .i64 0, .float .f64 0, .string ⟨#[]⟩] 33) := ⟨_, rfl⟩
  obtain ⟨b3, hb3⟩ : ∃ b3, b3 = w.heap.size := ⟨_, rfl⟩
  obtain ⟨hB3, hB5, hZ0⟩ := two_new w (.cells #[.int .i64 c.kind, .string c.key, .int .i64 c.old.kind, .float .f64 c.old.num, .string c.old.text, .int .i64 c.val.kind, .float .f64 c.val.num, .string c.val.text] 27) (.cells #[.int .i64 0, .int .i64 0, .float .f64 0, .string ⟨#[]⟩] 33)
  have hE : Ext w W0 := by rw [hW0]; exact ((Mod.refl _ w).alloc _).alloc _
  rw [← hW0, ← hb3] at hB3 hB5 hZ0 ⊢
  have hZ : w.heap.size ≤ b3 := Nat.le_of_eq hb3.symm
  have Hb3 := Lib.hid hb3
  have HW0 := Lib.hid hW0
  have hw0 : b3 + 1 < W0.heap.size := by omega
  have hw0' : b3 < W0.heap.size := by omega
  clear hW0 hb3
  have k0 : W0.cell? ⟨b3, 0, none⟩ = some _ := blk_cell hB3 rfl
  have k1 : W0.cell? ⟨b3, 1, none⟩ = some _ := blk_cell hB3 rfl
  have k2 : W0.cell? ⟨b3, 2, none⟩ = some _ := blk_cell hB3 rfl
  have k3 : W0.cell? ⟨b3, 3, none⟩ = some _ := blk_cell hB3 rfl
  have k4 : W0.cell? ⟨b3, 4, none⟩ = some _ := blk_cell hB3 rfl
  have k5 : W0.cell? ⟨b3, 5, none⟩ = some _ := blk_cell hB3 rfl
  have k6 : W0.cell? ⟨b3, 6, none⟩ = some _ := blk_cell hB3 rfl
  have k7 : W0.cell? ⟨b3, 7, none⟩ = some _ := blk_cell hB3 rfl
  have g0 : W0.cell? ⟨b3 + 1, 0, none⟩ = some _ := blk_cell hB5 rfl
  have g1 : W0.cell? ⟨b3 + 1, 1, none⟩ = some _ := blk_cell hB5 rfl
  have g2 : W0.cell? ⟨b3 + 1, 2, none⟩ = some _ := blk_cell hB5 rfl
  have g3 : W0.cell? ⟨b3 + 1, 3, none⟩ = some _ := blk_cell hB5 rfl
  have f0 : W0.frozen? ⟨b3 + 1, 0, none⟩ = false := blk_free 0 hB5
  have f1 : W0.frozen? ⟨b3 + 1, 1, none⟩ = false := blk_free 1 hB5
  have f2 : W0.frozen? ⟨b3 + 1, 2, none⟩ = false := blk_free 2 hB5
  have f3 : W0.frozen? ⟨b3 + 1, 3, none⟩ = false := blk_free 3 hB5
  have HB3 := Lib.hid hB3
  have HB5 := Lib.hid hB5
  have h2 := h.ext hE
  clear hB3 hB5 hZ0
  refine (k_twinPairs _ T v l h2 hl).mono ?_
  rintro e w1 ⟨vs, rfl, hN, hE1⟩
  obtain ⟨hc1, hf1⟩ := bcell hE1
  have hz1 := hE1.size
  have p0 : b3 < w1.heap.size := by omega
  have p1 : b3 + 1 < w1.heap.size := by omega
  have HE1 := Lib.hid (hE.ext hE1)
  have HF1 := Lib.hid hE1
  have HN := Lib.hid hN
  have h3 := h2.ext hE1
  clear hN hE1
  go_wp2_with fail
  refine (r_cmd c _).mono ?_
  rintro e w2 ⟨rfl, hE2⟩
  obtain ⟨hc2, hf2⟩ := bcell hE2
  have hz2 := hE2.size
  have p2 : b3 < w2.heap.size := by omega
  have p3 : b3 + 1 < w2.heap.size := by omega
  have HE2 := Lib.hid (HE1.out.ext hE2)
  have HF2 := Lib.hid (HF1.out.ext hE2)
  have HN2 := Lib.hid (newP_mod HN.out hE2 (fun _ _ => id))
  have h4 := h3.ext hE2
  clear hE2
  rw [hc]
  clear hc
  go_wp2_with fail
  refine (r_pairs _ T v l h4).mono ?_
  rintro e w3 ⟨rfl, hE3⟩
  obtain ⟨hc3, hf3⟩ := bcell hE3
  have hz3 := hE3.size
  have p4 : b3 < w3.heap.size := by omega
  have p5 : b3 + 1 < w3.heap.size := by omega
  have HE3 := Lib.hid (HE2.out.ext hE3)
  have HF3 := Lib.hid (HF2.out.ext hE3)
  have HN3 := Lib.hid (newP_mod HN2.out hE3 (fun _ _ => id))
  have h5 := h4.ext hE3
  clear hE3
  rw [hp]
  clear hp
  go_wp2_with fail
  refine (r_get w3 T v l c.key h5).mono ?_
  rintro e w4 ⟨rfl, hE4⟩
  rw [hx]
  obtain ⟨hc4, hf4⟩ := bcell hE4
  have hz4 := hE4.size
  have p6 : b3 < w4.heap.size := by omega
  have p7 : b3 + 1 < w4.heap.size := by omega
  have HS4 := Lib.hid (doS_start (x := x) (HF3.out.ext hE4) (newP_mod HN3.out hE4 (fun _ _ => id)))
  have HX := Lib.hid hx
  clear hE4 hx
  go_upto_region 8 with fail
  go_cut [8, 9, 10] (fun s8 s9 s10 wx => ∃ r p q : Nat, s8 = .pointer (some ⟨r, 0, none⟩) ∧ s9 = .pointer (some ⟨p, 0, none⟩) ∧ s10 = .pointer (some ⟨q, 0, none⟩) ∧ DoS W0 x x x vs l r p q wx)
  case first =>
    go_region_held3 (fun w' => w'.cell? ⟨w4.heap.size, 0, none⟩ = some (.int .i64 x.kind) ∧ w'.cell? ⟨w4.heap.size, 1, none⟩ = some (.float .f64 x.num) ∧ w'.cell? ⟨w4.heap.size, 2, none⟩ = some (.string x.text)) (go_keep) (fail)
    all_goals
      go_wp2_with fail
      go_meet
      first | exact ⟨_, _, _, rfl, rfl, rfl, HS4.out.1⟩ | exact ⟨_, _, _, rfl, rfl, rfl, HS4.out.2⟩
  case rest =>
    obtain ⟨r, p, q, rfl, rfl, rfl, hS⟩ := hcut
    obtain ⟨hac, haf⟩ := bcell hS.ext
    have ar0 : wc.cell? ⟨r, 0, none⟩ = some _ := blk_cell hS.br rfl
    have ar1 : wc.cell? ⟨r, 1, none⟩ = some _ := blk_cell hS.br rfl
    have ar2 : wc.cell? ⟨r, 2, none⟩ = some _ := blk_cell hS.br rfl
    have ap0 : wc.cell? ⟨p, 0, none⟩ = some _ := blk_cell hS.bp rfl
    have ap1 : wc.cell? ⟨p, 1, none⟩ = some _ := blk_cell hS.bp rfl
    have ap2 : wc.cell? ⟨p, 2, none⟩ = some _ := blk_cell hS.bp rfl
    have aq0 : wc.cell? ⟨q, 0, none⟩ = some _ := blk_cell hS.bq rfl
    have aq1 : wc.cell? ⟨q, 1, none⟩ = some _ := blk_cell hS.bq rfl
    have aq2 : wc.cell? ⟨q, 2, none⟩ = some _ := blk_cell hS.bq rfl
    have afp0 : wc.frozen? ⟨p, 0, none⟩ = false := blk_free 0 hS.bp
    have afp1 : wc.frozen? ⟨p, 1, none⟩ = false := blk_free 1 hS.bp
    have afp2 : wc.frozen? ⟨p, 2, none⟩ = false := blk_free 2 hS.bp
    have afq0 : wc.frozen? ⟨q, 0, none⟩ = false := blk_free 0 hS.bq
    have afq1 : wc.frozen? ⟨q, 1, none⟩ = false := blk_free 1 hS.bq
    have afq2 : wc.frozen? ⟨q, 2, none⟩ = false := blk_free 2 hS.bq
    have az1 : b3 < wc.heap.size := by have := hS.ext.size; omega
    have az2 : b3 + 1 < wc.heap.size := by have := hS.ext.size; omega
    have n1 := hS.rp
    have n2 := hS.rq
    have n3 := hS.pq
    have n4 := Ne.symm n1
    have n5 := Ne.symm n2
    have n6 := Ne.symm n3
    have n7 : ¬ b3 = r := by have := hS.r0; omega
    have n8 : ¬ b3 = p := by have := hS.p0; omega
    have n9 : ¬ b3 = q := by have := hS.q0; omega
    have m7 : ¬ b3 + 1 = r := by have := hS.r0; omega
    have m8 : ¬ b3 + 1 = p := by have := hS.p0; omega
    have m9 : ¬ b3 + 1 = q := by have := hS.q0; omega
    have l7 : ¬ r = b3 + 1 := by omega
    have l8 : ¬ p = b3 + 1 := by omega
    have l9 : ¬ q = b3 + 1 := by omega
    have HS := Lib.hid hS
    clear hS
    go_wp2_with fail
    refine (k_value x c.old _).mono ?_
    rintro e w5 ⟨rfl, hE5⟩
    have hS5 := HS.out.mod hE5
    rw [he]
    clear he hE5
    obtain ⟨hec, hef⟩ := bcell hS5.ext
    have er0 : w5.cell? ⟨r, 0, none⟩ = some _ := blk_cell hS5.br rfl
    have er1 : w5.cell? ⟨r, 1, none⟩ = some _ := blk_cell hS5.br rfl
    have er2 : w5.cell? ⟨r, 2, none⟩ = some _ := blk_cell hS5.br rfl
    have ep0 : w5.cell? ⟨p, 0, none⟩ = some _ := blk_cell hS5.bp rfl
    have ep1 : w5.cell? ⟨p, 1, none⟩ = some _ := blk_cell hS5.bp rfl
    have ep2 : w5.cell? ⟨p, 2, none⟩ = some _ := blk_cell hS5.bp rfl
    have eq0 : w5.cell? ⟨q, 0, none⟩ = some _ := blk_cell hS5.bq rfl
    have eq1 : w5.cell? ⟨q, 1, none⟩ = some _ := blk_cell hS5.bq rfl
    have eq2 : w5.cell? ⟨q, 2, none⟩ = some _ := blk_cell hS5.bq rfl
    have efp0 : w5.frozen? ⟨p, 0, none⟩ = false := blk_free 0 hS5.bp
    have efp1 : w5.frozen? ⟨p, 1, none⟩ = false := blk_free 1 hS5.bp
    have efp2 : w5.frozen? ⟨p, 2, none⟩ = false := blk_free 2 hS5.bp
    have efq0 : w5.frozen? ⟨q, 0, none⟩ = false := blk_free 0 hS5.bq
    have efq1 : w5.frozen? ⟨q, 1, none⟩ = false := blk_free 1 hS5.bq
    have efq2 : w5.frozen? ⟨q, 2, none⟩ = false := blk_free 2 hS5.bq
    have ez1 : b3 < w5.heap.size := by have := hS5.ext.size; omega
    have ez2 : b3 + 1 < w5.heap.size := by have := hS5.ext.size; omega
    have HO := Lib.hid hS5.own
    have HE := Lib.hid (hE.ext hS5.ext)
    clear hS5
    go_wp2_with fail
    go_region_held3 (fun w' => w'.cell? ⟨r, 0, none⟩ = some (.int .i64 x.kind) ∧ w'.cell? ⟨r, 1, none⟩ = some (.float .f64 x.num) ∧ w'.cell? ⟨r, 2, none⟩ = some (.string x.text)) (go_keep) (fail)
    all_goals
      go_wp2_with fail
      refine bodyPost_ret (v := .tuple #[vs, .agg #[.int .i64 9, .int .i64 x.kind, .float .f64 x.num, .string x.text]]) (by simp [results, Try.results30, go_sem, g0, g1, g2, g3, hec, ez1, ez2, hw0]) rfl ?_
      refine doOut_of (r := ⟨9, x⟩) HO.out HE.out ?_ hw0 hZ rfl
      repeat (first | refine mod_same ?_ _ _ | refine Mod.drew ?_)
      exact Mod.refl _ _

set_option maxRecDepth 100000 in
set_option maxHeartbeats 4000000 in
theorem r_do_type (w : World) (T : Nat → Prop) (v : Value) (l : List APair) (c : ACmd) (h : Prs w T v l) (hl : l.length ≤ 1000000) (hc : cmdE c = 0) (hp : pairsB l = true) (x : AVal) (hx : getP l c.key = x) (hk : c.kind = 5 ∨ c.kind = 6)
    (hxn : x.num < 18446744073709551616) (hvn : c.val.num < 18446744073709551616) (y : AVal) (n : Int) (hj : joinV (c.kind == 5) x c.val = (y, n)) (hn : n ≠ 0) :
    Calls Try.prog 30 #[v, .agg #[.int .i64 c.kind, .string c.key, .int .i64 c.old.kind, .float .f64 c.old.num, .string c.old.text, .int .i64 c.val.kind, .float .f64 c.val.num, .string c.val.text]] w (DoOut w l ⟨n, AVal.zero⟩) := by
  have d1 : (c.kind == 1) = false := by rcases hk with hk | hk <;> simp [hk]
  have d2 : (c.kind == 2) = false := by rcases hk with hk | hk <;> simp [hk]
  have d3 : (c.kind == 3) = false := by rcases hk with hk | hk <;> simp [hk]
  have d4 : (c.kind == 4) = false := by rcases hk with hk | hk <;> simp [hk]
  have dn : (n != 0) = true := by simpa using hn
  obtain ⟨add, hadd⟩ : ∃ add, (c.kind == 5) = add := ⟨_, rfl⟩
  rw [hadd] at hj
  have HJ := Lib.hid hj
  clear hk hn hj
  go_enter Try.func30, Try.ntmps30
  go_wp2_with fail
  obtain ⟨W0, hW0⟩ : ∃ W0, W0 = (w.alloc (.cells #[.int .i64 c.kind, .string c.key, .int .i64 c.old.kind, .float .f64 c.old.num, .string c.old.text, .int .i64 c.val.kind, .float .f64 c.val.num, .string c.val.text] 27)).alloc (.cells #[.int .i64 0, .int .i64 0, .float .f64 0, .string ⟨#[]⟩] 33) := ⟨_, rfl⟩
  obtain ⟨b3, hb3⟩ : ∃ b3, b3 = w.heap.size := ⟨_, rfl⟩
  obtain ⟨hB3, hB5, hZ0⟩ := two_new w (.cells #[.int .i64 c.kind, .string c.key, .int .i64 c.old.kind, .float .f64 c.old.num, .string c.old.text, .int .i64 c.val.kind, .float .f64 c.val.num, .string c.val.text] 27) (.cells #[.int .i64 0, .int .i64 0, .float .f64 0, .string ⟨#[]⟩] 33)
  have hE : Ext w W0 := by rw [hW0]; exact ((Mod.refl _ w).alloc _).alloc _
  rw [← hW0, ← hb3] at hB3 hB5 hZ0 ⊢
  have hZ : w.heap.size ≤ b3 := Nat.le_of_eq hb3.symm
  have Hb3 := Lib.hid hb3
  have HW0 := Lib.hid hW0
  have hw0 : b3 + 1 < W0.heap.size := by omega
  have hw0' : b3 < W0.heap.size := by omega
  clear hW0 hb3
  have k0 : W0.cell? ⟨b3, 0, none⟩ = some _ := blk_cell hB3 rfl
  have k1 : W0.cell? ⟨b3, 1, none⟩ = some _ := blk_cell hB3 rfl
  have k2 : W0.cell? ⟨b3, 2, none⟩ = some _ := blk_cell hB3 rfl
  have k3 : W0.cell? ⟨b3, 3, none⟩ = some _ := blk_cell hB3 rfl
  have k4 : W0.cell? ⟨b3, 4, none⟩ = some _ := blk_cell hB3 rfl
  have k5 : W0.cell? ⟨b3, 5, none⟩ = some _ := blk_cell hB3 rfl
  have k6 : W0.cell? ⟨b3, 6, none⟩ = some _ := blk_cell hB3 rfl
  have k7 : W0.cell? ⟨b3, 7, none⟩ = some _ := blk_cell hB3 rfl
  have g0 : W0.cell? ⟨b3 + 1, 0, none⟩ = some _ := blk_cell hB5 rfl
  have g1 : W0.cell? ⟨b3 + 1, 1, none⟩ = some _ := blk_cell hB5 rfl
  have g2 : W0.cell? ⟨b3 + 1, 2, none⟩ = some _ := blk_cell hB5 rfl
  have g3 : W0.cell? ⟨b3 + 1, 3, none⟩ = some _ := blk_cell hB5 rfl
  have f0 : W0.frozen? ⟨b3 + 1, 0, none⟩ = false := blk_free 0 hB5
  have f1 : W0.frozen? ⟨b3 + 1, 1, none⟩ = false := blk_free 1 hB5
  have f2 : W0.frozen? ⟨b3 + 1, 2, none⟩ = false := blk_free 2 hB5
  have f3 : W0.frozen? ⟨b3 + 1, 3, none⟩ = false := blk_free 3 hB5
  have HB3 := Lib.hid hB3
  have HB5 := Lib.hid hB5
  have h2 := h.ext hE
  clear hB3 hB5 hZ0
  refine (k_twinPairs _ T v l h2 hl).mono ?_
  rintro e w1 ⟨vs, rfl, hN, hE1⟩
  obtain ⟨hc1, hf1⟩ := bcell hE1
  have hz1 := hE1.size
  have p0 : b3 < w1.heap.size := by omega
  have p1 : b3 + 1 < w1.heap.size := by omega
  have HE1 := Lib.hid (hE.ext hE1)
  have HF1 := Lib.hid hE1
  have HN := Lib.hid hN
  have h3 := h2.ext hE1
  clear hN hE1
  go_wp2_with fail
  refine (r_cmd c _).mono ?_
  rintro e w2 ⟨rfl, hE2⟩
  obtain ⟨hc2, hf2⟩ := bcell hE2
  have hz2 := hE2.size
  have p2 : b3 < w2.heap.size := by omega
  have p3 : b3 + 1 < w2.heap.size := by omega
  have HE2 := Lib.hid (HE1.out.ext hE2)
  have HF2 := Lib.hid (HF1.out.ext hE2)
  have HN2 := Lib.hid (newP_mod HN.out hE2 (fun _ _ => id))
  have h4 := h3.ext hE2
  clear hE2
  rw [hc]
  clear hc
  go_wp2_with fail
  refine (r_pairs _ T v l h4).mono ?_
  rintro e w3 ⟨rfl, hE3⟩
  obtain ⟨hc3, hf3⟩ := bcell hE3
  have hz3 := hE3.size
  have p4 : b3 < w3.heap.size := by omega
  have p5 : b3 + 1 < w3.heap.size := by omega
  have HE3 := Lib.hid (HE2.out.ext hE3)
  have HF3 := Lib.hid (HF2.out.ext hE3)
  have HN3 := Lib.hid (newP_mod HN2.out hE3 (fun _ _ => id))
  have h5 := h4.ext hE3
  clear hE3
  rw [hp]
  clear hp
  go_wp2_with fail
  refine (r_get w3 T v l c.key h5).mono ?_
  rintro e w4 ⟨rfl, hE4⟩
  rw [hx]
  obtain ⟨hc4, hf4⟩ := bcell hE4
  have hz4 := hE4.size
  have p6 : b3 < w4.heap.size := by omega
  have p7 : b3 + 1 < w4.heap.size := by omega
  have HS4 := Lib.hid (doS_start (x := x) (HF3.out.ext hE4) (newP_mod HN3.out hE4 (fun _ _ => id)))
  have HX := Lib.hid hx
  clear hE4 hx
  go_upto_region 8 with fail
  go_cut [8, 9, 10] (fun s8 s9 s10 wx => ∃ r p q : Nat, s8 = .pointer (some ⟨r, 0, none⟩) ∧ s9 = .pointer (some ⟨p, 0, none⟩) ∧ s10 = .pointer (some ⟨q, 0, none⟩) ∧ DoS W0 x x x vs l r p q wx)
  case first =>
    go_region_held3 (fun w' => w'.cell? ⟨w4.heap.size, 0, none⟩ = some (.int .i64 x.kind) ∧ w'.cell? ⟨w4.heap.size, 1, none⟩ = some (.float .f64 x.num) ∧ w'.cell? ⟨w4.heap.size, 2, none⟩ = some (.string x.text)) (go_keep) (fail)
    all_goals
      go_wp2_with fail
      go_meet
      first | exact ⟨_, _, _, rfl, rfl, rfl, HS4.out.1⟩ | exact ⟨_, _, _, rfl, rfl, rfl, HS4.out.2⟩
  case rest =>
    obtain ⟨r, p, q, rfl, rfl, rfl, hS⟩ := hcut
    obtain ⟨hac, haf⟩ := bcell hS.ext
    have ar0 : wc.cell? ⟨r, 0, none⟩ = some _ := blk_cell hS.br rfl
    have ar1 : wc.cell? ⟨r, 1, none⟩ = some _ := blk_cell hS.br rfl
    have ar2 : wc.cell? ⟨r, 2, none⟩ = some _ := blk_cell hS.br rfl
    have ap0 : wc.cell? ⟨p, 0, none⟩ = some _ := blk_cell hS.bp rfl
    have ap1 : wc.cell? ⟨p, 1, none⟩ = some _ := blk_cell hS.bp rfl
    have ap2 : wc.cell? ⟨p, 2, none⟩ = some _ := blk_cell hS.bp rfl
    have aq0 : wc.cell? ⟨q, 0, none⟩ = some _ := blk_cell hS.bq rfl
    have aq1 : wc.cell? ⟨q, 1, none⟩ = some _ := blk_cell hS.bq rfl
    have aq2 : wc.cell? ⟨q, 2, none⟩ = some _ := blk_cell hS.bq rfl
    have afp0 : wc.frozen? ⟨p, 0, none⟩ = false := blk_free 0 hS.bp
    have afp1 : wc.frozen? ⟨p, 1, none⟩ = false := blk_free 1 hS.bp
    have afp2 : wc.frozen? ⟨p, 2, none⟩ = false := blk_free 2 hS.bp
    have afq0 : wc.frozen? ⟨q, 0, none⟩ = false := blk_free 0 hS.bq
    have afq1 : wc.frozen? ⟨q, 1, none⟩ = false := blk_free 1 hS.bq
    have afq2 : wc.frozen? ⟨q, 2, none⟩ = false := blk_free 2 hS.bq
    have az1 : b3 < wc.heap.size := by have := hS.ext.size; omega
    have az2 : b3 + 1 < wc.heap.size := by have := hS.ext.size; omega
    have n1 := hS.rp
    have n2 := hS.rq
    have n3 := hS.pq
    have n4 := Ne.symm n1
    have n5 := Ne.symm n2
    have n6 := Ne.symm n3
    have n7 : ¬ b3 = r := by have := hS.r0; omega
    have n8 : ¬ b3 = p := by have := hS.p0; omega
    have n9 : ¬ b3 = q := by have := hS.q0; omega
    have m7 : ¬ b3 + 1 = r := by have := hS.r0; omega
    have m8 : ¬ b3 + 1 = p := by have := hS.p0; omega
    have m9 : ¬ b3 + 1 = q := by have := hS.q0; omega
    have l7 : ¬ r = b3 + 1 := by omega
    have l8 : ¬ p = b3 + 1 := by omega
    have l9 : ¬ q = b3 + 1 := by omega
    have HS := Lib.hid hS
    clear hS
    go_wp2_with fail
    refine (r_join x c.val add hxn hvn _).mono ?_
    rintro e w5 ⟨rfl, hE5⟩
    rw [HJ.out]
    have hS5 := HS.out.mod hE5
    clear hE5
    obtain ⟨hec, hef⟩ := bcell hS5.ext
    have er0 : w5.cell? ⟨r, 0, none⟩ = some _ := blk_cell hS5.br rfl
    have er1 : w5.cell? ⟨r, 1, none⟩ = some _ := blk_cell hS5.br rfl
    have er2 : w5.cell? ⟨r, 2, none⟩ = some _ := blk_cell hS5.br rfl
    have ep0 : w5.cell? ⟨p, 0, none⟩ = some _ := blk_cell hS5.bp rfl
    have ep1 : w5.cell? ⟨p, 1, none⟩ = some _ := blk_cell hS5.bp rfl
    have ep2 : w5.cell? ⟨p, 2, none⟩ = some _ := blk_cell hS5.bp rfl
    have eq0 : w5.cell? ⟨q, 0, none⟩ = some _ := blk_cell hS5.bq rfl
    have eq1 : w5.cell? ⟨q, 1, none⟩ = some _ := blk_cell hS5.bq rfl
    have eq2 : w5.cell? ⟨q, 2, none⟩ = some _ := blk_cell hS5.bq rfl
    have efp0 : w5.frozen? ⟨p, 0, none⟩ = false := blk_free 0 hS5.bp
    have efp1 : w5.frozen? ⟨p, 1, none⟩ = false := blk_free 1 hS5.bp
    have efp2 : w5.frozen? ⟨p, 2, none⟩ = false := blk_free 2 hS5.bp
    have efq0 : w5.frozen? ⟨q, 0, none⟩ = false := blk_free 0 hS5.bq
    have efq1 : w5.frozen? ⟨q, 1, none⟩ = false := blk_free 1 hS5.bq
    have efq2 : w5.frozen? ⟨q, 2, none⟩ = false := blk_free 2 hS5.bq
    have ez1 : b3 < w5.heap.size := by have := hS5.ext.size; omega
    have ez2 : b3 + 1 < w5.heap.size := by have := hS5.ext.size; omega
    have hS6 := hS5.next y
    have HO := Lib.hid hS6.own
    have HE := Lib.hid (hE.ext hS6.ext)
    clear hS5 hS6
    go_wp2
    refine bodyPost_ret (v := .tuple #[vs, .agg #[.int .i64 n, .int .i64 0, .float .f64 0, .string ⟨#[]⟩]]) (by simp [results, Try.results30, go_sem, g0, g1, g2, g3, hec, ez1, ez2, hw0, m7, m8, m9, l7, l8, l9]) rfl ?_
    refine doOut_of (r := ⟨n, AVal.zero⟩) HO.out HE.out ?_ hw0 hZ rfl
    repeat (first | refine mod_same ?_ _ _ | refine Mod.drew ?_)
    exact Mod.refl _ _

end Go.Proofs.Ythhjaneadbkccaa
