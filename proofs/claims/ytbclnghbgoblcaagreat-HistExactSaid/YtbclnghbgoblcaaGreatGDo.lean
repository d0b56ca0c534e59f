/-
 The contract of kv.do. Conditions: as each theorem names them.
 The contract of kv.do, what is thrown; and whole. Conditions: as each theorem names them.
 The contract of kv.Do and what it defers. Conditions: as each theorem names them.
 The contract of kv.Do. Conditions: as each theorem names them.
-/
import Derived.Test.YtbclnghbgoblcaaGreatGPut
import Derived.Test.YtbclnghbgoblcaaGreatGDo5
import Derived.Test.YtbclnghbgoblcaaGreatGCmd
import Derived.Test.YtbclnghbgoblcaaGreatGGet
import Derived.Deep.RegionWith
import Derived.Defers
import Derived.Recover
namespace Go.Proofs.YtbclnghbgoblcaaGreat
set_option linter.unusedSimpArgs false
open Go.RowKit

/-- What kv.do leaves: pairs and a reply, or what it throws. -/
def DoK (w : World) (v : Value) (r : List APair × AReply) (e : Ending) (w' : World) : Prop :=
 Mod (fun k => v.ownBlock = some k) w w' ∧
 ((r.2.code = 0 ∧ ∃ v', e = .returned (.tuple #[v', .agg #[.int .i64 r.2.code, .int .i64 r.2.val.kind, .float .f64 r.2.val.num, .string r.2.val.text]]) ∧ Own w' v' r.1 ∧ ∀ g, v'.ownBlock = some g → v.ownBlock = some g ∨ w.heap.size ≤ g) ∨
  (r.2.code ≠ 0 ∧ e = thrownK r.2.code r.2.val))
/-- Behind the switch. -/
structure DoT (w : World) (v : Value) (b q : Nat) (L : List APair) (t : AVal) (v' : Value) (wx : World) : Prop where
 own : Own wx v' L
 far : ∀ g, v'.ownBlock = some g → (v.ownBlock = some g ∨ w.heap.size ≤ g) ∧ g ≠ b + 1
 bq : wx.heap[q]? = some (.cells #[.int .i64 0, .int .i64 t.kind, .float .f64 t.num, .string t.text] 46 (0, 0))
 b5 : wx.heap[b + 1]? = some (.cells #[.int .i64 0, .int .i64 0, .float .f64 0, .string ⟨#[]⟩] 46 (0, 0))
 ne : q ≠ b + 1
 mod : Mod (fun k => v.ownBlock = some k) w wx
/-- Ahead of the switch. -/
structure DoH (w : World) (v : Value) (c : ACmd) (b r q : Nat) (l : List APair) (x : AVal) (wx : World) : Prop where
 own : Own wx v l
 b3 : wx.heap[b]? = some (.cells #[.int .i64 c.kind, .string c.key, .int .i64 c.old.kind, .float .f64 c.old.num, .string c.old.text, .int .i64 c.val.kind, .float .f64 c.val.num, .string c.val.text] 42 (0, 0))
 b5 : wx.heap[b + 1]? = some (.cells #[.int .i64 0, .int .i64 0, .float .f64 0, .string ⟨#[]⟩] 46 (0, 0))
 br : wx.heap[r]? = some (.cells #[.int .i64 x.kind, .float .f64 x.num, .string x.text] 40 (0, 0))
 bq : wx.heap[q]? = some (.cells #[.int .i64 0, .int .i64 x.kind, .float .f64 x.num, .string x.text] 46 (0, 0))
 b0 : w.heap.size ≤ b
 r0 : b + 1 < r
 q0 : r < q
 lo : ∀ g, v.ownBlock = some g → g < w.heap.size
 ext : Ext w wx
theorem DoH.lt {w : World} {v : Value} {c : ACmd} {b r q : Nat} {l : List APair} {x : AVal} {wx : World} (h : DoH w v c b r q l x wx) : q < wx.heap.size := (Array.getElem?_eq_some_iff.1 h.bq).1
theorem DoH.mod {w : World} {v : Value} {c : ACmd} {b r q : Nat} {l : List APair} {x : AVal} {wx wy : World} (h : DoH w v c b r q l x wx) (hE : Ext wx wy) : DoH w v c b r q l x wy :=
 ⟨h.own.mod hE (fun _ _ => id), hE.blk h.b3 id, hE.blk h.b5 id, hE.blk h.br id, hE.blk h.bq id, h.b0, h.r0, h.q0, h.lo, h.ext.ext hE⟩
/-- Behind a put. -/
theorem DoH.put {w : World} {v : Value} {c : ACmd} {b r q : Nat} {l L : List APair} {x : AVal} {wx wy : World} {v' : Value} (h : DoH w v c b r q l x wx) (ho : Own wy v' L) (hg : ∀ g, v'.ownBlock = some g → v.ownBlock = some g ∨ wx.heap.size ≤ g)
  (hm : Mod (fun k => v.ownBlock = some k) wx wy) : DoT w v b q L x v' wy := by
 have hq := h.lt
 have h1 := h.b0
 have h2 := h.r0
 have h3 := h.q0
 refine ⟨ho, fun g hgg => ?_, hm.blk h.bq (fun e => by have := h.lo q e; omega), hm.blk h.b5 (fun e => by have := h.lo _ e; omega), by omega, (h.ext.mod _).self hm⟩
 rcases hg g hgg with e | e
 ·
  exact ⟨.inl e, by have := h.lo g e; omega⟩
 ·
  exact ⟨.inr (by omega), by omega⟩
theorem DoH.stay {w : World} {v : Value} {c : ACmd} {b r q : Nat} {l : List APair} {x : AVal} {wx : World} (h : DoH w v c b r q l x wx) : DoT w v b q l x v wx :=
 h.put h.own (fun _ hg => .inl hg) (Mod.refl _ _)
/-- The reply's value turns. -/
theorem DoH.tell {w : World} {v : Value} {c : ACmd} {b r q : Nat} {l : List APair} {x : AVal} {wx : World} (h : DoH w v c b r q l x wx) (y : AVal) :
  Own (((wx.setCell ⟨q, 1, none⟩ (.int .i64 y.kind)).setCell ⟨q, 2, none⟩ (.float .f64 y.num)).setCell ⟨q, 3, none⟩ (.string y.text)) v l ∧
  (((wx.setCell ⟨q, 1, none⟩ (.int .i64 y.kind)).setCell ⟨q, 2, none⟩ (.float .f64 y.num)).setCell ⟨q, 3, none⟩ (.string y.text)).heap[q]? = some (.cells #[.int .i64 0, .int .i64 y.kind, .float .f64 y.num, .string y.text] 46 (0, 0)) ∧
  Mod (fun k => k = q) wx (((wx.setCell ⟨q, 1, none⟩ (.int .i64 y.kind)).setCell ⟨q, 2, none⟩ (.float .f64 y.num)).setCell ⟨q, 3, none⟩ (.string y.text)) := by
 have hm : Mod (fun k => k = q) wx (((wx.setCell ⟨q, 1, none⟩ (.int .i64 y.kind)).setCell ⟨q, 2, none⟩ (.float .f64 y.num)).setCell ⟨q, 3, none⟩ (.string y.text)) := mod_same (mod_same (mod_same (Mod.refl _ wx) _ _) _ _) _ _
 have h1 := h.b0
 have h2 := h.r0
 have h3 := h.q0
 refine ⟨h.own.mod hm (fun g hg _ => by have := h.lo g hg; omega), ?_, hm⟩
 have := h.bq
 simp [World.setCell, Array.getElem?_modify, this]
theorem DoH.telld {w : World} {v : Value} {c : ACmd} {b r q : Nat} {l : List APair} {x : AVal} {wx : World} (h : DoH w v c b r q l x wx) (y : AVal) :
  Mod (fun k => v.ownBlock = some k) w (((wx.setCell ⟨q, 1, none⟩ (.int .i64 y.kind)).setCell ⟨q, 2, none⟩ (.float .f64 y.num)).setCell ⟨q, 3, none⟩ (.string y.text)) := by
 have h1 := h.b0
 have h2 := h.r0
 have h3 := h.q0
 exact (Ext.mod h.ext _).trans (h.tell y).2.2 (fun k hk e => by omega)
theorem DoH.put2 {w : World} {v : Value} {c : ACmd} {b r q : Nat} {l L : List APair} {x : AVal} {wx wy : World} {v' : Value} (h : DoH w v c b r q l x wx) (y : AVal) (ho : Own wy v' L) (hg : ∀ g, v'.ownBlock = some g → v.ownBlock = some g ∨ wx.heap.size ≤ g)
  (hm : Mod (fun k => v.ownBlock = some k) (((wx.setCell ⟨q, 1, none⟩ (.int .i64 y.kind)).setCell ⟨q, 2, none⟩ (.float .f64 y.num)).setCell ⟨q, 3, none⟩ (.string y.text)) wy) : DoT w v b q L y v' wy := by
 have hq := h.lt
 have h1 := h.b0
 have h2 := h.r0
 have h3 := h.q0
 obtain ⟨_, t2, t3⟩ := h.tell y
 refine ⟨ho, fun g hgg => ?_, hm.blk t2 (fun e => by have := h.lo q e; omega), hm.blk (t3.blk h.b5 (by omega)) (fun e => by have := h.lo _ e; omega), by omega, (h.telld y).self hm⟩
 rcases hg g hgg with e | e
 ·
  exact ⟨.inl e, by have := h.lo g e; omega⟩
 ·
  exact ⟨.inr (by omega), by omega⟩
theorem doK_mod {w : World} {v : Value} {r : List APair × AReply} {e : Ending} {w' : World} (h : DoK w v r e w') : Mod (fun k => v.ownBlock = some k) w w' := h.1
set_option maxRecDepth 100000 in
set_option maxHeartbeats 4000000 in
theorem do_get_k (w : World) (v : Value) (l : List APair) (c : ACmd) (hO : Own w v l) (x : AVal) (hx : getP l c.key = x) (hk : c.kind = 1) :
  Calls Tryz.prog 60 #[v, .agg #[.int .i64 c.kind, .string c.key, .int .i64 c.old.kind, .float .f64 c.old.num, .string c.old.text, .int .i64 c.val.kind, .float .f64 c.val.num, .string c.val.text]] w (DoK w v (l, ⟨0, x⟩)) := by
 have d2 : (c.kind == 2) = false := by simp [hk]
 have d3 : (c.kind == 3) = false := by simp [hk]
 have d4 : (c.kind == 4) = false := by simp [hk]
 have d5 : (c.kind == 5) = false := by simp [hk]
 have d6 : (c.kind == 6) = false := by simp [hk]
 clear hk
 have hlo : ∀ g, v.ownBlock = some g → g < w.heap.size := fun g hg => (hO.1.lt g hg).2
 go_enter Tryz.func60, Tryz.ntmps60
 go_wp2_with fail
 obtain ⟨W0, hW0⟩ : ∃ W0, W0 = (w.alloc (.cells #[.int .i64 c.kind, .string c.key, .int .i64 c.old.kind, .float .f64 c.old.num, .string c.old.text, .int .i64 c.val.kind, .float .f64 c.val.num, .string c.val.text] 42)).alloc (.cells #[.int .i64 0, .int .i64 0, .float .f64 0, .string ⟨#[]⟩] 46) := ⟨_, rfl⟩
 obtain ⟨b3, hb3⟩ : ∃ b3, b3 = w.heap.size := ⟨_, rfl⟩
 obtain ⟨hB3, hB5, hZ0⟩ := two_new w (.cells #[.int .i64 c.kind, .string c.key, .int .i64 c.old.kind, .float .f64 c.old.num, .string c.old.text, .int .i64 c.val.kind, .float .f64 c.val.num, .string c.val.text] 42) (.cells #[.int .i64 0, .int .i64 0, .float .f64 0, .string ⟨#[]⟩] 46)
 have hE : Ext w W0 := by rw [hW0]; exact ((Mod.refl _ w).alloc _).alloc _
 rw [← hW0, ← hb3] at hB3 hB5 hZ0 ⊢
 have hZ : w.heap.size ≤ b3 := Nat.le_of_eq hb3.symm
 have hO0 := hO.mod hE (fun _ _ => id)
 clear hW0 hb3
 refine (kv_get W0 _ v l c.key hO0.prs).mono ?_
 rintro e w1 ⟨rfl, hE1⟩
 rw [hx]
 have hs1 := hE1.size
 have k1 : w1.cell? ⟨b3, 1, none⟩ = some (.string c.key) := hE1.cell (blk_cell hB3 rfl) id
 have k0 : w1.cell? ⟨b3, 0, none⟩ = some (.int .i64 c.kind) := hE1.cell (blk_cell hB3 rfl) id
 have hb3w : b3 < w1.heap.size := by omega
 go_upto_block 0 with fail
 obtain ⟨W2, hW2⟩ : ∃ W2, W2 = (w1.alloc (.cells #[.int .i64 x.kind, .float .f64 x.num, .string x.text] 40)).alloc (.cells #[.int .i64 0, .int .i64 x.kind, .float .f64 x.num, .string x.text] 46) := ⟨_, rfl⟩
 obtain ⟨hBr, hBq, hZ2⟩ := two_new w1 (.cells #[.int .i64 x.kind, .float .f64 x.num, .string x.text] 40) (.cells #[.int .i64 0, .int .i64 x.kind, .float .f64 x.num, .string x.text] 46)
 have hE2 : Ext w1 W2 := by rw [hW2]; exact ((Mod.refl _ w1).alloc _).alloc _
 rw [← hW2] at hBr hBq hZ2 ⊢
 obtain ⟨r, hr⟩ : ∃ r, r = w1.heap.size := ⟨_, rfl⟩
 rw [← hr] at hBr hBq ⊢
 have hH : DoH w v c b3 r (r + 1) l x W2 := ⟨hO0.mod (hE1.ext hE2) (fun _ _ => id), (hE1.ext hE2).blk hB3 id, (hE1.ext hE2).blk hB5 id, hBr, hBq, hZ, by omega, by omega, hlo, hE.ext (hE1.ext hE2)⟩
 have HH := Lib.hid hH
 clear k0 k1 hb3w hW2 hr hBr hBq hZ2 hE2 hE1 hs1 hO0 hB3 hB5 hZ0 hE hx
 go_cut [0, 8] (fun s0 _ wx => DoT w v b3 (r + 1) l x s0 wx)
 case first =>
  obtain ⟨k0, k1, k2, k3, k4, k5, k6, k7⟩ := cq8 hH.b3
  obtain ⟨g0, g1, g2, g3⟩ := cq4 hH.b5
  have f0 : W2.frozen? ⟨b3 + 1, 0, none⟩ = false := blk_free 0 hH.b5
  have f1 : W2.frozen? ⟨b3 + 1, 1, none⟩ = false := blk_free 1 hH.b5
  have f2 : W2.frozen? ⟨b3 + 1, 2, none⟩ = false := blk_free 2 hH.b5
  have f3 : W2.frozen? ⟨b3 + 1, 3, none⟩ = false := blk_free 3 hH.b5
  obtain ⟨r0, r1, r2⟩ := cq3 hH.br
  obtain ⟨q0, q1, q2, q3⟩ := cq4 hH.bq
  have p0 : W2.frozen? ⟨r + 1, 0, none⟩ = false := blk_free 0 hH.bq
  have p1 : W2.frozen? ⟨r + 1, 1, none⟩ = false := blk_free 1 hH.bq
  have p2 : W2.frozen? ⟨r + 1, 2, none⟩ = false := blk_free 2 hH.bq
  have p3 : W2.frozen? ⟨r + 1, 3, none⟩ = false := blk_free 3 hH.bq
  clear hH
  go_wp2_with fail
  go_meet
  exact HH.out.stay
 case rest =>
  have hT := hcut
  obtain ⟨g0, g1, g2, g3⟩ := cq4 hT.b5
  have f0 : wc.frozen? ⟨b3 + 1, 0, none⟩ = false := blk_free 0 hT.b5
  have f1 : wc.frozen? ⟨b3 + 1, 1, none⟩ = false := blk_free 1 hT.b5
  have f2 : wc.frozen? ⟨b3 + 1, 2, none⟩ = false := blk_free 2 hT.b5
  have f3 : wc.frozen? ⟨b3 + 1, 3, none⟩ = false := blk_free 3 hT.b5
  obtain ⟨q0, q1, q2, q3⟩ := cq4 hT.bq
  have hne : ¬ r = b3 := fun e => hT.ne (by rw [e])
  have hne2 : ¬ b3 = r := fun e => hT.ne (by rw [e])
  have HT := Lib.hid hT
  clear hT hcut
  go_wp2_with fail
  go_region_held3 (fun w' => w'.cell? ⟨r + 1, 0, none⟩ = some (.int .i64 0) ∧ w'.cell? ⟨r + 1, 1, none⟩ = some (.int .i64 x.kind) ∧ w'.cell? ⟨r + 1, 2, none⟩ = some (.float .f64 x.num) ∧ w'.cell? ⟨r + 1, 3, none⟩ = some (.string x.text)) (go_keep) (fail)
  all_goals
   go_wp2_with fail
   refine bodyPost_ret (v := .tuple #[u0, .agg #[.int .i64 0, .int .i64 x.kind, .float .f64 x.num, .string x.text]]) (by simp [results, Tryz.results60, go_sem, g0, g1, g2, g3]) rfl ?_
   have hm : ∀ {a b c d}, Mod (fun k => k = b3 + 1) wc (((((wc.setCell ⟨b3 + 1, 0, none⟩ a).setCell ⟨b3 + 1, 1, none⟩ b).setCell ⟨b3 + 1, 2, none⟩ c).setCell ⟨b3 + 1, 3, none⟩ d).drew) := fun {_ _ _ _} => (mod_same (mod_same (mod_same (mod_same (Mod.refl _ wc) _ _) _ _) _ _) _ _).drew
   refine ⟨HT.out.mod.trans hm (fun k hk e => by omega), .inl ⟨rfl, _, rfl, HT.out.own.mod hm (fun g hg e => (HT.out.far g hg).2 e), fun g hg => (HT.out.far g hg).1⟩⟩
set_option maxRecDepth 100000 in
set_option maxHeartbeats 4000000 in
theorem do_step_k (w : World) (v : Value) (l : List APair) (c : ACmd) (hO : Own w v l) (hs : Srt l) (hl : l.length ≤ 32) (x : AVal) (hx : getP l c.key = x) (hks : c.key.size ≤ maxLen) (hcv : c.val.ok) (hxok : x.ok) (y t : AVal) (hy : y.ok) (hk6 : 2 ≤ c.kind ∧ c.kind ≤ 6) (hst : stepV x c = (0, y, t)) (m : Nat) (hm : (setP c.key y (y.kind == 0) l).length = m)
  (lo : List APair) (ro : AReply) (hlo' : (if 32 < m then (l, ⟨5, AVal.zero⟩) else (setP c.key y (y.kind == 0) l, ⟨0, t⟩)) = (lo, ro)) :
  Calls Tryz.prog 60 #[v, .agg #[.int .i64 c.kind, .string c.key, .int .i64 c.old.kind, .float .f64 c.old.num, .string c.old.text, .int .i64 c.val.kind, .float .f64 c.val.num, .string c.val.text]] w (DoK w v (lo, ro)) := by
 have Hlo := Lib.hid hlo'
 have Hy := Lib.hid hy
 have Hxok := Lib.hid hxok
 have Hcv := Lib.hid hcv
 have Hst := Lib.hid hst
 have Hm := Lib.hid hm
 have Hks := Lib.hid hks
 clear hks hcv hxok hst hm hy hlo'
 have hlo : ∀ g, v.ownBlock = some g → g < w.heap.size := fun g hg => (hO.1.lt g hg).2
 go_enter Tryz.func60, Tryz.ntmps60
 go_wp2_with fail
 obtain ⟨W0, hW0⟩ : ∃ W0, W0 = (w.alloc (.cells #[.int .i64 c.kind, .string c.key, .int .i64 c.old.kind, .float .f64 c.old.num, .string c.old.text, .int .i64 c.val.kind, .float .f64 c.val.num, .string c.val.text] 42)).alloc (.cells #[.int .i64 0, .int .i64 0, .float .f64 0, .string ⟨#[]⟩] 46) := ⟨_, rfl⟩
 obtain ⟨b3, hb3⟩ : ∃ b3, b3 = w.heap.size := ⟨_, rfl⟩
 obtain ⟨hB3, hB5, hZ0⟩ := two_new w (.cells #[.int .i64 c.kind, .string c.key, .int .i64 c.old.kind, .float .f64 c.old.num, .string c.old.text, .int .i64 c.val.kind, .float .f64 c.val.num, .string c.val.text] 42) (.cells #[.int .i64 0, .int .i64 0, .float .f64 0, .string ⟨#[]⟩] 46)
 have hE : Ext w W0 := by rw [hW0]; exact ((Mod.refl _ w).alloc _).alloc _
 rw [← hW0, ← hb3] at hB3 hB5 hZ0 ⊢
 have hZ : w.heap.size ≤ b3 := Nat.le_of_eq hb3.symm
 have hO0 := hO.mod hE (fun _ _ => id)
 clear hW0 hb3
 refine (kv_get W0 _ v l c.key hO0.prs).mono ?_
 rintro e w1 ⟨rfl, hE1⟩
 rw [hx]
 have hs1 := hE1.size
 have k1 : w1.cell? ⟨b3, 1, none⟩ = some (.string c.key) := hE1.cell (blk_cell hB3 rfl) id
 have k0 : w1.cell? ⟨b3, 0, none⟩ = some (.int .i64 c.kind) := hE1.cell (blk_cell hB3 rfl) id
 have hb3w : b3 < w1.heap.size := by omega
 go_upto_block 0 with fail
 obtain ⟨W2, hW2⟩ : ∃ W2, W2 = (w1.alloc (.cells #[.int .i64 x.kind, .float .f64 x.num, .string x.text] 40)).alloc (.cells #[.int .i64 0, .int .i64 x.kind, .float .f64 x.num, .string x.text] 46) := ⟨_, rfl⟩
 obtain ⟨hBr, hBq, hZ2⟩ := two_new w1 (.cells #[.int .i64 x.kind, .float .f64 x.num, .string x.text] 40) (.cells #[.int .i64 0, .int .i64 x.kind, .float .f64 x.num, .string x.text] 46)
 have hE2 : Ext w1 W2 := by rw [hW2]; exact ((Mod.refl _ w1).alloc _).alloc _
 rw [← hW2] at hBr hBq hZ2 ⊢
 obtain ⟨r, hr⟩ : ∃ r, r = w1.heap.size := ⟨_, rfl⟩
 rw [← hr] at hBr hBq ⊢
 have hH : DoH w v c b3 r (r + 1) l x W2 := ⟨hO0.mod (hE1.ext hE2) (fun _ _ => id), (hE1.ext hE2).blk hB3 id, (hE1.ext hE2).blk hB5 id, hBr, hBq, hZ, by omega, by omega, hlo, hE.ext (hE1.ext hE2)⟩
 have HH := Lib.hid hH
 clear k0 k1 hb3w hW2 hr hBr hBq hZ2 hE2 hE1 hs1 hO0 hB3 hB5 hZ0 hE hx
 have Hbad : Hid (∀ w3, 32 < m → Mod (fun k => v.ownBlock = some k) w w3 → DoK w v (lo, ro) (thrownK 5 AVal.zero) w3) := Lib.hid (fun w3 h hm => by
  have e := Hlo.out
  rw [if_pos h] at e
  simp only [Prod.mk.injEq] at e
  obtain ⟨rfl, rfl⟩ := e
  exact ⟨hm, .inr ⟨show (5 : Int) ≠ 0 by decide, rfl⟩⟩)
 obtain ⟨L, hL⟩ : ∃ L, L = setP c.key y (y.kind == 0) l := ⟨_, rfl⟩
 go_cut [0, 8] (fun s0 _ wx => m ≤ 32 ∧ DoT w v b3 (r + 1) L t s0 wx)
 case first =>
  obtain ⟨k0, k1, k2, k3, k4, k5, k6, k7⟩ := cq8 hH.b3
  obtain ⟨g0, g1, g2, g3⟩ := cq4 hH.b5
  have f0 : W2.frozen? ⟨b3 + 1, 0, none⟩ = false := blk_free 0 hH.b5
  have f1 : W2.frozen? ⟨b3 + 1, 1, none⟩ = false := blk_free 1 hH.b5
  have f2 : W2.frozen? ⟨b3 + 1, 2, none⟩ = false := blk_free 2 hH.b5
  have f3 : W2.frozen? ⟨b3 + 1, 3, none⟩ = false := blk_free 3 hH.b5
  obtain ⟨r0, r1, r2⟩ := cq3 hH.br
  obtain ⟨q0, q1, q2, q3⟩ := cq4 hH.bq
  have p0 : W2.frozen? ⟨r + 1, 0, none⟩ = false := blk_free 0 hH.bq
  have p1 : W2.frozen? ⟨r + 1, 1, none⟩ = false := blk_free 1 hH.bq
  have p2 : W2.frozen? ⟨r + 1, 2, none⟩ = false := blk_free 2 hH.bq
  have p3 : W2.frozen? ⟨r + 1, 3, none⟩ = false := blk_free 3 hH.bq
  have hcase : c.kind = 2 ∨ c.kind = 3 ∨ c.kind = 4 ∨ (c.kind = 5 ∨ c.kind = 6) := by omega
  clear hH
  rcases hcase with hk | hk | hk | hk
  ·
   have d2 : (c.kind == 2) = true := by simp [hk]
   have e := Hst.out
   unfold stepV at e
   rw [if_pos hk] at e
   simp only [Prod.mk.injEq, true_and] at e
   have He := Lib.hid e
   clear hk e hk6
   go_wp2_with fail
   refine (kv_put W2 v l c.key c.val HH.out.own hs hl Hks.out Hcv.out).mono ?_
   rintro e w3 h3
   rw [He.out.1, ← hL] at h3
   rcases h3 with ⟨h32, v3, rfl, ho3, hg3, hm3⟩ | ⟨h32, rfl, hE3⟩
   ·
    have HF := Lib.hid (HH.out.put ho3 hg3 hm3)
    rw [He.out.2] at HF
    have H32 : Hid (m ≤ 32) := Lib.hid (by rw [hL, Hm.out] at h32; exact h32)
    clear ho3 hg3 hm3 h32
    go_wp2_with fail
    go_meet
    exact ⟨H32.out, HF.out⟩
   ·
    exact ⟨rfl, Hbad.out _ (by rw [hL, Hm.out] at h32; exact h32) ((Ext.mod HH.out.ext _).self (Ext.mod hE3 _))⟩
  ·
   have d2 : (c.kind == 2) = false := by simp [hk]
   have d3 : (c.kind == 3) = true := by simp [hk]
   have e := Hst.out
   unfold stepV at e
   rw [if_neg (by omega), if_pos hk] at e
   simp only [Prod.mk.injEq, true_and] at e
   have He := Lib.hid e
   clear hk e hk6
   go_wp2_with fail
   refine (kv_put W2 v l c.key AVal.zero HH.out.own hs hl Hks.out zero_ok).mono ?_
   rintro e w3 h3
   rw [He.out.1, ← hL] at h3
   rcases h3 with ⟨h32, v3, rfl, ho3, hg3, hm3⟩ | ⟨h32, rfl, hE3⟩
   ·
    have HF := Lib.hid (HH.out.put ho3 hg3 hm3)
    rw [He.out.2] at HF
    have H32 : Hid (m ≤ 32) := Lib.hid (by rw [hL, Hm.out] at h32; exact h32)
    clear ho3 hg3 hm3 h32
    go_wp2_with fail
    go_meet
    exact ⟨H32.out, HF.out⟩
   ·
    exact ⟨rfl, Hbad.out _ (by rw [hL, Hm.out] at h32; exact h32) ((Ext.mod HH.out.ext _).self (Ext.mod hE3 _))⟩
  ·
   have d2 : (c.kind == 2) = false := by simp [hk]
   have d3 : (c.kind == 3) = false := by simp [hk]
   have d4 : (c.kind == 4) = true := by simp [hk]
   have e := Hst.out
   unfold stepV at e
   rw [if_neg (by omega), if_neg (by omega), if_pos hk] at e
   have he : eqVal x c.old = true := by
    rcases h : eqVal x c.old with _ | _
    ·
     rw [h] at e; simp at e
    ·
     rfl
   rw [he] at e
   simp only [if_true, Prod.mk.injEq, true_and] at e
   have He := Lib.hid e
   clear hk e hk6
   go_wp2_with fail
   refine (v_same x c.old _).mono ?_
   rintro e w4 ⟨rfl, hE4⟩
   have hH4 := HH.out.mod hE4
   rw [he]
   clear k0 k1 k2 k3 k4 k5 k6 k7 g0 g1 g2 g3 f0 f1 f2 f3 q0 q1 q2 q3 p0 p1 p2 p3 r0 r1 r2
   clear hE4 he
   obtain ⟨ak0, ak1, ak2, ak3, ak4, ak5, ak6, ak7⟩ := cq8 hH4.b3
   obtain ⟨ag0, ag1, ag2, ag3⟩ := cq4 hH4.b5
   have af0 : w4.frozen? ⟨b3 + 1, 0, none⟩ = false := blk_free 0 hH4.b5
   have af1 : w4.frozen? ⟨b3 + 1, 1, none⟩ = false := blk_free 1 hH4.b5
   have af2 : w4.frozen? ⟨b3 + 1, 2, none⟩ = false := blk_free 2 hH4.b5
   have af3 : w4.frozen? ⟨b3 + 1, 3, none⟩ = false := blk_free 3 hH4.b5
   obtain ⟨ar0, ar1, ar2⟩ := cq3 hH4.br
   obtain ⟨aq0, aq1, aq2, aq3⟩ := cq4 hH4.bq
   have ap0 : w4.frozen? ⟨r + 1, 0, none⟩ = false := blk_free 0 hH4.bq
   have ap1 : w4.frozen? ⟨r + 1, 1, none⟩ = false := blk_free 1 hH4.bq
   have ap2 : w4.frozen? ⟨r + 1, 2, none⟩ = false := blk_free 2 hH4.bq
   have ap3 : w4.frozen? ⟨r + 1, 3, none⟩ = false := blk_free 3 hH4.bq
   have HH4 := Lib.hid hH4
   clear hH4
   go_wp2_with fail
   refine (kv_put w4 v l c.key c.val HH4.out.own hs hl Hks.out Hcv.out).mono ?_
   rintro e w3 h3
   rw [He.out.1, ← hL] at h3
   rcases h3 with ⟨h32, v3, rfl, ho3, hg3, hm3⟩ | ⟨h32, rfl, hE3⟩
   ·
    have HF := Lib.hid (HH4.out.put ho3 hg3 hm3)
    rw [He.out.2] at HF
    have H32 : Hid (m ≤ 32) := Lib.hid (by rw [hL, Hm.out] at h32; exact h32)
    clear ho3 hg3 hm3 h32
    go_wp2_with fail
    go_meet
    exact ⟨H32.out, HF.out⟩
   ·
    exact ⟨rfl, Hbad.out _ (by rw [hL, Hm.out] at h32; exact h32) ((Ext.mod HH4.out.ext _).self (Ext.mod hE3 _))⟩
  ·
   obtain ⟨add, hadd⟩ : ∃ add, (c.kind == 5) = add := ⟨_, rfl⟩
   have e := Hst.out
   unfold stepV at e
   rw [if_neg (by omega), if_neg (by omega), if_neg (by omega), hadd] at e
   rcases hj : joinV add x c.val with ⟨z, n⟩
   rw [hj] at e
   simp only at e
   have hn : n = 0 := by
    apply Classical.byContradiction
    intro hn
    rw [if_neg hn] at e
    simp only [Prod.mk.injEq] at e
    exact hn e.1
   subst hn
   simp only [if_true, Prod.mk.injEq, true_and] at e
   obtain ⟨e1, e2⟩ := e
   rw [e1] at hj
   have Het : Hid (t = y) := Lib.hid (by rw [← e2, e1])
   clear e1 e2 hk6
   rcases hk with hk | hk
   ·
    have d2 : (c.kind == 2) = false := by simp [hk]
    have d3 : (c.kind == 3) = false := by simp [hk]
    have d4 : (c.kind == 4) = false := by simp [hk]
    have d5 : (c.kind == 5) = true := by simp [hk]
    have ha : add = true := by rw [← hadd]; exact d5
    subst ha
    have HJ := Lib.hid hj
    clear hk hj hadd
    go_wp2_with fail
    refine (v_add x c.val _).mono ?_
    rintro e w4 ⟨rfl, hE4⟩
    rw [HJ.out]
    have hH4 := HH.out.mod hE4
    have n1 : ¬ b3 = r + 1 := by have := hH4.r0; omega
    have n2 : ¬ r + 1 = b3 := by have := hH4.r0; omega
    clear k0 k1 k2 k3 k4 k5 k6 k7 g0 g1 g2 g3 f0 f1 f2 f3 q0 q1 q2 q3 p0 p1 p2 p3 r0 r1 r2
    clear hE4
    obtain ⟨ak0, ak1, ak2, ak3, ak4, ak5, ak6, ak7⟩ := cq8 hH4.b3
    obtain ⟨ag0, ag1, ag2, ag3⟩ := cq4 hH4.b5
    have af0 : w4.frozen? ⟨b3 + 1, 0, none⟩ = false := blk_free 0 hH4.b5
    have af1 : w4.frozen? ⟨b3 + 1, 1, none⟩ = false := blk_free 1 hH4.b5
    have af2 : w4.frozen? ⟨b3 + 1, 2, none⟩ = false := blk_free 2 hH4.b5
    have af3 : w4.frozen? ⟨b3 + 1, 3, none⟩ = false := blk_free 3 hH4.b5
    obtain ⟨ar0, ar1, ar2⟩ := cq3 hH4.br
    obtain ⟨aq0, aq1, aq2, aq3⟩ := cq4 hH4.bq
    have ap0 : w4.frozen? ⟨r + 1, 0, none⟩ = false := blk_free 0 hH4.bq
    have ap1 : w4.frozen? ⟨r + 1, 1, none⟩ = false := blk_free 1 hH4.bq
    have ap2 : w4.frozen? ⟨r + 1, 2, none⟩ = false := blk_free 2 hH4.bq
    have ap3 : w4.frozen? ⟨r + 1, 3, none⟩ = false := blk_free 3 hH4.bq
    have HH4 := Lib.hid hH4
    clear hH4
    go_wp2_with fail
    refine (kv_throw_no _).mono ?_
    rintro e w5 ⟨rfl, rfl⟩
    go_wp2_with fail
    refine (kv_put _ v l c.key y (HH4.out.tell y).1 hs hl Hks.out Hy.out).mono ?_
    rintro e w3 h3
    rw [← hL] at h3
    rcases h3 with ⟨h32, v3, rfl, ho3, hg3, hm3⟩ | ⟨h32, rfl, hE3⟩
    ·
     have HF := Lib.hid (HH4.out.put2 y ho3 (fun g hg => by have := hg3 g hg; simpa [World.setCell] using this) hm3)
     rw [← Het.out] at HF
     have H32 : Hid (m ≤ 32) := Lib.hid (by rw [hL, Hm.out] at h32; exact h32)
     clear ho3 hg3 hm3 h32
     go_wp2_with fail
     go_meet
     exact ⟨H32.out, HF.out⟩
    ·
     exact ⟨rfl, Hbad.out _ (by rw [hL, Hm.out] at h32; exact h32) ((HH4.out.telld y).self (Ext.mod hE3 _))⟩
   ·
    have d2 : (c.kind == 2) = false := by simp [hk]
    have d3 : (c.kind == 3) = false := by simp [hk]
    have d4 : (c.kind == 4) = false := by simp [hk]
    have d5 : (c.kind == 5) = false := by simp [hk]
    have d6 : (c.kind == 6) = true := by simp [hk]
    have ha : add = false := by rw [← hadd]; exact d5
    subst ha
    have HJ := Lib.hid hj
    clear hk hj hadd
    go_wp2_with fail
    refine (v_max x c.val Hxok.out.2.1 Hcv.out.2.1 _).mono ?_
    rintro e w4 ⟨rfl, hE4⟩
    rw [HJ.out]
    have hH4 := HH.out.mod hE4
    have n1 : ¬ b3 = r + 1 := by have := hH4.r0; omega
    have n2 : ¬ r + 1 = b3 := by have := hH4.r0; omega
    clear k0 k1 k2 k3 k4 k5 k6 k7 g0 g1 g2 g3 f0 f1 f2 f3 q0 q1 q2 q3 p0 p1 p2 p3 r0 r1 r2
    clear hE4
    obtain ⟨ak0, ak1, ak2, ak3, ak4, ak5, ak6, ak7⟩ := cq8 hH4.b3
    obtain ⟨ag0, ag1, ag2, ag3⟩ := cq4 hH4.b5
    have af0 : w4.frozen? ⟨b3 + 1, 0, none⟩ = false := blk_free 0 hH4.b5
    have af1 : w4.frozen? ⟨b3 + 1, 1, none⟩ = false := blk_free 1 hH4.b5
    have af2 : w4.frozen? ⟨b3 + 1, 2, none⟩ = false := blk_free 2 hH4.b5
    have af3 : w4.frozen? ⟨b3 + 1, 3, none⟩ = false := blk_free 3 hH4.b5
    obtain ⟨ar0, ar1, ar2⟩ := cq3 hH4.br
    obtain ⟨aq0, aq1, aq2, aq3⟩ := cq4 hH4.bq
    have ap0 : w4.frozen? ⟨r + 1, 0, none⟩ = false := blk_free 0 hH4.bq
    have ap1 : w4.frozen? ⟨r + 1, 1, none⟩ = false := blk_free 1 hH4.bq
    have ap2 : w4.frozen? ⟨r + 1, 2, none⟩ = false := blk_free 2 hH4.bq
    have ap3 : w4.frozen? ⟨r + 1, 3, none⟩ = false := blk_free 3 hH4.bq
    have HH4 := Lib.hid hH4
    clear hH4
    go_wp2_with fail
    refine (kv_throw_no _).mono ?_
    rintro e w5 ⟨rfl, rfl⟩
    go_wp2_with fail
    refine (kv_put _ v l c.key y (HH4.out.tell y).1 hs hl Hks.out Hy.out).mono ?_
    rintro e w3 h3
    rw [← hL] at h3
    rcases h3 with ⟨h32, v3, rfl, ho3, hg3, hm3⟩ | ⟨h32, rfl, hE3⟩
    ·
     have HF := Lib.hid (HH4.out.put2 y ho3 (fun g hg => by have := hg3 g hg; simpa [World.setCell] using this) hm3)
     rw [← Het.out] at HF
     have H32 : Hid (m ≤ 32) := Lib.hid (by rw [hL, Hm.out] at h32; exact h32)
     clear ho3 hg3 hm3 h32
     go_wp2_with fail
     go_meet
     exact ⟨H32.out, HF.out⟩
    ·
     exact ⟨rfl, Hbad.out _ (by rw [hL, Hm.out] at h32; exact h32) ((HH4.out.telld y).self (Ext.mod hE3 _))⟩
 case rest =>
  have h32 := hcut.1
  have hcut := hcut.2
  have hgood : Hid (∀ w' v', (Own w' v' L ∧ ∀ g, v'.ownBlock = some g → v.ownBlock = some g ∨ w.heap.size ≤ g) → (ro.code = 0 ∧ ∃ v'', Ending.returned (.tuple #[v', .agg #[.int .i64 0, .int .i64 t.kind, .float .f64 t.num, .string t.text]]) = .returned (.tuple #[v'', .agg #[.int .i64 ro.code, .int .i64 ro.val.kind, .float .f64 ro.val.num, .string ro.val.text]]) ∧ Own w' v'' lo ∧ ∀ g, v''.ownBlock = some g → v.ownBlock = some g ∨ w.heap.size ≤ g) ∨
    (ro.code ≠ 0 ∧ Ending.returned (.tuple #[v', .agg #[.int .i64 0, .int .i64 t.kind, .float .f64 t.num, .string t.text]]) = thrownK ro.code ro.val)) := Lib.hid (fun w' v' h => by
   have e := Hlo.out
   rw [if_neg (by omega)] at e
   simp only [Prod.mk.injEq] at e
   obtain ⟨e1, rfl⟩ := e
   rw [← e1, ← hL]
   exact .inl ⟨rfl, v', rfl, h⟩)
  clear h32
  have hT := hcut
  obtain ⟨g0, g1, g2, g3⟩ := cq4 hT.b5
  have f0 : wc.frozen? ⟨b3 + 1, 0, none⟩ = false := blk_free 0 hT.b5
  have f1 : wc.frozen? ⟨b3 + 1, 1, none⟩ = false := blk_free 1 hT.b5
  have f2 : wc.frozen? ⟨b3 + 1, 2, none⟩ = false := blk_free 2 hT.b5
  have f3 : wc.frozen? ⟨b3 + 1, 3, none⟩ = false := blk_free 3 hT.b5
  obtain ⟨q0, q1, q2, q3⟩ := cq4 hT.bq
  have hne : ¬ r = b3 := fun e => hT.ne (by rw [e])
  have hne2 : ¬ b3 = r := fun e => hT.ne (by rw [e])
  have HT := Lib.hid hT
  clear hT hcut
  go_wp2_with fail
  go_region_held3 (fun w' => w'.cell? ⟨r + 1, 0, none⟩ = some (.int .i64 0) ∧ w'.cell? ⟨r + 1, 1, none⟩ = some (.int .i64 t.kind) ∧ w'.cell? ⟨r + 1, 2, none⟩ = some (.float .f64 t.num) ∧ w'.cell? ⟨r + 1, 3, none⟩ = some (.string t.text)) (go_keep) (fail)
  all_goals
   go_wp2_with fail
   refine bodyPost_ret (v := .tuple #[u0, .agg #[.int .i64 0, .int .i64 t.kind, .float .f64 t.num, .string t.text]]) (by simp [results, Tryz.results60, go_sem, g0, g1, g2, g3]) rfl ?_
   have hm : ∀ {a b c d}, Mod (fun k => k = b3 + 1) wc (((((wc.setCell ⟨b3 + 1, 0, none⟩ a).setCell ⟨b3 + 1, 1, none⟩ b).setCell ⟨b3 + 1, 2, none⟩ c).setCell ⟨b3 + 1, 3, none⟩ d).drew) := fun {_ _ _ _} => (mod_same (mod_same (mod_same (mod_same (Mod.refl _ wc) _ _) _ _) _ _) _ _).drew
   refine ⟨HT.out.mod.trans hm (fun k hk e => by omega), hgood.out _ _ ⟨HT.out.own.mod hm (fun g hg e => (HT.out.far g hg).2 e), fun g hg => (HT.out.far g hg).1⟩⟩
end Go.Proofs.YtbclnghbgoblcaaGreat

namespace Go.Proofs.YtbclnghbgoblcaaGreat
set_option linter.unusedSimpArgs false
open Go.RowKit

set_option maxRecDepth 100000 in
set_option maxHeartbeats 4000000 in
theorem do_other_k (w : World) (v : Value) (l : List APair) (c : ACmd) (hO : Own w v l) (x : AVal) (hx : getP l c.key = x) (hk : c.kind = 4) (he : eqVal x c.old = false) :
  Calls Tryz.prog 60 #[v, .agg #[.int .i64 c.kind, .string c.key, .int .i64 c.old.kind, .float .f64 c.old.num, .string c.old.text, .int .i64 c.val.kind, .float .f64 c.val.num, .string c.val.text]] w (DoK w v (l, ⟨9, x⟩)) := by
 have d2 : (c.kind == 2) = false := by simp [hk]
 have d3 : (c.kind == 3) = false := by simp [hk]
 have d4 : (c.kind == 4) = true := by simp [hk]
 clear hk
 have hlo : ∀ g, v.ownBlock = some g → g < w.heap.size := fun g hg => (hO.1.lt g hg).2
 go_enter Tryz.func60, Tryz.ntmps60
 go_wp2_with fail
 obtain ⟨W0, hW0⟩ : ∃ W0, W0 = (w.alloc (.cells #[.int .i64 c.kind, .string c.key, .int .i64 c.old.kind, .float .f64 c.old.num, .string c.old.text, .int .i64 c.val.kind, .float .f64 c.val.num, .string c.val.text] 42)).alloc (.cells #[.int .i64 0, .int .i64 0, .float .f64 0, .string ⟨#[]⟩] 46) := ⟨_, rfl⟩
 obtain ⟨b3, hb3⟩ : ∃ b3, b3 = w.heap.size := ⟨_, rfl⟩
 obtain ⟨hB3, hB5, hZ0⟩ := two_new w (.cells #[.int .i64 c.kind, .string c.key, .int .i64 c.old.kind, .float .f64 c.old.num, .string c.old.text, .int .i64 c.val.kind, .float .f64 c.val.num, .string c.val.text] 42) (.cells #[.int .i64 0, .int .i64 0, .float .f64 0, .string ⟨#[]⟩] 46)
 have hE : Ext w W0 := by rw [hW0]; exact ((Mod.refl _ w).alloc _).alloc _
 rw [← hW0, ← hb3] at hB3 hB5 hZ0 ⊢
 have hZ : w.heap.size ≤ b3 := Nat.le_of_eq hb3.symm
 have hO0 := hO.mod hE (fun _ _ => id)
 clear hW0 hb3
 refine (kv_get W0 _ v l c.key hO0.prs).mono ?_
 rintro e w1 ⟨rfl, hE1⟩
 rw [hx]
 have hs1 := hE1.size
 have k1 : w1.cell? ⟨b3, 1, none⟩ = some (.string c.key) := hE1.cell (blk_cell hB3 rfl) id
 have k0 : w1.cell? ⟨b3, 0, none⟩ = some (.int .i64 c.kind) := hE1.cell (blk_cell hB3 rfl) id
 have hb3w : b3 < w1.heap.size := by omega
 go_upto_block 0 with fail
 obtain ⟨W2, hW2⟩ : ∃ W2, W2 = (w1.alloc (.cells #[.int .i64 x.kind, .float .f64 x.num, .string x.text] 40)).alloc (.cells #[.int .i64 0, .int .i64 x.kind, .float .f64 x.num, .string x.text] 46) := ⟨_, rfl⟩
 obtain ⟨hBr, hBq, hZ2⟩ := two_new w1 (.cells #[.int .i64 x.kind, .float .f64 x.num, .string x.text] 40) (.cells #[.int .i64 0, .int .i64 x.kind, .float .f64 x.num, .string x.text] 46)
 have hE2 : Ext w1 W2 := by rw [hW2]; exact ((Mod.refl _ w1).alloc _).alloc _
 rw [← hW2] at hBr hBq hZ2 ⊢
 obtain ⟨r, hr⟩ : ∃ r, r = w1.heap.size := ⟨_, rfl⟩
 rw [← hr] at hBr hBq ⊢
 have hH : DoH w v c b3 r (r + 1) l x W2 := ⟨hO0.mod (hE1.ext hE2) (fun _ _ => id), (hE1.ext hE2).blk hB3 id, (hE1.ext hE2).blk hB5 id, hBr, hBq, hZ, by omega, by omega, hlo, hE.ext (hE1.ext hE2)⟩
 have HH := Lib.hid hH
 clear k0 k1 hb3w hW2 hr hBr hBq hZ2 hE2 hE1 hs1 hO0 hB3 hB5 hZ0 hE hx
 obtain ⟨k0, k1, k2, k3, k4, k5, k6, k7⟩ := cq8 hH.b3
 obtain ⟨g0, g1, g2, g3⟩ := cq4 hH.b5
 have f0 : W2.frozen? ⟨b3 + 1, 0, none⟩ = false := blk_free 0 hH.b5
 have f1 : W2.frozen? ⟨b3 + 1, 1, none⟩ = false := blk_free 1 hH.b5
 have f2 : W2.frozen? ⟨b3 + 1, 2, none⟩ = false := blk_free 2 hH.b5
 have f3 : W2.frozen? ⟨b3 + 1, 3, none⟩ = false := blk_free 3 hH.b5
 obtain ⟨r0, r1, r2⟩ := cq3 hH.br
 obtain ⟨q0, q1, q2, q3⟩ := cq4 hH.bq
 have p0 : W2.frozen? ⟨r + 1, 0, none⟩ = false := blk_free 0 hH.bq
 have p1 : W2.frozen? ⟨r + 1, 1, none⟩ = false := blk_free 1 hH.bq
 have p2 : W2.frozen? ⟨r + 1, 2, none⟩ = false := blk_free 2 hH.bq
 have p3 : W2.frozen? ⟨r + 1, 3, none⟩ = false := blk_free 3 hH.bq
 clear hH
 go_wp2_with fail
 refine (v_same x c.old _).mono ?_
 rintro e w4 ⟨rfl, hE4⟩
 have hH4 := HH.out.mod hE4
 rw [he]
 clear k0 k1 k2 k3 k4 k5 k6 k7 g0 g1 g2 g3 f0 f1 f2 f3 q0 q1 q2 q3 p0 p1 p2 p3 r0 r1 r2
 clear hE4 he
 obtain ⟨ak0, ak1, ak2, ak3, ak4, ak5, ak6, ak7⟩ := cq8 hH4.b3
 obtain ⟨ag0, ag1, ag2, ag3⟩ := cq4 hH4.b5
 have af0 : w4.frozen? ⟨b3 + 1, 0, none⟩ = false := blk_free 0 hH4.b5
 have af1 : w4.frozen? ⟨b3 + 1, 1, none⟩ = false := blk_free 1 hH4.b5
 have af2 : w4.frozen? ⟨b3 + 1, 2, none⟩ = false := blk_free 2 hH4.b5
 have af3 : w4.frozen? ⟨b3 + 1, 3, none⟩ = false := blk_free 3 hH4.b5
 obtain ⟨ar0, ar1, ar2⟩ := cq3 hH4.br
 obtain ⟨aq0, aq1, aq2, aq3⟩ := cq4 hH4.bq
 have ap0 : w4.frozen? ⟨r + 1, 0, none⟩ = false := blk_free 0 hH4.bq
 have ap1 : w4.frozen? ⟨r + 1, 1, none⟩ = false := blk_free 1 hH4.bq
 have ap2 : w4.frozen? ⟨r + 1, 2, none⟩ = false := blk_free 2 hH4.bq
 have ap3 : w4.frozen? ⟨r + 1, 3, none⟩ = false := blk_free 3 hH4.bq
 have HH4 := Lib.hid hH4
 clear hH4
 go_wp2
 exact ⟨rfl, Ext.mod HH4.out.ext _, .inr ⟨show (9 : Int) ≠ 0 by decide, rfl⟩⟩

set_option maxRecDepth 100000 in
set_option maxHeartbeats 4000000 in
theorem do_type_k (w : World) (v : Value) (l : List APair) (c : ACmd) (hO : Own w v l) (x : AVal) (hx : getP l c.key = x) (hk : c.kind = 5 ∨ c.kind = 6) (hxn : x.num < 18446744073709551616) (hvn : c.val.num < 18446744073709551616) (z : AVal) (n : Int) (hj : joinV (c.kind == 5) x c.val = (z, n)) (hn : n ≠ 0) :
  Calls Tryz.prog 60 #[v, .agg #[.int .i64 c.kind, .string c.key, .int .i64 c.old.kind, .float .f64 c.old.num, .string c.old.text, .int .i64 c.val.kind, .float .f64 c.val.num, .string c.val.text]] w (DoK w v (l, ⟨n, AVal.zero⟩)) := by
 rcases hk with hk | hk
 ·
  have d2 : (c.kind == 2) = false := by simp [hk]
  have d3 : (c.kind == 3) = false := by simp [hk]
  have d4 : (c.kind == 4) = false := by simp [hk]
  have d5 : (c.kind == 5) = true := by simp [hk]
  rw [d5] at hj
  have HJ := Lib.hid hj
  have Hn := Lib.hid hn
  clear hk hj hn
  have hlo : ∀ g, v.ownBlock = some g → g < w.heap.size := fun g hg => (hO.1.lt g hg).2
  go_enter Tryz.func60, Tryz.ntmps60
  go_wp2_with fail
  obtain ⟨W0, hW0⟩ : ∃ W0, W0 = (w.alloc (.cells #[.int .i64 c.kind, .string c.key, .int .i64 c.old.kind, .float .f64 c.old.num, .string c.old.text, .int .i64 c.val.kind, .float .f64 c.val.num, .string c.val.text] 42)).alloc (.cells #[.int .i64 0, .int .i64 0, .float .f64 0, .string ⟨#[]⟩] 46) := ⟨_, rfl⟩
  obtain ⟨b3, hb3⟩ : ∃ b3, b3 = w.heap.size := ⟨_, rfl⟩
  obtain ⟨hB3, hB5, hZ0⟩ := two_new w (.cells #[.int .i64 c.kind, .string c.key, .int .i64 c.old.kind, .float .f64 c.old.num, .string c.old.text, .int .i64 c.val.kind, .float .f64 c.val.num, .string c.val.text] 42) (.cells #[.int .i64 0, .int .i64 0, .float .f64 0, .string ⟨#[]⟩] 46)
  have hE : Ext w W0 := by rw [hW0]; exact ((Mod.refl _ w).alloc _).alloc _
  rw [← hW0, ← hb3] at hB3 hB5 hZ0 ⊢
  have hZ : w.heap.size ≤ b3 := Nat.le_of_eq hb3.symm
  have hO0 := hO.mod hE (fun _ _ => id)
  clear hW0 hb3
  refine (kv_get W0 _ v l c.key hO0.prs).mono ?_
  rintro e w1 ⟨rfl, hE1⟩
  rw [hx]
  have hs1 := hE1.size
  have k1 : w1.cell? ⟨b3, 1, none⟩ = some (.string c.key) := hE1.cell (blk_cell hB3 rfl) id
  have k0 : w1.cell? ⟨b3, 0, none⟩ = some (.int .i64 c.kind) := hE1.cell (blk_cell hB3 rfl) id
  have hb3w : b3 < w1.heap.size := by omega
  go_upto_block 0 with fail
  obtain ⟨W2, hW2⟩ : ∃ W2, W2 = (w1.alloc (.cells #[.int .i64 x.kind, .float .f64 x.num, .string x.text] 40)).alloc (.cells #[.int .i64 0, .int .i64 x.kind, .float .f64 x.num, .string x.text] 46) := ⟨_, rfl⟩
  obtain ⟨hBr, hBq, hZ2⟩ := two_new w1 (.cells #[.int .i64 x.kind, .float .f64 x.num, .string x.text] 40) (.cells #[.int .i64 0, .int .i64 x.kind, .float .f64 x.num, .string x.text] 46)
  have hE2 : Ext w1 W2 := by rw [hW2]; exact ((Mod.refl _ w1).alloc _).alloc _
  rw [← hW2] at hBr hBq hZ2 ⊢
  obtain ⟨r, hr⟩ : ∃ r, r = w1.heap.size := ⟨_, rfl⟩
  rw [← hr] at hBr hBq ⊢
  have hH : DoH w v c b3 r (r + 1) l x W2 := ⟨hO0.mod (hE1.ext hE2) (fun _ _ => id), (hE1.ext hE2).blk hB3 id, (hE1.ext hE2).blk hB5 id, hBr, hBq, hZ, by omega, by omega, hlo, hE.ext (hE1.ext hE2)⟩
  have HH := Lib.hid hH
  clear k0 k1 hb3w hW2 hr hBr hBq hZ2 hE2 hE1 hs1 hO0 hB3 hB5 hZ0 hE hx
  obtain ⟨k0, k1, k2, k3, k4, k5, k6, k7⟩ := cq8 hH.b3
  obtain ⟨g0, g1, g2, g3⟩ := cq4 hH.b5
  have f0 : W2.frozen? ⟨b3 + 1, 0, none⟩ = false := blk_free 0 hH.b5
  have f1 : W2.frozen? ⟨b3 + 1, 1, none⟩ = false := blk_free 1 hH.b5
  have f2 : W2.frozen? ⟨b3 + 1, 2, none⟩ = false := blk_free 2 hH.b5
  have f3 : W2.frozen? ⟨b3 + 1, 3, none⟩ = false := blk_free 3 hH.b5
  obtain ⟨r0, r1, r2⟩ := cq3 hH.br
  obtain ⟨q0, q1, q2, q3⟩ := cq4 hH.bq
  have p0 : W2.frozen? ⟨r + 1, 0, none⟩ = false := blk_free 0 hH.bq
  have p1 : W2.frozen? ⟨r + 1, 1, none⟩ = false := blk_free 1 hH.bq
  have p2 : W2.frozen? ⟨r + 1, 2, none⟩ = false := blk_free 2 hH.bq
  have p3 : W2.frozen? ⟨r + 1, 3, none⟩ = false := blk_free 3 hH.bq
  clear hH
  go_wp2_with fail
  refine (v_add x c.val _).mono ?_
  rintro e w4 ⟨rfl, hE4⟩
  rw [HJ.out]
  have hH4 := HH.out.mod hE4
  clear k0 k1 k2 k3 k4 k5 k6 k7 g0 g1 g2 g3 f0 f1 f2 f3 q0 q1 q2 q3 p0 p1 p2 p3 r0 r1 r2
  clear hE4
  obtain ⟨ak0, ak1, ak2, ak3, ak4, ak5, ak6, ak7⟩ := cq8 hH4.b3
  obtain ⟨ag0, ag1, ag2, ag3⟩ := cq4 hH4.b5
  have af0 : w4.frozen? ⟨b3 + 1, 0, none⟩ = false := blk_free 0 hH4.b5
  have af1 : w4.frozen? ⟨b3 + 1, 1, none⟩ = false := blk_free 1 hH4.b5
  have af2 : w4.frozen? ⟨b3 + 1, 2, none⟩ = false := blk_free 2 hH4.b5
  have af3 : w4.frozen? ⟨b3 + 1, 3, none⟩ = false := blk_free 3 hH4.b5
  obtain ⟨ar0, ar1, ar2⟩ := cq3 hH4.br
  obtain ⟨aq0, aq1, aq2, aq3⟩ := cq4 hH4.bq
  have ap0 : w4.frozen? ⟨r + 1, 0, none⟩ = false := blk_free 0 hH4.bq
  have ap1 : w4.frozen? ⟨r + 1, 1, none⟩ = false := blk_free 1 hH4.bq
  have ap2 : w4.frozen? ⟨r + 1, 2, none⟩ = false := blk_free 2 hH4.bq
  have ap3 : w4.frozen? ⟨r + 1, 3, none⟩ = false := blk_free 3 hH4.bq
  have HH4 := Lib.hid hH4
  clear hH4
  go_wp2_with fail
  refine (kv_throw n Hn.out _).mono ?_
  rintro e w5 ⟨rfl, rfl⟩
  exact ⟨rfl, HH4.out.telld z, .inr ⟨Hn.out, rfl⟩⟩
 ·
  have d2 : (c.kind == 2) = false := by simp [hk]
  have d3 : (c.kind == 3) = false := by simp [hk]
  have d4 : (c.kind == 4) = false := by simp [hk]
  have d5 : (c.kind == 5) = false := by simp [hk]
  have d6 : (c.kind == 6) = true := by simp [hk]
  rw [d5] at hj
  have HJ := Lib.hid hj
  have Hn := Lib.hid hn
  clear hk hj hn
  have hlo : ∀ g, v.ownBlock = some g → g < w.heap.size := fun g hg => (hO.1.lt g hg).2
  go_enter Tryz.func60, Tryz.ntmps60
  go_wp2_with fail
  obtain ⟨W0, hW0⟩ : ∃ W0, W0 = (w.alloc (.cells #[.int .i64 c.kind, .string c.key, .int .i64 c.old.kind, .float .f64 c.old.num, .string c.old.text, .int .i64 c.val.kind, .float .f64 c.val.num, .string c.val.text] 42)).alloc (.cells #[.int .i64 0, .int .i64 0, .float .f64 0, .string ⟨#[]⟩] 46) := ⟨_, rfl⟩
  obtain ⟨b3, hb3⟩ : ∃ b3, b3 = w.heap.size := ⟨_, rfl⟩
  obtain ⟨hB3, hB5, hZ0⟩ := two_new w (.cells #[.int .i64 c.kind, .string c.key, .int .i64 c.old.kind, .float .f64 c.old.num, .string c.old.text, .int .i64 c.val.kind, .float .f64 c.val.num, .string c.val.text] 42) (.cells #[.int .i64 0, .int .i64 0, .float .f64 0, .string ⟨#[]⟩] 46)
  have hE : Ext w W0 := by rw [hW0]; exact ((Mod.refl _ w).alloc _).alloc _
  rw [← hW0, ← hb3] at hB3 hB5 hZ0 ⊢
  have hZ : w.heap.size ≤ b3 := Nat.le_of_eq hb3.symm
  have hO0 := hO.mod hE (fun _ _ => id)
  clear hW0 hb3
  refine (kv_get W0 _ v l c.key hO0.prs).mono ?_
  rintro e w1 ⟨rfl, hE1⟩
  rw [hx]
  have hs1 := hE1.size
  have k1 : w1.cell? ⟨b3, 1, none⟩ = some (.string c.key) := hE1.cell (blk_cell hB3 rfl) id
  have k0 : w1.cell? ⟨b3, 0, none⟩ = some (.int .i64 c.kind) := hE1.cell (blk_cell hB3 rfl) id
  have hb3w : b3 < w1.heap.size := by omega
  go_upto_block 0 with fail
  obtain ⟨W2, hW2⟩ : ∃ W2, W2 = (w1.alloc (.cells #[.int .i64 x.kind, .float .f64 x.num, .string x.text] 40)).alloc (.cells #[.int .i64 0, .int .i64 x.kind, .float .f64 x.num, .string x.text] 46) := ⟨_, rfl⟩
  obtain ⟨hBr, hBq, hZ2⟩ := two_new w1 (.cells #[.int .i64 x.kind, .float .f64 x.num, .string x.text] 40) (.cells #[.int .i64 0, .int .i64 x.kind, .float .f64 x.num, .string x.text] 46)
  have hE2 : Ext w1 W2 := by rw [hW2]; exact ((Mod.refl _ w1).alloc _).alloc _
  rw [← hW2] at hBr hBq hZ2 ⊢
  obtain ⟨r, hr⟩ : ∃ r, r = w1.heap.size := ⟨_, rfl⟩
  rw [← hr] at hBr hBq ⊢
  have hH : DoH w v c b3 r (r + 1) l x W2 := ⟨hO0.mod (hE1.ext hE2) (fun _ _ => id), (hE1.ext hE2).blk hB3 id, (hE1.ext hE2).blk hB5 id, hBr, hBq, hZ, by omega, by omega, hlo, hE.ext (hE1.ext hE2)⟩
  have HH := Lib.hid hH
  clear k0 k1 hb3w hW2 hr hBr hBq hZ2 hE2 hE1 hs1 hO0 hB3 hB5 hZ0 hE hx
  obtain ⟨k0, k1, k2, k3, k4, k5, k6, k7⟩ := cq8 hH.b3
  obtain ⟨g0, g1, g2, g3⟩ := cq4 hH.b5
  have f0 : W2.frozen? ⟨b3 + 1, 0, none⟩ = false := blk_free 0 hH.b5
  have f1 : W2.frozen? ⟨b3 + 1, 1, none⟩ = false := blk_free 1 hH.b5
  have f2 : W2.frozen? ⟨b3 + 1, 2, none⟩ = false := blk_free 2 hH.b5
  have f3 : W2.frozen? ⟨b3 + 1, 3, none⟩ = false := blk_free 3 hH.b5
  obtain ⟨r0, r1, r2⟩ := cq3 hH.br
  obtain ⟨q0, q1, q2, q3⟩ := cq4 hH.bq
  have p0 : W2.frozen? ⟨r + 1, 0, none⟩ = false := blk_free 0 hH.bq
  have p1 : W2.frozen? ⟨r + 1, 1, none⟩ = false := blk_free 1 hH.bq
  have p2 : W2.frozen? ⟨r + 1, 2, none⟩ = false := blk_free 2 hH.bq
  have p3 : W2.frozen? ⟨r + 1, 3, none⟩ = false := blk_free 3 hH.bq
  clear hH
  go_wp2_with fail
  refine (v_max x c.val hxn hvn _).mono ?_
  rintro e w4 ⟨rfl, hE4⟩
  rw [HJ.out]
  have hH4 := HH.out.mod hE4
  clear k0 k1 k2 k3 k4 k5 k6 k7 g0 g1 g2 g3 f0 f1 f2 f3 q0 q1 q2 q3 p0 p1 p2 p3 r0 r1 r2
  clear hE4
  obtain ⟨ak0, ak1, ak2, ak3, ak4, ak5, ak6, ak7⟩ := cq8 hH4.b3
  obtain ⟨ag0, ag1, ag2, ag3⟩ := cq4 hH4.b5
  have af0 : w4.frozen? ⟨b3 + 1, 0, none⟩ = false := blk_free 0 hH4.b5
  have af1 : w4.frozen? ⟨b3 + 1, 1, none⟩ = false := blk_free 1 hH4.b5
  have af2 : w4.frozen? ⟨b3 + 1, 2, none⟩ = false := blk_free 2 hH4.b5
  have af3 : w4.frozen? ⟨b3 + 1, 3, none⟩ = false := blk_free 3 hH4.b5
  obtain ⟨ar0, ar1, ar2⟩ := cq3 hH4.br
  obtain ⟨aq0, aq1, aq2, aq3⟩ := cq4 hH4.bq
  have ap0 : w4.frozen? ⟨r + 1, 0, none⟩ = false := blk_free 0 hH4.bq
  have ap1 : w4.frozen? ⟨r + 1, 1, none⟩ = false := blk_free 1 hH4.bq
  have ap2 : w4.frozen? ⟨r + 1, 2, none⟩ = false := blk_free 2 hH4.bq
  have ap3 : w4.frozen? ⟨r + 1, 3, none⟩ = false := blk_free 3 hH4.bq
  have HH4 := Lib.hid hH4
  clear hH4
  go_wp2_with fail
  refine (kv_throw n Hn.out _).mono ?_
  rintro e w5 ⟨rfl, rfl⟩
  exact ⟨rfl, HH4.out.telld z, .inr ⟨Hn.out, rfl⟩⟩

/-- kv.do is doP, where the command and the pairs are right. -/
theorem kv_do (w : World) (v : Value) (l : List APair) (c : ACmd) (hO : Own w v l) (hc : cmdE c = 0) (hp : pairsB l = true) (hcv : c.val.ok) :
  Calls Tryz.prog 60 #[v, .agg #[.int .i64 c.kind, .string c.key, .int .i64 c.old.kind, .float .f64 c.old.num, .string c.old.text, .int .i64 c.val.kind, .float .f64 c.val.num, .string c.val.text]] w (DoK w v (doP l c)) := by
 obtain ⟨hk, hks, _, _, _, _⟩ := cmd_ok hc
 obtain ⟨hl, _, hs⟩ := (pairsB_iff l).1 hp
 have hxok := getP_ok hO.2 c.key
 by_cases h1 : c.kind = 1
 ·
  rw [do_get1 hc hp h1]
  exact do_get_k w v l c hO _ rfl h1
 rw [do_eq hc hp h1]
 rcases hst : stepV (getP l c.key) c with ⟨e, y, t⟩
 simp only
 by_cases he : e = 0
 ·
  subst he
  have hy := step_ok2 hxok hcv hst
  rw [if_neg (by simp)]
  split
  ·
   rename_i h; exact do_step_k w v l c hO hs hl _ rfl (by unfold maxLen; omega) hcv hxok y t hy.1 (by omega) hst _ rfl _ _ (if_pos h)
  ·
   rename_i h; exact do_step_k w v l c hO hs hl _ rfl (by unfold maxLen; omega) hcv hxok y t hy.1 (by omega) hst _ rfl _ _ (if_neg h)
 ·
  rw [if_pos he]
  unfold stepV at hst
  split at hst
  ·
   simp only [Prod.mk.injEq] at hst; exact absurd hst.1.symm he
  split at hst
  ·
   simp only [Prod.mk.injEq] at hst; exact absurd hst.1.symm he
  split at hst
  ·
   rename_i h4
   rcases hq : eqVal (getP l c.key) c.old with _ | _
   ·
    rw [hq] at hst
    simp only [Bool.false_eq_true, if_false, Prod.mk.injEq] at hst
    rw [← hst.1, ← hst.2.2]
    exact do_other_k w v l c hO _ rfl h4 hq
   ·
    rw [hq] at hst
    simp only [if_true, Prod.mk.injEq] at hst
    exact absurd hst.1.symm he
  ·
   rename_i h2 h3 h4
   rcases hj : joinV (c.kind == 5) (getP l c.key) c.val with ⟨z, n⟩
   rw [hj] at hst
   simp only at hst
   split at hst
   ·
    simp only [Prod.mk.injEq] at hst; exact absurd hst.1.symm he
   ·
    rename_i hn
    simp only [Prod.mk.injEq] at hst
    rw [← hst.1, ← hst.2.2]
    exact do_type_k w v l c hO _ rfl (by omega) hxok.2.1 hcv.2.1 z n hj hn
end Go.Proofs.YtbclnghbgoblcaaGreat

namespace Go.Proofs.YtbclnghbgoblcaaGreat
set_option linter.unusedSimpArgs false
open Go.RowKit

theorem ta_wrongK (n k : Int) (x : Nat) (t : ByteArray) (w : World) : (Instr.typeAssert (.iface 97 (.agg #[.int .i64 n, .int .i64 k, .float .f64 x, .string t])) 20 97 true).run Tryz.prog w = .ok (.tuple #[.agg #[.int .i64 n, .int .i64 k, .float .f64 x, .string t], .bool true]) w := by kernel_rfl
theorem ta_nilK (w : World) : (Instr.typeAssert .nilIface 20 97 true).run Tryz.prog w = .ok (.tuple #[.agg #[.int .i64 0, .int .i64 0, .float .f64 0, .string ⟨#[]⟩], .bool false]) w := by kernel_rfl
attribute [local go_sem] ta_wrongK ta_nilK
theorem wpS_frame {P : Program} {c : Code} {Q : Exit → Act → List Frame → World → Prop} {t : Array Value} (t' : Array Value) {d : List Deferred} {cs : List Frame} {w : World} (e : t = t') (h : c.wpS P Q ⟨t', d⟩ cs w) : c.wpS P Q ⟨t, d⟩ cs w := e ▸ h
set_option maxRecDepth 100000 in
set_option maxHeartbeats 400000 in
theorem kd_idle (pl po pr : Addr) (w : World) :
  CallsD Tryz.prog 56 #[.pointer (some pl), .pointer (some po), .pointer (some pr)] .returning w fun e u' w' => e = .returned (.tuple #[]) ∧ u' = .returning ∧ ∃ o, w' = w.alloc o := by
 refine callsD_of_wpS Tryz.func56 rfl fun c₀ cs hu => ?_
 apply wpS_seq
 apply wpS_region
 simp [wpOpsS, go_sem, recoverD, hu, Tryz.ntmps56, Exit.thenS]
 refine wpS_frame #[.pointer (some pl), .pointer (some po), .pointer (some pr), .pointer (some ⟨w.heap.size, 0, none⟩), .bool false, .tuple #[.agg #[.int .i64 0, .int .i64 0, .float .f64 0, .string ⟨#[]⟩], .bool false], .nilIface,
  .tuple #[.agg #[.int .i64 0, .int .i64 0, .float .f64 0, .string ⟨#[]⟩], .bool false], .agg #[.int .i64 0, .int .i64 0, .float .f64 0, .string ⟨#[]⟩], .bool false, undef, undef, undef, undef, undef, undef, undef, undef] ?_ ?_
 ·
  exact Array.ext' (by simp [Array.toList_replicate, List.replicate])
 refine wpS_of_wp ?_
 go_wp2
 cases c₀
 simp_all [bodyPostS, results, Tryz.results56]
 exact ⟨_, rfl⟩

set_option maxRecDepth 100000 in
set_option maxHeartbeats 1000000 in
theorem kd_caught (pl po pr : Nat) (n : Int) (x : AVal) (w : World) (T : Nat → Prop) (vl : Value) (l : List APair) (uo : Value) (r0 r1 r2 r3 : Value) (hl : w.cell? ⟨pl, 0, none⟩ = some vl) (hP : Prs w T vl l) (hlen : l.length ≤ 1000000)
  (ho : w.heap[po]? = some (.cells #[uo] 30 (0, 0))) (hr : w.heap[pr]? = some (.cells #[r0, r1, r2, r3] 46 (0, 0))) (hne : po ≠ pr) (hlo : pl ≠ po) (hlr : pl ≠ pr) :
  CallsD Tryz.prog 56 #[.pointer (some ⟨pl, 0, none⟩), .pointer (some ⟨po, 0, none⟩), .pointer (some ⟨pr, 0, none⟩)] (.panicking [{ v := .iface 97 (.agg #[.int .i64 n, .int .i64 x.kind, .float .f64 x.num, .string x.text]), recovered := false }]) w fun e u' w' =>
   e = .returned (.tuple #[]) ∧ u' = .panicking [{ v := .iface 97 (.agg #[.int .i64 n, .int .i64 x.kind, .float .f64 x.num, .string x.text]), recovered := true }] ∧ ∃ v', w'.heap[po]? = some (.cells #[v'] 30 (0, 0)) ∧
    w'.heap[pr]? = some (.cells #[.int .i64 n, .int .i64 x.kind, .float .f64 x.num, .string x.text] 46 (0, 0)) ∧ NewP w w' v' l ∧ Mod (fun k => k = po ∨ k = pr) w w' := by
 have hplt : pl < w.heap.size := World.block_lt_of_cell? _ _ hl
 have hE : Ext w (w.alloc (.cells #[.int .i64 n, .int .i64 x.kind, .float .f64 x.num, .string x.text] 97)).drew := ((Mod.refl _ w).alloc _).drew
 have h2 := hP.ext hE
 have co := blk_cell (cs := [uo]) (j := 0) ho rfl
 have fo := blk_free 0 ho
 have cr0 := blk_cell (cs := [r0, r1, r2, r3]) (j := 0) hr rfl
 have cr1 := blk_cell (cs := [r0, r1, r2, r3]) (j := 1) hr rfl
 have cr2 := blk_cell (cs := [r0, r1, r2, r3]) (j := 2) hr rfl
 have cr3 := blk_cell (cs := [r0, r1, r2, r3]) (j := 3) hr rfl
 have fr0 := blk_free 0 hr
 have fr1 := blk_free 1 hr
 have fr2 := blk_free 2 hr
 have fr3 := blk_free 3 hr
 have hne2 := Ne.symm hne
 have m1 := Ne.symm hlo
 have m2 := Ne.symm hlr
 have m3 : ¬ w.heap.size = po := by have := (Array.getElem?_eq_some_iff.1 ho).1; omega
 have m4 : ¬ w.heap.size = pr := by have := (Array.getElem?_eq_some_iff.1 hr).1; omega
 have m5 : ¬ po = w.heap.size := by omega
 have m6 : ¬ pr = w.heap.size := by omega
 have hpl1 : pl < w.heap.size + 1 := by omega
 have hpo1 : po < w.heap.size + 1 := by have := (Array.getElem?_eq_some_iff.1 ho).1; omega
 have hpr1 : pr < w.heap.size + 1 := by have := (Array.getElem?_eq_some_iff.1 hr).1; omega
 have Ho := Lib.hid ho
 have Hr := Lib.hid hr
 have hpo := (Array.getElem?_eq_some_iff.1 ho).1
 have hpr := (Array.getElem?_eq_some_iff.1 hr).1
 clear ho hr
 refine callsD_of_wpS Tryz.func56 rfl fun c₀ cs hu => ?_
 apply wpS_seq
 apply wpS_region
 simp [wpOpsS, go_sem, recoverD, hu, Tryz.ntmps56, Exit.thenS]
 refine wpS_frame #[.pointer (some ⟨pl, 0, none⟩), .pointer (some ⟨po, 0, none⟩), .pointer (some ⟨pr, 0, none⟩), .pointer (some ⟨w.heap.size, 0, none⟩), .bool true, .tuple #[.agg #[.int .i64 n, .int .i64 x.kind, .float .f64 x.num, .string x.text], .bool true], .iface 97 (.agg #[.int .i64 n, .int .i64 x.kind, .float .f64 x.num, .string x.text]),
  .tuple #[.agg #[.int .i64 n, .int .i64 x.kind, .float .f64 x.num, .string x.text], .bool true], .agg #[.int .i64 n, .int .i64 x.kind, .float .f64 x.num, .string x.text], .bool true, undef, undef, undef, undef, undef, undef, undef, undef] ?_ ?_
 ·
  exact Array.ext' (by simp [Array.toList_replicate, List.replicate])
 refine wpS_of_wp ?_
 go_wp2_with fail
 go_region_held3 (fun w' => w'.cell? ⟨pl, 0, none⟩ = some vl ∧ w'.cell? ⟨w.heap.size, 0, none⟩ = some (.int .i64 n) ∧ w'.cell? ⟨w.heap.size, 1, none⟩ = some (.int .i64 x.kind) ∧ w'.cell? ⟨w.heap.size, 2, none⟩ = some (.float .f64 x.num) ∧ w'.cell? ⟨w.heap.size, 3, none⟩ = some (.string x.text)) (go_keep)
  ((go_at_call 57; refine (sl_clone _ T vl l h2 hlen).mono ?_; rintro e w1 ⟨v1, rfl, hN, hE1⟩; obtain ⟨A1, c1, rfl⟩ := own_form hN.1; obtain ⟨hc1, hf1⟩ := bcell hE1))
 all_goals
  have hs1 := hE1.size
  have ho1 := hE1.blk (hE.blk Ho.out id) id
  have hr1 := hE1.blk (hE.blk Hr.out id) id
  have hE2 := hE.ext hE1
  have hfin : ∃ v', (((((w1.setCell ⟨po, 0, none⟩ (.slice A1 l.length c1)).setCell ⟨pr, 0, none⟩ (.int .i64 n)).setCell ⟨pr, 1, none⟩ (.int .i64 x.kind)).setCell ⟨pr, 2, none⟩ (.float .f64 x.num)).setCell ⟨pr, 3, none⟩ (.string x.text)).heap[po]? = some (.cells #[v'] 30 (0, 0)) ∧
    (((((w1.setCell ⟨po, 0, none⟩ (.slice A1 l.length c1)).setCell ⟨pr, 0, none⟩ (.int .i64 n)).setCell ⟨pr, 1, none⟩ (.int .i64 x.kind)).setCell ⟨pr, 2, none⟩ (.float .f64 x.num)).setCell ⟨pr, 3, none⟩ (.string x.text)).heap[pr]? = some (.cells #[.int .i64 n, .int .i64 x.kind, .float .f64 x.num, .string x.text] 46 (0, 0)) ∧
    NewP w (((((w1.setCell ⟨po, 0, none⟩ (.slice A1 l.length c1)).setCell ⟨pr, 0, none⟩ (.int .i64 n)).setCell ⟨pr, 1, none⟩ (.int .i64 x.kind)).setCell ⟨pr, 2, none⟩ (.float .f64 x.num)).setCell ⟨pr, 3, none⟩ (.string x.text)) v' l ∧
    Mod (fun k => k = po ∨ k = pr) w (((((w1.setCell ⟨po, 0, none⟩ (.slice A1 l.length c1)).setCell ⟨pr, 0, none⟩ (.int .i64 n)).setCell ⟨pr, 1, none⟩ (.int .i64 x.kind)).setCell ⟨pr, 2, none⟩ (.float .f64 x.num)).setCell ⟨pr, 3, none⟩ (.string x.text)) := by
   have hm : Mod (fun k => k = po ∨ k = pr) w1 (((((w1.setCell ⟨po, 0, none⟩ (.slice A1 l.length c1)).setCell ⟨pr, 0, none⟩ (.int .i64 n)).setCell ⟨pr, 1, none⟩ (.int .i64 x.kind)).setCell ⟨pr, 2, none⟩ (.float .f64 x.num)).setCell ⟨pr, 3, none⟩ (.string x.text)) :=
    ((((((Mod.refl _ w1).setCell (p := ⟨po, 0, none⟩) (.inr (.inl rfl)) _).setCell (p := ⟨pr, 0, none⟩) (.inr (.inr rfl)) _).setCell (p := ⟨pr, 1, none⟩) (.inr (.inr rfl)) _).setCell (p := ⟨pr, 2, none⟩) (.inr (.inr rfl)) _).setCell (p := ⟨pr, 3, none⟩) (.inr (.inr rfl)) _)
   refine ⟨.slice A1 l.length c1, ?_, ?_, newP_mod (newP_up hN hE.size) hm (fun g hg e => by have := hN.2.2 g hg; simp at this; omega), (Ext.mod hE2 _).self hm⟩
   ·
    simp [World.setCell, Array.getElem?_modify, ho1, hne2]
   ·
    simp [World.setCell, Array.getElem?_modify, hr1, hne]
  obtain ⟨wf, hwf⟩ : ∃ wf, (((((w1.setCell ⟨po, 0, none⟩ (.slice A1 l.length c1)).setCell ⟨pr, 0, none⟩ (.int .i64 n)).setCell ⟨pr, 1, none⟩ (.int .i64 x.kind)).setCell ⟨pr, 2, none⟩ (.float .f64 x.num)).setCell ⟨pr, 3, none⟩ (.string x.text)) = wf := ⟨_, rfl⟩
  rw [hwf] at hfin ⊢
  have Hfin := Lib.hid hfin
  clear hfin hwf hE2 hr1 ho1 hs1 hE1 hN hc1 hf1
  clear co fo cr0 cr1 cr2 cr3 fr0 fr1 fr2 fr3 hne2 m1 m2 m3 m4 m5 m6 hpl1 hpo1 hpr1 h2 hE Ho Hr hpo hpr hl hP hlen hlo hlr hplt
  exact ⟨rfl, _, rfl, _, by simp [results, Tryz.results56], rfl, rfl, Hfin.out⟩

theorem four_new (w : World) (o p q r : Obj) : ((((w.alloc o).alloc p).alloc q).alloc r).heap[w.heap.size]? = some o ∧ ((((w.alloc o).alloc p).alloc q).alloc r).heap[w.heap.size + 1]? = some p ∧
  ((((w.alloc o).alloc p).alloc q).alloc r).heap[w.heap.size + 1 + 1]? = some q ∧ ((((w.alloc o).alloc p).alloc q).alloc r).heap[w.heap.size + 1 + 1 + 1]? = some r := by
 have h1 : (w.alloc o).heap[w.heap.size]? = some o := heap_alloc_new w _
 have h2 : ((w.alloc o).alloc p).heap[w.heap.size + 1]? = some p := by have := heap_alloc_new (w.alloc o) p; simpa using this
 have h3 : (((w.alloc o).alloc p).alloc q).heap[w.heap.size + 1 + 1]? = some q := by have := heap_alloc_new ((w.alloc o).alloc p) q; simpa using this
 have h4 : ((((w.alloc o).alloc p).alloc q).alloc r).heap[w.heap.size + 1 + 1 + 1]? = some r := by have := heap_alloc_new (((w.alloc o).alloc p).alloc q) r; simpa using this
 refine ⟨?_, ?_, ?_, h4⟩
 ·
  rw [Below.heap_alloc _ _ _ (by first | (simp; done) | (simp; omega)), Below.heap_alloc _ _ _ (by first | (simp; done) | (simp; omega)), Below.heap_alloc _ _ _ (by simp)]; exact h1
 ·
  rw [Below.heap_alloc _ _ _ (by first | (simp; done) | (simp; omega)), Below.heap_alloc _ _ _ (by simp)]; exact h2
 ·
  rw [Below.heap_alloc _ _ _ (by simp)]; exact h3
/-- The boxes of kv.Do. -/
structure DoB (w : World) (T : Nat → Prop) (v : Value) (l : List APair) (c : ACmd) (b : Nat) (wx : World) : Prop where
 b0 : wx.heap[b]? = some (.cells #[v] 30 (0, 0))
 b1 : wx.heap[b + 1]? = some (.cells #[.int .i64 c.kind, .string c.key, .int .i64 c.old.kind, .float .f64 c.old.num, .string c.old.text, .int .i64 c.val.kind, .float .f64 c.val.num, .string c.val.text] 42 (0, 0))
 b2 : wx.heap[b + 1 + 1]? = some (.cells #[.slice none 0 0] 30 (0, 0))
 b3 : wx.heap[b + 1 + 1 + 1]? = some (.cells #[.int .i64 0, .int .i64 0, .float .f64 0, .string ⟨#[]⟩] 46 (0, 0))
 pr : Prs wx T v l
 ext : Ext w wx
 le : w.heap.size ≤ b
theorem DoB.mod {w : World} {T : Nat → Prop} {v : Value} {l : List APair} {c : ACmd} {b : Nat} {wx wy : World} (h : DoB w T v l c b wx) (hE : Ext wx wy) : DoB w T v l c b wy :=
 ⟨hE.blk h.b0 id, hE.blk h.b1 id, hE.blk h.b2 id, hE.blk h.b3 id, h.pr.ext hE, h.ext.ext hE, h.le⟩
/-- Behind kv.do, which turns its own pairs. -/
theorem DoB.drewmod {w : World} {T : Nat → Prop} {v : Value} {l : List APair} {c : ACmd} {b : Nat} {wx wy : World} {S : Nat → Prop} (h : DoB w T v l c b wx) (hm : Mod S wx wy) (hS : ∀ g, S g → b + 1 + 1 + 1 < g ∧ ∀ k, T k → k < g) (hw : ∀ g, S g → w.heap.size ≤ g) : DoB w T v l c b wy :=
 ⟨hm.blk h.b0 (fun e => by have := hS _ e; omega), hm.blk h.b1 (fun e => by have := hS _ e; omega), hm.blk h.b2 (fun e => by have := hS _ e; omega), hm.blk h.b3 (fun e => by have := hS _ e; omega),
  h.pr.mod hm (fun g hT hg => by have := (hS g hg).2 g hT; omega), Mod.toExt ((Ext.mod h.ext (Since w.heap.size)).trans hm (fun k _ e => hw k e)), h.le⟩
theorem DoB.lt {w : World} {T : Nat → Prop} {v : Value} {l : List APair} {c : ACmd} {b : Nat} {wx : World} (h : DoB w T v l c b wx) : b + 1 + 1 + 1 < wx.heap.size := (Array.getElem?_eq_some_iff.1 h.b3).1

/-- What was thrown is caught. -/
theorem do_caught {w : World} {T : Nat → Prop} {v : Value} {l : List APair} {c : ACmd} {b : Nat} {wx : World} (h : DoB w T v l c b wx) (hlen : l.length ≤ 1000000) (n : Int) (x : AVal) (tmps : Array Value) (h4 : tmps.getD 4 undef = .pointer (some ⟨b + 1 + 1, 0, none⟩)) (h5 : tmps.getD 5 undef = .pointer (some ⟨b + 1 + 1 + 1, 0, none⟩)) :
  Leaves Tryz.prog Tryz.f33 tmps (DoOut w l ⟨n, x⟩) [{ target := .fn (Fn.func 56) #[.pointer (some ⟨b, 0, none⟩), .pointer (some ⟨b + 1 + 1, 0, none⟩), .pointer (some ⟨b + 1 + 1 + 1, 0, none⟩)], args := #[] }] (.panicking [{ v := .iface 97 (.agg #[.int .i64 n, .int .i64 x.kind, .float .f64 x.num, .string x.text]), recovered := false }]) wx := by
 refine leaves_cons (f := 56) (args := #[.pointer (some ⟨b, 0, none⟩), .pointer (some ⟨b + 1 + 1, 0, none⟩), .pointer (some ⟨b + 1 + 1 + 1, 0, none⟩)]) (by simp) (by simp [go_sem]) ?_
 refine (kd_caught b (b + 1 + 1) (b + 1 + 1 + 1) n x wx T v l _ _ _ _ _ (blk_cell (cs := [v]) h.b0 rfl) h.pr hlen h.b2 h.b3 (by omega) (by omega) (by omega)).mono ?_
 rintro e u' w' ⟨rfl, rfl, v', ho, hr, hN, hm⟩
 have q0 := blk_cell (cs := [v']) (j := 0) ho rfl
 have r0 := blk_cell (cs := [.int .i64 n, .int .i64 x.kind, .float .f64 x.num, .string x.text]) (j := 0) hr rfl
 have r1 := blk_cell (cs := [.int .i64 n, .int .i64 x.kind, .float .f64 x.num, .string x.text]) (j := 1) hr rfl
 have r2 := blk_cell (cs := [.int .i64 n, .int .i64 x.kind, .float .f64 x.num, .string x.text]) (j := 2) hr rfl
 have r3 := blk_cell (cs := [.int .i64 n, .int .i64 x.kind, .float .f64 x.num, .string x.text]) (j := 3) hr rfl
 have hF : DoOut w l ⟨n, x⟩ (.returned (.tuple #[v', .agg #[.int .i64 n, .int .i64 x.kind, .float .f64 x.num, .string x.text]])) w' :=
  ⟨v', rfl, newP_up hN h.ext.size, Mod.toExt ((Ext.mod h.ext _).trans hm (fun k hk e => by have := h.le; unfold Since; omega))⟩
 rw [Array.getD_eq_getD_getElem?] at h4 h5
 simp [Leaves, settle, results, Tryz.results33, go_sem, q0, r0, r1, r2, r3, h4, h5]
 exact hF
end Go.Proofs.YtbclnghbgoblcaaGreat

namespace Go.Proofs.YtbclnghbgoblcaaGreat
set_option linter.unusedSimpArgs false
open Go.RowKit

/-- What the region that draws its order reads. -/
def SB (b : Nat) (v : Value) (c : ACmd) (W' : World) : Prop :=
 W'.cell? ⟨b, 0, none⟩ = some v ∧ W'.cell? ⟨b + 1, 0, none⟩ = some (.int .i64 c.kind) ∧ W'.cell? ⟨b + 1, 1, none⟩ = some (.string c.key) ∧ W'.cell? ⟨b + 1, 2, none⟩ = some (.int .i64 c.old.kind) ∧ W'.cell? ⟨b + 1, 3, none⟩ = some (.float .f64 c.old.num) ∧ W'.cell? ⟨b + 1, 4, none⟩ = some (.string c.old.text) ∧ W'.cell? ⟨b + 1, 5, none⟩ = some (.int .i64 c.val.kind) ∧ W'.cell? ⟨b + 1, 6, none⟩ = some (.float .f64 c.val.num) ∧ W'.cell? ⟨b + 1, 7, none⟩ = some (.string c.val.text)
theorem SB.of {w : World} {T : Nat → Prop} {v : Value} {l : List APair} {c : ACmd} {b : Nat} {wx : World} (h : DoB w T v l c b wx) : SB b v c wx :=
 ⟨blk_cell (cs := [v]) h.b0 rfl, blk_cell (cs := [.int .i64 c.kind, .string c.key, .int .i64 c.old.kind, .float .f64 c.old.num, .string c.old.text, .int .i64 c.val.kind, .float .f64 c.val.num, .string c.val.text]) h.b1 rfl, blk_cell (cs := [.int .i64 c.kind, .string c.key, .int .i64 c.old.kind, .float .f64 c.old.num, .string c.old.text, .int .i64 c.val.kind, .float .f64 c.val.num, .string c.val.text]) h.b1 rfl, blk_cell (cs := [.int .i64 c.kind, .string c.key, .int .i64 c.old.kind, .float .f64 c.old.num, .string c.old.text, .int .i64 c.val.kind, .float .f64 c.val.num, .string c.val.text]) h.b1 rfl, blk_cell (cs := [.int .i64 c.kind, .string c.key, .int .i64 c.old.kind, .float .f64 c.old.num, .string c.old.text, .int .i64 c.val.kind, .float .f64 c.val.num, .string c.val.text]) h.b1 rfl, blk_cell (cs := [.int .i64 c.kind, .string c.key, .int .i64 c.old.kind, .float .f64 c.old.num, .string c.old.text, .int .i64 c.val.kind, .float .f64 c.val.num, .string c.val.text]) h.b1 rfl, blk_cell (cs := [.int .i64 c.kind, .string c.key, .int .i64 c.old.kind, .float .f64 c.old.num, .string c.old.text, .int .i64 c.val.kind, .float .f64 c.val.num, .string c.val.text]) h.b1 rfl, blk_cell (cs := [.int .i64 c.kind, .string c.key, .int .i64 c.old.kind, .float .f64 c.old.num, .string c.old.text, .int .i64 c.val.kind, .float .f64 c.val.num, .string c.val.text]) h.b1 rfl, blk_cell (cs := [.int .i64 c.kind, .string c.key, .int .i64 c.old.kind, .float .f64 c.old.num, .string c.old.text, .int .i64 c.val.kind, .float .f64 c.val.num, .string c.val.text]) h.b1 rfl⟩
theorem SB.mod {b : Nat} {v : Value} {c : ACmd} {w w' : World} {S : Nat → Prop} (h : SB b v c w) (hm : Mod S w w') (h0 : ¬ S b) (h1 : ¬ S (b + 1)) : SB b v c w' := by
 obtain ⟨s0, s1, s2, s3, s4, s5, s6, s7, s8⟩ := h
 exact ⟨hm.cell s0 h0, hm.cell s1 h1, hm.cell s2 h1, hm.cell s3 h1, hm.cell s4 h1, hm.cell s5 h1, hm.cell s6 h1, hm.cell s7 h1, hm.cell s8 h1⟩
theorem leaves_tmps {R : Ending → World → Prop} {t t' : Array Value} (h4 : t.getD 4 undef = t'.getD 4 undef) (h5 : t.getD 5 undef = t'.getD 5 undef) :
  ∀ (ds : List Deferred) (u : FrameMode) (w : World), Leaves Tryz.prog Tryz.f33 t R ds u w → Leaves Tryz.prog Tryz.f33 t' R ds u w := by
 have hres : results Tryz.f33 t = results Tryz.f33 t' := by
  rw [Array.getD_eq_getD_getElem?, Array.getD_eq_getD_getElem?] at h4 h5
  simp [results, Tryz.results33, h4, h5]
 intro ds
 induction ds with
 | nil =>
  intro u w h
  cases u <;> simp only [Leaves] at h ⊢
  ·
   rw [← hres]; exact h
  ·
   exact h
 | cons d ds ih =>
  intro u w h
  obtain ⟨hu, fv, cap, f, args, h1, h2, h3⟩ := h
  refine ⟨hu, fv, cap, f, args, h1, h2, h3.mono fun e u' w' hr => ?_⟩
  cases e with
  | returned v => exact ih _ _ hr
  | panicked chain => exact ih _ _ hr
  | outgrown => exact hr
theorem put_panic {R : Ending → World → Prop} {d : Nat} {v : Value} (h4 : d ≠ 4) (h5 : d ≠ 5) (c : List PanicEntry) (a : Act) (w : World) (h : bodyPostD Tryz.prog Tryz.f33 R (.panic c) (a.put (some d) v) w) :
  bodyPostD Tryz.prog Tryz.f33 R (.panic c) a w :=
 leaves_tmps (by simp [Act.put, Array.getElem?_setIfInBounds, h4]) (by simp [Act.put, Array.getElem?_setIfInBounds, h5]) _ _ _ h

set_option maxRecDepth 100000 in
set_option maxHeartbeats 1000000 in
theorem kD_bad (w : World) (T : Nat → Prop) (A : Option Addr) (n cc : Nat) (l : List APair) (c : ACmd) (h : Prs w T (.slice A n cc) l) (hlen : l.length ≤ 1000000) (k : Int) (hc : cmdE c = k) (hk : k ≠ 0) :
  Calls Tryz.prog 33 #[.slice A n cc, .agg #[.int .i64 c.kind, .string c.key, .int .i64 c.old.kind, .float .f64 c.old.num, .string c.old.text, .int .i64 c.val.kind, .float .f64 c.val.num, .string c.val.text]] w (DoOut w l ⟨k, AVal.zero⟩) := by
 go_enter_defers Tryz.func33, Tryz.ntmps33
 go_wp2_with fail
 obtain ⟨W0, hW0⟩ : ∃ W0, W0 = (((w.alloc (.cells #[.slice A n cc] 30)).alloc (.cells #[.int .i64 c.kind, .string c.key, .int .i64 c.old.kind, .float .f64 c.old.num, .string c.old.text, .int .i64 c.val.kind, .float .f64 c.val.num, .string c.val.text] 42)).alloc (.cells #[.slice none 0 0] 30)).alloc (.cells #[.int .i64 0, .int .i64 0, .float .f64 0, .string ⟨#[]⟩] 46) := ⟨_, rfl⟩
 obtain ⟨h0, h1, h2, h3⟩ := four_new w (.cells #[.slice A n cc] 30) (.cells #[.int .i64 c.kind, .string c.key, .int .i64 c.old.kind, .float .f64 c.old.num, .string c.old.text, .int .i64 c.val.kind, .float .f64 c.val.num, .string c.val.text] 42) (.cells #[.slice none 0 0] 30) (.cells #[.int .i64 0, .int .i64 0, .float .f64 0, .string ⟨#[]⟩] 46)
 have hE : Ext w W0 := by rw [hW0]; exact ((((Mod.refl _ w).alloc _).alloc _).alloc _).alloc _
 obtain ⟨b, hb⟩ : ∃ b, b = w.heap.size := ⟨_, rfl⟩
 rw [← hW0, ← hb] at h0 h1 h2 h3 ⊢
 have hB : DoB w T (.slice A n cc) l c b W0 := ⟨h0, h1, h2, h3, h.ext hE, hE, Nat.le_of_eq hb.symm⟩
 have HB0 := Lib.hid hB
 clear hW0 hb h0 h1 h2 h3 hE
 refine (kv_right c _).mono ?_
 rintro e w1 ⟨rfl, hE1⟩
 have hB1 := hB.mod hE1
 have HB1 := Lib.hid hB1
 rw [hc]
 clear hE1 hB
 clear hB1 hc
 go_wp2_with fail
 refine (kv_throw k hk _).mono ?_
 rintro e w2 ⟨rfl, rfl⟩
 refine do_caught HB1.out hlen k AVal.zero _ rfl rfl

set_option maxRecDepth 100000 in
set_option maxHeartbeats 1000000 in
theorem kD_bad2 (w : World) (T : Nat → Prop) (A : Option Addr) (n cc : Nat) (l : List APair) (c : ACmd) (h : Prs w T (.slice A n cc) l) (hlen : l.length ≤ 1000000) (hc : cmdE c = 0) (hp : pairsB l = false) :
  Calls Tryz.prog 33 #[.slice A n cc, .agg #[.int .i64 c.kind, .string c.key, .int .i64 c.old.kind, .float .f64 c.old.num, .string c.old.text, .int .i64 c.val.kind, .float .f64 c.val.num, .string c.val.text]] w (DoOut w l ⟨6, AVal.zero⟩) := by
 go_enter_defers Tryz.func33, Tryz.ntmps33
 go_wp2_with fail
 obtain ⟨W0, hW0⟩ : ∃ W0, W0 = (((w.alloc (.cells #[.slice A n cc] 30)).alloc (.cells #[.int .i64 c.kind, .string c.key, .int .i64 c.old.kind, .float .f64 c.old.num, .string c.old.text, .int .i64 c.val.kind, .float .f64 c.val.num, .string c.val.text] 42)).alloc (.cells #[.slice none 0 0] 30)).alloc (.cells #[.int .i64 0, .int .i64 0, .float .f64 0, .string ⟨#[]⟩] 46) := ⟨_, rfl⟩
 obtain ⟨h0, h1, h2, h3⟩ := four_new w (.cells #[.slice A n cc] 30) (.cells #[.int .i64 c.kind, .string c.key, .int .i64 c.old.kind, .float .f64 c.old.num, .string c.old.text, .int .i64 c.val.kind, .float .f64 c.val.num, .string c.val.text] 42) (.cells #[.slice none 0 0] 30) (.cells #[.int .i64 0, .int .i64 0, .float .f64 0, .string ⟨#[]⟩] 46)
 have hE : Ext w W0 := by rw [hW0]; exact ((((Mod.refl _ w).alloc _).alloc _).alloc _).alloc _
 obtain ⟨b, hb⟩ : ∃ b, b = w.heap.size := ⟨_, rfl⟩
 rw [← hW0, ← hb] at h0 h1 h2 h3 ⊢
 have hB : DoB w T (.slice A n cc) l c b W0 := ⟨h0, h1, h2, h3, h.ext hE, hE, Nat.le_of_eq hb.symm⟩
 have HB0 := Lib.hid hB
 clear hW0 hb h0 h1 h2 h3 hE
 refine (kv_right c _).mono ?_
 rintro e w1 ⟨rfl, hE1⟩
 have hB1 := hB.mod hE1
 have HB1 := Lib.hid hB1
 rw [hc]
 clear hE1 hB
 clear hc
 go_wp2_with fail
 refine (kv_throw_no _).mono ?_
 rintro e w2 ⟨rfl, rfl⟩
 have m0 : w1.cell? ⟨b, 0, none⟩ = some _ := blk_cell hB1.b0 rfl
 clear hB1
 go_wp2_with fail
 refine (kv_check _ T _ l HB1.out.pr).mono ?_
 rintro e w2 ⟨rfl, hE2⟩
 have hB2 := HB1.out.mod hE2
 have HB2 := Lib.hid hB2
 clear hE2 m0
 rw [chkP_no hp]
 clear hp hB2
 go_wp2_with fail
 refine (kv_throw 6 (by decide) _).mono ?_
 rintro e w3 ⟨rfl, rfl⟩
 refine do_caught HB2.out hlen 6 AVal.zero _ rfl rfl

set_option maxRecDepth 100000 in
set_option maxHeartbeats 1000000 in
theorem kD_no (w : World) (T : Nat → Prop) (hT : ∀ g, T g → g < w.heap.size) (A : Option Addr) (n cc : Nat) (l : List APair) (c : ACmd) (h : Prs w T (.slice A n cc) l) (hlen : l.length ≤ 1000000) (hc : cmdE c = 0) (hp : pairsB l = true) (hcv : c.val.ok) (L : List APair) (r : AReply) (hr : doP l c = (L, r)) (h0 : r.code ≠ 0) :
  Calls Tryz.prog 33 #[.slice A n cc, .agg #[.int .i64 c.kind, .string c.key, .int .i64 c.old.kind, .float .f64 c.old.num, .string c.old.text, .int .i64 c.val.kind, .float .f64 c.val.num, .string c.val.text]] w (DoOut w l r) := by
 go_enter_defers Tryz.func33, Tryz.ntmps33
 go_wp2_with fail
 obtain ⟨W0, hW0⟩ : ∃ W0, W0 = (((w.alloc (.cells #[.slice A n cc] 30)).alloc (.cells #[.int .i64 c.kind, .string c.key, .int .i64 c.old.kind, .float .f64 c.old.num, .string c.old.text, .int .i64 c.val.kind, .float .f64 c.val.num, .string c.val.text] 42)).alloc (.cells #[.slice none 0 0] 30)).alloc (.cells #[.int .i64 0, .int .i64 0, .float .f64 0, .string ⟨#[]⟩] 46) := ⟨_, rfl⟩
 obtain ⟨h0, h1, h2, h3⟩ := four_new w (.cells #[.slice A n cc] 30) (.cells #[.int .i64 c.kind, .string c.key, .int .i64 c.old.kind, .float .f64 c.old.num, .string c.old.text, .int .i64 c.val.kind, .float .f64 c.val.num, .string c.val.text] 42) (.cells #[.slice none 0 0] 30) (.cells #[.int .i64 0, .int .i64 0, .float .f64 0, .string ⟨#[]⟩] 46)
 have hE : Ext w W0 := by rw [hW0]; exact ((((Mod.refl _ w).alloc _).alloc _).alloc _).alloc _
 obtain ⟨b, hb⟩ : ∃ b, b = w.heap.size := ⟨_, rfl⟩
 rw [← hW0, ← hb] at h0 h1 h2 h3 ⊢
 have hB : DoB w T (.slice A n cc) l c b W0 := ⟨h0, h1, h2, h3, h.ext hE, hE, Nat.le_of_eq hb.symm⟩
 have HB0 := Lib.hid hB
 clear hW0 hb h0 h1 h2 h3 hE
 refine (kv_right c _).mono ?_
 rintro e w1 ⟨rfl, hE1⟩
 have hB1 := hB.mod hE1
 have HB1 := Lib.hid hB1
 rw [hc]
 clear hE1 hB
 have Hc := Lib.hid hc
 clear hc
 go_wp2_with fail
 refine (kv_throw_no _).mono ?_
 rintro e w2 ⟨rfl, rfl⟩
 have m0 : w1.cell? ⟨b, 0, none⟩ = some _ := blk_cell hB1.b0 rfl
 clear hB1
 go_wp2_with fail
 refine (kv_check _ T _ l HB1.out.pr).mono ?_
 rintro e w2 ⟨rfl, hE2⟩
 have hB2 := HB1.out.mod hE2
 have HB2 := Lib.hid hB2
 clear hE2 m0
 rw [chkP_yes hp]
 have Hp := Lib.hid hp
 have Hr := Lib.hid hr
 clear hp hr
 go_wp2_with fail
 refine (kv_throw_no _).mono ?_
 rintro e w3 ⟨rfl, rfl⟩
 have m0 : w2.cell? ⟨b, 0, none⟩ = some _ := blk_cell hB2.b0 rfl
 obtain ⟨k0, k1, k2, k3, k4, k5, k6, k7⟩ := cq8 hB2.b1
 have hlt := hB2.lt
 have hb0 : b < w2.heap.size := by omega
 have hb1 : b + 1 < w2.heap.size := by omega
 clear hB2
 have h2 : Prs w2.drew T (.slice A n cc) l := HB2.out.pr
 go_wp2_with fail
 refine wp_region_held_drew (S := SB b (.slice A n cc) c) (by kernel_rfl) (SB.mod (S := fun _ => False) (SB.of HB2.out) (Mod.refl _ w2).drew id id) (fun hS => ?_)
 refine takeH (i := 0) (v := ?_) (some 13) rfl rfl (by kernel_rfl) (by kernel_rfl) (by kernel_rfl) (fun c a w h => put_panic (d := 13) (by decide) (by decide) c a w h) (Or.inl ⟨by kernel_rfl, ?_⟩) hS ?_
 rotate_left
 ·
  rintro W' ⟨s0, s1, s2, s3, s4, s5, s6, s7, s8⟩
  go_simp
  try with_reducible rfl
 try simp only [pL]
 refine takeH (i := 2) (v := ?_) (some 15) rfl rfl (by kernel_rfl) (by kernel_rfl) (by kernel_rfl) (fun c a w h => put_panic (d := 15) (by decide) (by decide) c a w h) (Or.inl ⟨by kernel_rfl, ?_⟩) hS ?_
 rotate_left
 ·
  rintro W' ⟨s0, s1, s2, s3, s4, s5, s6, s7, s8⟩
  go_simp
  try with_reducible rfl
 try simp only [pL]
 refine wpAnyH_ready (rs := [1]) (by kernel_rfl) (by simp) ?_
 refine AllReadyH.cons rfl (fun K hK => ?_) AllReadyH.nil
 go_simp
 go_wp2_with fail
 refine (sl_clone _ T _ l h2 hlen).mono ?_
 rintro e w5 ⟨v5, rfl, hN5, hE5⟩
 obtain ⟨A5, c5, rfl⟩ := own_form hN5.1
 have hX : SB b (.slice A n cc) c w5 := SB.mod hS hE5 id id
 have HB5 := Lib.hid (HB2.out.mod ((Mod.refl _ w2).drew.ext hE5))
 have HN5 := Lib.hid hN5
 clear hE5 hN5
 go_simp
 refine hK.out _ _ hX (fun hS => ?_)
 clear hK K hX
 refine wpAnyH_ready (rs := [3]) (by kernel_rfl) (by simp) ?_
 refine AllReadyH.cons rfl (fun K hK => ?_) AllReadyH.nil
 go_simp
 go_wp2_with fail
 refine (kv_do _ _ l c ⟨HN5.out.1, HN5.out.2.1⟩ Hc.out Hp.out hcv).mono ?_
 rintro e w6 ⟨hm6, hD⟩
 rw [Hr.out] at hD
 have HB6 := Lib.hid (HB5.out.drewmod hm6 (fun g hg => by have h1 := HN5.out.2.2 g hg; have h2 := HB2.out.lt; have h3 : w2.heap.size ≤ g := h1; exact ⟨by omega, fun k hk => by have h4 := hT k hk; have h5 := HB2.out.ext.size; omega⟩) (fun g hg => by have h3 : w2.heap.size ≤ g := HN5.out.2.2 g hg; have h5 := HB2.out.ext.size; omega))
 rcases hD with ⟨h, _⟩ | ⟨_, rfl⟩
 ·
  exact absurd h h0
 clear hm6
 refine do_caught HB6.out hlen r.code r.val _ rfl rfl
set_option maxRecDepth 100000 in
set_option maxHeartbeats 1000000 in
theorem kD_yes (w : World) (T : Nat → Prop) (hT : ∀ g, T g → g < w.heap.size) (A : Option Addr) (n cc : Nat) (l : List APair) (c : ACmd) (h : Prs w T (.slice A n cc) l) (hlen : l.length ≤ 1000000) (hc : cmdE c = 0) (hp : pairsB l = true) (hcv : c.val.ok) (L : List APair) (t : AVal) (hr : doP l c = (L, ⟨0, t⟩)) :
  Calls Tryz.prog 33 #[.slice A n cc, .agg #[.int .i64 c.kind, .string c.key, .int .i64 c.old.kind, .float .f64 c.old.num, .string c.old.text, .int .i64 c.val.kind, .float .f64 c.val.num, .string c.val.text]] w (DoOut w L ⟨0, t⟩) := by
 go_enter_defers Tryz.func33, Tryz.ntmps33
 go_wp2_with fail
 obtain ⟨W0, hW0⟩ : ∃ W0, W0 = (((w.alloc (.cells #[.slice A n cc] 30)).alloc (.cells #[.int .i64 c.kind, .string c.key, .int .i64 c.old.kind, .float .f64 c.old.num, .string c.old.text, .int .i64 c.val.kind, .float .f64 c.val.num, .string c.val.text] 42)).alloc (.cells #[.slice none 0 0] 30)).alloc (.cells #[.int .i64 0, .int .i64 0, .float .f64 0, .string ⟨#[]⟩] 46) := ⟨_, rfl⟩
 obtain ⟨h0, h1, h2, h3⟩ := four_new w (.cells #[.slice A n cc] 30) (.cells #[.int .i64 c.kind, .string c.key, .int .i64 c.old.kind, .float .f64 c.old.num, .string c.old.text, .int .i64 c.val.kind, .float .f64 c.val.num, .string c.val.text] 42) (.cells #[.slice none 0 0] 30) (.cells #[.int .i64 0, .int .i64 0, .float .f64 0, .string ⟨#[]⟩] 46)
 have hE : Ext w W0 := by rw [hW0]; exact ((((Mod.refl _ w).alloc _).alloc _).alloc _).alloc _
 obtain ⟨b, hb⟩ : ∃ b, b = w.heap.size := ⟨_, rfl⟩
 rw [← hW0, ← hb] at h0 h1 h2 h3 ⊢
 have hB : DoB w T (.slice A n cc) l c b W0 := ⟨h0, h1, h2, h3, h.ext hE, hE, Nat.le_of_eq hb.symm⟩
 have HB0 := Lib.hid hB
 clear hW0 hb h0 h1 h2 h3 hE
 refine (kv_right c _).mono ?_
 rintro e w1 ⟨rfl, hE1⟩
 have hB1 := hB.mod hE1
 have HB1 := Lib.hid hB1
 rw [hc]
 clear hE1 hB
 have Hc := Lib.hid hc
 clear hc
 go_wp2_with fail
 refine (kv_throw_no _).mono ?_
 rintro e w2 ⟨rfl, rfl⟩
 have m0 : w1.cell? ⟨b, 0, none⟩ = some _ := blk_cell hB1.b0 rfl
 clear hB1
 go_wp2_with fail
 refine (kv_check _ T _ l HB1.out.pr).mono ?_
 rintro e w2 ⟨rfl, hE2⟩
 have hB2 := HB1.out.mod hE2
 have HB2 := Lib.hid hB2
 clear hE2 m0
 rw [chkP_yes hp]
 have Hp := Lib.hid hp
 have Hr := Lib.hid hr
 clear hp hr
 go_wp2_with fail
 refine (kv_throw_no _).mono ?_
 rintro e w3 ⟨rfl, rfl⟩
 have m0 : w2.cell? ⟨b, 0, none⟩ = some _ := blk_cell hB2.b0 rfl
 obtain ⟨k0, k1, k2, k3, k4, k5, k6, k7⟩ := cq8 hB2.b1
 have hlt := hB2.lt
 have hb0 : b < w2.heap.size := by omega
 have hb1 : b + 1 < w2.heap.size := by omega
 clear hB2
 have h2 : Prs w2.drew T (.slice A n cc) l := HB2.out.pr
 go_wp2_with fail
 refine wp_region_held_drew (S := SB b (.slice A n cc) c) (by kernel_rfl) (SB.mod (S := fun _ => False) (SB.of HB2.out) (Mod.refl _ w2).drew id id) (fun hS => ?_)
 refine takeH (i := 0) (v := ?_) (some 13) rfl rfl (by kernel_rfl) (by kernel_rfl) (by kernel_rfl) (fun c a w h => put_panic (d := 13) (by decide) (by decide) c a w h) (Or.inl ⟨by kernel_rfl, ?_⟩) hS ?_
 rotate_left
 ·
  rintro W' ⟨s0, s1, s2, s3, s4, s5, s6, s7, s8⟩
  go_simp
  try with_reducible rfl
 try simp only [pL]
 refine takeH (i := 2) (v := ?_) (some 15) rfl rfl (by kernel_rfl) (by kernel_rfl) (by kernel_rfl) (fun c a w h => put_panic (d := 15) (by decide) (by decide) c a w h) (Or.inl ⟨by kernel_rfl, ?_⟩) hS ?_
 rotate_left
 ·
  rintro W' ⟨s0, s1, s2, s3, s4, s5, s6, s7, s8⟩
  go_simp
  try with_reducible rfl
 try simp only [pL]
 refine wpAnyH_ready (rs := [1]) (by kernel_rfl) (by simp) ?_
 refine AllReadyH.cons rfl (fun K hK => ?_) AllReadyH.nil
 go_simp
 go_wp2_with fail
 refine (sl_clone _ T _ l h2 hlen).mono ?_
 rintro e w5 ⟨v5, rfl, hN5, hE5⟩
 obtain ⟨A5, c5, rfl⟩ := own_form hN5.1
 have hX : SB b (.slice A n cc) c w5 := SB.mod hS hE5 id id
 have HB5 := Lib.hid (HB2.out.mod ((Mod.refl _ w2).drew.ext hE5))
 have HN5 := Lib.hid hN5
 clear hE5 hN5
 go_simp
 refine hK.out _ _ hX (fun hS => ?_)
 clear hK K hX
 refine wpAnyH_ready (rs := [3]) (by kernel_rfl) (by simp) ?_
 refine AllReadyH.cons rfl (fun K hK => ?_) AllReadyH.nil
 go_simp
 go_wp2_with fail
 refine (kv_do _ _ l c ⟨HN5.out.1, HN5.out.2.1⟩ Hc.out Hp.out hcv).mono ?_
 rintro e w6 ⟨hm6, hD⟩
 rw [Hr.out] at hD
 have HB6 := Lib.hid (HB5.out.drewmod hm6 (fun g hg => by have h1 := HN5.out.2.2 g hg; have h2 := HB2.out.lt; have h3 : w2.heap.size ≤ g := h1; exact ⟨by omega, fun k hk => by have h4 := hT k hk; have h5 := HB2.out.ext.size; omega⟩) (fun g hg => by have h3 : w2.heap.size ≤ g := HN5.out.2.2 g hg; have h5 := HB2.out.ext.size; omega))
 rcases hD with ⟨_, v6, rfl, ho6, hg6⟩ | ⟨h, _⟩
 case inr => exact absurd rfl h
 obtain ⟨A6, c6, rfl⟩ := own_form ho6.1
 obtain ⟨m6, hm6'⟩ : ∃ m6, L.length = m6 := ⟨_, rfl⟩
 have HM6 := Lib.hid hm6'
 simp only at ho6 hg6 ⊢
 rw [hm6'] at ho6 hg6 ⊢
 have HO6 := Lib.hid ho6
 have HG6 : Hid (∀ g, (Value.slice A6 m6 c6).ownBlock = some g → b + 1 + 1 + 1 < g ∧ w.heap.size ≤ g) := Lib.hid (fun g hg => by
  have h2 := HB2.out.lt
  have h6 := HB2.out.ext.size
  rcases hg6 g hg with h | h
  ·
   have h3 : w2.heap.size ≤ g := HN5.out.2.2 g h
   exact ⟨by omega, by omega⟩
  ·
   have h5 := HB5.out.lt
   have h7 := HB5.out.ext.size
   exact ⟨by omega, by omega⟩)
 have hX6 : SB b (.slice A n cc) c w6 := SB.of HB6.out
 clear hm6 ho6 hg6 hm6'
 go_simp
 refine hK.out _ _ hX6 (fun hS => ?_)
 clear hK K
 refine takeH (i := 4) (v := ?_) (some 17) rfl rfl (by kernel_rfl) (by kernel_rfl) (by kernel_rfl) (fun c a w h => put_panic (d := 17) (by decide) (by decide) c a w h) (Or.inl ⟨by kernel_rfl, ?_⟩) hS ?_
 rotate_left
 ·
  rintro W' _
  go_simp
  try with_reducible rfl
 try simp only [pL]
 refine takeH (i := 5) (v := ?_) (some 18) rfl rfl (by kernel_rfl) (by kernel_rfl) (by kernel_rfl) (fun c a w h => put_panic (d := 18) (by decide) (by decide) c a w h) (Or.inl ⟨by kernel_rfl, ?_⟩) hS ?_
 rotate_left
 ·
  rintro W' _
  go_simp
  try with_reducible rfl
 try simp only [pL]
 have j0 := blk_cell (cs := [.slice none 0 0]) (j := 0) HB6.out.b2 rfl
 have j1 := blk_free 0 HB6.out.b2
 have i0 := blk_cell (cs := [.int .i64 0, .int .i64 0, .float .f64 0, .string ⟨#[]⟩]) (j := 0) HB6.out.b3 rfl
 have i1 := blk_cell (cs := [.int .i64 0, .int .i64 0, .float .f64 0, .string ⟨#[]⟩]) (j := 1) HB6.out.b3 rfl
 have i2 := blk_cell (cs := [.int .i64 0, .int .i64 0, .float .f64 0, .string ⟨#[]⟩]) (j := 2) HB6.out.b3 rfl
 have i3 := blk_cell (cs := [.int .i64 0, .int .i64 0, .float .f64 0, .string ⟨#[]⟩]) (j := 3) HB6.out.b3 rfl
 have f0 := blk_free 0 HB6.out.b3
 have f1 := blk_free 1 HB6.out.b3
 have f2 := blk_free 2 HB6.out.b3
 have f3 := blk_free 3 HB6.out.b3
 have hX7 : SB b (.slice A n cc) c (w6.setCell ⟨b + 1 + 1, 0, none⟩ (.slice A6 m6 c6)) := hX6.mod (mod_same (b := b + 1 + 1) (Mod.refl _ w6) 0 _) (by omega) (by omega)
 refine wpAnyH_ready (rs := [6]) (by kernel_rfl) (by simp) ?_
 refine AllReadyH.cons rfl (fun K hK => ?_) AllReadyH.nil
 go_simp
 refine hK.out _ _ hX7 (fun hS => ?_)
 clear hK K
 have hX8 : SB b (.slice A n cc) c (((((w6.setCell ⟨b + 1 + 1, 0, none⟩ (.slice A6 m6 c6)).setCell ⟨b + 1 + 1 + 1, 0, none⟩ (.int .i64 0)).setCell ⟨b + 1 + 1 + 1, 1, none⟩ (.int .i64 t.kind)).setCell ⟨b + 1 + 1 + 1, 2, none⟩ (.float .f64 t.num)).setCell ⟨b + 1 + 1 + 1, 3, none⟩ (.string t.text)) :=
  hX7.mod (mod_same (b := b + 1 + 1 + 1) (mod_same (mod_same (mod_same (Mod.refl _ _) 0 _) 1 _) 2 _) 3 _) (by omega) (by omega)
 refine wpAnyH_ready (rs := [7]) (by kernel_rfl) (by simp) ?_
 refine AllReadyH.cons rfl (fun K hK => ?_) AllReadyH.nil
 go_simp
 refine hK.out _ _ hX8 (fun hS => ?_)
 clear hK K
 refine wpAnyH_done (by kernel_rfl) ?_ _
 obtain ⟨wf, hwf⟩ : ∃ wf, (((((w6.setCell ⟨b + 1 + 1, 0, none⟩ (.slice A6 m6 c6)).setCell ⟨b + 1 + 1 + 1, 0, none⟩ (.int .i64 0)).setCell ⟨b + 1 + 1 + 1, 1, none⟩ (.int .i64 t.kind)).setCell ⟨b + 1 + 1 + 1, 2, none⟩ (.float .f64 t.num)).setCell ⟨b + 1 + 1 + 1, 3, none⟩ (.string t.text)) = wf := ⟨_, rfl⟩
 have hmf : Mod (fun k => k = b + 1 + 1 ∨ k = b + 1 + 1 + 1) w6 wf := by
  rw [← hwf]
  exact ((((((Mod.refl _ w6).setCell (p := ⟨b + 1 + 1, 0, none⟩) (.inr (.inl rfl)) _).setCell (p := ⟨b + 1 + 1 + 1, 0, none⟩) (.inr (.inr rfl)) _).setCell (p := ⟨b + 1 + 1 + 1, 1, none⟩) (.inr (.inr rfl)) _).setCell (p := ⟨b + 1 + 1 + 1, 2, none⟩) (.inr (.inr rfl)) _).setCell (p := ⟨b + 1 + 1 + 1, 3, none⟩) (.inr (.inr rfl)) _)
 have hf2 : wf.heap[b + 1 + 1]? = some (.cells #[.slice A6 m6 c6] 30 (0, 0)) := by
  rw [← hwf]
  have := HB6.out.b2
  simp [World.setCell, Array.getElem?_modify, this]
 have hf3 : wf.heap[b + 1 + 1 + 1]? = some (.cells #[.int .i64 0, .int .i64 t.kind, .float .f64 t.num, .string t.text] 46 (0, 0)) := by
  rw [← hwf]
  have := HB6.out.b3
  simp [World.setCell, Array.getElem?_modify, this]
 rw [hwf]
 have HMF := Lib.hid hmf
 have HF2 := Lib.hid hf2
 have HF3 := Lib.hid hf3
 clear hwf hmf hf2 hf3 hX6 hX7 hX8 hS j0 j1 i0 i1 i2 i3 f0 f1 f2 f3
 go_wp2_with fail
 refine leaves_cons (f := 56) (args := #[.pointer (some ⟨b, 0, none⟩), .pointer (some ⟨b + 1 + 1, 0, none⟩), .pointer (some ⟨b + 1 + 1 + 1, 0, none⟩)]) (by simp) (by simp [go_sem]) ?_
 refine (kd_idle _ _ _ _).mono ?_
 rintro e u' w' ⟨rfl, rfl, o, rfl⟩
 have hEf : Ext wf (wf.alloc o) := (Mod.refl _ wf).alloc o
 have q0 := blk_cell (cs := [.slice A6 m6 c6]) (j := 0) (hEf.blk HF2.out id) rfl
 have r0 := blk_cell (cs := [.int .i64 0, .int .i64 t.kind, .float .f64 t.num, .string t.text]) (j := 0) (hEf.blk HF3.out id) rfl
 have r1 := blk_cell (cs := [.int .i64 0, .int .i64 t.kind, .float .f64 t.num, .string t.text]) (j := 1) (hEf.blk HF3.out id) rfl
 have r2 := blk_cell (cs := [.int .i64 0, .int .i64 t.kind, .float .f64 t.num, .string t.text]) (j := 2) (hEf.blk HF3.out id) rfl
 have r3 := blk_cell (cs := [.int .i64 0, .int .i64 t.kind, .float .f64 t.num, .string t.text]) (j := 3) (hEf.blk HF3.out id) rfl
 have hF : DoOut w L ⟨0, t⟩ (.returned (.tuple #[.slice A6 m6 c6, .agg #[.int .i64 0, .int .i64 t.kind, .float .f64 t.num, .string t.text]])) (wf.alloc o) := by
  have hO := (HO6.out.mod HMF.out (fun g hg e => by have := (HG6.out g hg).1; omega)).mod hEf (fun _ _ => id)
  refine ⟨_, rfl, ⟨hO.1, hO.2, fun g hg => (HG6.out g hg).2⟩, Mod.toExt (((Ext.mod HB6.out.ext (Since w.heap.size)).trans HMF.out (fun k hk e => by have := HB6.out.le; unfold Since; omega)).ext hEf)⟩
 simp [Leaves, settle, results, Tryz.results33, go_sem, q0, r0, r1, r2, r3]
 exact hF

/-- kv.Do is doP. -/
theorem kv_Do (w : World) (T : Nat → Prop) (v : Value) (l : List APair) (c : ACmd) (h : Prs w T v l) (hlen : l.length ≤ 1000000) (hcv : c.val.ok) :
  Calls Tryz.prog 33 #[v, .agg #[.int .i64 c.kind, .string c.key, .int .i64 c.old.kind, .float .f64 c.old.num, .string c.old.text, .int .i64 c.val.kind, .float .f64 c.val.num, .string c.val.text]] w (DoOut w (doP l c).1 (doP l c).2) := by
 have hP : Prs w (fun g => T g ∧ g < w.heap.size) v l := ⟨h.1.cap (by omega), h.2⟩
 obtain ⟨A, cc, rfl⟩ := hP.form
 by_cases hc : cmdE c = 0
 case neg =>
  rw [do_bad hc (.inl rfl)]
  exact kD_bad w _ A _ cc l c hP hlen _ rfl hc
 rcases hp : pairsB l with _ | _
 ·
  rw [do_bad (n := 6) (by decide) (.inr ⟨hc, hp, rfl⟩)]
  exact kD_bad2 w _ A _ cc l c hP hlen hc hp
 rcases hr : doP l c with ⟨L, r⟩
 by_cases h0 : r.code = 0
 ·
  obtain ⟨rc, rv⟩ := r
  simp only at h0
  subst h0
  exact kD_yes w _ (fun g hg => hg.2) A _ cc l c hP hlen hc hp hcv L rv hr
 ·
  have e := (do_no (l := l) (c := c) (by rw [hr]; exact h0)).1
  rw [hr] at e
  simp only at e
  subst e
  exact kD_no w _ (fun g hg => hg.2) A _ cc L c hP hlen hc hp hcv L r hr h0
end Go.Proofs.YtbclnghbgoblcaaGreat
