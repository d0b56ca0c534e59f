/-
 The contract of hist.telling. Conditions: as each theorem names them.
-/
import Derived.Test.YtbclnghbgoblcaaGreatHisSpec
import Derived.Deep.QuietTactic
import Derived.BigQuiet
import Derived.Deep.DeepCutAuto
import Derived.Deep.CutBlock
namespace Go.Proofs.YtbclnghbgoblcaaGreat
set_option linter.unusedSimpArgs false
open Go.RowKit

theorem tellP_drop {l : List AEvent} {c : ACall} {i : Nat} {x : AEvent} (h : l[i]? = some x) : tellP (l.drop i) c = if tellsB c x then some x.told else tellP (l.drop (i + 1)) c := by
 obtain ⟨hi, rfl⟩ := List.getElem?_eq_some_iff.1 h
 rw [List.drop_eq_getElem_cons hi, tellP]
/-- What telling hands back. -/
def TellOut (w : World) (o : Option ATold) (e : Ending) (w' : World) : Prop :=
 ∃ t, t = o.getD ATold.zero ∧ e = .returned (.tuple #[.agg #[.int .i64 t.call.client, .int .i64 t.call.seq, .int .i64 t.call.cmd.kind, .string t.call.cmd.key, .int .i64 t.call.cmd.old.kind, .float .f64 t.call.cmd.old.num, .string t.call.cmd.old.text, .int .i64 t.call.cmd.val.kind, .float .f64 t.call.cmd.val.num, .string t.call.cmd.val.text, .int .i64 t.reply.code, .int .i64 t.reply.val.kind, .float .f64 t.reply.val.num, .string t.reply.val.text, .int .i64 t.index], .bool o.isSome]) ∧ Ext w w'
set_option maxRecDepth 100000 in
set_option maxHeartbeats 4000000 in
theorem h_telling (w : World) (T : Nat → Prop) (v : Value) (l : List AEvent) (c : ACall) (h : Evs w T v l) :
  Calls Tryz.prog 40 #[v, .agg #[.int .i64 c.client, .int .i64 c.seq, .int .i64 c.cmd.kind, .string c.cmd.key, .int .i64 c.cmd.old.kind, .float .f64 c.cmd.old.num, .string c.cmd.old.text, .int .i64 c.cmd.val.kind, .float .f64 c.cmd.val.num, .string c.cmd.val.text]] w (TellOut w (tellP l c)) := by
 have hl := h.1.le
 unfold maxLen at hl
 obtain ⟨n, hn⟩ : ∃ n, l.length = n := ⟨_, rfl⟩
 obtain ⟨A, c0, rfl⟩ := h.form
 rw [hn] at h hl ⊢
 obtain ⟨q, hq⟩ : ∃ q, w.heap.size = q := ⟨_, rfl⟩
 obtain ⟨W, hW⟩ : ∃ W, W = (w.alloc (.cells #[.int .i64 c.client, .int .i64 c.seq, .int .i64 c.cmd.kind, .string c.cmd.key, .int .i64 c.cmd.old.kind, .float .f64 c.cmd.old.num, .string c.cmd.old.text, .int .i64 c.cmd.val.kind, .float .f64 c.cmd.val.num, .string c.cmd.val.text] 44)).alloc (.cells #[.int .i64 0, .int .i64 0, .int .i64 0, .string ⟨#[]⟩, .int .i64 0, .float .f64 0, .string ⟨#[]⟩, .int .i64 0, .float .f64 0, .string ⟨#[]⟩, .int .i64 0, .int .i64 0, .float .f64 0, .string ⟨#[]⟩, .int .i64 0] 48) := ⟨_, rfl⟩
 have hE : Ext w W := by rw [hW]; exact ((Mod.refl _ w).alloc _).alloc _
 obtain ⟨hA, hB, _⟩ := two_new w (.cells #[.int .i64 c.client, .int .i64 c.seq, .int .i64 c.cmd.kind, .string c.cmd.key, .int .i64 c.cmd.old.kind, .float .f64 c.cmd.old.num, .string c.cmd.old.text, .int .i64 c.cmd.val.kind, .float .f64 c.cmd.val.num, .string c.cmd.val.text] 44) (.cells #[.int .i64 0, .int .i64 0, .int .i64 0, .string ⟨#[]⟩, .int .i64 0, .float .f64 0, .string ⟨#[]⟩, .int .i64 0, .float .f64 0, .string ⟨#[]⟩, .int .i64 0, .int .i64 0, .float .f64 0, .string ⟨#[]⟩, .int .i64 0] 48)
 rw [← hW, hq] at hA hB
 have hW2 := h.ext hE
 have Hn := Lib.hid hn
 have HE := Lib.hid hE
 have HA := Lib.hid hA
 have HB := Lib.hid hB
 have HW := Lib.hid hW
 have Hq := Lib.hid hq
 clear hn hE hA hB hW hq h
 go_enter Tryz.func40, Tryz.ntmps40
 go_wp2
 rw [← HW.out, Hq.out]
 go_loopw [10] (fun iv wr => ∃ i : Nat, i ≤ n ∧ iv = .int .i64 i ∧ Ext W wr ∧ tellP l c = tellP (l.drop i) c) (fun iv _ => n - (intOf iv).toNat)
 case atStart => exact ⟨0, by omega, rfl, Mod.refl _ W, rfl⟩
 case round =>
  obtain ⟨i, hin, rfl, hEr, hp⟩ := hrel
  have h2 := hW2.ext hEr
  have hA2 := hEr.blk HA.out id
  have hB2 := hEr.blk HB.out id
  have Hp := Lib.hid hp
  have HEr := Lib.hid hEr
  clear hp hEr
  by_cases hi : i < n
  case neg =>
   have Hf : Hid (tellP l c = none) := Lib.hid (by rw [Hp.out, List.drop_eq_nil_of_le (by rw [Hn.out]; omega)]; rfl)
   obtain ⟨c0, c1, c2, c3, c4, c5, c6, c7, c8, c9, c10, c11, c12, c13, c14⟩ := cq15 hB2
   have f0 : wr.frozen? ⟨(q + 1), 0, none⟩ = false := blk_free 0 hB2
   have f1 : wr.frozen? ⟨(q + 1), 1, none⟩ = false := blk_free 1 hB2
   have f2 : wr.frozen? ⟨(q + 1), 2, none⟩ = false := blk_free 2 hB2
   have f3 : wr.frozen? ⟨(q + 1), 3, none⟩ = false := blk_free 3 hB2
   have f4 : wr.frozen? ⟨(q + 1), 4, none⟩ = false := blk_free 4 hB2
   have f5 : wr.frozen? ⟨(q + 1), 5, none⟩ = false := blk_free 5 hB2
   have f6 : wr.frozen? ⟨(q + 1), 6, none⟩ = false := blk_free 6 hB2
   have f7 : wr.frozen? ⟨(q + 1), 7, none⟩ = false := blk_free 7 hB2
   have f8 : wr.frozen? ⟨(q + 1), 8, none⟩ = false := blk_free 8 hB2
   have f9 : wr.frozen? ⟨(q + 1), 9, none⟩ = false := blk_free 9 hB2
   have f10 : wr.frozen? ⟨(q + 1), 10, none⟩ = false := blk_free 10 hB2
   have f11 : wr.frozen? ⟨(q + 1), 11, none⟩ = false := blk_free 11 hB2
   have f12 : wr.frozen? ⟨(q + 1), 12, none⟩ = false := blk_free 12 hB2
   have f13 : wr.frozen? ⟨(q + 1), 13, none⟩ = false := blk_free 13 hB2
   have f14 : wr.frozen? ⟨(q + 1), 14, none⟩ = false := blk_free 14 hB2
   have HB2 := Lib.hid hB2
   clear hA2 h2 hB2
   go_wp2
   refine bodyPost_ret (v := .tuple #[.agg #[.int .i64 0, .int .i64 0, .int .i64 0, .string ⟨#[]⟩, .int .i64 0, .float .f64 0, .string ⟨#[]⟩, .int .i64 0, .float .f64 0, .string ⟨#[]⟩, .int .i64 0, .int .i64 0, .float .f64 0, .string ⟨#[]⟩, .int .i64 0], .bool false]) (by simp [results, Tryz.results40, go_sem, c0, c1, c2, c3, c4, c5, c6, c7, c8, c9, c10, c11, c12, c13, c14]) rfl ⟨ATold.zero, by rw [Hf.out]; rfl, by rw [Hf.out]; rfl, ?_⟩
   refine Mod.toExt ((Ext.mod (HE.out.ext HEr.out) (Since w.heap.size)).trans (T := fun k => k = q + 1) ?_ (fun k _ e => by have := Hq.out; unfold Since; omega))
   repeat (with_reducible (first | exact Mod.refl _ _ | refine mod_same ?_ _ _))
  obtain ⟨g, off, x, rfl, hgT, hx, hxok, hcells⟩ := h2.at hi
  have hi0 : (0 : Int) ≤ (i : Int) := by omega
  have hi1 : (i : Int) < (n : Int) := by omega
  have x0 := hcells 0 _ rfl
  have x1 := hcells 1 _ rfl
  have x2 := hcells 2 _ rfl
  have x3 := hcells 3 _ rfl
  have x4 := hcells 4 _ rfl
  have x5 := hcells 5 _ rfl
  have x6 := hcells 6 _ rfl
  have x7 := hcells 7 _ rfl
  have x8 := hcells 8 _ rfl
  have x9 := hcells 9 _ rfl
  have x10 := hcells 10 _ rfl
  have x11 := hcells 11 _ rfl
  have x12 := hcells 12 _ rfl
  have x13 := hcells 13 _ rfl
  have x14 := hcells 14 _ rfl
  have x15 := hcells 15 _ rfl
  rw [Nat.add_zero] at x0
  have hd := tellP_drop (c := c) hx
  have Hd := Lib.hid hd
  have HA3 := Lib.hid hA2
  have HB3 := Lib.hid hB2
  clear hd hA2 hB2 hcells hx h2 hxok hgT
  go_upto_region 4 with fail
  obtain ⟨u, hu⟩ : ∃ u, wr.heap.size = u := ⟨_, rfl⟩
  obtain ⟨Wx, hWx⟩ : ∃ Wx, Wx = wr.alloc (.cells #[.bool x.ask, .int .i64 x.told.call.client, .int .i64 x.told.call.seq, .int .i64 x.told.call.cmd.kind, .string x.told.call.cmd.key, .int .i64 x.told.call.cmd.old.kind, .float .f64 x.told.call.cmd.old.num, .string x.told.call.cmd.old.text, .int .i64 x.told.call.cmd.val.kind, .float .f64 x.told.call.cmd.val.num, .string x.told.call.cmd.val.text, .int .i64 x.told.reply.code, .int .i64 x.told.reply.val.kind, .float .f64 x.told.reply.val.num, .string x.told.reply.val.text, .int .i64 x.told.index] 50) := ⟨_, rfl⟩
  have hEx : Ext wr Wx := by rw [hWx]; exact (Mod.refl _ wr).alloc _
  have hX : Wx.heap[u]? = some (.cells #[.bool x.ask, .int .i64 x.told.call.client, .int .i64 x.told.call.seq, .int .i64 x.told.call.cmd.kind, .string x.told.call.cmd.key, .int .i64 x.told.call.cmd.old.kind, .float .f64 x.told.call.cmd.old.num, .string x.told.call.cmd.old.text, .int .i64 x.told.call.cmd.val.kind, .float .f64 x.told.call.cmd.val.num, .string x.told.call.cmd.val.text, .int .i64 x.told.reply.code, .int .i64 x.told.reply.val.kind, .float .f64 x.told.reply.val.num, .string x.told.reply.val.text, .int .i64 x.told.index] 50 (0, 0)) := by rw [hWx, ← hu]; exact heap_alloc_new wr _
  rw [← hWx, hu]
  have hA4 := hEx.blk HA3.out id
  have hB4 := hEx.blk HB3.out id
  have HEx : Hid (Ext W Wx) := Lib.hid (HEr.out.ext hEx)
  obtain ⟨y0, y1, y2, y3, y4, y5, y6, y7, y8, y9, y10, y11, y12, y13, y14, y15⟩ := cq16 hX
  have b0 : Wx.cell? ⟨q, 0, none⟩ = some _ := blk_cell hA4 rfl
  have b1 : Wx.cell? ⟨q, 1, none⟩ = some _ := blk_cell hA4 rfl
  have HB4 := Lib.hid hB4
  clear hu hWx hEx hX hA4 x0 x1 x2 x3 x4 x5 x6 x7 x8 x9 x10 x11 x12 x13 x14 x15 hB4
  rcases hk : x.ask with _ | _
  ·
   rcases hk2 : (x.told.call.client == c.client) with _ | _
   ·
    have Hc : Hid (tellsB c x = false) := Lib.hid (by unfold tellsB; rw [hk2]; simp)
    go_wp2
    exact ⟨⟨i + 1, by omega, by go_num, HEx.out, by rw [Hp.out, Hd.out, Hc.out]; simp⟩, by simp [intOf]; omega⟩
   ·
    rcases hk3 : (x.told.call.seq == c.seq) with _ | _
    ·
     have Hc : Hid (tellsB c x = false) := Lib.hid (by unfold tellsB; rw [hk3]; simp)
     go_wp2
     exact ⟨⟨i + 1, by omega, by go_num, HEx.out, by rw [Hp.out, Hd.out, Hc.out]; simp⟩, by simp [intOf]; omega⟩
    ·
     have Hc : Hid (tellP l c = some x.told) := Lib.hid (by rw [Hp.out, Hd.out]; unfold tellsB; rw [hk, hk2, hk3]; rfl)
     obtain ⟨c0, c1, c2, c3, c4, c5, c6, c7, c8, c9, c10, c11, c12, c13, c14⟩ := cq15 HB4.out
     have f0 : Wx.frozen? ⟨(q + 1), 0, none⟩ = false := blk_free 0 HB4.out
     have f1 : Wx.frozen? ⟨(q + 1), 1, none⟩ = false := blk_free 1 HB4.out
     have f2 : Wx.frozen? ⟨(q + 1), 2, none⟩ = false := blk_free 2 HB4.out
     have f3 : Wx.frozen? ⟨(q + 1), 3, none⟩ = false := blk_free 3 HB4.out
     have f4 : Wx.frozen? ⟨(q + 1), 4, none⟩ = false := blk_free 4 HB4.out
     have f5 : Wx.frozen? ⟨(q + 1), 5, none⟩ = false := blk_free 5 HB4.out
     have f6 : Wx.frozen? ⟨(q + 1), 6, none⟩ = false := blk_free 6 HB4.out
     have f7 : Wx.frozen? ⟨(q + 1), 7, none⟩ = false := blk_free 7 HB4.out
     have f8 : Wx.frozen? ⟨(q + 1), 8, none⟩ = false := blk_free 8 HB4.out
     have f9 : Wx.frozen? ⟨(q + 1), 9, none⟩ = false := blk_free 9 HB4.out
     have f10 : Wx.frozen? ⟨(q + 1), 10, none⟩ = false := blk_free 10 HB4.out
     have f11 : Wx.frozen? ⟨(q + 1), 11, none⟩ = false := blk_free 11 HB4.out
     have f12 : Wx.frozen? ⟨(q + 1), 12, none⟩ = false := blk_free 12 HB4.out
     have f13 : Wx.frozen? ⟨(q + 1), 13, none⟩ = false := blk_free 13 HB4.out
     have f14 : Wx.frozen? ⟨(q + 1), 14, none⟩ = false := blk_free 14 HB4.out
     go_wp2
     refine bodyPost_ret (v := .tuple #[.agg #[.int .i64 x.told.call.client, .int .i64 x.told.call.seq, .int .i64 x.told.call.cmd.kind, .string x.told.call.cmd.key, .int .i64 x.told.call.cmd.old.kind, .float .f64 x.told.call.cmd.old.num, .string x.told.call.cmd.old.text, .int .i64 x.told.call.cmd.val.kind, .float .f64 x.told.call.cmd.val.num, .string x.told.call.cmd.val.text, .int .i64 x.told.reply.code, .int .i64 x.told.reply.val.kind, .float .f64 x.told.reply.val.num, .string x.told.reply.val.text, .int .i64 x.told.index], .bool true]) (by simp [results, Tryz.results40, go_sem, c0, c1, c2, c3, c4, c5, c6, c7, c8, c9, c10, c11, c12, c13, c14]) rfl ⟨x.told, by rw [Hc.out]; rfl, by rw [Hc.out]; rfl, ?_⟩
     refine Mod.toExt ((Ext.mod (HE.out.ext HEx.out) (Since w.heap.size)).trans (T := fun k => k = q + 1) ?_ (fun k _ e => by have := Hq.out; unfold Since; omega))
     repeat (with_reducible (first | exact Mod.refl _ _ | refine mod_same ?_ _ _))
  ·
   have Hc : Hid (tellsB c x = false) := Lib.hid (by unfold tellsB; rw [hk]; rfl)
   go_wp2
   exact ⟨⟨i + 1, by omega, by go_num, HEx.out, by rw [Hp.out, Hd.out, Hc.out]; simp⟩, by simp [intOf]; omega⟩
end Go.Proofs.YtbclnghbgoblcaaGreat
