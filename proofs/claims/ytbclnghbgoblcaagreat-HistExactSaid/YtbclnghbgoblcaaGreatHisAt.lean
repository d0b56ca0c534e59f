/-
 The contract of hist.At. Conditions: as each theorem names them.
-/
import Derived.Test.YtbclnghbgoblcaaGreatHisSpec
import Derived.Deep.QuietTactic
import Derived.BigQuiet
import Derived.Deep.DeepCutAuto
import Derived.Deep.CutBlock
namespace Go.Proofs.YtbclnghbgoblcaaGreat
set_option linter.unusedSimpArgs false
open Go.RowKit

def MOut (w : World) (m : AMach) (e : Ending) (w' : World) : Prop := ∃ pv v, e = .returned (.agg #[pv, v]) ∧ NewM w w' pv v m ∧ Ext w w'
theorem play_step {l : List AEntry} {i : Nat} {x : AEntry} (h : l[i]? = some x) : (l.take (i + 1)).foldl playE mach0 = playE ((l.take i).foldl playE mach0) x := by
 obtain ⟨hi, rfl⟩ := List.getElem?_eq_some_iff.1 h
 rw [List.take_succ_eq_append_getElem hi, List.foldl_append]
 rfl
theorem play_right (l : List AEntry) (i : Nat) : machB ((l.take i).foldl playE mach0) = true := by
 have := atP_right l (i : Int)
 unfold atP at this
 rw [Int.toNat_natCast] at this
 exact this
theorem atP_take (l : List AEntry) (n : Int) : atP l n = (l.take (min n.toNat l.length)).foldl playE mach0 := by
 unfold atP
 rcases Nat.le_total n.toNat l.length with h | h
 ·
  rw [Nat.min_eq_left h]
 ·
  rw [Nat.min_eq_right h, List.take_of_length_le h, List.take_of_length_le (Nat.le_refl _)]
set_option maxRecDepth 100000 in
set_option maxHeartbeats 4000000 in
theorem h_at (w : World) (T : Nat → Prop) (v : Value) (l : List AEntry) (n : Int) (h : Ents w T v l) (hn64 : I64 n) :
  Calls Tryz.prog 9 #[v, .int .i64 n] w (MOut w (atP l n)) := by
 replace h : Ents w (fun g => T g ∧ g < w.heap.size) v l := ⟨h.1.cap (by omega), h.2⟩
 have hl := h.1.le
 unfold maxLen at hl
 obtain ⟨N, hn⟩ : ∃ N, l.length = N := ⟨_, rfl⟩
 obtain ⟨A, c0, rfl⟩ := h.form
 rw [hn] at h hl ⊢
 have hNc : N ≤ c0 := by obtain ⟨⟨_, A', c', e, h1, _⟩, _⟩ := h; injection e with _ _ e3; omega
 obtain ⟨k, hk⟩ : ∃ k, min n.toNat N = k := ⟨_, rfl⟩
 have Hk : Hid (atP l n = (l.take k).foldl playE mach0) := Lib.hid (by rw [atP_take, hn, hk])
 obtain ⟨q, hq⟩ : ∃ q, w.heap.size = q := ⟨_, rfl⟩
 obtain ⟨W, hW⟩ : ∃ W, W = (w.alloc (.cells #[.slice none 0 0, .slice none 0 0] 33)).alloc (.cells #[.slice none 0 0, .slice none 0 0] 33) := ⟨_, rfl⟩
 have hE : Ext w W := by rw [hW]; exact ((Mod.refl _ w).alloc _).alloc _
 obtain ⟨hA, hB, _⟩ := two_new w (.cells #[.slice none 0 0, .slice none 0 0] 33) (.cells #[.slice none 0 0, .slice none 0 0] 33)
 rw [← hW, hq] at hA hB
 have hW2 := h.ext hE
 have hkN : k ≤ N := by omega
 have hkc : (k : Int) ≤ (c0 : Int) := by omega
 have hk0 : (0 : Int) ≤ (k : Int) := by omega
 have hm : max (min n (N : Int)) 0 = (k : Int) := by omega
 have Hn := Lib.hid hn
 have HE := Lib.hid hE
 have HA := Lib.hid hA
 have HB := Lib.hid hB
 have HW := Lib.hid hW
 have Hq := Lib.hid hq
 have HW2 := Lib.hid hW2
 clear hn hE hA hB hW hq h hk hW2
 go_enter Tryz.func9, Tryz.ntmps9
 go_upto_region 2 with fail
 rw [← HW.out, Hq.out]
 go_cut [14, 15, 16] (fun s14 s15 s16 wx => s14 = .slice A k c0 ∧ s15 = .int .i64 k ∧ s16 = .int .i64 0 ∧ wx = W)
 case first =>
  rcases Int.lt_or_le n 0 with h0 | h0
  ·
   have d1 : n ≤ (N : Int) := by omega
   obtain rfl : k = 0 := by omega
   clear hm hkc hk0
   go_wp2
   go_meet
   exact ⟨rfl, rfl, rfl, rfl⟩
  obtain ⟨m, rfl⟩ := Int.eq_ofNat_of_zero_le h0
  rcases Nat.lt_or_ge N m with h1 | h1
  ·
   obtain rfl : k = N := by omega
   have d1 : (k : Int) < (m : Int) := by omega
   clear hm
   go_wp2
   go_meet
   exact ⟨rfl, rfl, rfl, rfl⟩
  ·
   obtain rfl : k = m := by omega
   have d1 : (k : Int) ≤ (N : Int) := by omega
   clear hm
   go_wp2
   go_meet
   exact ⟨rfl, rfl, rfl, rfl⟩
 case rest =>
  obtain ⟨rfl, rfl, rfl, rfl⟩ := hcut
  have h0 : NewM w wc (.slice none 0 0) (.slice none 0 0) mach0 := ⟨⟨World.ownsRow_nil _ _ _ _, by simp [mach0], by simp [Value.ownBlock]⟩, ⟨World.ownsRow_nil _ _ _ _, by simp [mach0], by simp [Value.ownBlock]⟩, by simp [Value.ownBlock]⟩
  have H0 := Lib.hid h0
  clear h0 hm
  go_wp2_with fail
  go_loopw [16] (fun iv wr => ∃ (i : Nat) (A1 B1 : Option Addr) (c1 d1 : Nat) (m : AMach), i ≤ k ∧ iv = .int .i64 i ∧ m = (l.take i).foldl playE mach0 ∧ NewM w wr (.slice A1 m.pairs.length c1) (.slice B1 m.sess.length d1) m ∧ wr.heap[q]? = some (.cells #[.slice none 0 0, .slice none 0 0] 33 (0, 0)) ∧ wr.heap[q + 1]? = some (.cells #[.slice A1 m.pairs.length c1, .slice B1 m.sess.length d1] 33 (0, 0)) ∧ Ext w wr ∧ Mod (fun k => q + 1 ≤ k) wc wr) (fun iv _ => k - (intOf iv).toNat)
  case atStart => exact ⟨0, none, none, 0, 0, mach0, by omega, rfl, by simp, H0.out, HA.out, HB.out, HE.out, Mod.refl _ _⟩
  case round =>
   obtain ⟨i, A1, B1, c1, d1, m, hik, rfl, hm, hN, hA, hB, hX, hM⟩ := hrel
   have Hm := Lib.hid hm
   have HN := Lib.hid hN
   have HX := Lib.hid hX
   have HM := Lib.hid hM
   have hgq : ∀ g, T g → True := fun _ _ => trivial
   clear hm hN hX hM hgq
   by_cases hi : i < k
   case neg =>
    obtain rfl : i = k := by omega
    have HA2 := Lib.hid hA
    have HB2 := Lib.hid hB
    have e0 : wr.cell? ⟨q, 0, none⟩ = some _ := blk_cell hA rfl
    have e1 : wr.cell? ⟨q, 1, none⟩ = some _ := blk_cell hA rfl
    have f0 : wr.frozen? ⟨q, 0, none⟩ = false := blk_free 0 hA
    have f1 : wr.frozen? ⟨q, 1, none⟩ = false := blk_free 1 hA
    have m0 : wr.cell? ⟨q + 1, 0, none⟩ = some _ := blk_cell hB rfl
    have m1 : wr.cell? ⟨q + 1, 1, none⟩ = some _ := blk_cell hB rfl
    clear hA hB
    go_wp2
    have hMs : Mod (fun k => k = q) wr ((wr.setCell ⟨q, 0, none⟩ (.slice A1 m.pairs.length c1)).setCell ⟨q, 1, none⟩ (.slice B1 m.sess.length d1)) := mod_same (mod_same (Mod.refl _ _) _ _) _ _
    refine bodyPost_ret (v := .agg #[.slice A1 m.pairs.length c1, .slice B1 m.sess.length d1]) (by simp [results, Tryz.results9, go_sem, e0, e1]) rfl ⟨_, _, rfl, ?_, ?_⟩
    ·
     rw [Hk.out, ← Hm.out]
     exact newM_box HN.out HA2.out hMs (by decide) (by decide)
    ·
     exact Mod.toExt ((Ext.mod HX.out (Since w.heap.size)).trans hMs (fun k _ e => by have := Hq.out; unfold Since; omega))
   have hW3 := HW2.out.mod HM.out (fun g hg e => by have := hg.2; have := Hq.out; omega)
   obtain ⟨g, off, x, rfl, hgT, hx, hxok, hcells⟩ := hW3.at (i := i) (by omega)
   have hi0 : (0 : Int) ≤ (i : Int) := by omega
   have hi1 : (i : Int) < (k : Int) := by omega
   have x0 := hcells 0 _ rfl
   have x1 := hcells 1 _ rfl
   have x2 := hcells 2 _ rfl
   have x3 := hcells 3 _ rfl
   have x4 := hcells 4 _ rfl
   have x5 := hcells 5 _ rfl
   have x6 := hcells 6 _ rfl
   have x7 := hcells 7 _ rfl
   have x8 := hcells 8 _ rfl
   have x9 := hcells 9 _ rfl
   have x10 := hcells 10 _ rfl
   have x11 := hcells 11 _ rfl
   have x12 := hcells 12 _ rfl
   have x13 := hcells 13 _ rfl
   have x14 := hcells 14 _ rfl
   have x15 := hcells 15 _ rfl
   rw [Nat.add_zero] at x0
   have hps := play_step hx
   rw [← Hm.out] at hps
   have hr : machB m = true := by rw [Hm.out]; exact play_right l i
   have Hps := Lib.hid hps
   have Hr := Lib.hid hr
   have Hxok := Lib.hid hxok
   have HA3 := Lib.hid hA
   have HB3 := Lib.hid hB
   clear hps hr hcells hx hxok hgT hA hB hW3
   go_upto_region 5 with fail
   obtain ⟨u, hu⟩ : ∃ u, wr.heap.size = u := ⟨_, rfl⟩
   obtain ⟨Wx, hWx⟩ : ∃ Wx, Wx = wr.alloc (.cells #[.int .i64 x.term, .int .i64 x.kind, .int .i64 x.call.client, .int .i64 x.call.seq, .int .i64 x.call.cmd.kind, .string x.call.cmd.key, .int .i64 x.call.cmd.old.kind, .float .f64 x.call.cmd.old.num, .string x.call.cmd.old.text, .int .i64 x.call.cmd.val.kind, .float .f64 x.call.cmd.val.num, .string x.call.cmd.val.text, .int .i64 x.conf.full, .int .i64 x.conf.wit, .int .i64 x.conf.learn, .int .i64 x.conf.learnWit] 67) := ⟨_, rfl⟩
   have hEx : Ext wr Wx := by rw [hWx]; exact (Mod.refl _ wr).alloc _
   have hX : Wx.heap[u]? = some (.cells #[.int .i64 x.term, .int .i64 x.kind, .int .i64 x.call.client, .int .i64 x.call.seq, .int .i64 x.call.cmd.kind, .string x.call.cmd.key, .int .i64 x.call.cmd.old.kind, .float .f64 x.call.cmd.old.num, .string x.call.cmd.old.text, .int .i64 x.call.cmd.val.kind, .float .f64 x.call.cmd.val.num, .string x.call.cmd.val.text, .int .i64 x.conf.full, .int .i64 x.conf.wit, .int .i64 x.conf.learn, .int .i64 x.conf.learnWit] 67 (0, 0)) := by rw [hWx, ← hu]; exact heap_alloc_new wr _
   rw [← hWx, hu]
   have hA4 := hEx.blk HA3.out id
   have hB4 := hEx.blk HB3.out id
   have HEx : Hid (Ext w Wx) := Lib.hid (HX.out.ext hEx)
   have hqr : q + 1 < wr.heap.size := (Array.getElem?_eq_some_iff.1 HB3.out).1
   have HMx : Hid (Mod (fun k => q + 1 ≤ k) wc Wx) := Lib.hid (HM.out.ext hEx)
   have HNx := Lib.hid (newM_mod HN.out hEx (fun _ _ => id) (fun _ _ => id))
   obtain ⟨-, y1, y2, y3, y4, y5, y6, y7, y8, y9, y10, y11⟩ := cq12 hX
   have m0 : Wx.cell? ⟨q + 1, 0, none⟩ = some _ := blk_cell hB4 rfl
   have m1 : Wx.cell? ⟨q + 1, 1, none⟩ = some _ := blk_cell hB4 rfl
   have HA4 := Lib.hid hA4
   have HB4 := Lib.hid hB4
   clear hu hWx hEx hX hA4 x0 x1 x2 x3 x4 x5 x6 x7 x8 x9 x10 x11 x12 x13 x14 x15 hB4 HN HX HM HA3 HB3
   rcases hk1 : (x.kind == 1) with _ | _
   ·
    have Hp : Hid (playE m x = m) := Lib.hid (by unfold playE; rw [if_neg (by simpa using hk1)])
    go_wp2
    exact ⟨⟨i + 1, A1, B1, c1, d1, m, by omega, by go_num, by rw [Hps.out, Hp.out], HNx.out, HA4.out, HB4.out, HEx.out, HMx.out⟩, by simp [intOf]; omega⟩
   rcases hdo : onceP m x.call with ⟨M, R⟩
   have Hp : Hid (playE m x = M) := Lib.hid (by unfold playE; rw [if_pos (by simpa using hk1), hdo])
   go_wp2_with fail
   refine (s_do_at Wx _ _ _ _ m x.call HNx.out.prs HNx.out.ses (mach_small Hr.out) Hxok.out.2.2.1.2.2.2.2.2 hdo).mono ?_
   rintro e w5 ⟨p5, v5, rfl, hN5, hE5⟩
   obtain ⟨A5, c5, rfl⟩ := own_form hN5.1.1
   obtain ⟨B5, d5, rfl⟩ := own_form hN5.2.1.1
   have hB5 := hE5.blk HB4.out id
   have hA5 := hE5.blk HA4.out id
   have hX5 := HEx.out.ext hE5
   have hM5 := HMx.out.ext hE5
   have hN5 := newM_up hN5 HEx.out.size
   have n0 : w5.cell? ⟨q + 1, 0, none⟩ = some _ := blk_cell hB5 rfl
   have n1 : w5.cell? ⟨q + 1, 1, none⟩ = some _ := blk_cell hB5 rfl
   have f0 : w5.frozen? ⟨q + 1, 0, none⟩ = false := blk_free 0 hB5
   have f1 : w5.frozen? ⟨q + 1, 1, none⟩ = false := blk_free 1 hB5
   have hMs : Mod (fun k => k = q + 1) w5 ((w5.setCell ⟨q + 1, 0, none⟩ (.slice A5 M.pairs.length c5)).setCell ⟨q + 1, 1, none⟩ (.slice B5 M.sess.length d5)) := mod_same (mod_same (Mod.refl _ _) _ _) _ _
   have hB6 : ((w5.setCell ⟨q + 1, 0, none⟩ (.slice A5 M.pairs.length c5)).setCell ⟨q + 1, 1, none⟩ (.slice B5 M.sess.length d5)).heap[q + 1]? = some (.cells #[.slice A5 M.pairs.length c5, .slice B5 M.sess.length d5] 33 (0, 0)) := by simp [World.setCell, Array.getElem?_modify, hB5]
   have HB6 := Lib.hid hB6
   have HA6 := Lib.hid (hMs.blk hA5 (by omega))
   have HN6 := Lib.hid (newM_box hN5 hB5 hMs (by decide) (by decide))
   have HX6 : Hid (Ext w _) := Lib.hid (Mod.toExt ((Ext.mod hX5 (Since w.heap.size)).trans hMs (fun k _ e => by have := Hq.out; unfold Since; omega)))
   have HM6 := Lib.hid (hM5.trans hMs (fun k _ e => by omega))
   clear hB5 hA5 hX5 hM5 hN5 hMs hB6 hE5 m0 m1 y1 y2 y3 y4 y5 y6 y7 y8 y9 y10 y11
   go_wp2
   exact ⟨⟨i + 1, A5, B5, c5, d5, M, by omega, by go_num, by rw [Hps.out, Hp.out], HN6.out, HA6.out, HB6.out, HX6.out, HM6.out⟩, by simp [intOf]; omega⟩
end Go.Proofs.YtbclnghbgoblcaaGreat
