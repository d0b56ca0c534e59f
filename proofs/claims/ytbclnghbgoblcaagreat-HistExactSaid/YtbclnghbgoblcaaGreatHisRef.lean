/-
 The contracts of the page's Place, point, At, Told (layer 25). Conditions: as each theorem names them.
-/
import Derived.Test.YtbclnghbgoblcaaGreatHisTold
import Derived.Test.YtbclnghbgoblcaaGreatSesLibO
import Derived.Test.YtbclnghbgoblcaaGreatHisCopy
namespace Go.Proofs.YtbclnghbgoblcaaGreat
set_option linter.unusedSimpArgs false
set_option linter.unusedVariables false
open Go.RowKit
attribute [local go_sem] run_field0

set_option maxRecDepth 100000 in
set_option maxHeartbeats 4000000 in
theorem k_cmdH (a b : ACmd) (w : World) : Calls Tryz.prog 37 #[.agg #[.int .i64 a.kind, .string a.key, .int .i64 a.old.kind, .float .f64 a.old.num, .string a.old.text, .int .i64 a.val.kind, .float .f64 a.val.num, .string a.val.text], .agg #[.int .i64 b.kind, .string b.key, .int .i64 b.old.kind, .float .f64 b.old.num, .string b.old.text, .int .i64 b.val.kind, .float .f64 b.val.num, .string b.val.text]] w fun e w' => e = .returned (.bool (eqCmd a b)) ∧ Ext w w' := by
 have hE : Ext w ((w.alloc (.cells #[.int .i64 a.kind, .string a.key, .int .i64 a.old.kind, .float .f64 a.old.num, .string a.old.text, .int .i64 a.val.kind, .float .f64 a.val.num, .string a.val.text] 42)).alloc (.cells #[.int .i64 b.kind, .string b.key, .int .i64 b.old.kind, .float .f64 b.old.num, .string b.old.text, .int .i64 b.val.kind, .float .f64 b.val.num, .string b.val.text] 42)) := ((Mod.refl _ w).alloc _).alloc _
 have hT : (a.key.toList == b.key.toList) = eqT a.key b.key := rfl
 rcases h0 : (a.kind == b.kind) with _ | _
 ·
  go_enter Tryz.func37, Tryz.ntmps37
  go_wp2
  go_ret
  exact ⟨ret_bool (by simp [eqCmd, h0]), hE⟩
 rcases h1 : eqT a.key b.key with _ | _
 ·
  go_enter Tryz.func37, Tryz.ntmps37
  go_wp2
  go_ret
  exact ⟨ret_bool (by simp [eqCmd, h1]), hE⟩
 go_enter Tryz.func37, Tryz.ntmps37
 go_wp2_with fail
 refine (k_value a.old b.old _).mono ?_
 rintro e w0 ⟨rfl, hE0⟩
 have hF0 : Ext w w0 := Mod.ext hE hE0
 have HF0 := Lib.hid hF0
 have ca5 := hE0.cell (p := ⟨w.heap.size, 5, none⟩) (v := .int .i64 a.val.kind) (by simp) id
 have ca6 := hE0.cell (p := ⟨w.heap.size, 6, none⟩) (v := .float .f64 a.val.num) (by simp) id
 have ca7 := hE0.cell (p := ⟨w.heap.size, 7, none⟩) (v := .string a.val.text) (by simp) id
 have cb5 := hE0.cell (p := ⟨w.heap.size + 1, 5, none⟩) (v := .int .i64 b.val.kind) (by simp) id
 have cb6 := hE0.cell (p := ⟨w.heap.size + 1, 6, none⟩) (v := .float .f64 b.val.num) (by simp) id
 have cb7 := hE0.cell (p := ⟨w.heap.size + 1, 7, none⟩) (v := .string b.val.text) (by simp) id
 clear hF0 hE0
 rcases g0 : eqVal a.old b.old with _ | _
 ·
  go_wp2
  go_ret
  exact ⟨ret_bool (by simp [eqCmd, g0]), HF0.out⟩
 go_wp2_with fail
 refine (k_value a.val b.val _).mono ?_
 rintro e w1 ⟨rfl, hE1⟩
 have hF1 : Ext w w1 := Mod.ext HF0.out hE1
 have HF1 := Lib.hid hF1
 clear hF1 hE1
 go_wp2
 go_ret
 exact ⟨ret_bool (by simp [eqCmd, h0, h1, g0]), HF1.out⟩

set_option maxRecDepth 100000 in
set_option maxHeartbeats 4000000 in
theorem r25_place (w : World) (T : Nat → Prop) (v : Value) (l : List AEntry) (c : ACall) (h : Ents w T v l) :
  Calls Tryz.prog 14 #[v, .agg #[.int .i64 c.client, .int .i64 c.seq, .int .i64 c.cmd.kind, .string c.cmd.key, .int .i64 c.cmd.old.kind, .float .f64 c.cmd.old.num, .string c.cmd.old.text, .int .i64 c.cmd.val.kind, .float .f64 c.cmd.val.num, .string c.cmd.val.text]] w fun e w' => e = .returned (.int .i64 (placeH l c : Nat)) ∧ Ext w w' := by
 have hl := h.1.le
 unfold maxLen at hl
 obtain ⟨n, hn⟩ : ∃ n, l.length = n := ⟨_, rfl⟩
 obtain ⟨A, c0, rfl⟩ := h.form
 rw [hn] at h hl ⊢
 obtain ⟨q, hq⟩ : ∃ q, w.heap.size = q := ⟨_, rfl⟩
 obtain ⟨W, hW⟩ : ∃ W, W = w.alloc (.cells #[.int .i64 c.client, .int .i64 c.seq, .int .i64 c.cmd.kind, .string c.cmd.key, .int .i64 c.cmd.old.kind, .float .f64 c.cmd.old.num, .string c.cmd.old.text, .int .i64 c.cmd.val.kind, .float .f64 c.cmd.val.num, .string c.cmd.val.text] 44) := ⟨_, rfl⟩
 have hE : Ext w W := by rw [hW]; exact (Mod.refl _ w).alloc _
 have hA : W.heap[q]? = some (.cells #[.int .i64 c.client, .int .i64 c.seq, .int .i64 c.cmd.kind, .string c.cmd.key, .int .i64 c.cmd.old.kind, .float .f64 c.cmd.old.num, .string c.cmd.old.text, .int .i64 c.cmd.val.kind, .float .f64 c.cmd.val.num, .string c.cmd.val.text] 44 (0, 0)) := by rw [hW, ← hq]; exact heap_alloc_new w _
 have hW2 := h.ext hE
 have Hn := Lib.hid hn
 have HE := Lib.hid hE
 have HA := Lib.hid hA
 have HW := Lib.hid hW
 have Hq := Lib.hid hq
 clear hn hE hA hW hq h
 go_enter Tryz.func14, Tryz.ntmps14
 go_wp2
 rw [← HW.out, Hq.out]
 go_loopw [5] (fun iv wr => ∃ i : Nat, i ≤ n ∧ iv = .int .i64 i ∧ Ext W wr ∧ placeH l c = placeF (l.drop i) c i) (fun iv _ => n - (intOf iv).toNat)
 case atStart => exact ⟨0, by omega, rfl, Mod.refl _ W, rfl⟩
 case round =>
  obtain ⟨i, hin, rfl, hEr, hp⟩ := hrel
  have h2 := hW2.ext hEr
  have hA2 := hEr.blk HA.out id
  have Hp := Lib.hid hp
  have HEr := Lib.hid hEr
  clear hp hEr
  by_cases hi : i < n
  case neg =>
   have Hf : Hid (placeH l c = 0) := Lib.hid (by rw [Hp.out, List.drop_eq_nil_of_le (by rw [Hn.out]; omega)]; rfl)
   clear hA2 h2
   go_wp2
   go_ret
   exact ⟨by rw [Hf.out]; rfl, HE.out.ext HEr.out⟩
  obtain ⟨g, off, x, rfl, hgT, hx, hxok, hcells⟩ := h2.at hi
  have hi0 : (0 : Int) ≤ (i : Int) := by omega
  have hi1 : (i : Int) < (n : Int) := by omega
  have x1 := hcells 1 _ rfl
  have x2 := hcells 2 _ rfl
  have x3 := hcells 3 _ rfl
  have x3' : wr.cell? ⟨g, off + i * 16 + 2 + 1, none⟩ = some _ := x3
  have a0 : wr.cell? ⟨q, 0, none⟩ = some _ := bcl hA2 rfl
  have a1 : wr.cell? ⟨q, 1, none⟩ = some _ := bcl hA2 rfl
  have hd := placeF_drop (c := c) hx
  have Hd := Lib.hid hd
  clear hd hcells hx h2 hxok hgT hA2
  rcases hk : (x.kind == 1) with _ | _
  ·
   have Hc : Hid (isCall c x = false) := Lib.hid (by unfold isCall; rw [hk]; rfl)
   go_wp2
   go_quiet (fail)
   go_wp2
   exact ⟨⟨i + 1, by omega, by go_num, HEr.out.drewN _, by rw [Hp.out, Hd.out, Hc.out]; simp⟩, by simp [intOf]; omega⟩
  ·
   rcases hk2 : (x.call.client == c.client) with _ | _
   ·
    have Hc : Hid (isCall c x = false) := Lib.hid (by unfold isCall; rw [hk2]; simp)
    go_wp2
    go_quiet (fail)
    go_wp2
    exact ⟨⟨i + 1, by omega, by go_num, HEr.out.drewN _, by rw [Hp.out, Hd.out, Hc.out]; simp⟩, by simp [intOf]; omega⟩
   ·
    rcases hk3 : (x.call.seq == c.seq) with _ | _
    ·
     have Hc : Hid (isCall c x = false) := Lib.hid (by unfold isCall; rw [hk3]; simp)
     go_wp2
     go_quiet (fail)
     go_wp2
     exact ⟨⟨i + 1, by omega, by go_num, HEr.out.drewN _, by rw [Hp.out, Hd.out, Hc.out]; simp⟩, by simp [intOf]; omega⟩
    ·
     have Hc : Hid (placeH l c = i + 1) := Lib.hid (by rw [Hp.out, Hd.out]; unfold isCall; rw [hk, hk2, hk3]; rfl)
     go_wp2
     go_quiet (fail)
     go_wp2
     go_ret
     exact ⟨by rw [Hc.out]; simp, HE.out.ext (HEr.out.drewN _)⟩
set_option maxRecDepth 100000 in
set_option maxHeartbeats 4000000 in
theorem r25_at (w : World) (T : Nat → Prop) (v : Value) (l : List AEntry) (n : Int) (h : Ents w T v l) (hn64 : I64 n) :
  Calls Tryz.prog 11 #[v, .int .i64 n] w (MOut w (atP l n)) := by
 replace h : Ents w (fun g => T g ∧ g < w.heap.size) v l := ⟨h.1.cap (by omega), h.2⟩
 have hl := h.1.le
 unfold maxLen at hl
 obtain ⟨N, hn⟩ : ∃ N, l.length = N := ⟨_, rfl⟩
 obtain ⟨A, c0, rfl⟩ := h.form
 rw [hn] at h hl ⊢
 obtain ⟨k, hk⟩ : ∃ k, min n.toNat N = k := ⟨_, rfl⟩
 have Hk : Hid (atP l n = (l.take k).foldl playE mach0) := Lib.hid (by rw [atP_take, hn, hk])
 obtain ⟨q, hq⟩ : ∃ q, w.heap.size = q := ⟨_, rfl⟩
 obtain ⟨W, hW⟩ : ∃ W, W = (w.alloc (.cells #[.slice none 0 0, .slice none 0 0] 33)).alloc (.cells #[.slice none 0 0, .slice none 0 0] 33) := ⟨_, rfl⟩
 have hE : Ext w W := by rw [hW]; exact ((Mod.refl _ w).alloc _).alloc _
 obtain ⟨hA, hB, _⟩ := two_new w (.cells #[.slice none 0 0, .slice none 0 0] 33) (.cells #[.slice none 0 0, .slice none 0 0] 33)
 rw [← hW, hq] at hA hB
 have hkN : k ≤ N := by omega
 have hk2 : k < N → n ≤ (k : Int) ∨ n = (k : Int) := by omega
 have hk3 : ∀ i : Nat, i < k → (i : Int) < n := by omega
 have Hk2 := Lib.hid hk2
 have Hk3 := Lib.hid hk3
 have Hn := Lib.hid hn
 have HC := Lib.hid h
 have HE := Lib.hid hE
 have HA := Lib.hid hA
 have HB := Lib.hid hB
 have HW := Lib.hid hW
 have Hq := Lib.hid hq
 clear hn hE hA hB hW hq h hk hk2 hk3
 go_enter Tryz.func11, Tryz.ntmps11
 go_wp2
 rw [← HW.out, Hq.out]
 have h0 : NewM w W (.slice none 0 0) (.slice none 0 0) mach0 := ⟨⟨World.ownsRow_nil _ _ _ _, by simp [mach0], by simp [Value.ownBlock]⟩, ⟨World.ownsRow_nil _ _ _ _, by simp [mach0], by simp [Value.ownBlock]⟩, by simp [Value.ownBlock]⟩
 have H0 := Lib.hid h0
 clear h0
 go_loopw [6] (fun iv wr => ∃ (i : Nat) (A1 B1 : Option Addr) (c1 d1 : Nat) (m : AMach), i ≤ k ∧ iv = .int .i64 i ∧ m = (l.take i).foldl playE mach0 ∧ NewM w wr (.slice A1 m.pairs.length c1) (.slice B1 m.sess.length d1) m ∧ wr.heap[q]? = some (.cells #[.slice none 0 0, .slice none 0 0] 33 (0, 0)) ∧ wr.heap[q + 1]? = some (.cells #[.slice A1 m.pairs.length c1, .slice B1 m.sess.length d1] 33 (0, 0)) ∧ Ext w wr) (fun iv _ => k - (intOf iv).toNat)
 case atStart => exact ⟨0, none, none, 0, 0, mach0, by omega, rfl, by simp, H0.out, HA.out, HB.out, HE.out⟩
 case round =>
  obtain ⟨i, A1, B1, c1, d1, m, hik, rfl, hm, hN, hA, hB, hX⟩ := hrel
  have Hm := Lib.hid hm
  have HN := Lib.hid hN
  have HX := Lib.hid hX
  clear hm hN hX
  by_cases hi : i < k
  case neg =>
   obtain rfl : i = k := by omega
   have HA2 := Lib.hid hA
   have HB2 := Lib.hid hB
   have e0 : wr.cell? ⟨q, 0, none⟩ = some _ := blk_cell hA rfl
   have e1 : wr.cell? ⟨q, 1, none⟩ = some _ := blk_cell hA rfl
   have f0 : wr.frozen? ⟨q, 0, none⟩ = false := blk_free 0 hA
   have f1 : wr.frozen? ⟨q, 1, none⟩ = false := blk_free 1 hA
   have m0 : wr.cell? ⟨q + 1, 0, none⟩ = some _ := blk_cell hB rfl
   have m1 : wr.cell? ⟨q + 1, 1, none⟩ = some _ := blk_cell hB rfl
   have hMs : Mod (fun k => k = q) wr ((wr.setCell ⟨q, 0, none⟩ (.slice A1 m.pairs.length c1)).setCell ⟨q, 1, none⟩ (.slice B1 m.sess.length d1)) := mod_same (mod_same (Mod.refl _ _) _ _) _ _
   have HMs := Lib.hid hMs
   clear hA hB hMs
   have Hend : Hid (MOut w (atP l n) (.returned (.agg #[.slice A1 m.pairs.length c1, .slice B1 m.sess.length d1])) ((wr.setCell ⟨q, 0, none⟩ (.slice A1 m.pairs.length c1)).setCell ⟨q, 1, none⟩ (.slice B1 m.sess.length d1))) := Lib.hid ⟨_, _, rfl, by
    rw [Hk.out, ← Hm.out]
    exact newM_box HN.out HA2.out HMs.out (by decide) (by decide), Mod.toExt ((Ext.mod HX.out (Since w.heap.size)).trans HMs.out (fun k _ e => by have := Hq.out; unfold Since; omega))⟩
   by_cases hz : i < N
   ·
    have hn1 : n ≤ (i : Int) := by have := Hk2.out hz; omega
    have t1 : decide ((i : Int) < (N : Int)) = true := by simp; omega
    have t2 : decide ((i : Int) < n) = false := by simp; omega
    go_wp2
    refine bodyPost_ret (v := .agg #[.slice A1 m.pairs.length c1, .slice B1 m.sess.length d1]) (by simp [results, Tryz.results11, go_sem, e0, e1]) rfl Hend.out
   ·
    have t1 : decide ((i : Int) < (N : Int)) = false := by simp; omega
    go_wp2
    refine bodyPost_ret (v := .agg #[.slice A1 m.pairs.length c1, .slice B1 m.sess.length d1]) (by simp [results, Tryz.results11, go_sem, e0, e1]) rfl Hend.out
  obtain ⟨g, off, x, rfl, hgT, hx, hxok, hcells⟩ := (HC.out.ext HX.out).at (i := i) (by omega)
  have hi0 : (0 : Int) ≤ (i : Int) := by omega
  have hi1 : (i : Int) < (N : Int) := by omega
  have hi2 : (i : Int) < n := Hk3.out i hi
  have d1' : decide ((i : Int) < (N : Int)) = true := by simp; omega
  have d2' : decide ((i : Int) < n) = true := by simp; omega
  have ngb : ¬ g = q + 1 := by have := hgT.2; have := Hq.out; omega
  have x1 := hcells 1 _ rfl
  have hps := play_step hx
  rw [← Hm.out] at hps
  have hr : machB m = true := by rw [Hm.out]; exact play_right l i
  have Hps := Lib.hid hps
  have Hr := Lib.hid hr
  have Hxok := Lib.hid hxok
  have HA3 := Lib.hid hA
  have HB3 := Lib.hid hB
  have Hcells := Lib.hid hcells
  clear hps hr hcells hx hxok hgT hA hB
  rcases hk1 : (x.kind == 1) with _ | _
  ·
   have Hp : Hid (playE m x = m) := Lib.hid (by unfold playE; rw [if_neg (by simpa using hk1)])
   go_wp2
   exact ⟨⟨i + 1, A1, B1, c1, d1, m, by omega, by go_num, by rw [Hps.out, Hp.out], HN.out, HA3.out, HB3.out, HX.out⟩, by simp [intOf]; omega⟩
  rcases hdo : onceP m x.call with ⟨MN, rN⟩
  have Hp : Hid (playE m x = MN) := Lib.hid (by unfold playE; rw [if_pos (by simpa using hk1), hdo])
  have Hon := Lib.hid hdo
  clear hdo
  have x2 : wr.cell? ⟨g, off + i * 16 + 2 + 0, none⟩ = some _ := Hcells.out 2 _ rfl
  have x3 : wr.cell? ⟨g, off + i * 16 + 2 + 1, none⟩ = some _ := Hcells.out 3 _ rfl
  have x4 : wr.cell? ⟨g, off + i * 16 + 2 + 2, none⟩ = some _ := Hcells.out 4 _ rfl
  have x5 : wr.cell? ⟨g, off + i * 16 + 2 + 3, none⟩ = some _ := Hcells.out 5 _ rfl
  have x6 : wr.cell? ⟨g, off + i * 16 + 2 + 4, none⟩ = some _ := Hcells.out 6 _ rfl
  have x7 : wr.cell? ⟨g, off + i * 16 + 2 + 5, none⟩ = some _ := Hcells.out 7 _ rfl
  have x8 : wr.cell? ⟨g, off + i * 16 + 2 + 6, none⟩ = some _ := Hcells.out 8 _ rfl
  have x9 : wr.cell? ⟨g, off + i * 16 + 2 + 7, none⟩ = some _ := Hcells.out 9 _ rfl
  have x10 : wr.cell? ⟨g, off + i * 16 + 2 + 8, none⟩ = some _ := Hcells.out 10 _ rfl
  have x11 : wr.cell? ⟨g, off + i * 16 + 2 + 9, none⟩ = some _ := Hcells.out 11 _ rfl
  rw [Nat.add_zero] at x2
  go_wp2_with fail
  refine wp_region_held_drew (S := (fun W' : World => Mod (fun k => k = (q + 1)) wr W' ∧ ∃ x y, W'.heap[(q + 1)]? = some (.cells #[x, y] 33 (0, 0)))) (by kernel_rfl) ⟨(Mod.refl _ wr).drew, _, _, HB3.out⟩ (fun hS => ?_)
  refine tkH 1 (some 27) rfl rfl ?_ hS ?_ ?_; rotate_left; · rintro W' ⟨_,_⟩; go_simp; try with_reducible rfl
  try simp only [pL]
  refine tkH 2 (some 28) rfl rfl ?_ hS ?_ ?_; rotate_left; · rintro W' ⟨_,_⟩; go_simp; try with_reducible rfl
  try simp only [pL]
  refine tkH 3 (some 29) rfl rfl ?_ hS ?_ ?_; rotate_left; · rintro W' ⟨_,_⟩; go_simp; try with_reducible rfl
  try simp only [pL]
  refine tkH 4 (some 30) rfl rfl ?_ hS ?_ ?_; rotate_left; · rintro W' ⟨_,_⟩; go_simp; try with_reducible rfl
  try simp only [pL]
  refine tkH 5 (some 31) rfl rfl ?_ hS ?_ ?_
  rotate_left
  ·
   rintro W' ⟨hm', _⟩
   have q0 := hm'.cell x2 ngb
   have q1 := hm'.cell x3 ngb
   have q2 := hm'.cell x4 ngb
   have q3 := hm'.cell x5 ngb
   have q4 := hm'.cell x6 ngb
   have q5 := hm'.cell x7 ngb
   have q6 := hm'.cell x8 ngb
   have q7 := hm'.cell x9 ngb
   have q8 := hm'.cell x10 ngb
   have q9 := hm'.cell x11 ngb
   go_simp
   try with_reducible rfl
  try simp only [pL]
  refine wpAnyH_ready (rs := [0]) (by kernel_rfl) (by simp) ?_
  refine AllReadyH.cons rfl (fun K hK => ?_) AllReadyH.nil
  have m0 : wr.cell? ⟨(q + 1), 0, none⟩ = some _ := blk_cell HB3.out rfl
  have m1 : wr.cell? ⟨(q + 1), 1, none⟩ = some _ := blk_cell HB3.out rfl
  go_simp
  refine hK.out _ _ hS (fun hS => ?_)
  clear hK K m0 m1
  try simp only [pL]
  refine wpAnyH_ready (rs := [6]) (by kernel_rfl) (by simp) ?_
  refine AllReadyH.cons rfl (fun K hK => ?_) AllReadyH.nil
  go_simp
  go_wp2_with fail
  refine (r_once_at _ _ _ _ _ m x.call (HN.out.prs.ext (Mod.refl _ _).drew) (HN.out.ses.ext (Mod.refl _ _).drew) (mach_small Hr.out) Hxok.out.2.2.1.2.2.2.2.2 Hon.out).mono ?_
  rintro e wd ⟨pv2, v2, rfl, hN2, hE2⟩
  obtain ⟨A3, c3, rfl⟩ := own_form hN2.1.1
  obtain ⟨A4, c4, rfl⟩ := own_form hN2.2.1.1
  have hB2 := hE2.blk HB3.out id
  have hX := (⟨hS.1.ext hE2, _, _, hB2⟩ : (fun W' : World => Mod (fun k => k = (q + 1)) wr W' ∧ ∃ x y, W'.heap[(q + 1)]? = some (.cells #[x, y] 33 (0, 0))) wd)
  have hM2 : Mod (fun k => k = (q + 1)) wr wd := hS.1.ext hE2
  clear hS
  go_simp
  refine hK.out _ _ hX (fun hS => ?_)
  clear hK K hX
  try simp only [pL]
  refine tkH 7 (some 25) rfl rfl ?_ hS ?_ ?_; rotate_left; · rintro W' ⟨_,_⟩; go_simp; try with_reducible rfl
  try simp only [pL]
  refine tkH 8 (some 33) rfl rfl ?_ hS ?_ ?_; rotate_left; · rintro W' ⟨_,_⟩; go_simp; try with_reducible rfl
  try simp only [pL]
  refine tkH 9 (some 34) rfl rfl ?_ hS ?_ ?_; rotate_left; · rintro W' ⟨_,_⟩; go_simp; try with_reducible rfl
  try simp only [pL]
  refine wpAnyH_ready (rs := [10]) (by kernel_rfl) (by simp) ?_
  refine AllReadyH.cons rfl (fun K hK => ?_) AllReadyH.nil
  have f0 : wd.frozen? ⟨(q + 1), 0, none⟩ = false := blk_free 0 hB2
  have f1 : wd.frozen? ⟨(q + 1), 1, none⟩ = false := blk_free 1 hB2
  have d0 : wd.cell? ⟨(q + 1), 0, none⟩ = some _ := blk_cell hB2 rfl
  have d1 : wd.cell? ⟨(q + 1), 1, none⟩ = some _ := blk_cell hB2 rfl
  have hB3 : ((wd.setCell ⟨(q + 1), 0, none⟩ (.slice A3 MN.pairs.length c3)).setCell ⟨(q + 1), 1, none⟩ (.slice A4 MN.sess.length c4)).heap[(q + 1)]? = some (.cells #[.slice A3 MN.pairs.length c3, .slice A4 MN.sess.length c4] 33 (0, 0)) := by simp [World.setCell, Array.getElem?_modify, hB2]
  have hM3 : Mod (fun k => k = (q + 1)) wd ((wd.setCell ⟨(q + 1), 0, none⟩ (.slice A3 MN.pairs.length c3)).setCell ⟨(q + 1), 1, none⟩ (.slice A4 MN.sess.length c4)) := mod_same (mod_same (Mod.refl _ _) _ _) _ _
  have hX := (⟨hS.1.self hM3, _, _, hB3⟩ : (fun W' : World => Mod (fun k => k = (q + 1)) wr W' ∧ ∃ x y, W'.heap[(q + 1)]? = some (.cells #[x, y] 33 (0, 0))) _)
  go_simp
  refine hK.out _ _ hX (fun hS => ?_)
  clear hK K hX
  refine wpAnyH_done (by kernel_rfl) ?_ _
  clear f0 f1 d0 d1 hS
  have hup := newM_up hN2 (show w.heap.size ≤ _ by have := HX.out.size; simpa using this)
  have HN3 := Lib.hid (newM_box hup hB2 hM3 (by decide) (by decide))
  have HB4 := Lib.hid hB3
  have HA4 := Lib.hid (hM3.blk (hM2.blk HA3.out (by omega)) (by omega))
  have HX4 : Hid (Ext w _) := Lib.hid (Mod.toExt (((Ext.mod HX.out (Since w.heap.size)).trans hM2 (fun k _ e => by have := Hq.out; unfold Since; omega)).trans hM3 (fun k _ e => by have := Hq.out; unfold Since; omega)))
  clear hB3 hM3 hM2 hup hB2 hN2 hE2 x1 x2 x3 x4 x5 x6 x7 x8 x9 x10 x11
  go_wp2
  exact ⟨⟨i + 1, A3, A4, c3, c4, MN, by omega, by go_num, by rw [Hps.out, Hp.out], HN3.out, HA4.out, HB4.out, HX4.out⟩, by simp [intOf]; omega⟩
set_option maxRecDepth 100000 in
set_option maxHeartbeats 4000000 in
theorem r25_point (w : World) (T : Nat → Prop) (A : Option Addr) (n cc : Nat) (l : List AEntry) (x : ATold) (hC : Ents w T (.slice A n cc) l) (hn : l.length = n) :
  Calls Tryz.prog 41 #[.slice A n cc, .agg #[.int .i64 x.call.client, .int .i64 x.call.seq, .int .i64 x.call.cmd.kind, .string x.call.cmd.key, .int .i64 x.call.cmd.old.kind, .float .f64 x.call.cmd.old.num, .string x.call.cmd.old.text, .int .i64 x.call.cmd.val.kind, .float .f64 x.call.cmd.val.num, .string x.call.cmd.val.text, .int .i64 x.reply.code, .int .i64 x.reply.val.kind, .float .f64 x.reply.val.num, .string x.reply.val.text, .int .i64 x.index]] w fun e w' => e = .returned (.int .i64 (pointP l x)) ∧ Ext w w' := by
 rcases hk : (x.call.cmd.kind == 1) with _ | _
 ·
  have Hf : Hid (pointP l x = (placeH l x.call : Nat)) := Lib.hid (by unfold pointP; rw [if_neg (by simpa using hk)])
  rw [Hf.out]
  subst hn
  have HX : Hid (Ext w w) := Lib.hid (Mod.refl _ w)
  have HC := Lib.hid hC
  clear hC
  go_enter Tryz.func41, Tryz.ntmps41
  go_wp2_with fail
  obtain ⟨w1, hw1⟩ : ∃ w1, w1 = w.alloc (.cells #[.int .i64 x.call.client, .int .i64 x.call.seq, .int .i64 x.call.cmd.kind, .string x.call.cmd.key, .int .i64 x.call.cmd.old.kind, .float .f64 x.call.cmd.old.num, .string x.call.cmd.old.text, .int .i64 x.call.cmd.val.kind, .float .f64 x.call.cmd.val.num, .string x.call.cmd.val.text, .int .i64 x.reply.code, .int .i64 x.reply.val.kind, .float .f64 x.reply.val.num, .string x.reply.val.text, .int .i64 x.index] 48) := ⟨_, rfl⟩
  obtain ⟨bx, hbx⟩ : ∃ bx, bx = w.heap.size := ⟨_, rfl⟩
  have hzz : w.heap.size = bx := hbx.symm
  have hE : Ext w w1 := by rw [hw1]; exact (Mod.refl _ w).alloc _
  have hKn : w1.heap[bx]? = some (.cells #[.int .i64 x.call.client, .int .i64 x.call.seq, .int .i64 x.call.cmd.kind, .string x.call.cmd.key, .int .i64 x.call.cmd.old.kind, .float .f64 x.call.cmd.old.num, .string x.call.cmd.old.text, .int .i64 x.call.cmd.val.kind, .float .f64 x.call.cmd.val.num, .string x.call.cmd.val.text, .int .i64 x.reply.code, .int .i64 x.reply.val.kind, .float .f64 x.reply.val.num, .string x.reply.val.text, .int .i64 x.index] 48 (0, 0)) := by rw [hw1, ← hzz]; exact heap_alloc_new w _
  have hzn : w1.heap.size = bx + 1 := by rw [hw1, ← hzz]; simp
  rw [← hw1, ← hbx]
  have HXo := HX
  replace HC := Lib.hid (HC.out.ext hE)
  replace HX := Lib.hid (HX.out.ext hE)
  have Kxw1 := Lib.hid hKn
  have hbz : w.heap.size ≤ bx := by have := HXo.out.size; omega
  clear hKn hE hw1 hbx HXo hzz
  have hbx := hbz
  clear hbz
  clear hzn
  refine (r25_place w1 T _ l x.call HC.out).mono ?_
  rintro e w2 ⟨rfl, hE⟩
  have Kxw2 := Lib.hid (hE.blk Kxw1.out id)
  replace HC := Lib.hid (HC.out.ext hE)
  replace HX := Lib.hid (HX.out.ext hE)
  clear Kxw1
  clear hE
  obtain ⟨x_0, x_1, x_2, x_3, x_4, x_5, x_6, x_7, x_8, x_9, x_10, x_11, x_12, x_13, x_14⟩ := cq15 Kxw2.out
  have x_l : bx < w2.heap.size := (Array.getElem?_eq_some_iff.1 Kxw2.out).1
  go_wp2
  go_ret
  exact ⟨rfl, HX.out⟩
 ·
  have Hf : Hid (pointP l x = x.index) := Lib.hid (by unfold pointP; rw [if_pos (by simpa using hk)])
  rw [Hf.out]
  have HX : Hid (Ext w w) := Lib.hid (Mod.refl _ w)
  have HC := Lib.hid hC
  clear hC
  go_enter Tryz.func41, Tryz.ntmps41
  go_wp2_with fail
  obtain ⟨w1, hw1⟩ : ∃ w1, w1 = w.alloc (.cells #[.int .i64 x.call.client, .int .i64 x.call.seq, .int .i64 x.call.cmd.kind, .string x.call.cmd.key, .int .i64 x.call.cmd.old.kind, .float .f64 x.call.cmd.old.num, .string x.call.cmd.old.text, .int .i64 x.call.cmd.val.kind, .float .f64 x.call.cmd.val.num, .string x.call.cmd.val.text, .int .i64 x.reply.code, .int .i64 x.reply.val.kind, .float .f64 x.reply.val.num, .string x.reply.val.text, .int .i64 x.index] 48) := ⟨_, rfl⟩
  obtain ⟨bx, hbx⟩ : ∃ bx, bx = w.heap.size := ⟨_, rfl⟩
  have hzz : w.heap.size = bx := hbx.symm
  have hE : Ext w w1 := by rw [hw1]; exact (Mod.refl _ w).alloc _
  have hKn : w1.heap[bx]? = some (.cells #[.int .i64 x.call.client, .int .i64 x.call.seq, .int .i64 x.call.cmd.kind, .string x.call.cmd.key, .int .i64 x.call.cmd.old.kind, .float .f64 x.call.cmd.old.num, .string x.call.cmd.old.text, .int .i64 x.call.cmd.val.kind, .float .f64 x.call.cmd.val.num, .string x.call.cmd.val.text, .int .i64 x.reply.code, .int .i64 x.reply.val.kind, .float .f64 x.reply.val.num, .string x.reply.val.text, .int .i64 x.index] 48 (0, 0)) := by rw [hw1, ← hzz]; exact heap_alloc_new w _
  have hzn : w1.heap.size = bx + 1 := by rw [hw1, ← hzz]; simp
  rw [← hw1, ← hbx]
  have HXo := HX
  replace HC := Lib.hid (HC.out.ext hE)
  replace HX := Lib.hid (HX.out.ext hE)
  have Kxw1 := Lib.hid hKn
  have hbz : w.heap.size ≤ bx := by have := HXo.out.size; omega
  clear hKn hE hw1 hbx HXo hzz
  have hbx := hbz
  clear hbz
  clear hzn
  obtain ⟨x_0, x_1, x_2, x_3, x_4, x_5, x_6, x_7, x_8, x_9, x_10, x_11, x_12, x_13, x_14⟩ := cq15 Kxw1.out
  have x_l : bx < w1.heap.size := (Array.getElem?_eq_some_iff.1 Kxw1.out).1
  go_wp2
  go_ret
  exact ⟨rfl, HX.out⟩
set_option maxRecDepth 100000 in
set_option maxHeartbeats 4000000 in
theorem r25_told_get (w : World) (T : Nat → Prop) (A : Option Addr) (n cc : Nat) (l : List AEntry) (x : ATold) (hC : Ents w T (.slice A n cc) l) (hn : l.length = n) (hx : x.ok) (hk : x.call.cmd.kind = 1) :
  Calls Tryz.prog 16 #[.slice A n cc, .agg #[.int .i64 x.call.client, .int .i64 x.call.seq, .int .i64 x.call.cmd.kind, .string x.call.cmd.key, .int .i64 x.call.cmd.old.kind, .float .f64 x.call.cmd.old.num, .string x.call.cmd.old.text, .int .i64 x.call.cmd.val.kind, .float .f64 x.call.cmd.val.num, .string x.call.cmd.val.text, .int .i64 x.reply.code, .int .i64 x.reply.val.kind, .float .f64 x.reply.val.num, .string x.reply.val.text, .int .i64 x.index]] w fun e w' => e = .returned (.bool (toldP l x)) ∧ Ext w w' := by
 have hl := hC.1.le
 rw [hn] at hl
 unfold maxLen at hl
 have d1 : (x.call.cmd.kind == 1) = true := by simp [hk]
 obtain ⟨R, hR⟩ : ∃ R, (doP (atP l x.index).pairs x.call.cmd).2 = R := ⟨_, rfl⟩
 obtain ⟨Q, hQ⟩ : ∃ Q, (doP (atP l x.index).pairs x.call.cmd).1 = Q := ⟨_, rfl⟩
 have HD : Hid (doP (atP l x.index).pairs x.call.cmd = (Q, R)) := Lib.hid (by rw [← hR, ← hQ])
 have Hf : Hid (toldP l x = (decide (x.index ≤ (n : Int)) && eqReply R x.reply)) := Lib.hid (by unfold toldP; rw [if_pos hk, hR, hn])
 rw [Hf.out]
 have hm := mach_small (atP_right l x.index)
 have Hx := Lib.hid hx
 clear hk hR hQ hx
 have HX : Hid (Ext w w) := Lib.hid (Mod.refl _ w)
 have HC := Lib.hid hC
 clear hC
 go_enter Tryz.func16, Tryz.ntmps16
 go_wp2_with fail
 obtain ⟨w1, hw1⟩ : ∃ w1, w1 = w.alloc (.cells #[.int .i64 x.call.client, .int .i64 x.call.seq, .int .i64 x.call.cmd.kind, .string x.call.cmd.key, .int .i64 x.call.cmd.old.kind, .float .f64 x.call.cmd.old.num, .string x.call.cmd.old.text, .int .i64 x.call.cmd.val.kind, .float .f64 x.call.cmd.val.num, .string x.call.cmd.val.text, .int .i64 x.reply.code, .int .i64 x.reply.val.kind, .float .f64 x.reply.val.num, .string x.reply.val.text, .int .i64 x.index] 48) := ⟨_, rfl⟩
 obtain ⟨bx, hbx⟩ : ∃ bx, bx = w.heap.size := ⟨_, rfl⟩
 have hzz : w.heap.size = bx := hbx.symm
 have hE : Ext w w1 := by rw [hw1]; exact (Mod.refl _ w).alloc _
 have hKn : w1.heap[bx]? = some (.cells #[.int .i64 x.call.client, .int .i64 x.call.seq, .int .i64 x.call.cmd.kind, .string x.call.cmd.key, .int .i64 x.call.cmd.old.kind, .float .f64 x.call.cmd.old.num, .string x.call.cmd.old.text, .int .i64 x.call.cmd.val.kind, .float .f64 x.call.cmd.val.num, .string x.call.cmd.val.text, .int .i64 x.reply.code, .int .i64 x.reply.val.kind, .float .f64 x.reply.val.num, .string x.reply.val.text, .int .i64 x.index] 48 (0, 0)) := by rw [hw1, ← hzz]; exact heap_alloc_new w _
 have hzn : w1.heap.size = bx + 1 := by rw [hw1, ← hzz]; simp
 rw [← hw1, ← hbx]
 have HXo := HX
 replace HC := Lib.hid (HC.out.ext hE)
 replace HX := Lib.hid (HX.out.ext hE)
 have Kxw1 := Lib.hid hKn
 have hbz : w.heap.size ≤ bx := by have := HXo.out.size; omega
 clear hKn hE hw1 hbx HXo hzz
 have hbx := hbz
 clear hbz
 clear hzn
 obtain ⟨x_0, x_1, x_2, x_3, x_4, x_5, x_6, x_7, x_8, x_9, x_10, x_11, x_12, x_13, x_14⟩ := cq15 Kxw1.out
 have x_l : bx < w1.heap.size := (Array.getElem?_eq_some_iff.1 Kxw1.out).1
 refine wp_region_held_drew (S := fun W' => Ext w1 W') (by kernel_rfl) (Mod.refl _ w1).drew (fun hS => ?_)
 refine tkE 0 (some 16) rfl rfl ?_ hS ?_ ?_; rotate_left; · rintro W' _ _; go_simp; try with_reducible rfl
 try simp only [pL]
 refine tkE 1 (some 17) rfl rfl ?_ hS ?_ ?_; rotate_left; · rintro W' _ _; go_simp; try with_reducible rfl
 try simp only [pL]
 refine tkE 2 (some 18) rfl rfl ?_ hS ?_ ?_; rotate_left; · rintro W' _ _; go_simp; try with_reducible rfl
 try simp only [pL]
 refine tkE 5 (some 21) rfl rfl ?_ hS ?_ ?_; rotate_left; · rintro W' _ _; go_simp; try with_reducible rfl
 try simp only [pL]
 refine tkE 6 (some 22) rfl rfl ?_ hS ?_ ?_; rotate_left; · rintro W' _ _; go_simp; try with_reducible rfl
 try simp only [pL]
 refine tkE 7 (some 23) rfl rfl ?_ hS ?_ ?_; rotate_left; · rintro W' _ _; go_simp; try with_reducible rfl
 try simp only [pL]
 obtain ⟨w2, hnw⟩ : ∃ w2, w2 = w1.drew := ⟨_, rfl⟩
 rw [← hnw] at hS ⊢
 clear hnw
 refine wpAnyH_ready (rs := [3, 12]) (by kernel_rfl) (by simp) ?_
 refine AllReadyH.cons rfl (fun K hK => ?_) (AllReadyH.cons rfl (fun K hK => ?_) AllReadyH.nil)
 ·
  go_simp
  go_wp2_with fail
  refine (r25_at w2 T _ l x.index (HC.out.ext hS) Hx.out.2.2).mono ?_
  rintro e w3 ⟨p1, v1, rfl, hN, hE⟩
  obtain ⟨A1, c1, rfl⟩ := own_form hN.1.1
  obtain ⟨B1, d1, rfl⟩ := own_form hN.2.1.1
  have HP := Lib.hid hN.1.prs
  clear hN
  have hX := Mod.ext hS hE
  clear hE hS
  go_simp
  refine hK.out _ _ hX (fun hS => ?_)
  clear hK K hX
  try simp only [pL]
  refine tkE 4 (some 20) rfl rfl ?_ hS ?_ ?_; rotate_left; · rintro W' _ _; go_simp; try with_reducible rfl
  try simp only [pL]
  refine wpAnyH_ready (rs := [8, 12]) (by kernel_rfl) (by simp) ?_
  refine AllReadyH.cons rfl (fun K hK => ?_) (AllReadyH.cons rfl (fun K hK => ?_) AllReadyH.nil)
  ·
   go_simp
   go_wp2_with fail
   refine (r_do_at w3 _ _ _ x.call.cmd HP.out hm.1 Hx.out.1.2.2.2.2.2 HD.out).mono ?_
   rintro e w4 ⟨v2, rfl, hN, hE⟩
   replace HP := Lib.hid (HP.out.ext hE)
   clear HP hN
   have hX := Mod.ext hS hE
   clear hE hS
   go_simp
   refine hK.out _ _ hX (fun hS => ?_)
   clear hK K hX
   try simp only [pL]
   refine tkE 9 (some 15) rfl rfl ?_ hS ?_ ?_; rotate_left; · rintro W' _ _; go_simp; try with_reducible rfl
   try simp only [pL]
   refine tkE 10 (some 25) rfl rfl ?_ hS ?_ ?_; rotate_left; · rintro W' _ _; go_simp; try with_reducible rfl
   try simp only [pL]
   refine tkE 11 (some 26) rfl rfl ?_ hS ?_ ?_; rotate_left; · rintro W' _ _; go_simp; try with_reducible rfl
   try simp only [pL]
   refine wpAnyH_ready (rs := [12]) (by kernel_rfl) (by simp) ?_
   refine AllReadyH.cons rfl (fun K hK => ?_) AllReadyH.nil
   go_simp
   obtain ⟨br, hbn⟩ : ∃ br, w4.heap.size = br := ⟨_, rfl⟩
   obtain ⟨w5, hnw⟩ : ∃ w5, w5 = w4.alloc (.cells #[.int .i64 0, .int .i64 0, .float .f64 0, .string ⟨#[]⟩] 46) := ⟨_, rfl⟩
   have hE : Ext w4 w5 := by rw [hnw]; exact (Mod.refl _ _).alloc _
   have KKr : w5.heap[br]? = some (.cells #[.int .i64 0, .int .i64 0, .float .f64 0, .string ⟨#[]⟩] 46 (0, 0)) := by rw [hnw, ← hbn]; exact heap_alloc_new _ _
   have hbr : w.heap.size ≤ br := by have := (Mod.ext HX.out hS).size; omega
   have hcr : w1.heap.size ≤ br := by have := hS.size; omega
   rw [← hnw, hbn]
   clear hnw hbn
   have hX := Mod.ext hS hE
   clear hE hS
   refine hK.out _ _ hX (fun hS => ?_)
   clear hK K hX
   try simp only [pL]
   refine tkE 13 (some 5) rfl rfl ?_ hS ?_ ?_; rotate_left; · rintro W' _ _; go_simp; try with_reducible rfl
   try simp only [pL]
   refine wpAnyH_ready (rs := [14]) (by kernel_rfl) (by simp) ?_
   refine AllReadyH.cons rfl (fun K hK => ?_) AllReadyH.nil
   have fz0 := blk_free 0 KKr
   have cz0 : w5.cell? ⟨br, 0, none⟩ = some _ := blk_cell KKr rfl
   have fz1 := blk_free 1 KKr
   have cz1 : w5.cell? ⟨br, 1, none⟩ = some _ := blk_cell KKr rfl
   have fz2 := blk_free 2 KKr
   have cz2 : w5.cell? ⟨br, 2, none⟩ = some _ := blk_cell KKr rfl
   have fz3 := blk_free 3 KKr
   have cz3 : w5.cell? ⟨br, 3, none⟩ = some _ := blk_cell KKr rfl
   obtain ⟨w6, hwn⟩ : ∃ w6, ((((w5.setCell ⟨br, 0, none⟩ (.int .i64 R.code)).setCell ⟨br, 1, none⟩ (.int .i64 R.val.kind)).setCell ⟨br, 2, none⟩ (.float .f64 R.val.num)).setCell ⟨br, 3, none⟩ (.string R.val.text)) = w6 := ⟨_, rfl⟩
   have hKn : w6.heap[br]? = some (.cells #[.int .i64 R.code, .int .i64 R.val.kind, .float .f64 R.val.num, .string R.val.text] 46 (0, 0)) := by rw [← hwn]; simp [World.setCell, Array.getElem?_modify, KKr]
   have hM : Mod (fun k => k = br) w5 w6 := by rw [← hwn]; exact mod_same (mod_same (mod_same (mod_same (Mod.refl _ _) _ _) _ _) _ _) _ _
   have hX : Ext w1 w6 := Mod.toExt ((Ext.mod hS (Since w1.heap.size)).trans hM (fun k _ e => by rw [e]; exact hcr))
   clear hS
   go_simp
   try rw [hwn]
   refine hK.out _ _ hX (fun hS => ?_)
   clear hK K hX hwn hM KKr fz0 cz0 fz1 cz1 fz2 cz2 fz3 cz3
   have KKr := hKn
   clear hKn
   try simp only [pL]
   refine wpAnyH_done (by kernel_rfl) ?_ _
   have hE := hS
   clear hS
   clear x_0 x_1 x_2 x_3 x_4 x_5 x_6 x_7 x_8 x_9 x_10 x_11 x_12 x_13 x_14 x_l
   have Kxw6 := Lib.hid (hE.blk Kxw1.out id)
   replace HC := Lib.hid (HC.out.ext hE)
   replace HX := Lib.hid (HX.out.ext hE)
   clear Kxw1
   clear hE
   have Krw6 := Lib.hid KKr
   clear KKr
   obtain ⟨x_0, x_1, x_2, x_3, x_4, x_5, x_6, x_7, x_8, x_9, x_10, x_11, x_12, x_13, x_14⟩ := cq15 Kxw6.out
   have x_l : bx < w6.heap.size := (Array.getElem?_eq_some_iff.1 Kxw6.out).1
   obtain ⟨r_0, r_1, r_2, r_3⟩ := cq4 Krw6.out
   have r_l : br < w6.heap.size := (Array.getElem?_eq_some_iff.1 Krw6.out).1
   rcases dn : decide (x.index ≤ (n : Int)) with _ | _
   ·
    go_wp2
    go_ret
    exact ⟨ret_bool (by rw [dn]; rfl), HX.out⟩
   ·
    go_wp2_with fail
    refine (k_reply R x.reply w6).mono ?_
    rintro e w7 ⟨rfl, hE⟩
    clear x_0 x_1 x_2 x_3 x_4 x_5 x_6 x_7 x_8 x_9 x_10 x_11 x_12 x_13 x_14 x_l r_0 r_1 r_2 r_3 r_l
    have Kxw7 := Lib.hid (hE.blk Kxw6.out id)
    have Krw7 := Lib.hid (hE.blk Krw6.out id)
    replace HC := Lib.hid (HC.out.ext hE)
    replace HX := Lib.hid (HX.out.ext hE)
    clear Kxw6
    clear Krw6
    clear hE
    obtain ⟨x_0, x_1, x_2, x_3, x_4, x_5, x_6, x_7, x_8, x_9, x_10, x_11, x_12, x_13, x_14⟩ := cq15 Kxw7.out
    have x_l : bx < w7.heap.size := (Array.getElem?_eq_some_iff.1 Kxw7.out).1
    obtain ⟨r_0, r_1, r_2, r_3⟩ := cq4 Krw7.out
    have r_l : br < w7.heap.size := (Array.getElem?_eq_some_iff.1 Krw7.out).1
    go_wp2
    go_ret
    exact ⟨ret_bool (by rw [dn]; rfl), HX.out⟩
  ·
   go_simp
   obtain ⟨br, hbn⟩ : ∃ br, w3.heap.size = br := ⟨_, rfl⟩
   obtain ⟨w4, hnw⟩ : ∃ w4, w4 = w3.alloc (.cells #[.int .i64 0, .int .i64 0, .float .f64 0, .string ⟨#[]⟩] 46) := ⟨_, rfl⟩
   have hE : Ext w3 w4 := by rw [hnw]; exact (Mod.refl _ _).alloc _
   have KKr : w4.heap[br]? = some (.cells #[.int .i64 0, .int .i64 0, .float .f64 0, .string ⟨#[]⟩] 46 (0, 0)) := by rw [hnw, ← hbn]; exact heap_alloc_new _ _
   have hbr : w.heap.size ≤ br := by have := (Mod.ext HX.out hS).size; omega
   have hcr : w1.heap.size ≤ br := by have := hS.size; omega
   rw [← hnw, hbn]
   clear hnw hbn
   replace HP := Lib.hid (HP.out.ext hE)
   have hX := Mod.ext hS hE
   clear hE hS
   refine hK.out _ _ hX (fun hS => ?_)
   clear hK K hX
   try simp only [pL]
   refine wpAnyH_ready (rs := [8]) (by kernel_rfl) (by simp) ?_
   refine AllReadyH.cons rfl (fun K hK => ?_) AllReadyH.nil
   go_simp
   go_wp2_with fail
   refine (r_do_at w4 _ _ _ x.call.cmd HP.out hm.1 Hx.out.1.2.2.2.2.2 HD.out).mono ?_
   rintro e w5 ⟨v2, rfl, hN, hE⟩
   replace HP := Lib.hid (HP.out.ext hE)
   replace KKr := hE.blk KKr id
   clear HP hN
   have hX := Mod.ext hS hE
   clear hE hS
   go_simp
   refine hK.out _ _ hX (fun hS => ?_)
   clear hK K hX
   try simp only [pL]
   refine tkE 9 (some 15) rfl rfl ?_ hS ?_ ?_; rotate_left; · rintro W' _ _; go_simp; try with_reducible rfl
   try simp only [pL]
   refine tkE 10 (some 25) rfl rfl ?_ hS ?_ ?_; rotate_left; · rintro W' _ _; go_simp; try with_reducible rfl
   try simp only [pL]
   refine tkE 11 (some 26) rfl rfl ?_ hS ?_ ?_; rotate_left; · rintro W' _ _; go_simp; try with_reducible rfl
   try simp only [pL]
   refine tkE 13 (some 5) rfl rfl ?_ hS ?_ ?_; rotate_left; · rintro W' _ _; go_simp; try with_reducible rfl
   try simp only [pL]
   refine wpAnyH_ready (rs := [14]) (by kernel_rfl) (by simp) ?_
   refine AllReadyH.cons rfl (fun K hK => ?_) AllReadyH.nil
   have fz0 := blk_free 0 KKr
   have cz0 : w5.cell? ⟨br, 0, none⟩ = some _ := blk_cell KKr rfl
   have fz1 := blk_free 1 KKr
   have cz1 : w5.cell? ⟨br, 1, none⟩ = some _ := blk_cell KKr rfl
   have fz2 := blk_free 2 KKr
   have cz2 : w5.cell? ⟨br, 2, none⟩ = some _ := blk_cell KKr rfl
   have fz3 := blk_free 3 KKr
   have cz3 : w5.cell? ⟨br, 3, none⟩ = some _ := blk_cell KKr rfl
   obtain ⟨w6, hwn⟩ : ∃ w6, ((((w5.setCell ⟨br, 0, none⟩ (.int .i64 R.code)).setCell ⟨br, 1, none⟩ (.int .i64 R.val.kind)).setCell ⟨br, 2, none⟩ (.float .f64 R.val.num)).setCell ⟨br, 3, none⟩ (.string R.val.text)) = w6 := ⟨_, rfl⟩
   have hKn : w6.heap[br]? = some (.cells #[.int .i64 R.code, .int .i64 R.val.kind, .float .f64 R.val.num, .string R.val.text] 46 (0, 0)) := by rw [← hwn]; simp [World.setCell, Array.getElem?_modify, KKr]
   have hM : Mod (fun k => k = br) w5 w6 := by rw [← hwn]; exact mod_same (mod_same (mod_same (mod_same (Mod.refl _ _) _ _) _ _) _ _) _ _
   have hX : Ext w1 w6 := Mod.toExt ((Ext.mod hS (Since w1.heap.size)).trans hM (fun k _ e => by rw [e]; exact hcr))
   clear hS
   go_simp
   try rw [hwn]
   refine hK.out _ _ hX (fun hS => ?_)
   clear hK K hX hwn hM KKr fz0 cz0 fz1 cz1 fz2 cz2 fz3 cz3
   have KKr := hKn
   clear hKn
   try simp only [pL]
   refine wpAnyH_done (by kernel_rfl) ?_ _
   have hE := hS
   clear hS
   clear x_0 x_1 x_2 x_3 x_4 x_5 x_6 x_7 x_8 x_9 x_10 x_11 x_12 x_13 x_14 x_l
   have Kxw6 := Lib.hid (hE.blk Kxw1.out id)
   replace HC := Lib.hid (HC.out.ext hE)
   replace HX := Lib.hid (HX.out.ext hE)
   clear Kxw1
   clear hE
   have Krw6 := Lib.hid KKr
   clear KKr
   obtain ⟨x_0, x_1, x_2, x_3, x_4, x_5, x_6, x_7, x_8, x_9, x_10, x_11, x_12, x_13, x_14⟩ := cq15 Kxw6.out
   have x_l : bx < w6.heap.size := (Array.getElem?_eq_some_iff.1 Kxw6.out).1
   obtain ⟨r_0, r_1, r_2, r_3⟩ := cq4 Krw6.out
   have r_l : br < w6.heap.size := (Array.getElem?_eq_some_iff.1 Krw6.out).1
   rcases dn : decide (x.index ≤ (n : Int)) with _ | _
   ·
    go_wp2
    go_ret
    exact ⟨ret_bool (by rw [dn]; rfl), HX.out⟩
   ·
    go_wp2_with fail
    refine (k_reply R x.reply w6).mono ?_
    rintro e w7 ⟨rfl, hE⟩
    clear x_0 x_1 x_2 x_3 x_4 x_5 x_6 x_7 x_8 x_9 x_10 x_11 x_12 x_13 x_14 x_l r_0 r_1 r_2 r_3 r_l
    have Kxw7 := Lib.hid (hE.blk Kxw6.out id)
    have Krw7 := Lib.hid (hE.blk Krw6.out id)
    replace HC := Lib.hid (HC.out.ext hE)
    replace HX := Lib.hid (HX.out.ext hE)
    clear Kxw6
    clear Krw6
    clear hE
    obtain ⟨x_0, x_1, x_2, x_3, x_4, x_5, x_6, x_7, x_8, x_9, x_10, x_11, x_12, x_13, x_14⟩ := cq15 Kxw7.out
    have x_l : bx < w7.heap.size := (Array.getElem?_eq_some_iff.1 Kxw7.out).1
    obtain ⟨r_0, r_1, r_2, r_3⟩ := cq4 Krw7.out
    have r_l : br < w7.heap.size := (Array.getElem?_eq_some_iff.1 Krw7.out).1
    go_wp2
    go_ret
    exact ⟨ret_bool (by rw [dn]; rfl), HX.out⟩
 ·
  go_simp
  obtain ⟨br, hbn⟩ : ∃ br, w2.heap.size = br := ⟨_, rfl⟩
  obtain ⟨w3, hnw⟩ : ∃ w3, w3 = w2.alloc (.cells #[.int .i64 0, .int .i64 0, .float .f64 0, .string ⟨#[]⟩] 46) := ⟨_, rfl⟩
  have hE : Ext w2 w3 := by rw [hnw]; exact (Mod.refl _ _).alloc _
  have KKr : w3.heap[br]? = some (.cells #[.int .i64 0, .int .i64 0, .float .f64 0, .string ⟨#[]⟩] 46 (0, 0)) := by rw [hnw, ← hbn]; exact heap_alloc_new _ _
  have hbr : w.heap.size ≤ br := by have := (Mod.ext HX.out hS).size; omega
  have hcr : w1.heap.size ≤ br := by have := hS.size; omega
  rw [← hnw, hbn]
  clear hnw hbn
  have hX := Mod.ext hS hE
  clear hE hS
  refine hK.out _ _ hX (fun hS => ?_)
  clear hK K hX
  try simp only [pL]
  refine wpAnyH_ready (rs := [3]) (by kernel_rfl) (by simp) ?_
  refine AllReadyH.cons rfl (fun K hK => ?_) AllReadyH.nil
  go_simp
  go_wp2_with fail
  refine (r25_at w3 T _ l x.index (HC.out.ext hS) Hx.out.2.2).mono ?_
  rintro e w4 ⟨p1, v1, rfl, hN, hE⟩
  replace KKr := hE.blk KKr id
  obtain ⟨A1, c1, rfl⟩ := own_form hN.1.1
  obtain ⟨B1, d1, rfl⟩ := own_form hN.2.1.1
  have HP := Lib.hid hN.1.prs
  clear hN
  have hX := Mod.ext hS hE
  clear hE hS
  go_simp
  refine hK.out _ _ hX (fun hS => ?_)
  clear hK K hX
  try simp only [pL]
  refine tkE 4 (some 20) rfl rfl ?_ hS ?_ ?_; rotate_left; · rintro W' _ _; go_simp; try with_reducible rfl
  try simp only [pL]
  refine wpAnyH_ready (rs := [8]) (by kernel_rfl) (by simp) ?_
  refine AllReadyH.cons rfl (fun K hK => ?_) AllReadyH.nil
  go_simp
  go_wp2_with fail
  refine (r_do_at w4 _ _ _ x.call.cmd HP.out hm.1 Hx.out.1.2.2.2.2.2 HD.out).mono ?_
  rintro e w5 ⟨v2, rfl, hN, hE⟩
  replace HP := Lib.hid (HP.out.ext hE)
  replace KKr := hE.blk KKr id
  clear HP hN
  have hX := Mod.ext hS hE
  clear hE hS
  go_simp
  refine hK.out _ _ hX (fun hS => ?_)
  clear hK K hX
  try simp only [pL]
  refine tkE 9 (some 15) rfl rfl ?_ hS ?_ ?_; rotate_left; · rintro W' _ _; go_simp; try with_reducible rfl
  try simp only [pL]
  refine tkE 10 (some 25) rfl rfl ?_ hS ?_ ?_; rotate_left; · rintro W' _ _; go_simp; try with_reducible rfl
  try simp only [pL]
  refine tkE 11 (some 26) rfl rfl ?_ hS ?_ ?_; rotate_left; · rintro W' _ _; go_simp; try with_reducible rfl
  try simp only [pL]
  refine tkE 13 (some 5) rfl rfl ?_ hS ?_ ?_; rotate_left; · rintro W' _ _; go_simp; try with_reducible rfl
  try simp only [pL]
  refine wpAnyH_ready (rs := [14]) (by kernel_rfl) (by simp) ?_
  refine AllReadyH.cons rfl (fun K hK => ?_) AllReadyH.nil
  have fz0 := blk_free 0 KKr
  have cz0 : w5.cell? ⟨br, 0, none⟩ = some _ := blk_cell KKr rfl
  have fz1 := blk_free 1 KKr
  have cz1 : w5.cell? ⟨br, 1, none⟩ = some _ := blk_cell KKr rfl
  have fz2 := blk_free 2 KKr
  have cz2 : w5.cell? ⟨br, 2, none⟩ = some _ := blk_cell KKr rfl
  have fz3 := blk_free 3 KKr
  have cz3 : w5.cell? ⟨br, 3, none⟩ = some _ := blk_cell KKr rfl
  obtain ⟨w6, hwn⟩ : ∃ w6, ((((w5.setCell ⟨br, 0, none⟩ (.int .i64 R.code)).setCell ⟨br, 1, none⟩ (.int .i64 R.val.kind)).setCell ⟨br, 2, none⟩ (.float .f64 R.val.num)).setCell ⟨br, 3, none⟩ (.string R.val.text)) = w6 := ⟨_, rfl⟩
  have hKn : w6.heap[br]? = some (.cells #[.int .i64 R.code, .int .i64 R.val.kind, .float .f64 R.val.num, .string R.val.text] 46 (0, 0)) := by rw [← hwn]; simp [World.setCell, Array.getElem?_modify, KKr]
  have hM : Mod (fun k => k = br) w5 w6 := by rw [← hwn]; exact mod_same (mod_same (mod_same (mod_same (Mod.refl _ _) _ _) _ _) _ _) _ _
  have hX : Ext w1 w6 := Mod.toExt ((Ext.mod hS (Since w1.heap.size)).trans hM (fun k _ e => by rw [e]; exact hcr))
  clear hS
  go_simp
  try rw [hwn]
  refine hK.out _ _ hX (fun hS => ?_)
  clear hK K hX hwn hM KKr fz0 cz0 fz1 cz1 fz2 cz2 fz3 cz3
  have KKr := hKn
  clear hKn
  try simp only [pL]
  refine wpAnyH_done (by kernel_rfl) ?_ _
  have hE := hS
  clear hS
  clear x_0 x_1 x_2 x_3 x_4 x_5 x_6 x_7 x_8 x_9 x_10 x_11 x_12 x_13 x_14 x_l
  have Kxw6 := Lib.hid (hE.blk Kxw1.out id)
  replace HC := Lib.hid (HC.out.ext hE)
  replace HX := Lib.hid (HX.out.ext hE)
  clear Kxw1
  clear hE
  have Krw6 := Lib.hid KKr
  clear KKr
  obtain ⟨x_0, x_1, x_2, x_3, x_4, x_5, x_6, x_7, x_8, x_9, x_10, x_11, x_12, x_13, x_14⟩ := cq15 Kxw6.out
  have x_l : bx < w6.heap.size := (Array.getElem?_eq_some_iff.1 Kxw6.out).1
  obtain ⟨r_0, r_1, r_2, r_3⟩ := cq4 Krw6.out
  have r_l : br < w6.heap.size := (Array.getElem?_eq_some_iff.1 Krw6.out).1
  rcases dn : decide (x.index ≤ (n : Int)) with _ | _
  ·
   go_wp2
   go_ret
   exact ⟨ret_bool (by rw [dn]; rfl), HX.out⟩
  ·
   go_wp2_with fail
   refine (k_reply R x.reply w6).mono ?_
   rintro e w7 ⟨rfl, hE⟩
   clear x_0 x_1 x_2 x_3 x_4 x_5 x_6 x_7 x_8 x_9 x_10 x_11 x_12 x_13 x_14 x_l r_0 r_1 r_2 r_3 r_l
   have Kxw7 := Lib.hid (hE.blk Kxw6.out id)
   have Krw7 := Lib.hid (hE.blk Krw6.out id)
   replace HC := Lib.hid (HC.out.ext hE)
   replace HX := Lib.hid (HX.out.ext hE)
   clear Kxw6
   clear Krw6
   clear hE
   obtain ⟨x_0, x_1, x_2, x_3, x_4, x_5, x_6, x_7, x_8, x_9, x_10, x_11, x_12, x_13, x_14⟩ := cq15 Kxw7.out
   have x_l : bx < w7.heap.size := (Array.getElem?_eq_some_iff.1 Kxw7.out).1
   obtain ⟨r_0, r_1, r_2, r_3⟩ := cq4 Krw7.out
   have r_l : br < w7.heap.size := (Array.getElem?_eq_some_iff.1 Krw7.out).1
   go_wp2
   go_ret
   exact ⟨ret_bool (by rw [dn]; rfl), HX.out⟩
set_option maxRecDepth 100000 in
set_option maxHeartbeats 4000000 in
theorem r25_told_other (w : World) (T : Nat → Prop) (A : Option Addr) (n cc : Nat) (l : List AEntry) (x : ATold) (hC : Ents w T (.slice A n cc) l) (hn : l.length = n) (hx : x.ok) (hk : x.call.cmd.kind ≠ 1) :
  Calls Tryz.prog 16 #[.slice A n cc, .agg #[.int .i64 x.call.client, .int .i64 x.call.seq, .int .i64 x.call.cmd.kind, .string x.call.cmd.key, .int .i64 x.call.cmd.old.kind, .float .f64 x.call.cmd.old.num, .string x.call.cmd.old.text, .int .i64 x.call.cmd.val.kind, .float .f64 x.call.cmd.val.num, .string x.call.cmd.val.text, .int .i64 x.reply.code, .int .i64 x.reply.val.kind, .float .f64 x.reply.val.num, .string x.reply.val.text, .int .i64 x.index]] w fun e w' => e = .returned (.bool (toldP l x)) ∧ Ext w w' := by
 have hl := hC.1.le
 rw [hn] at hl
 unfold maxLen at hl
 have d1 : (x.call.cmd.kind == 1) = false := by simp [hk]
 obtain ⟨p, hp⟩ : ∃ p, placeH l x.call = p := ⟨_, rfl⟩
 have Hx := Lib.hid hx
 have Hp := Lib.hid hp
 have Hk := Lib.hid hk
 have hpl : p ≤ n := by
  rcases Nat.eq_zero_or_pos p with h | h
  ·
   omega
  ·
   have := placeH_le (l := l) (c := x.call) (by omega); omega
 clear hk hx hp
 by_cases h1 : p = 0
 ·
  have d2 : ((p : Int) == 0) = true := by simp; omega
  have d3 : (p == 0) = true := by simp; omega
  have Hf : Hid (toldP l x = false) := Lib.hid (by
   unfold toldP
   rw [if_neg Hk.out, Hp.out, h1]
   split
   ·
    rfl
   ·
    simp)
  clear h1
  have HX : Hid (Ext w w) := Lib.hid (Mod.refl _ w)
  have HC := Lib.hid hC
  clear hC
  go_enter Tryz.func16, Tryz.ntmps16
  go_wp2_with fail
  obtain ⟨w1, hw1⟩ : ∃ w1, w1 = w.alloc (.cells #[.int .i64 x.call.client, .int .i64 x.call.seq, .int .i64 x.call.cmd.kind, .string x.call.cmd.key, .int .i64 x.call.cmd.old.kind, .float .f64 x.call.cmd.old.num, .string x.call.cmd.old.text, .int .i64 x.call.cmd.val.kind, .float .f64 x.call.cmd.val.num, .string x.call.cmd.val.text, .int .i64 x.reply.code, .int .i64 x.reply.val.kind, .float .f64 x.reply.val.num, .string x.reply.val.text, .int .i64 x.index] 48) := ⟨_, rfl⟩
  obtain ⟨bx, hbx⟩ : ∃ bx, bx = w.heap.size := ⟨_, rfl⟩
  have hzz : w.heap.size = bx := hbx.symm
  have hE : Ext w w1 := by rw [hw1]; exact (Mod.refl _ w).alloc _
  have hKn : w1.heap[bx]? = some (.cells #[.int .i64 x.call.client, .int .i64 x.call.seq, .int .i64 x.call.cmd.kind, .string x.call.cmd.key, .int .i64 x.call.cmd.old.kind, .float .f64 x.call.cmd.old.num, .string x.call.cmd.old.text, .int .i64 x.call.cmd.val.kind, .float .f64 x.call.cmd.val.num, .string x.call.cmd.val.text, .int .i64 x.reply.code, .int .i64 x.reply.val.kind, .float .f64 x.reply.val.num, .string x.reply.val.text, .int .i64 x.index] 48 (0, 0)) := by rw [hw1, ← hzz]; exact heap_alloc_new w _
  have hzn : w1.heap.size = bx + 1 := by rw [hw1, ← hzz]; simp
  rw [← hw1, ← hbx]
  have HXo := HX
  replace HC := Lib.hid (HC.out.ext hE)
  replace HX := Lib.hid (HX.out.ext hE)
  have Kxw1 := Lib.hid hKn
  have hbz : w.heap.size ≤ bx := by have := HXo.out.size; omega
  clear hKn hE hw1 hbx HXo hzz
  have hbx := hbz
  clear hbz
  clear hzn
  refine (r25_place w1 T _ l x.call HC.out).mono ?_
  rintro e w2 ⟨rfl, hE⟩
  have Kxw2 := Lib.hid (hE.blk Kxw1.out id)
  replace HC := Lib.hid (HC.out.ext hE)
  replace HX := Lib.hid (HX.out.ext hE)
  clear Kxw1
  rw [Hp.out]
  clear hE
  obtain ⟨x_0, x_1, x_2, x_3, x_4, x_5, x_6, x_7, x_8, x_9, x_10, x_11, x_12, x_13, x_14⟩ := cq15 Kxw2.out
  have x_l : bx < w2.heap.size := (Array.getElem?_eq_some_iff.1 Kxw2.out).1
  go_wp2_with fail
  clear x_0 x_1 x_2 x_3 x_4 x_5 x_6 x_7 x_8 x_9 x_10 x_11 x_12 x_13 x_14 x_l
  obtain ⟨x_0, x_1, x_2, x_3, x_4, x_5, x_6, x_7, x_8, x_9, x_10, x_11, x_12, x_13, x_14⟩ := cq15 Kxw2.out
  have x_l : bx < w2.heap.size := (Array.getElem?_eq_some_iff.1 Kxw2.out).1
  refine wp_region_held_drew (S := fun W' => Ext w2 W') (by kernel_rfl) (Mod.refl _ w2).drew (fun hS => ?_)
  refine tkE 0 (some 42) rfl rfl ?_ hS ?_ ?_; rotate_left; · rintro W' _ _; go_simp; try with_reducible rfl
  try simp only [pL]
  refine tkE 1 (some 43) rfl rfl ?_ hS ?_ ?_; rotate_left; · rintro W' _ _; go_simp; try with_reducible rfl
  try simp only [pL]
  refine tkE 2 (some 44) rfl rfl ?_ hS ?_ ?_; rotate_left; · rintro W' _ _; go_simp; try with_reducible rfl
  try simp only [pL]
  refine tuH 3 (some 45) rfl rfl hS ?_
  try simp only [pL]
  refine tuH 4 (some 46) rfl rfl hS ?_
  try simp only [pL]
  refine tuH 5 (some 47) rfl rfl hS ?_
  try simp only [pL]
  refine tuH 6 (some 48) rfl rfl hS ?_
  try simp only [pL]
  refine tkE 7 (some 49) rfl rfl ?_ hS ?_ ?_; rotate_left; · rintro W' _ _; go_simp; try with_reducible rfl
  try simp only [pL]
  refine tkE 8 (some 50) rfl rfl ?_ hS ?_ ?_; rotate_left; · rintro W' _ _; go_simp; try with_reducible rfl
  try simp only [pL]
  refine tuH 9 (some 51) rfl rfl hS ?_
  try simp only [pL]
  refine tuH 10 (some 52) rfl rfl hS ?_
  try simp only [pL]
  refine tuH 11 (some 53) rfl rfl hS ?_
  try simp only [pL]
  refine tuH 12 (some 54) rfl rfl hS ?_
  try simp only [pL]
  refine tuH 13 (some 55) rfl rfl hS ?_
  try simp only [pL]
  refine tuH 14 (some 56) rfl rfl hS ?_
  try simp only [pL]
  refine tuH 15 (some 57) rfl rfl hS ?_
  try simp only [pL]
  refine tuH 16 (some 58) rfl rfl hS ?_
  try simp only [pL]
  refine tuH 17 (some 59) rfl rfl hS ?_
  try simp only [pL]
  refine tuH 18 (some 60) rfl rfl hS ?_
  try simp only [pL]
  refine tuH 19 (some 61) rfl rfl hS ?_
  try simp only [pL]
  refine tuH 20 (some 62) rfl rfl hS ?_
  try simp only [pL]
  refine tkE 21 (some 63) rfl rfl ?_ hS ?_ ?_; rotate_left; · rintro W' _ _; go_simp; try with_reducible rfl
  try simp only [pL]
  refine wpAnyH_done (by kernel_rfl) ?_ _
  obtain ⟨w3, hnw⟩ : ∃ w3, w3 = w2.drew := ⟨_, rfl⟩
  rw [← hnw]
  replace hS : Ext w2 w3 := by rw [hnw]; exact (Mod.refl _ _).drew
  clear hnw
  have hE := hS
  clear hS
  clear x_0 x_1 x_2 x_3 x_4 x_5 x_6 x_7 x_8 x_9 x_10 x_11 x_12 x_13 x_14 x_l
  have Kxw3 := Lib.hid (hE.blk Kxw2.out id)
  replace HC := Lib.hid (HC.out.ext hE)
  replace HX := Lib.hid (HX.out.ext hE)
  clear Kxw2
  clear hE
  obtain ⟨x_0, x_1, x_2, x_3, x_4, x_5, x_6, x_7, x_8, x_9, x_10, x_11, x_12, x_13, x_14⟩ := cq15 Kxw3.out
  have x_l : bx < w3.heap.size := (Array.getElem?_eq_some_iff.1 Kxw3.out).1
  go_wp2
  go_ret
  exact ⟨ret_bool Hf.out.symm, HX.out⟩
 have d2 : ((p : Int) == 0) = false := by simp; omega
 have d3 : (p == 0) = false := by simp; omega
 by_cases h2 : x.index < (p : Int)
 ·
  have d4 : decide ((p : Int) > x.index) = true := by simp; omega
  have d5 : decide (x.index < (p : Int)) = true := by simp; omega
  have Hf : Hid (toldP l x = false) := Lib.hid (by
   unfold toldP
   rw [if_neg Hk.out, Hp.out]
   split
   ·
    rfl
   ·
    rw [show decide ((p : Int) ≤ x.index) = false by simp; omega]
    simp)
  clear h2
  have HX : Hid (Ext w w) := Lib.hid (Mod.refl _ w)
  have HC := Lib.hid hC
  clear hC
  go_enter Tryz.func16, Tryz.ntmps16
  go_wp2_with fail
  obtain ⟨w1, hw1⟩ : ∃ w1, w1 = w.alloc (.cells #[.int .i64 x.call.client, .int .i64 x.call.seq, .int .i64 x.call.cmd.kind, .string x.call.cmd.key, .int .i64 x.call.cmd.old.kind, .float .f64 x.call.cmd.old.num, .string x.call.cmd.old.text, .int .i64 x.call.cmd.val.kind, .float .f64 x.call.cmd.val.num, .string x.call.cmd.val.text, .int .i64 x.reply.code, .int .i64 x.reply.val.kind, .float .f64 x.reply.val.num, .string x.reply.val.text, .int .i64 x.index] 48) := ⟨_, rfl⟩
  obtain ⟨bx, hbx⟩ : ∃ bx, bx = w.heap.size := ⟨_, rfl⟩
  have hzz : w.heap.size = bx := hbx.symm
  have hE : Ext w w1 := by rw [hw1]; exact (Mod.refl _ w).alloc _
  have hKn : w1.heap[bx]? = some (.cells #[.int .i64 x.call.client, .int .i64 x.call.seq, .int .i64 x.call.cmd.kind, .string x.call.cmd.key, .int .i64 x.call.cmd.old.kind, .float .f64 x.call.cmd.old.num, .string x.call.cmd.old.text, .int .i64 x.call.cmd.val.kind, .float .f64 x.call.cmd.val.num, .string x.call.cmd.val.text, .int .i64 x.reply.code, .int .i64 x.reply.val.kind, .float .f64 x.reply.val.num, .string x.reply.val.text, .int .i64 x.index] 48 (0, 0)) := by rw [hw1, ← hzz]; exact heap_alloc_new w _
  have hzn : w1.heap.size = bx + 1 := by rw [hw1, ← hzz]; simp
  rw [← hw1, ← hbx]
  have HXo := HX
  replace HC := Lib.hid (HC.out.ext hE)
  replace HX := Lib.hid (HX.out.ext hE)
  have Kxw1 := Lib.hid hKn
  have hbz : w.heap.size ≤ bx := by have := HXo.out.size; omega
  clear hKn hE hw1 hbx HXo hzz
  have hbx := hbz
  clear hbz
  clear hzn
  refine (r25_place w1 T _ l x.call HC.out).mono ?_
  rintro e w2 ⟨rfl, hE⟩
  have Kxw2 := Lib.hid (hE.blk Kxw1.out id)
  replace HC := Lib.hid (HC.out.ext hE)
  replace HX := Lib.hid (HX.out.ext hE)
  clear Kxw1
  rw [Hp.out]
  clear hE
  obtain ⟨x_0, x_1, x_2, x_3, x_4, x_5, x_6, x_7, x_8, x_9, x_10, x_11, x_12, x_13, x_14⟩ := cq15 Kxw2.out
  have x_l : bx < w2.heap.size := (Array.getElem?_eq_some_iff.1 Kxw2.out).1
  go_wp2_with fail
  clear x_0 x_1 x_2 x_3 x_4 x_5 x_6 x_7 x_8 x_9 x_10 x_11 x_12 x_13 x_14 x_l
  obtain ⟨x_0, x_1, x_2, x_3, x_4, x_5, x_6, x_7, x_8, x_9, x_10, x_11, x_12, x_13, x_14⟩ := cq15 Kxw2.out
  have x_l : bx < w2.heap.size := (Array.getElem?_eq_some_iff.1 Kxw2.out).1
  refine wp_region_held_drew (S := fun W' => Ext w2 W') (by kernel_rfl) (Mod.refl _ w2).drew (fun hS => ?_)
  refine tkE 0 (some 42) rfl rfl ?_ hS ?_ ?_; rotate_left; · rintro W' _ _; go_simp; try with_reducible rfl
  try simp only [pL]
  refine tkE 1 (some 43) rfl rfl ?_ hS ?_ ?_; rotate_left; · rintro W' _ _; go_simp; try with_reducible rfl
  try simp only [pL]
  refine tkE 2 (some 44) rfl rfl ?_ hS ?_ ?_; rotate_left; · rintro W' _ _; go_simp; try with_reducible rfl
  try simp only [pL]
  refine tkE 3 (some 45) rfl rfl ?_ hS ?_ ?_; rotate_left; · rintro W' _ _; go_simp; try with_reducible rfl
  try simp only [pL]
  refine tkE 4 (some 46) rfl rfl ?_ hS ?_ ?_; rotate_left; · rintro W' _ _; go_simp; try with_reducible rfl
  try simp only [pL]
  refine tkE 5 (some 47) rfl rfl ?_ hS ?_ ?_; rotate_left; · rintro W' _ _; go_simp; try with_reducible rfl
  try simp only [pL]
  refine tkE 6 (some 48) rfl rfl ?_ hS ?_ ?_; rotate_left; · rintro W' _ _; go_simp; try with_reducible rfl
  try simp only [pL]
  refine tkE 7 (some 49) rfl rfl ?_ hS ?_ ?_; rotate_left; · rintro W' _ _; go_simp; try with_reducible rfl
  try simp only [pL]
  refine tkE 8 (some 50) rfl rfl ?_ hS ?_ ?_; rotate_left; · rintro W' _ _; go_simp; try with_reducible rfl
  try simp only [pL]
  refine tuH 9 (some 51) rfl rfl hS ?_
  try simp only [pL]
  refine tuH 10 (some 52) rfl rfl hS ?_
  try simp only [pL]
  refine tuH 11 (some 53) rfl rfl hS ?_
  try simp only [pL]
  refine tuH 12 (some 54) rfl rfl hS ?_
  try simp only [pL]
  refine tuH 13 (some 55) rfl rfl hS ?_
  try simp only [pL]
  refine tuH 14 (some 56) rfl rfl hS ?_
  try simp only [pL]
  refine tuH 15 (some 57) rfl rfl hS ?_
  try simp only [pL]
  refine tuH 16 (some 58) rfl rfl hS ?_
  try simp only [pL]
  refine tuH 17 (some 59) rfl rfl hS ?_
  try simp only [pL]
  refine tuH 18 (some 60) rfl rfl hS ?_
  try simp only [pL]
  refine tuH 19 (some 61) rfl rfl hS ?_
  try simp only [pL]
  refine tuH 20 (some 62) rfl rfl hS ?_
  try simp only [pL]
  refine tkE 21 (some 63) rfl rfl ?_ hS ?_ ?_; rotate_left; · rintro W' _ _; go_simp; try with_reducible rfl
  try simp only [pL]
  refine wpAnyH_done (by kernel_rfl) ?_ _
  obtain ⟨w3, hnw⟩ : ∃ w3, w3 = w2.drew := ⟨_, rfl⟩
  rw [← hnw]
  replace hS : Ext w2 w3 := by rw [hnw]; exact (Mod.refl _ _).drew
  clear hnw
  have hE := hS
  clear hS
  clear x_0 x_1 x_2 x_3 x_4 x_5 x_6 x_7 x_8 x_9 x_10 x_11 x_12 x_13 x_14 x_l
  have Kxw3 := Lib.hid (hE.blk Kxw2.out id)
  replace HC := Lib.hid (HC.out.ext hE)
  replace HX := Lib.hid (HX.out.ext hE)
  clear Kxw2
  clear hE
  obtain ⟨x_0, x_1, x_2, x_3, x_4, x_5, x_6, x_7, x_8, x_9, x_10, x_11, x_12, x_13, x_14⟩ := cq15 Kxw3.out
  have x_l : bx < w3.heap.size := (Array.getElem?_eq_some_iff.1 Kxw3.out).1
  go_wp2
  go_ret
  exact ⟨ret_bool Hf.out.symm, HX.out⟩
 have d4 : decide ((p : Int) > x.index) = false := by simp; omega
 have d5 : decide (x.index < (p : Int)) = false := by simp; omega
 obtain ⟨j, hj⟩ : ∃ j, p - 1 = j := ⟨_, rfl⟩
 have hw1 : IntKind.i64.wrap ((p : Int) - 1) = (j : Int) := by rw [IntWalk.i64_in _ (by omega)]; omega
 have j0 : (0 : Int) ≤ (j : Int) := by omega
 have j1 : (j : Int) < (n : Int) := by omega
 obtain ⟨g, off, y, rfl, hgT, hy, hyok, hcells⟩ := hC.at (i := j) (by omega)
 have z4 := hcells 4 _ rfl
 have z5 := hcells 5 _ rfl
 have z6 := hcells 6 _ rfl
 have z7 := hcells 7 _ rfl
 have z8 := hcells 8 _ rfl
 have z9 := hcells 9 _ rfl
 have z10 := hcells 10 _ rfl
 have z11 := hcells 11 _ rfl
 have gl : g < w.heap.size := World.block_lt_of_cell? _ _ z4
 obtain ⟨sq, hsq⟩ : ∃ sq, (lastS (atP l (p : Int)).sess x.call.client).1 = sq := ⟨_, rfl⟩
 obtain ⟨R, hR⟩ : ∃ R, (lastS (atP l (p : Int)).sess x.call.client).2 = R := ⟨_, rfl⟩
 have Hq : Hid (toldP l x = (eqCmd y.call.cmd x.call.cmd && (sq == x.call.seq && eqReply R x.reply))) := Lib.hid (by
  unfold toldP
  rw [if_neg Hk.out, Hp.out, hj, hy]
  simp only
  rw [hsq, hR, show decide (1 ≤ p) = true by simp; omega, show decide ((p : Int) ≤ x.index) = true by simp; omega]
  rfl)
 have Hsq := Lib.hid hsq
 have HR := Lib.hid hR
 have hp64 : I64 (p : Int) := by unfold I64; omega
 have Hp64 := Lib.hid hp64
 clear h1 h2 hj hsq hR hgT hy hyok hcells hp64
 have HX : Hid (Ext w w) := Lib.hid (Mod.refl _ w)
 have HC := Lib.hid hC
 clear hC
 go_enter Tryz.func16, Tryz.ntmps16
 have zz := gl
 clear zz
 go_wp2_with fail
 obtain ⟨w1, hw1⟩ : ∃ w1, w1 = w.alloc (.cells #[.int .i64 x.call.client, .int .i64 x.call.seq, .int .i64 x.call.cmd.kind, .string x.call.cmd.key, .int .i64 x.call.cmd.old.kind, .float .f64 x.call.cmd.old.num, .string x.call.cmd.old.text, .int .i64 x.call.cmd.val.kind, .float .f64 x.call.cmd.val.num, .string x.call.cmd.val.text, .int .i64 x.reply.code, .int .i64 x.reply.val.kind, .float .f64 x.reply.val.num, .string x.reply.val.text, .int .i64 x.index] 48) := ⟨_, rfl⟩
 obtain ⟨bx, hbx⟩ : ∃ bx, bx = w.heap.size := ⟨_, rfl⟩
 have hzz : w.heap.size = bx := hbx.symm
 have hE : Ext w w1 := by rw [hw1]; exact (Mod.refl _ w).alloc _
 have hKn : w1.heap[bx]? = some (.cells #[.int .i64 x.call.client, .int .i64 x.call.seq, .int .i64 x.call.cmd.kind, .string x.call.cmd.key, .int .i64 x.call.cmd.old.kind, .float .f64 x.call.cmd.old.num, .string x.call.cmd.old.text, .int .i64 x.call.cmd.val.kind, .float .f64 x.call.cmd.val.num, .string x.call.cmd.val.text, .int .i64 x.reply.code, .int .i64 x.reply.val.kind, .float .f64 x.reply.val.num, .string x.reply.val.text, .int .i64 x.index] 48 (0, 0)) := by rw [hw1, ← hzz]; exact heap_alloc_new w _
 have hzn : w1.heap.size = bx + 1 := by rw [hw1, ← hzz]; simp
 rw [← hw1, ← hbx]
 have HXo := HX
 replace HC := Lib.hid (HC.out.ext hE)
 replace z4 := hE.cell z4 id
 replace z5 := hE.cell z5 id
 replace z6 := hE.cell z6 id
 replace z7 := hE.cell z7 id
 replace z8 := hE.cell z8 id
 replace z9 := hE.cell z9 id
 replace z10 := hE.cell z10 id
 replace z11 := hE.cell z11 id
 replace HX := Lib.hid (HX.out.ext hE)
 have Kxw1 := Lib.hid hKn
 have hbz : w.heap.size ≤ bx := by have := HXo.out.size; omega
 clear hKn hE hw1 hbx HXo hzz
 have hbx := hbz
 clear hbz
 clear hzn
 refine (r25_place w1 T _ l x.call HC.out).mono ?_
 rintro e w2 ⟨rfl, hE⟩
 have Kxw2 := Lib.hid (hE.blk Kxw1.out id)
 replace HC := Lib.hid (HC.out.ext hE)
 replace z4 := hE.cell z4 id
 replace z5 := hE.cell z5 id
 replace z6 := hE.cell z6 id
 replace z7 := hE.cell z7 id
 replace z8 := hE.cell z8 id
 replace z9 := hE.cell z9 id
 replace z10 := hE.cell z10 id
 replace z11 := hE.cell z11 id
 replace HX := Lib.hid (HX.out.ext hE)
 clear Kxw1
 rw [Hp.out]
 clear hE
 obtain ⟨x_0, x_1, x_2, x_3, x_4, x_5, x_6, x_7, x_8, x_9, x_10, x_11, x_12, x_13, x_14⟩ := cq15 Kxw2.out
 have x_l : bx < w2.heap.size := (Array.getElem?_eq_some_iff.1 Kxw2.out).1
 have gl2 : g < w2.heap.size := World.block_lt_of_cell? _ _ z4
 clear gl
 rcases hc : eqCmd y.call.cmd x.call.cmd with _ | _
 ·
  have Hf : Hid (toldP l x = false) := Lib.hid (by rw [Hq.out, hc]; rfl)
  go_wp2_with fail
  clear x_0 x_1 x_2 x_3 x_4 x_5 x_6 x_7 x_8 x_9 x_10 x_11 x_12 x_13 x_14 x_l
  obtain ⟨x_0, x_1, x_2, x_3, x_4, x_5, x_6, x_7, x_8, x_9, x_10, x_11, x_12, x_13, x_14⟩ := cq15 Kxw2.out
  have x_l : bx < w2.heap.size := (Array.getElem?_eq_some_iff.1 Kxw2.out).1
  refine wp_region_held_drew (S := fun W' => Ext w2 W') (by kernel_rfl) (Mod.refl _ w2).drew (fun hS => ?_)
  refine tkE 0 (some 42) rfl rfl ?_ hS ?_ ?_; rotate_left; · rintro W' _ _; go_simp; try with_reducible rfl
  try simp only [pL]
  refine tkE 1 (some 43) rfl rfl ?_ hS ?_ ?_; rotate_left; · rintro W' _ _; go_simp; try with_reducible rfl
  try simp only [pL]
  refine tkE 2 (some 44) rfl rfl ?_ hS ?_ ?_; rotate_left; · rintro W' _ _; go_simp; try with_reducible rfl
  try simp only [pL]
  refine tkE 3 (some 45) rfl rfl ?_ hS ?_ ?_; rotate_left; · rintro W' _ _; go_simp; try with_reducible rfl
  try simp only [pL]
  refine tkE 4 (some 46) rfl rfl ?_ hS ?_ ?_; rotate_left; · rintro W' _ _; go_simp; try with_reducible rfl
  try simp only [pL]
  refine tkE 5 (some 47) rfl rfl ?_ hS ?_ ?_; rotate_left; · rintro W' _ _; go_simp; try with_reducible rfl
  try simp only [pL]
  refine tkE 6 (some 48) rfl rfl ?_ hS ?_ ?_; rotate_left; · rintro W' _ _; go_simp; try with_reducible rfl
  try simp only [pL]
  refine tkE 7 (some 49) rfl rfl ?_ hS ?_ ?_; rotate_left; · rintro W' _ _; go_simp; try with_reducible rfl
  try simp only [pL]
  refine tkE 8 (some 50) rfl rfl ?_ hS ?_ ?_; rotate_left; · rintro W' _ _; go_simp; try with_reducible rfl
  try simp only [pL]
  refine tkE 9 (some 51) rfl rfl ?_ hS ?_ ?_; rotate_left; · rintro W' _ _; go_simp; try with_reducible rfl
  try simp only [pL]
  refine tkE 10 (some 52) rfl rfl ?_ hS ?_ ?_; rotate_left; · rintro W' _ _; go_simp; try with_reducible rfl
  try simp only [pL]
  refine tkE 11 (some 53) rfl rfl ?_ hS ?_ ?_; rotate_left; · rintro W' _ _; go_simp; try with_reducible rfl
  try simp only [pL]
  refine tkE 12 (some 54) rfl rfl ?_ hS ?_ ?_; rotate_left; · rintro W' _ _; go_simp; try with_reducible rfl
  try simp only [pL]
  refine tkE 13 (some 55) rfl rfl ?_ hS ?_ ?_; rotate_left; · rintro W' _ _; go_simp; try with_reducible rfl
  try simp only [pL]
  refine tkE 14 (some 56) rfl rfl ?_ hS ?_ ?_; rotate_left; · rintro W' _ _; go_simp; try with_reducible rfl
  try simp only [pL]
  refine tkE 15 (some 57) rfl rfl ?_ hS ?_ ?_; rotate_left; · rintro W' _ _; go_simp; try with_reducible rfl
  try simp only [pL]
  refine tkE 16 (some 58) rfl rfl ?_ hS ?_ ?_; rotate_left; · rintro W' _ _; go_simp; try with_reducible rfl
  try simp only [pL]
  refine tkE 17 (some 59) rfl rfl ?_ hS ?_ ?_; rotate_left; · rintro W' _ _; go_simp; try with_reducible rfl
  try simp only [pL]
  refine tkE 18 (some 60) rfl rfl ?_ hS ?_ ?_; rotate_left; · rintro W' _ _; go_simp; try with_reducible rfl
  try simp only [pL]
  refine wpAnyH_ready (rs := [19]) (by kernel_rfl) (by simp) ?_
  refine AllReadyH.cons rfl (fun K hK => ?_) AllReadyH.nil
  go_simp
  go_wp2_with fail
  refine (k_cmdH y.call.cmd x.call.cmd _).mono ?_
  rintro e w3 ⟨rfl, hE⟩
  rw [hc]
  have hX := Mod.ext hS hE
  clear hE hS
  go_simp
  refine hK.out _ _ hX (fun hS => ?_)
  clear hK K hX
  refine tkE 20 (some 62) rfl rfl ?_ hS ?_ ?_; rotate_left; · rintro W' _ _; go_simp; try with_reducible rfl
  try simp only [pL]
  refine tkE 21 (some 63) rfl rfl ?_ hS ?_ ?_; rotate_left; · rintro W' _ _; go_simp; try with_reducible rfl
  try simp only [pL]
  refine wpAnyH_done (by kernel_rfl) ?_ _
  have hE := hS
  clear hS
  clear x_0 x_1 x_2 x_3 x_4 x_5 x_6 x_7 x_8 x_9 x_10 x_11 x_12 x_13 x_14 x_l
  have Kxw3 := Lib.hid (hE.blk Kxw2.out id)
  replace HC := Lib.hid (HC.out.ext hE)
  replace z4 := hE.cell z4 id
  replace z5 := hE.cell z5 id
  replace z6 := hE.cell z6 id
  replace z7 := hE.cell z7 id
  replace z8 := hE.cell z8 id
  replace z9 := hE.cell z9 id
  replace z10 := hE.cell z10 id
  replace z11 := hE.cell z11 id
  replace HX := Lib.hid (HX.out.ext hE)
  clear Kxw2
  clear hE
  obtain ⟨x_0, x_1, x_2, x_3, x_4, x_5, x_6, x_7, x_8, x_9, x_10, x_11, x_12, x_13, x_14⟩ := cq15 Kxw3.out
  have x_l : bx < w3.heap.size := (Array.getElem?_eq_some_iff.1 Kxw3.out).1
  go_wp2
  go_ret
  exact ⟨ret_bool Hf.out.symm, HX.out⟩
 ·
  have Hf : Hid (toldP l x = (sq == x.call.seq && eqReply R x.reply)) := Lib.hid (by rw [Hq.out, hc]; rfl)
  go_wp2_with fail
  clear x_0 x_1 x_2 x_3 x_4 x_5 x_6 x_7 x_8 x_9 x_10 x_11 x_12 x_13 x_14 x_l
  obtain ⟨x_0, x_1, x_2, x_3, x_4, x_5, x_6, x_7, x_8, x_9, x_10, x_11, x_12, x_13, x_14⟩ := cq15 Kxw2.out
  have x_l : bx < w2.heap.size := (Array.getElem?_eq_some_iff.1 Kxw2.out).1
  refine wp_region_held_drew (S := fun W' => Ext w2 W') (by kernel_rfl) (Mod.refl _ w2).drew (fun hS => ?_)
  refine tkE 0 (some 42) rfl rfl ?_ hS ?_ ?_; rotate_left; · rintro W' _ _; go_simp; try with_reducible rfl
  try simp only [pL]
  refine tkE 1 (some 43) rfl rfl ?_ hS ?_ ?_; rotate_left; · rintro W' _ _; go_simp; try with_reducible rfl
  try simp only [pL]
  refine tkE 2 (some 44) rfl rfl ?_ hS ?_ ?_; rotate_left; · rintro W' _ _; go_simp; try with_reducible rfl
  try simp only [pL]
  refine tkE 3 (some 45) rfl rfl ?_ hS ?_ ?_; rotate_left; · rintro W' _ _; go_simp; try with_reducible rfl
  try simp only [pL]
  refine tkE 4 (some 46) rfl rfl ?_ hS ?_ ?_; rotate_left; · rintro W' _ _; go_simp; try with_reducible rfl
  try simp only [pL]
  refine tkE 5 (some 47) rfl rfl ?_ hS ?_ ?_; rotate_left; · rintro W' _ _; go_simp; try with_reducible rfl
  try simp only [pL]
  refine tkE 6 (some 48) rfl rfl ?_ hS ?_ ?_; rotate_left; · rintro W' _ _; go_simp; try with_reducible rfl
  try simp only [pL]
  refine tkE 7 (some 49) rfl rfl ?_ hS ?_ ?_; rotate_left; · rintro W' _ _; go_simp; try with_reducible rfl
  try simp only [pL]
  refine tkE 8 (some 50) rfl rfl ?_ hS ?_ ?_; rotate_left; · rintro W' _ _; go_simp; try with_reducible rfl
  try simp only [pL]
  refine tkE 9 (some 51) rfl rfl ?_ hS ?_ ?_; rotate_left; · rintro W' _ _; go_simp; try with_reducible rfl
  try simp only [pL]
  refine tkE 10 (some 52) rfl rfl ?_ hS ?_ ?_; rotate_left; · rintro W' _ _; go_simp; try with_reducible rfl
  try simp only [pL]
  refine tkE 11 (some 53) rfl rfl ?_ hS ?_ ?_; rotate_left; · rintro W' _ _; go_simp; try with_reducible rfl
  try simp only [pL]
  refine tkE 12 (some 54) rfl rfl ?_ hS ?_ ?_; rotate_left; · rintro W' _ _; go_simp; try with_reducible rfl
  try simp only [pL]
  refine tkE 13 (some 55) rfl rfl ?_ hS ?_ ?_; rotate_left; · rintro W' _ _; go_simp; try with_reducible rfl
  try simp only [pL]
  refine tkE 14 (some 56) rfl rfl ?_ hS ?_ ?_; rotate_left; · rintro W' _ _; go_simp; try with_reducible rfl
  try simp only [pL]
  refine tkE 15 (some 57) rfl rfl ?_ hS ?_ ?_; rotate_left; · rintro W' _ _; go_simp; try with_reducible rfl
  try simp only [pL]
  refine tkE 16 (some 58) rfl rfl ?_ hS ?_ ?_; rotate_left; · rintro W' _ _; go_simp; try with_reducible rfl
  try simp only [pL]
  refine tkE 17 (some 59) rfl rfl ?_ hS ?_ ?_; rotate_left; · rintro W' _ _; go_simp; try with_reducible rfl
  try simp only [pL]
  refine tkE 18 (some 60) rfl rfl ?_ hS ?_ ?_; rotate_left; · rintro W' _ _; go_simp; try with_reducible rfl
  try simp only [pL]
  refine wpAnyH_ready (rs := [19]) (by kernel_rfl) (by simp) ?_
  refine AllReadyH.cons rfl (fun K hK => ?_) AllReadyH.nil
  go_simp
  go_wp2_with fail
  refine (k_cmdH y.call.cmd x.call.cmd _).mono ?_
  rintro e w3 ⟨rfl, hE⟩
  rw [hc]
  have hX := Mod.ext hS hE
  clear hE hS
  go_simp
  refine hK.out _ _ hX (fun hS => ?_)
  clear hK K hX
  refine tkE 20 (some 62) rfl rfl ?_ hS ?_ ?_; rotate_left; · rintro W' _ _; go_simp; try with_reducible rfl
  try simp only [pL]
  refine tkE 21 (some 63) rfl rfl ?_ hS ?_ ?_; rotate_left; · rintro W' _ _; go_simp; try with_reducible rfl
  try simp only [pL]
  refine wpAnyH_done (by kernel_rfl) ?_ _
  have hE := hS
  clear hS
  clear x_0 x_1 x_2 x_3 x_4 x_5 x_6 x_7 x_8 x_9 x_10 x_11 x_12 x_13 x_14 x_l
  have Kxw3 := Lib.hid (hE.blk Kxw2.out id)
  replace HC := Lib.hid (HC.out.ext hE)
  replace z4 := hE.cell z4 id
  replace z5 := hE.cell z5 id
  replace z6 := hE.cell z6 id
  replace z7 := hE.cell z7 id
  replace z8 := hE.cell z8 id
  replace z9 := hE.cell z9 id
  replace z10 := hE.cell z10 id
  replace z11 := hE.cell z11 id
  replace HX := Lib.hid (HX.out.ext hE)
  clear Kxw2
  clear hE
  obtain ⟨x_0, x_1, x_2, x_3, x_4, x_5, x_6, x_7, x_8, x_9, x_10, x_11, x_12, x_13, x_14⟩ := cq15 Kxw3.out
  have x_l : bx < w3.heap.size := (Array.getElem?_eq_some_iff.1 Kxw3.out).1
  clear hw1 gl2 z4 z5 z6 z7 z8 z9 z10 z11
  go_wp2_with fail
  clear x_0 x_1 x_2 x_3 x_4 x_5 x_6 x_7 x_8 x_9 x_10 x_11 x_12 x_13 x_14 x_l
  obtain ⟨x_0, x_1, x_2, x_3, x_4, x_5, x_6, x_7, x_8, x_9, x_10, x_11, x_12, x_13, x_14⟩ := cq15 Kxw3.out
  have x_l : bx < w3.heap.size := (Array.getElem?_eq_some_iff.1 Kxw3.out).1
  refine wp_region_held_drew (S := fun W' => Ext w3 W') (by kernel_rfl) (Mod.refl _ w3).drew (fun hS => ?_)
  refine tkE 0 (some 65) rfl rfl ?_ hS ?_ ?_; rotate_left; · rintro W' _ _; go_simp; try with_reducible rfl
  try simp only [pL]
  refine tkE 1 (some 66) rfl rfl ?_ hS ?_ ?_; rotate_left; · rintro W' _ _; go_simp; try with_reducible rfl
  try simp only [pL]
  refine tkE 3 (some 68) rfl rfl ?_ hS ?_ ?_; rotate_left; · rintro W' _ _; go_simp; try with_reducible rfl
  try simp only [pL]
  refine tkE 4 (some 69) rfl rfl ?_ hS ?_ ?_; rotate_left; · rintro W' _ _; go_simp; try with_reducible rfl
  try simp only [pL]
  refine tkE 5 (some 70) rfl rfl ?_ hS ?_ ?_; rotate_left; · rintro W' _ _; go_simp; try with_reducible rfl
  try simp only [pL]
  obtain ⟨w4, hnw⟩ : ∃ w4, w4 = w3.drew := ⟨_, rfl⟩
  rw [← hnw] at hS ⊢
  clear hnw
  refine wpAnyH_ready (rs := [2, 10]) (by kernel_rfl) (by simp) ?_
  refine AllReadyH.cons rfl (fun K hK => ?_) (AllReadyH.cons rfl (fun K hK => ?_) AllReadyH.nil)
  ·
   go_simp
   go_wp2_with fail
   refine (r25_at w4 T _ l (p : Int) (HC.out.ext hS) Hp64.out).mono ?_
   rintro e w5 ⟨p1, v1, rfl, hN, hE⟩
   obtain ⟨A1, c1, rfl⟩ := own_form hN.1.1
   obtain ⟨B1, d1, rfl⟩ := own_form hN.2.1.1
   have HS := Lib.hid hN.2.1.ses
   clear hN
   have hX := Mod.ext hS hE
   clear hE hS
   go_simp
   refine hK.out _ _ hX (fun hS => ?_)
   clear hK K hX
   try simp only [pL]
   refine wpAnyH_ready (rs := [6, 10]) (by kernel_rfl) (by simp) ?_
   refine AllReadyH.cons rfl (fun K hK => ?_) (AllReadyH.cons rfl (fun K hK => ?_) AllReadyH.nil)
   ·
    go_simp
    go_wp2_with fail
    refine (r_last w5 _ _ _ _ x.call.client HS.out).mono ?_
    rintro e w6 ⟨rfl, hE⟩
    replace HS := Lib.hid (HS.out.ext hE)
    rw [Hsq.out, HR.out]
    clear HS
    have hX := Mod.ext hS hE
    clear hE hS
    go_simp
    refine hK.out _ _ hX (fun hS => ?_)
    clear hK K hX
    try simp only [pL]
    refine tkE 7 (some 64) rfl rfl ?_ hS ?_ ?_; rotate_left; · rintro W' _ _; go_simp; try with_reducible rfl
    try simp only [pL]
    refine tkE 8 (some 72) rfl rfl ?_ hS ?_ ?_; rotate_left; · rintro W' _ _; go_simp; try with_reducible rfl
    try simp only [pL]
    refine tkE 9 (some 73) rfl rfl ?_ hS ?_ ?_; rotate_left; · rintro W' _ _; go_simp; try with_reducible rfl
    try simp only [pL]
    refine wpAnyH_ready (rs := [10]) (by kernel_rfl) (by simp) ?_
    refine AllReadyH.cons rfl (fun K hK => ?_) AllReadyH.nil
    go_simp
    obtain ⟨br, hbn⟩ : ∃ br, w6.heap.size = br := ⟨_, rfl⟩
    obtain ⟨w7, hnw⟩ : ∃ w7, w7 = w6.alloc (.cells #[.int .i64 0, .int .i64 0, .float .f64 0, .string ⟨#[]⟩] 46) := ⟨_, rfl⟩
    have hE : Ext w6 w7 := by rw [hnw]; exact (Mod.refl _ _).alloc _
    have KKr : w7.heap[br]? = some (.cells #[.int .i64 0, .int .i64 0, .float .f64 0, .string ⟨#[]⟩] 46 (0, 0)) := by rw [hnw, ← hbn]; exact heap_alloc_new _ _
    have hbr : w.heap.size ≤ br := by have := (Mod.ext HX.out hS).size; omega
    have hcr : w3.heap.size ≤ br := by have := hS.size; omega
    rw [← hnw, hbn]
    clear hnw hbn
    have hX := Mod.ext hS hE
    clear hE hS
    refine hK.out _ _ hX (fun hS => ?_)
    clear hK K hX
    try simp only [pL]
    refine tkE 11 (some 8) rfl rfl ?_ hS ?_ ?_; rotate_left; · rintro W' _ _; go_simp; try with_reducible rfl
    try simp only [pL]
    refine wpAnyH_ready (rs := [12]) (by kernel_rfl) (by simp) ?_
    refine AllReadyH.cons rfl (fun K hK => ?_) AllReadyH.nil
    have fz0 := blk_free 0 KKr
    have cz0 : w7.cell? ⟨br, 0, none⟩ = some _ := blk_cell KKr rfl
    have fz1 := blk_free 1 KKr
    have cz1 : w7.cell? ⟨br, 1, none⟩ = some _ := blk_cell KKr rfl
    have fz2 := blk_free 2 KKr
    have cz2 : w7.cell? ⟨br, 2, none⟩ = some _ := blk_cell KKr rfl
    have fz3 := blk_free 3 KKr
    have cz3 : w7.cell? ⟨br, 3, none⟩ = some _ := blk_cell KKr rfl
    obtain ⟨w8, hwn⟩ : ∃ w8, ((((w7.setCell ⟨br, 0, none⟩ (.int .i64 R.code)).setCell ⟨br, 1, none⟩ (.int .i64 R.val.kind)).setCell ⟨br, 2, none⟩ (.float .f64 R.val.num)).setCell ⟨br, 3, none⟩ (.string R.val.text)) = w8 := ⟨_, rfl⟩
    have hKn : w8.heap[br]? = some (.cells #[.int .i64 R.code, .int .i64 R.val.kind, .float .f64 R.val.num, .string R.val.text] 46 (0, 0)) := by rw [← hwn]; simp [World.setCell, Array.getElem?_modify, KKr]
    have hM : Mod (fun k => k = br) w7 w8 := by rw [← hwn]; exact mod_same (mod_same (mod_same (mod_same (Mod.refl _ _) _ _) _ _) _ _) _ _
    have hX : Ext w3 w8 := Mod.toExt ((Ext.mod hS (Since w3.heap.size)).trans hM (fun k _ e => by rw [e]; exact hcr))
    clear hS
    go_simp
    try rw [hwn]
    refine hK.out _ _ hX (fun hS => ?_)
    clear hK K hX hwn hM KKr fz0 cz0 fz1 cz1 fz2 cz2 fz3 cz3
    have KKr := hKn
    clear hKn
    try simp only [pL]
    refine wpAnyH_done (by kernel_rfl) ?_ _
    have hE := hS
    clear hS
    clear x_0 x_1 x_2 x_3 x_4 x_5 x_6 x_7 x_8 x_9 x_10 x_11 x_12 x_13 x_14 x_l
    have Kxw8 := Lib.hid (hE.blk Kxw3.out id)
    replace HC := Lib.hid (HC.out.ext hE)
    replace HX := Lib.hid (HX.out.ext hE)
    clear Kxw3
    clear hE
    have Krw8 := Lib.hid KKr
    clear KKr
    obtain ⟨x_0, x_1, x_2, x_3, x_4, x_5, x_6, x_7, x_8, x_9, x_10, x_11, x_12, x_13, x_14⟩ := cq15 Kxw8.out
    have x_l : bx < w8.heap.size := (Array.getElem?_eq_some_iff.1 Kxw8.out).1
    obtain ⟨r_0, r_1, r_2, r_3⟩ := cq4 Krw8.out
    have r_l : br < w8.heap.size := (Array.getElem?_eq_some_iff.1 Krw8.out).1
    rcases dn : (sq == x.call.seq) with _ | _
    ·
     go_wp2
     go_ret
     exact ⟨ret_bool (by rw [Hf.out]; first | (rw [dn]; rfl) | rfl), HX.out⟩
    ·
     go_wp2_with fail
     refine (k_reply R x.reply w8).mono ?_
     rintro e w9 ⟨rfl, hE⟩
     clear x_0 x_1 x_2 x_3 x_4 x_5 x_6 x_7 x_8 x_9 x_10 x_11 x_12 x_13 x_14 x_l r_0 r_1 r_2 r_3 r_l
     have Kxw9 := Lib.hid (hE.blk Kxw8.out id)
     have Krw9 := Lib.hid (hE.blk Krw8.out id)
     replace HC := Lib.hid (HC.out.ext hE)
     replace HX := Lib.hid (HX.out.ext hE)
     clear Kxw8
     clear Krw8
     clear hE
     obtain ⟨x_0, x_1, x_2, x_3, x_4, x_5, x_6, x_7, x_8, x_9, x_10, x_11, x_12, x_13, x_14⟩ := cq15 Kxw9.out
     have x_l : bx < w9.heap.size := (Array.getElem?_eq_some_iff.1 Kxw9.out).1
     obtain ⟨r_0, r_1, r_2, r_3⟩ := cq4 Krw9.out
     have r_l : br < w9.heap.size := (Array.getElem?_eq_some_iff.1 Krw9.out).1
     go_wp2
     go_ret
     exact ⟨ret_bool (by rw [Hf.out]; first | (rw [dn]; rfl) | rfl), HX.out⟩
   ·
    go_simp
    obtain ⟨br, hbn⟩ : ∃ br, w5.heap.size = br := ⟨_, rfl⟩
    obtain ⟨w6, hnw⟩ : ∃ w6, w6 = w5.alloc (.cells #[.int .i64 0, .int .i64 0, .float .f64 0, .string ⟨#[]⟩] 46) := ⟨_, rfl⟩
    have hE : Ext w5 w6 := by rw [hnw]; exact (Mod.refl _ _).alloc _
    have KKr : w6.heap[br]? = some (.cells #[.int .i64 0, .int .i64 0, .float .f64 0, .string ⟨#[]⟩] 46 (0, 0)) := by rw [hnw, ← hbn]; exact heap_alloc_new _ _
    have hbr : w.heap.size ≤ br := by have := (Mod.ext HX.out hS).size; omega
    have hcr : w3.heap.size ≤ br := by have := hS.size; omega
    rw [← hnw, hbn]
    clear hnw hbn
    replace HS := Lib.hid (HS.out.ext hE)
    have hX := Mod.ext hS hE
    clear hE hS
    refine hK.out _ _ hX (fun hS => ?_)
    clear hK K hX
    try simp only [pL]
    refine wpAnyH_ready (rs := [6]) (by kernel_rfl) (by simp) ?_
    refine AllReadyH.cons rfl (fun K hK => ?_) AllReadyH.nil
    go_simp
    go_wp2_with fail
    refine (r_last w6 _ _ _ _ x.call.client HS.out).mono ?_
    rintro e w7 ⟨rfl, hE⟩
    replace HS := Lib.hid (HS.out.ext hE)
    replace KKr := hE.blk KKr id
    rw [Hsq.out, HR.out]
    clear HS
    have hX := Mod.ext hS hE
    clear hE hS
    go_simp
    refine hK.out _ _ hX (fun hS => ?_)
    clear hK K hX
    try simp only [pL]
    refine tkE 7 (some 64) rfl rfl ?_ hS ?_ ?_; rotate_left; · rintro W' _ _; go_simp; try with_reducible rfl
    try simp only [pL]
    refine tkE 8 (some 72) rfl rfl ?_ hS ?_ ?_; rotate_left; · rintro W' _ _; go_simp; try with_reducible rfl
    try simp only [pL]
    refine tkE 9 (some 73) rfl rfl ?_ hS ?_ ?_; rotate_left; · rintro W' _ _; go_simp; try with_reducible rfl
    try simp only [pL]
    refine tkE 11 (some 8) rfl rfl ?_ hS ?_ ?_; rotate_left; · rintro W' _ _; go_simp; try with_reducible rfl
    try simp only [pL]
    refine wpAnyH_ready (rs := [12]) (by kernel_rfl) (by simp) ?_
    refine AllReadyH.cons rfl (fun K hK => ?_) AllReadyH.nil
    have fz0 := blk_free 0 KKr
    have cz0 : w7.cell? ⟨br, 0, none⟩ = some _ := blk_cell KKr rfl
    have fz1 := blk_free 1 KKr
    have cz1 : w7.cell? ⟨br, 1, none⟩ = some _ := blk_cell KKr rfl
    have fz2 := blk_free 2 KKr
    have cz2 : w7.cell? ⟨br, 2, none⟩ = some _ := blk_cell KKr rfl
    have fz3 := blk_free 3 KKr
    have cz3 : w7.cell? ⟨br, 3, none⟩ = some _ := blk_cell KKr rfl
    obtain ⟨w8, hwn⟩ : ∃ w8, ((((w7.setCell ⟨br, 0, none⟩ (.int .i64 R.code)).setCell ⟨br, 1, none⟩ (.int .i64 R.val.kind)).setCell ⟨br, 2, none⟩ (.float .f64 R.val.num)).setCell ⟨br, 3, none⟩ (.string R.val.text)) = w8 := ⟨_, rfl⟩
    have hKn : w8.heap[br]? = some (.cells #[.int .i64 R.code, .int .i64 R.val.kind, .float .f64 R.val.num, .string R.val.text] 46 (0, 0)) := by rw [← hwn]; simp [World.setCell, Array.getElem?_modify, KKr]
    have hM : Mod (fun k => k = br) w7 w8 := by rw [← hwn]; exact mod_same (mod_same (mod_same (mod_same (Mod.refl _ _) _ _) _ _) _ _) _ _
    have hX : Ext w3 w8 := Mod.toExt ((Ext.mod hS (Since w3.heap.size)).trans hM (fun k _ e => by rw [e]; exact hcr))
    clear hS
    go_simp
    try rw [hwn]
    refine hK.out _ _ hX (fun hS => ?_)
    clear hK K hX hwn hM KKr fz0 cz0 fz1 cz1 fz2 cz2 fz3 cz3
    have KKr := hKn
    clear hKn
    try simp only [pL]
    refine wpAnyH_done (by kernel_rfl) ?_ _
    have hE := hS
    clear hS
    clear x_0 x_1 x_2 x_3 x_4 x_5 x_6 x_7 x_8 x_9 x_10 x_11 x_12 x_13 x_14 x_l
    have Kxw8 := Lib.hid (hE.blk Kxw3.out id)
    replace HC := Lib.hid (HC.out.ext hE)
    replace HX := Lib.hid (HX.out.ext hE)
    clear Kxw3
    clear hE
    have Krw8 := Lib.hid KKr
    clear KKr
    obtain ⟨x_0, x_1, x_2, x_3, x_4, x_5, x_6, x_7, x_8, x_9, x_10, x_11, x_12, x_13, x_14⟩ := cq15 Kxw8.out
    have x_l : bx < w8.heap.size := (Array.getElem?_eq_some_iff.1 Kxw8.out).1
    obtain ⟨r_0, r_1, r_2, r_3⟩ := cq4 Krw8.out
    have r_l : br < w8.heap.size := (Array.getElem?_eq_some_iff.1 Krw8.out).1
    rcases dn : (sq == x.call.seq) with _ | _
    ·
     go_wp2
     go_ret
     exact ⟨ret_bool (by rw [Hf.out]; first | (rw [dn]; rfl) | rfl), HX.out⟩
    ·
     go_wp2_with fail
     refine (k_reply R x.reply w8).mono ?_
     rintro e w9 ⟨rfl, hE⟩
     clear x_0 x_1 x_2 x_3 x_4 x_5 x_6 x_7 x_8 x_9 x_10 x_11 x_12 x_13 x_14 x_l r_0 r_1 r_2 r_3 r_l
     have Kxw9 := Lib.hid (hE.blk Kxw8.out id)
     have Krw9 := Lib.hid (hE.blk Krw8.out id)
     replace HC := Lib.hid (HC.out.ext hE)
     replace HX := Lib.hid (HX.out.ext hE)
     clear Kxw8
     clear Krw8
     clear hE
     obtain ⟨x_0, x_1, x_2, x_3, x_4, x_5, x_6, x_7, x_8, x_9, x_10, x_11, x_12, x_13, x_14⟩ := cq15 Kxw9.out
     have x_l : bx < w9.heap.size := (Array.getElem?_eq_some_iff.1 Kxw9.out).1
     obtain ⟨r_0, r_1, r_2, r_3⟩ := cq4 Krw9.out
     have r_l : br < w9.heap.size := (Array.getElem?_eq_some_iff.1 Krw9.out).1
     go_wp2
     go_ret
     exact ⟨ret_bool (by rw [Hf.out]; first | (rw [dn]; rfl) | rfl), HX.out⟩
  ·
   go_simp
   obtain ⟨br, hbn⟩ : ∃ br, w4.heap.size = br := ⟨_, rfl⟩
   obtain ⟨w5, hnw⟩ : ∃ w5, w5 = w4.alloc (.cells #[.int .i64 0, .int .i64 0, .float .f64 0, .string ⟨#[]⟩] 46) := ⟨_, rfl⟩
   have hE : Ext w4 w5 := by rw [hnw]; exact (Mod.refl _ _).alloc _
   have KKr : w5.heap[br]? = some (.cells #[.int .i64 0, .int .i64 0, .float .f64 0, .string ⟨#[]⟩] 46 (0, 0)) := by rw [hnw, ← hbn]; exact heap_alloc_new _ _
   have hbr : w.heap.size ≤ br := by have := (Mod.ext HX.out hS).size; omega
   have hcr : w3.heap.size ≤ br := by have := hS.size; omega
   rw [← hnw, hbn]
   clear hnw hbn
   have hX := Mod.ext hS hE
   clear hE hS
   refine hK.out _ _ hX (fun hS => ?_)
   clear hK K hX
   try simp only [pL]
   refine wpAnyH_ready (rs := [2]) (by kernel_rfl) (by simp) ?_
   refine AllReadyH.cons rfl (fun K hK => ?_) AllReadyH.nil
   go_simp
   go_wp2_with fail
   refine (r25_at w5 T _ l (p : Int) (HC.out.ext hS) Hp64.out).mono ?_
   rintro e w6 ⟨p1, v1, rfl, hN, hE⟩
   replace KKr := hE.blk KKr id
   obtain ⟨A1, c1, rfl⟩ := own_form hN.1.1
   obtain ⟨B1, d1, rfl⟩ := own_form hN.2.1.1
   have HS := Lib.hid hN.2.1.ses
   clear hN
   have hX := Mod.ext hS hE
   clear hE hS
   go_simp
   refine hK.out _ _ hX (fun hS => ?_)
   clear hK K hX
   try simp only [pL]
   refine wpAnyH_ready (rs := [6]) (by kernel_rfl) (by simp) ?_
   refine AllReadyH.cons rfl (fun K hK => ?_) AllReadyH.nil
   go_simp
   go_wp2_with fail
   refine (r_last w6 _ _ _ _ x.call.client HS.out).mono ?_
   rintro e w7 ⟨rfl, hE⟩
   replace HS := Lib.hid (HS.out.ext hE)
   replace KKr := hE.blk KKr id
   rw [Hsq.out, HR.out]
   clear HS
   have hX := Mod.ext hS hE
   clear hE hS
   go_simp
   refine hK.out _ _ hX (fun hS => ?_)
   clear hK K hX
   try simp only [pL]
   refine tkE 7 (some 64) rfl rfl ?_ hS ?_ ?_; rotate_left; · rintro W' _ _; go_simp; try with_reducible rfl
   try simp only [pL]
   refine tkE 8 (some 72) rfl rfl ?_ hS ?_ ?_; rotate_left; · rintro W' _ _; go_simp; try with_reducible rfl
   try simp only [pL]
   refine tkE 9 (some 73) rfl rfl ?_ hS ?_ ?_; rotate_left; · rintro W' _ _; go_simp; try with_reducible rfl
   try simp only [pL]
   refine tkE 11 (some 8) rfl rfl ?_ hS ?_ ?_; rotate_left; · rintro W' _ _; go_simp; try with_reducible rfl
   try simp only [pL]
   refine wpAnyH_ready (rs := [12]) (by kernel_rfl) (by simp) ?_
   refine AllReadyH.cons rfl (fun K hK => ?_) AllReadyH.nil
   have fz0 := blk_free 0 KKr
   have cz0 : w7.cell? ⟨br, 0, none⟩ = some _ := blk_cell KKr rfl
   have fz1 := blk_free 1 KKr
   have cz1 : w7.cell? ⟨br, 1, none⟩ = some _ := blk_cell KKr rfl
   have fz2 := blk_free 2 KKr
   have cz2 : w7.cell? ⟨br, 2, none⟩ = some _ := blk_cell KKr rfl
   have fz3 := blk_free 3 KKr
   have cz3 : w7.cell? ⟨br, 3, none⟩ = some _ := blk_cell KKr rfl
   obtain ⟨w8, hwn⟩ : ∃ w8, ((((w7.setCell ⟨br, 0, none⟩ (.int .i64 R.code)).setCell ⟨br, 1, none⟩ (.int .i64 R.val.kind)).setCell ⟨br, 2, none⟩ (.float .f64 R.val.num)).setCell ⟨br, 3, none⟩ (.string R.val.text)) = w8 := ⟨_, rfl⟩
   have hKn : w8.heap[br]? = some (.cells #[.int .i64 R.code, .int .i64 R.val.kind, .float .f64 R.val.num, .string R.val.text] 46 (0, 0)) := by rw [← hwn]; simp [World.setCell, Array.getElem?_modify, KKr]
   have hM : Mod (fun k => k = br) w7 w8 := by rw [← hwn]; exact mod_same (mod_same (mod_same (mod_same (Mod.refl _ _) _ _) _ _) _ _) _ _
   have hX : Ext w3 w8 := Mod.toExt ((Ext.mod hS (Since w3.heap.size)).trans hM (fun k _ e => by rw [e]; exact hcr))
   clear hS
   go_simp
   try rw [hwn]
   refine hK.out _ _ hX (fun hS => ?_)
   clear hK K hX hwn hM KKr fz0 cz0 fz1 cz1 fz2 cz2 fz3 cz3
   have KKr := hKn
   clear hKn
   try simp only [pL]
   refine wpAnyH_done (by kernel_rfl) ?_ _
   have hE := hS
   clear hS
   clear x_0 x_1 x_2 x_3 x_4 x_5 x_6 x_7 x_8 x_9 x_10 x_11 x_12 x_13 x_14 x_l
   have Kxw8 := Lib.hid (hE.blk Kxw3.out id)
   replace HC := Lib.hid (HC.out.ext hE)
   replace HX := Lib.hid (HX.out.ext hE)
   clear Kxw3
   clear hE
   have Krw8 := Lib.hid KKr
   clear KKr
   obtain ⟨x_0, x_1, x_2, x_3, x_4, x_5, x_6, x_7, x_8, x_9, x_10, x_11, x_12, x_13, x_14⟩ := cq15 Kxw8.out
   have x_l : bx < w8.heap.size := (Array.getElem?_eq_some_iff.1 Kxw8.out).1
   obtain ⟨r_0, r_1, r_2, r_3⟩ := cq4 Krw8.out
   have r_l : br < w8.heap.size := (Array.getElem?_eq_some_iff.1 Krw8.out).1
   rcases dn : (sq == x.call.seq) with _ | _
   ·
    go_wp2
    go_ret
    exact ⟨ret_bool (by rw [Hf.out]; first | (rw [dn]; rfl) | rfl), HX.out⟩
   ·
    go_wp2_with fail
    refine (k_reply R x.reply w8).mono ?_
    rintro e w9 ⟨rfl, hE⟩
    clear x_0 x_1 x_2 x_3 x_4 x_5 x_6 x_7 x_8 x_9 x_10 x_11 x_12 x_13 x_14 x_l r_0 r_1 r_2 r_3 r_l
    have Kxw9 := Lib.hid (hE.blk Kxw8.out id)
    have Krw9 := Lib.hid (hE.blk Krw8.out id)
    replace HC := Lib.hid (HC.out.ext hE)
    replace HX := Lib.hid (HX.out.ext hE)
    clear Kxw8
    clear Krw8
    clear hE
    obtain ⟨x_0, x_1, x_2, x_3, x_4, x_5, x_6, x_7, x_8, x_9, x_10, x_11, x_12, x_13, x_14⟩ := cq15 Kxw9.out
    have x_l : bx < w9.heap.size := (Array.getElem?_eq_some_iff.1 Kxw9.out).1
    obtain ⟨r_0, r_1, r_2, r_3⟩ := cq4 Krw9.out
    have r_l : br < w9.heap.size := (Array.getElem?_eq_some_iff.1 Krw9.out).1
    go_wp2
    go_ret
    exact ⟨ret_bool (by rw [Hf.out]; first | (rw [dn]; rfl) | rfl), HX.out⟩
theorem r25_told (w : World) (T : Nat → Prop) (v : Value) (l : List AEntry) (x : ATold) (hC : Ents w T v l) (hx : x.ok) :
  Calls Tryz.prog 16 #[v, .agg #[.int .i64 x.call.client, .int .i64 x.call.seq, .int .i64 x.call.cmd.kind, .string x.call.cmd.key, .int .i64 x.call.cmd.old.kind, .float .f64 x.call.cmd.old.num, .string x.call.cmd.old.text, .int .i64 x.call.cmd.val.kind, .float .f64 x.call.cmd.val.num, .string x.call.cmd.val.text, .int .i64 x.reply.code, .int .i64 x.reply.val.kind, .float .f64 x.reply.val.num, .string x.reply.val.text, .int .i64 x.index]] w fun e w' => e = .returned (.bool (toldP l x)) ∧ Ext w w' := by
 obtain ⟨A, cc, rfl⟩ := hC.form
 by_cases hk : x.call.cmd.kind = 1
 ·
  exact r25_told_get w T A _ cc l x hC rfl hx hk
 ·
  exact r25_told_other w T A _ cc l x hC rfl hx hk
end Go.Proofs.YtbclnghbgoblcaaGreat
