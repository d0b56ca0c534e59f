/-
  The walk of SessOnce. Conditions: as the theorem names them.
-/
import Derived.Test.YtplpegjnmlabkaaSesMore
import Derived.Test.YtplpegjnmlabkaaGOpen
namespace Go.Proofs.Ytplpegjnmlabkaa
set_option linter.unusedSimpArgs false
open Go.RowKit

set_option maxRecDepth 100000 in
set_option maxHeartbeats 4000000 in
theorem sesOnce_walk (w : World) (A : Option Addr) (n cc : Nat) (l : List ACall) (hC : Cas w (fun g => g < w.heap.size) (.slice A n cc) l) (hn : l.length = n) (A' : Option Addr) (n' cc' : Nat) (l' : List ACall) (hM : Cas w (fun g => g < w.heap.size) (.slice A' n' cc') l') (hn' : l'.length = n') (c : ACall) (hc : c.ok) :
    Calls Try.prog 4 #[.slice A n cc, .agg #[.int .i64 c.client, .int .i64 c.seq, .int .i64 c.cmd.kind, .string c.cmd.key, .int .i64 c.cmd.old.kind, .float .f64 c.cmd.old.num, .string c.cmd.old.text, .int .i64 c.cmd.val.kind, .float .f64 c.cmd.val.num, .string c.cmd.val.text], .slice A' n' cc'] w fun e w' => e = .returned (.bool true) ∧ Below w.heap.size w w' := by
  have hl := hC.1.le
  rw [hn] at hl
  unfold maxLen at hl
  have hl' := hM.1.le
  rw [hn'] at hl'
  unfold maxLen at hl'
  by_cases h1 : 1000 < n
  · have d1 : decide ((n : Int) > 1000) = true := by simp; omega
    go_enter Try.func4, Try.ntmps4
    go_wp2
    go_ret
    exact ⟨rfl, Ext.below ((Mod.refl _ w).alloc _)⟩
  have d1 : decide ((n : Int) > 1000) = false := by simp; omega
  by_cases h1' : 1000 < n'
  · have d1' : decide ((n' : Int) > 1000) = true := by simp; omega
    go_enter Try.func4, Try.ntmps4
    go_wp2
    go_ret
    exact ⟨rfl, Ext.below ((Mod.refl _ w).alloc _)⟩
  have d1' : decide ((n' : Int) > 1000) = false := by simp; omega
  rcases h2 : heavyCmd c.cmd with _ | _
  case true =>
    have HX : Hid (Ext w w) := Lib.hid (Mod.refl _ w)
    have HC := Lib.hid hC
    have HM := Lib.hid hM
    clear hC hM
    go_enter Try.func4, Try.ntmps4
    go_wp2_with fail
    obtain ⟨w1, hw1⟩ : ∃ w1, w1 = w.alloc (.cells #[.int .i64 c.client, .int .i64 c.seq, .int .i64 c.cmd.kind, .string c.cmd.key, .int .i64 c.cmd.old.kind, .float .f64 c.cmd.old.num, .string c.cmd.old.text, .int .i64 c.cmd.val.kind, .float .f64 c.cmd.val.num, .string c.cmd.val.text] 32) := ⟨_, rfl⟩
    obtain ⟨bc, hbc⟩ : ∃ bc, bc = w.heap.size := ⟨_, rfl⟩
    have hzz : w.heap.size = bc := hbc.symm
    have hE : Ext w w1 := by rw [hw1]; exact (Mod.refl _ w).alloc _
    have hKn : w1.heap[bc]? = some (.cells #[.int .i64 c.client, .int .i64 c.seq, .int .i64 c.cmd.kind, .string c.cmd.key, .int .i64 c.cmd.old.kind, .float .f64 c.cmd.old.num, .string c.cmd.old.text, .int .i64 c.cmd.val.kind, .float .f64 c.cmd.val.num, .string c.cmd.val.text] 32 (0, 0)) := by rw [hw1, ← hzz]; exact heap_alloc_new w _
    have hzn : w1.heap.size = bc + 1 := by rw [hw1, ← hzz]; simp
    rw [← hw1, ← hbc]
    have HXo := HX
    replace HC := Lib.hid (HC.out.ext hE)
    replace HX := Lib.hid (HX.out.ext hE)
    have Kcw1 := Lib.hid hKn
    have hbz : w.heap.size ≤ bc := by have := HXo.out.size; omega
    clear hKn hE hw1 hbc HXo hzz
    have hbc := hbz
    clear hbz
    clear hzn
    refine (hv_cmd c.cmd w1).mono ?_
    rintro e w2 ⟨rfl, hE⟩
    have Kcw2 := Lib.hid (hE.blk Kcw1.out id)
    replace HC := Lib.hid (HC.out.ext hE)
    replace HX := Lib.hid (HX.out.ext hE)
    clear Kcw1
    rw [h2]
    clear hE
    have c_0 : w2.cell? ⟨bc, 0, none⟩ = some _ := blk_cell Kcw2.out rfl
    have c_1 : w2.cell? ⟨bc, 1, none⟩ = some _ := blk_cell Kcw2.out rfl
    have c_2 : w2.cell? ⟨bc, 2, none⟩ = some _ := blk_cell Kcw2.out rfl
    have c_3 : w2.cell? ⟨bc, 3, none⟩ = some _ := blk_cell Kcw2.out rfl
    have c_4 : w2.cell? ⟨bc, 4, none⟩ = some _ := blk_cell Kcw2.out rfl
    have c_5 : w2.cell? ⟨bc, 5, none⟩ = some _ := blk_cell Kcw2.out rfl
    have c_6 : w2.cell? ⟨bc, 6, none⟩ = some _ := blk_cell Kcw2.out rfl
    have c_7 : w2.cell? ⟨bc, 7, none⟩ = some _ := blk_cell Kcw2.out rfl
    have c_8 : w2.cell? ⟨bc, 8, none⟩ = some _ := blk_cell Kcw2.out rfl
    have c_9 : w2.cell? ⟨bc, 9, none⟩ = some _ := blk_cell Kcw2.out rfl
    have c_l : bc < w2.heap.size := (Array.getElem?_eq_some_iff.1 Kcw2.out).1
    go_wp2
    go_ret
    exact ⟨rfl, Ext.below HX.out⟩
  have HX : Hid (Ext w w) := Lib.hid (Mod.refl _ w)
  have HC := Lib.hid hC
  have HM := Lib.hid hM
  clear hC hM
  go_enter Try.func4, Try.ntmps4
  go_wp2_with fail
  obtain ⟨w1, hw1⟩ : ∃ w1, w1 = w.alloc (.cells #[.int .i64 c.client, .int .i64 c.seq, .int .i64 c.cmd.kind, .string c.cmd.key, .int .i64 c.cmd.old.kind, .float .f64 c.cmd.old.num, .string c.cmd.old.text, .int .i64 c.cmd.val.kind, .float .f64 c.cmd.val.num, .string c.cmd.val.text] 32) := ⟨_, rfl⟩
  obtain ⟨bc, hbc⟩ : ∃ bc, bc = w.heap.size := ⟨_, rfl⟩
  have hzz : w.heap.size = bc := hbc.symm
  have hE : Ext w w1 := by rw [hw1]; exact (Mod.refl _ w).alloc _
  have hKn : w1.heap[bc]? = some (.cells #[.int .i64 c.client, .int .i64 c.seq, .int .i64 c.cmd.kind, .string c.cmd.key, .int .i64 c.cmd.old.kind, .float .f64 c.cmd.old.num, .string c.cmd.old.text, .int .i64 c.cmd.val.kind, .float .f64 c.cmd.val.num, .string c.cmd.val.text] 32 (0, 0)) := by rw [hw1, ← hzz]; exact heap_alloc_new w _
  have hzn : w1.heap.size = bc + 1 := by rw [hw1, ← hzz]; simp
  rw [← hw1, ← hbc]
  have HXo := HX
  replace HC := Lib.hid (HC.out.ext hE)
  replace HX := Lib.hid (HX.out.ext hE)
  have Kcw1 := Lib.hid hKn
  have hbz : w.heap.size ≤ bc := by have := HXo.out.size; omega
  clear hKn hE hw1 hbc HXo hzz
  have hbc := hbz
  clear hbz
  clear hzn
  refine (hv_cmd c.cmd w1).mono ?_
  rintro e w2 ⟨rfl, hE⟩
  have Kcw2 := Lib.hid (hE.blk Kcw1.out id)
  replace HC := Lib.hid (HC.out.ext hE)
  replace HX := Lib.hid (HX.out.ext hE)
  clear Kcw1
  rw [h2]
  clear hE
  have c_0 : w2.cell? ⟨bc, 0, none⟩ = some _ := blk_cell Kcw2.out rfl
  have c_1 : w2.cell? ⟨bc, 1, none⟩ = some _ := blk_cell Kcw2.out rfl
  have c_2 : w2.cell? ⟨bc, 2, none⟩ = some _ := blk_cell Kcw2.out rfl
  have c_3 : w2.cell? ⟨bc, 3, none⟩ = some _ := blk_cell Kcw2.out rfl
  have c_4 : w2.cell? ⟨bc, 4, none⟩ = some _ := blk_cell Kcw2.out rfl
  have c_5 : w2.cell? ⟨bc, 5, none⟩ = some _ := blk_cell Kcw2.out rfl
  have c_6 : w2.cell? ⟨bc, 6, none⟩ = some _ := blk_cell Kcw2.out rfl
  have c_7 : w2.cell? ⟨bc, 7, none⟩ = some _ := blk_cell Kcw2.out rfl
  have c_8 : w2.cell? ⟨bc, 8, none⟩ = some _ := blk_cell Kcw2.out rfl
  have c_9 : w2.cell? ⟨bc, 9, none⟩ = some _ := blk_cell Kcw2.out rfl
  have c_l : bc < w2.heap.size := (Array.getElem?_eq_some_iff.1 Kcw2.out).1
  go_wp2_with fail
  have hso := HX.out.size
  refine (l_grown7 w2 _ _ l HC.out (by omega)).mono ?_
  rintro e w3 ⟨p7, v7, m, rfl, hN, hr, hE⟩
  clear c_0 c_1 c_2 c_3 c_4 c_5 c_6 c_7 c_8 c_9 c_l
  have Kcw3 := Lib.hid (hE.blk Kcw2.out id)
  replace HC := Lib.hid (HC.out.ext hE)
  replace HX := Lib.hid (HX.out.ext hE)
  clear Kcw2
  obtain ⟨A7, c7, rfl⟩ := own_form hN.1.1
  obtain ⟨B7, d7, rfl⟩ := own_form hN.2.1.1
  have HN7 := Lib.hid (newM_up hN hso)
  have Hr := Lib.hid hr
  clear hN hr hso
  clear hE
  have c_0 : w3.cell? ⟨bc, 0, none⟩ = some _ := blk_cell Kcw3.out rfl
  have c_1 : w3.cell? ⟨bc, 1, none⟩ = some _ := blk_cell Kcw3.out rfl
  have c_2 : w3.cell? ⟨bc, 2, none⟩ = some _ := blk_cell Kcw3.out rfl
  have c_3 : w3.cell? ⟨bc, 3, none⟩ = some _ := blk_cell Kcw3.out rfl
  have c_4 : w3.cell? ⟨bc, 4, none⟩ = some _ := blk_cell Kcw3.out rfl
  have c_5 : w3.cell? ⟨bc, 5, none⟩ = some _ := blk_cell Kcw3.out rfl
  have c_6 : w3.cell? ⟨bc, 6, none⟩ = some _ := blk_cell Kcw3.out rfl
  have c_7 : w3.cell? ⟨bc, 7, none⟩ = some _ := blk_cell Kcw3.out rfl
  have c_8 : w3.cell? ⟨bc, 8, none⟩ = some _ := blk_cell Kcw3.out rfl
  have c_9 : w3.cell? ⟨bc, 9, none⟩ = some _ := blk_cell Kcw3.out rfl
  have c_l : bc < w3.heap.size := (Array.getElem?_eq_some_iff.1 Kcw3.out).1
  clear HC
  go_wp2_with fail
  obtain ⟨w4, hw4⟩ : ∃ w4, w4 = w3.alloc (.cells #[.slice A7 m.pairs.length c7, .slice B7 m.sess.length d7] 25) := ⟨_, rfl⟩
  obtain ⟨bm, hbm⟩ : ∃ bm, bm = w3.heap.size := ⟨_, rfl⟩
  have hzz : w3.heap.size = bm := hbm.symm
  have hE : Ext w3 w4 := by rw [hw4]; exact (Mod.refl _ w3).alloc _
  have hKn : w4.heap[bm]? = some (.cells #[.slice A7 m.pairs.length c7, .slice B7 m.sess.length d7] 25 (0, 0)) := by rw [hw4, ← hzz]; exact heap_alloc_new w3 _
  have hzn : w4.heap.size = bm + 1 := by rw [hw4, ← hzz]; simp
  rw [← hw4, ← hbm]
  have hltcm : bc < bm := by have := (Array.getElem?_eq_some_iff.1 Kcw3.out).1; omega
  clear c_0 c_1 c_2 c_3 c_4 c_5 c_6 c_7 c_8 c_9 c_l
  have HXo := HX
  have Kcw4 := Lib.hid (hE.blk Kcw3.out id)
  replace HN7 := Lib.hid (newM_mod HN7.out hE (fun _ _ => id) (fun _ _ => id))
  replace HX := Lib.hid (HX.out.ext hE)
  clear Kcw3
  have Kmw4 := Lib.hid hKn
  have hbz : w.heap.size ≤ bm := by have := HXo.out.size; omega
  clear hKn hE hw4 hbm HXo hzz
  have hbm := hbz
  clear hbz
  clear hzn
  have hso := HX.out.size
  rcases hr : onceP m c with ⟨M, r⟩
  refine (s_do_at w4 _ _ _ _ m c (HN7.out.prs) (HN7.out.ses) (mach_small Hr.out) hc.2.2.2.2.2 hr).mono ?_
  rintro e w5 ⟨p1, v1, rfl, hN, hE⟩
  have Kcw5 := Lib.hid (hE.blk Kcw4.out id)
  have Kmw5 := Lib.hid (hE.blk Kmw4.out id)
  replace HN7 := Lib.hid (newM_mod HN7.out hE (fun _ _ => id) (fun _ _ => id))
  replace HX := Lib.hid (HX.out.ext hE)
  clear Kcw4
  clear Kmw4
  obtain ⟨A1, c1, rfl⟩ := own_form hN.1.1
  obtain ⟨B1, d1, rfl⟩ := own_form hN.2.1.1
  have HN1 := Lib.hid (newM_up hN hso)
  clear hN hso
  have HEr := Lib.hid hr
  clear hr
  clear hE
  have c_0 : w5.cell? ⟨bc, 0, none⟩ = some _ := blk_cell Kcw5.out rfl
  have c_1 : w5.cell? ⟨bc, 1, none⟩ = some _ := blk_cell Kcw5.out rfl
  have c_2 : w5.cell? ⟨bc, 2, none⟩ = some _ := blk_cell Kcw5.out rfl
  have c_3 : w5.cell? ⟨bc, 3, none⟩ = some _ := blk_cell Kcw5.out rfl
  have c_4 : w5.cell? ⟨bc, 4, none⟩ = some _ := blk_cell Kcw5.out rfl
  have c_5 : w5.cell? ⟨bc, 5, none⟩ = some _ := blk_cell Kcw5.out rfl
  have c_6 : w5.cell? ⟨bc, 6, none⟩ = some _ := blk_cell Kcw5.out rfl
  have c_7 : w5.cell? ⟨bc, 7, none⟩ = some _ := blk_cell Kcw5.out rfl
  have c_8 : w5.cell? ⟨bc, 8, none⟩ = some _ := blk_cell Kcw5.out rfl
  have c_9 : w5.cell? ⟨bc, 9, none⟩ = some _ := blk_cell Kcw5.out rfl
  have c_l : bc < w5.heap.size := (Array.getElem?_eq_some_iff.1 Kcw5.out).1
  have m_0 : w5.cell? ⟨bm, 0, none⟩ = some _ := blk_cell Kmw5.out rfl
  have m_1 : w5.cell? ⟨bm, 1, none⟩ = some _ := blk_cell Kmw5.out rfl
  have m_l : bm < w5.heap.size := (Array.getElem?_eq_some_iff.1 Kmw5.out).1
  clear HN7
  have fz0 := blk_free 0 Kmw5.out
  have fz1 := blk_free 1 Kmw5.out
  go_wp2_with fail
  clear c_0 c_1 c_2 c_3 c_4 c_5 c_6 c_7 c_8 c_9 c_l m_0 m_1 m_l
  clear fz0 fz1
  obtain ⟨w6, hw6⟩ : ∃ w6, ((w5.setCell ⟨bm, 0, none⟩ (.slice A1 M.pairs.length c1)).setCell ⟨bm, 1, none⟩ (.slice B1 M.sess.length d1)) = w6 := ⟨_, rfl⟩
  have hKn : w6.heap[bm]? = some (.cells #[.slice A1 M.pairs.length c1, .slice B1 M.sess.length d1] 25 (0, 0)) := by
    rw [← hw6]
    have := Kmw5.out
    simp [World.setCell, Array.getElem?_modify, this]
  have hM : Mod (fun k => k = bm) w5 w6 := by rw [← hw6]; exact mod_same (mod_same (Mod.refl _ _) _ _) _ _
  rw [hw6]
  have hsz : w5.heap.size = w6.heap.size := by rw [← hw6]; simp [World.setCell]
  rw [hsz]
  clear hsz
  have Kcw6 := Lib.hid (hM.blk Kcw5.out (by omega))
  have Kmw6 := Lib.hid hKn
  replace HN1 := Lib.hid (newM_box HN1.out Kmw5.out hM (by decide) (by decide))
  replace HX : Hid (Ext w w6) := Lib.hid (Mod.toExt ((Ext.mod HX.out (Since w.heap.size)).trans hM (fun k _ e => by rw [e]; exact hbm)))
  clear hKn hM hw6
  clear Kcw5
  clear Kmw5
  obtain ⟨w7, hw7⟩ : ∃ w7, w7 = w6.alloc (.cells #[.int .i64 r.code, .int .i64 r.val.kind, .float .f64 r.val.num, .string r.val.text] 38) := ⟨_, rfl⟩
  obtain ⟨br, hbr⟩ : ∃ br, br = w6.heap.size := ⟨_, rfl⟩
  have hzz : w6.heap.size = br := hbr.symm
  have hE : Ext w6 w7 := by rw [hw7]; exact (Mod.refl _ w6).alloc _
  have hKn : w7.heap[br]? = some (.cells #[.int .i64 r.code, .int .i64 r.val.kind, .float .f64 r.val.num, .string r.val.text] 38 (0, 0)) := by rw [hw7, ← hzz]; exact heap_alloc_new w6 _
  have hzn : w7.heap.size = br + 1 := by rw [hw7, ← hzz]; simp
  rw [← hw7, ← hbr]
  have hltcr : bc < br := by have := (Array.getElem?_eq_some_iff.1 Kcw6.out).1; omega
  have hltmr : bm < br := by have := (Array.getElem?_eq_some_iff.1 Kmw6.out).1; omega
  have HXo := HX
  have Kcw7 := Lib.hid (hE.blk Kcw6.out id)
  have Kmw7 := Lib.hid (hE.blk Kmw6.out id)
  replace HN1 := Lib.hid (newM_mod HN1.out hE (fun _ _ => id) (fun _ _ => id))
  replace HX := Lib.hid (HX.out.ext hE)
  clear Kcw6
  clear Kmw6
  have Krw7 := Lib.hid hKn
  have hbz : w.heap.size ≤ br := by have := HXo.out.size; omega
  clear hKn hE hw7 hbr HXo hzz
  have hbr := hbz
  clear hbz
  clear hzn
  have c_0 : w7.cell? ⟨bc, 0, none⟩ = some _ := blk_cell Kcw7.out rfl
  have c_1 : w7.cell? ⟨bc, 1, none⟩ = some _ := blk_cell Kcw7.out rfl
  have c_2 : w7.cell? ⟨bc, 2, none⟩ = some _ := blk_cell Kcw7.out rfl
  have c_3 : w7.cell? ⟨bc, 3, none⟩ = some _ := blk_cell Kcw7.out rfl
  have c_4 : w7.cell? ⟨bc, 4, none⟩ = some _ := blk_cell Kcw7.out rfl
  have c_5 : w7.cell? ⟨bc, 5, none⟩ = some _ := blk_cell Kcw7.out rfl
  have c_6 : w7.cell? ⟨bc, 6, none⟩ = some _ := blk_cell Kcw7.out rfl
  have c_7 : w7.cell? ⟨bc, 7, none⟩ = some _ := blk_cell Kcw7.out rfl
  have c_8 : w7.cell? ⟨bc, 8, none⟩ = some _ := blk_cell Kcw7.out rfl
  have c_9 : w7.cell? ⟨bc, 9, none⟩ = some _ := blk_cell Kcw7.out rfl
  have c_l : bc < w7.heap.size := (Array.getElem?_eq_some_iff.1 Kcw7.out).1
  have m_0 : w7.cell? ⟨bm, 0, none⟩ = some _ := blk_cell Kmw7.out rfl
  have m_1 : w7.cell? ⟨bm, 1, none⟩ = some _ := blk_cell Kmw7.out rfl
  have m_l : bm < w7.heap.size := (Array.getElem?_eq_some_iff.1 Kmw7.out).1
  have r_0 : w7.cell? ⟨br, 0, none⟩ = some _ := blk_cell Krw7.out rfl
  have r_1 : w7.cell? ⟨br, 1, none⟩ = some _ := blk_cell Krw7.out rfl
  have r_2 : w7.cell? ⟨br, 2, none⟩ = some _ := blk_cell Krw7.out rfl
  have r_3 : w7.cell? ⟨br, 3, none⟩ = some _ := blk_cell Krw7.out rfl
  have r_l : br < w7.heap.size := (Array.getElem?_eq_some_iff.1 Krw7.out).1
  have HRM : Hid (machB M = true) := Lib.hid (by have := once_right c Hr.out; rw [HEr.out] at this; exact this)
  go_wp2_with fail
  refine (s_last w7 _ _ _ M.sess c.client HN1.out.ses).mono ?_
  rintro e w8 ⟨rfl, hE⟩
  clear c_0 c_1 c_2 c_3 c_4 c_5 c_6 c_7 c_8 c_9 c_l m_0 m_1 m_l r_0 r_1 r_2 r_3 r_l
  have Kcw8 := Lib.hid (hE.blk Kcw7.out id)
  have Kmw8 := Lib.hid (hE.blk Kmw7.out id)
  have Krw8 := Lib.hid (hE.blk Krw7.out id)
  replace HN1 := Lib.hid (newM_mod HN1.out hE (fun _ _ => id) (fun _ _ => id))
  replace HX := Lib.hid (HX.out.ext hE)
  clear Kcw7
  clear Kmw7
  clear Krw7
  rcases hla : lastS M.sess c.client with ⟨k, z⟩
  simp only
  have Hla := Lib.hid hla
  clear hla
  clear hE
  have c_0 : w8.cell? ⟨bc, 0, none⟩ = some _ := blk_cell Kcw8.out rfl
  have c_1 : w8.cell? ⟨bc, 1, none⟩ = some _ := blk_cell Kcw8.out rfl
  have c_2 : w8.cell? ⟨bc, 2, none⟩ = some _ := blk_cell Kcw8.out rfl
  have c_3 : w8.cell? ⟨bc, 3, none⟩ = some _ := blk_cell Kcw8.out rfl
  have c_4 : w8.cell? ⟨bc, 4, none⟩ = some _ := blk_cell Kcw8.out rfl
  have c_5 : w8.cell? ⟨bc, 5, none⟩ = some _ := blk_cell Kcw8.out rfl
  have c_6 : w8.cell? ⟨bc, 6, none⟩ = some _ := blk_cell Kcw8.out rfl
  have c_7 : w8.cell? ⟨bc, 7, none⟩ = some _ := blk_cell Kcw8.out rfl
  have c_8 : w8.cell? ⟨bc, 8, none⟩ = some _ := blk_cell Kcw8.out rfl
  have c_9 : w8.cell? ⟨bc, 9, none⟩ = some _ := blk_cell Kcw8.out rfl
  have c_l : bc < w8.heap.size := (Array.getElem?_eq_some_iff.1 Kcw8.out).1
  have m_0 : w8.cell? ⟨bm, 0, none⟩ = some _ := blk_cell Kmw8.out rfl
  have m_1 : w8.cell? ⟨bm, 1, none⟩ = some _ := blk_cell Kmw8.out rfl
  have m_l : bm < w8.heap.size := (Array.getElem?_eq_some_iff.1 Kmw8.out).1
  have r_0 : w8.cell? ⟨br, 0, none⟩ = some _ := blk_cell Krw8.out rfl
  have r_1 : w8.cell? ⟨br, 1, none⟩ = some _ := blk_cell Krw8.out rfl
  have r_2 : w8.cell? ⟨br, 2, none⟩ = some _ := blk_cell Krw8.out rfl
  have r_3 : w8.cell? ⟨br, 3, none⟩ = some _ := blk_cell Krw8.out rfl
  have r_l : br < w8.heap.size := (Array.getElem?_eq_some_iff.1 Krw8.out).1
  by_cases hk : k = c.seq
  case neg =>
    have dk : (k != c.seq) = true := by simp [hk]
    have Hk := Lib.hid hk
    clear hk
    go_wp2_with fail
    obtain ⟨w9, hw9⟩ : ∃ w9, w9 = w8.alloc (.cells #[.int .i64 z.code, .int .i64 z.val.kind, .float .f64 z.val.num, .string z.val.text] 38) := ⟨_, rfl⟩
    obtain ⟨bz, hbz⟩ : ∃ bz, bz = w8.heap.size := ⟨_, rfl⟩
    have hzz : w8.heap.size = bz := hbz.symm
    have hE : Ext w8 w9 := by rw [hw9]; exact (Mod.refl _ w8).alloc _
    have hKn : w9.heap[bz]? = some (.cells #[.int .i64 z.code, .int .i64 z.val.kind, .float .f64 z.val.num, .string z.val.text] 38 (0, 0)) := by rw [hw9, ← hzz]; exact heap_alloc_new w8 _
    have hzn : w9.heap.size = bz + 1 := by rw [hw9, ← hzz]; simp
    rw [← hw9, ← hbz]
    have hltcz : bc < bz := by have := (Array.getElem?_eq_some_iff.1 Kcw8.out).1; omega
    have hltmz : bm < bz := by have := (Array.getElem?_eq_some_iff.1 Kmw8.out).1; omega
    have hltrz : br < bz := by have := (Array.getElem?_eq_some_iff.1 Krw8.out).1; omega
    clear c_0 c_1 c_2 c_3 c_4 c_5 c_6 c_7 c_8 c_9 c_l m_0 m_1 m_l r_0 r_1 r_2 r_3 r_l
    have HXo := HX
    have Kcw9 := Lib.hid (hE.blk Kcw8.out id)
    have Kmw9 := Lib.hid (hE.blk Kmw8.out id)
    have Krw9 := Lib.hid (hE.blk Krw8.out id)
    replace HN1 := Lib.hid (newM_mod HN1.out hE (fun _ _ => id) (fun _ _ => id))
    replace HX := Lib.hid (HX.out.ext hE)
    clear Kcw8
    clear Kmw8
    clear Krw8
    have Kzw9 := Lib.hid hKn
    have hbz : w.heap.size ≤ bz := by have := HXo.out.size; omega
    clear hKn hE hw9 hbz HXo hzz
    have hbz := hbz
    clear hbz
    clear hzn
    refine (l_wakes7 w9).mono ?_
    rintro e w10 ⟨rfl, hE⟩
    have Kcw10 := Lib.hid (hE.blk Kcw9.out id)
    have Kmw10 := Lib.hid (hE.blk Kmw9.out id)
    have Krw10 := Lib.hid (hE.blk Krw9.out id)
    have Kzw10 := Lib.hid (hE.blk Kzw9.out id)
    replace HN1 := Lib.hid (newM_mod HN1.out hE (fun _ _ => id) (fun _ _ => id))
    replace HX := Lib.hid (HX.out.ext hE)
    clear Kcw9
    clear Kmw9
    clear Krw9
    clear Kzw9
    clear hE
    have c_0 : w10.cell? ⟨bc, 0, none⟩ = some _ := blk_cell Kcw10.out rfl
    have c_1 : w10.cell? ⟨bc, 1, none⟩ = some _ := blk_cell Kcw10.out rfl
    have c_2 : w10.cell? ⟨bc, 2, none⟩ = some _ := blk_cell Kcw10.out rfl
    have c_3 : w10.cell? ⟨bc, 3, none⟩ = some _ := blk_cell Kcw10.out rfl
    have c_4 : w10.cell? ⟨bc, 4, none⟩ = some _ := blk_cell Kcw10.out rfl
    have c_5 : w10.cell? ⟨bc, 5, none⟩ = some _ := blk_cell Kcw10.out rfl
    have c_6 : w10.cell? ⟨bc, 6, none⟩ = some _ := blk_cell Kcw10.out rfl
    have c_7 : w10.cell? ⟨bc, 7, none⟩ = some _ := blk_cell Kcw10.out rfl
    have c_8 : w10.cell? ⟨bc, 8, none⟩ = some _ := blk_cell Kcw10.out rfl
    have c_9 : w10.cell? ⟨bc, 9, none⟩ = some _ := blk_cell Kcw10.out rfl
    have c_l : bc < w10.heap.size := (Array.getElem?_eq_some_iff.1 Kcw10.out).1
    have m_0 : w10.cell? ⟨bm, 0, none⟩ = some _ := blk_cell Kmw10.out rfl
    have m_1 : w10.cell? ⟨bm, 1, none⟩ = some _ := blk_cell Kmw10.out rfl
    have m_l : bm < w10.heap.size := (Array.getElem?_eq_some_iff.1 Kmw10.out).1
    have r_0 : w10.cell? ⟨br, 0, none⟩ = some _ := blk_cell Krw10.out rfl
    have r_1 : w10.cell? ⟨br, 1, none⟩ = some _ := blk_cell Krw10.out rfl
    have r_2 : w10.cell? ⟨br, 2, none⟩ = some _ := blk_cell Krw10.out rfl
    have r_3 : w10.cell? ⟨br, 3, none⟩ = some _ := blk_cell Krw10.out rfl
    have r_l : br < w10.heap.size := (Array.getElem?_eq_some_iff.1 Krw10.out).1
    have z_0 : w10.cell? ⟨bz, 0, none⟩ = some _ := blk_cell Kzw10.out rfl
    have z_1 : w10.cell? ⟨bz, 1, none⟩ = some _ := blk_cell Kzw10.out rfl
    have z_2 : w10.cell? ⟨bz, 2, none⟩ = some _ := blk_cell Kzw10.out rfl
    have z_3 : w10.cell? ⟨bz, 3, none⟩ = some _ := blk_cell Kzw10.out rfl
    have z_l : bz < w10.heap.size := (Array.getElem?_eq_some_iff.1 Kzw10.out).1
    go_wp2
    go_ret
    exact ⟨rfl, Ext.below HX.out⟩
  have dk : (k != c.seq) = false := by simp [hk]
  have Hk := Lib.hid hk
  clear hk
  go_wp2_with fail
  obtain ⟨w9, hw9⟩ : ∃ w9, w9 = w8.alloc (.cells #[.int .i64 z.code, .int .i64 z.val.kind, .float .f64 z.val.num, .string z.val.text] 38) := ⟨_, rfl⟩
  obtain ⟨bz, hbz⟩ : ∃ bz, bz = w8.heap.size := ⟨_, rfl⟩
  have hzz : w8.heap.size = bz := hbz.symm
  have hE : Ext w8 w9 := by rw [hw9]; exact (Mod.refl _ w8).alloc _
  have hKn : w9.heap[bz]? = some (.cells #[.int .i64 z.code, .int .i64 z.val.kind, .float .f64 z.val.num, .string z.val.text] 38 (0, 0)) := by rw [hw9, ← hzz]; exact heap_alloc_new w8 _
  have hzn : w9.heap.size = bz + 1 := by rw [hw9, ← hzz]; simp
  rw [← hw9, ← hbz]
  have hltcz : bc < bz := by have := (Array.getElem?_eq_some_iff.1 Kcw8.out).1; omega
  have hltmz : bm < bz := by have := (Array.getElem?_eq_some_iff.1 Kmw8.out).1; omega
  have hltrz : br < bz := by have := (Array.getElem?_eq_some_iff.1 Krw8.out).1; omega
  clear c_0 c_1 c_2 c_3 c_4 c_5 c_6 c_7 c_8 c_9 c_l m_0 m_1 m_l r_0 r_1 r_2 r_3 r_l
  have HXo := HX
  have Kcw9 := Lib.hid (hE.blk Kcw8.out id)
  have Kmw9 := Lib.hid (hE.blk Kmw8.out id)
  have Krw9 := Lib.hid (hE.blk Krw8.out id)
  replace HN1 := Lib.hid (newM_mod HN1.out hE (fun _ _ => id) (fun _ _ => id))
  replace HX := Lib.hid (HX.out.ext hE)
  clear Kcw8
  clear Kmw8
  clear Krw8
  have Kzw9 := Lib.hid hKn
  have hbz : w.heap.size ≤ bz := by have := HXo.out.size; omega
  clear hKn hE hw9 hbz HXo hzz
  have hbz := hbz
  clear hbz
  clear hzn
  refine (s_right c w9).mono ?_
  rintro e w10 ⟨rfl, hE⟩
  have Kcw10 := Lib.hid (hE.blk Kcw9.out id)
  have Kmw10 := Lib.hid (hE.blk Kmw9.out id)
  have Krw10 := Lib.hid (hE.blk Krw9.out id)
  have Kzw10 := Lib.hid (hE.blk Kzw9.out id)
  replace HN1 := Lib.hid (newM_mod HN1.out hE (fun _ _ => id) (fun _ _ => id))
  replace HX := Lib.hid (HX.out.ext hE)
  clear Kcw9
  clear Kmw9
  clear Krw9
  clear Kzw9
  clear hE
  have c_0 : w10.cell? ⟨bc, 0, none⟩ = some _ := blk_cell Kcw10.out rfl
  have c_1 : w10.cell? ⟨bc, 1, none⟩ = some _ := blk_cell Kcw10.out rfl
  have c_2 : w10.cell? ⟨bc, 2, none⟩ = some _ := blk_cell Kcw10.out rfl
  have c_3 : w10.cell? ⟨bc, 3, none⟩ = some _ := blk_cell Kcw10.out rfl
  have c_4 : w10.cell? ⟨bc, 4, none⟩ = some _ := blk_cell Kcw10.out rfl
  have c_5 : w10.cell? ⟨bc, 5, none⟩ = some _ := blk_cell Kcw10.out rfl
  have c_6 : w10.cell? ⟨bc, 6, none⟩ = some _ := blk_cell Kcw10.out rfl
  have c_7 : w10.cell? ⟨bc, 7, none⟩ = some _ := blk_cell Kcw10.out rfl
  have c_8 : w10.cell? ⟨bc, 8, none⟩ = some _ := blk_cell Kcw10.out rfl
  have c_9 : w10.cell? ⟨bc, 9, none⟩ = some _ := blk_cell Kcw10.out rfl
  have c_l : bc < w10.heap.size := (Array.getElem?_eq_some_iff.1 Kcw10.out).1
  have m_0 : w10.cell? ⟨bm, 0, none⟩ = some _ := blk_cell Kmw10.out rfl
  have m_1 : w10.cell? ⟨bm, 1, none⟩ = some _ := blk_cell Kmw10.out rfl
  have m_l : bm < w10.heap.size := (Array.getElem?_eq_some_iff.1 Kmw10.out).1
  have r_0 : w10.cell? ⟨br, 0, none⟩ = some _ := blk_cell Krw10.out rfl
  have r_1 : w10.cell? ⟨br, 1, none⟩ = some _ := blk_cell Krw10.out rfl
  have r_2 : w10.cell? ⟨br, 2, none⟩ = some _ := blk_cell Krw10.out rfl
  have r_3 : w10.cell? ⟨br, 3, none⟩ = some _ := blk_cell Krw10.out rfl
  have r_l : br < w10.heap.size := (Array.getElem?_eq_some_iff.1 Krw10.out).1
  have z_0 : w10.cell? ⟨bz, 0, none⟩ = some _ := blk_cell Kzw10.out rfl
  have z_1 : w10.cell? ⟨bz, 1, none⟩ = some _ := blk_cell Kzw10.out rfl
  have z_2 : w10.cell? ⟨bz, 2, none⟩ = some _ := blk_cell Kzw10.out rfl
  have z_3 : w10.cell? ⟨bz, 3, none⟩ = some _ := blk_cell Kzw10.out rfl
  have z_l : bz < w10.heap.size := (Array.getElem?_eq_some_iff.1 Kzw10.out).1
  by_cases h0 : callE c = 0
  case neg =>
    have d0 : (callE c != 0) = true := by simpa using h0
    have H0 := Lib.hid h0
    clear h0
    go_wp2_with fail
    refine (l_wakes7 w10).mono ?_
    rintro e w11 ⟨rfl, hE⟩
    clear c_0 c_1 c_2 c_3 c_4 c_5 c_6 c_7 c_8 c_9 c_l m_0 m_1 m_l r_0 r_1 r_2 r_3 r_l z_0 z_1 z_2 z_3 z_l
    have Kcw11 := Lib.hid (hE.blk Kcw10.out id)
    have Kmw11 := Lib.hid (hE.blk Kmw10.out id)
    have Krw11 := Lib.hid (hE.blk Krw10.out id)
    have Kzw11 := Lib.hid (hE.blk Kzw10.out id)
    replace HN1 := Lib.hid (newM_mod HN1.out hE (fun _ _ => id) (fun _ _ => id))
    replace HX := Lib.hid (HX.out.ext hE)
    clear Kcw10
    clear Kmw10
    clear Krw10
    clear Kzw10
    clear hE
    have c_0 : w11.cell? ⟨bc, 0, none⟩ = some _ := blk_cell Kcw11.out rfl
    have c_1 : w11.cell? ⟨bc, 1, none⟩ = some _ := blk_cell Kcw11.out rfl
    have c_2 : w11.cell? ⟨bc, 2, none⟩ = some _ := blk_cell Kcw11.out rfl
    have c_3 : w11.cell? ⟨bc, 3, none⟩ = some _ := blk_cell Kcw11.out rfl
    have c_4 : w11.cell? ⟨bc, 4, none⟩ = some _ := blk_cell Kcw11.out rfl
    have c_5 : w11.cell? ⟨bc, 5, none⟩ = some _ := blk_cell Kcw11.out rfl
    have c_6 : w11.cell? ⟨bc, 6, none⟩ = some _ := blk_cell Kcw11.out rfl
    have c_7 : w11.cell? ⟨bc, 7, none⟩ = some _ := blk_cell Kcw11.out rfl
    have c_8 : w11.cell? ⟨bc, 8, none⟩ = some _ := blk_cell Kcw11.out rfl
    have c_9 : w11.cell? ⟨bc, 9, none⟩ = some _ := blk_cell Kcw11.out rfl
    have c_l : bc < w11.heap.size := (Array.getElem?_eq_some_iff.1 Kcw11.out).1
    have m_0 : w11.cell? ⟨bm, 0, none⟩ = some _ := blk_cell Kmw11.out rfl
    have m_1 : w11.cell? ⟨bm, 1, none⟩ = some _ := blk_cell Kmw11.out rfl
    have m_l : bm < w11.heap.size := (Array.getElem?_eq_some_iff.1 Kmw11.out).1
    have r_0 : w11.cell? ⟨br, 0, none⟩ = some _ := blk_cell Krw11.out rfl
    have r_1 : w11.cell? ⟨br, 1, none⟩ = some _ := blk_cell Krw11.out rfl
    have r_2 : w11.cell? ⟨br, 2, none⟩ = some _ := blk_cell Krw11.out rfl
    have r_3 : w11.cell? ⟨br, 3, none⟩ = some _ := blk_cell Krw11.out rfl
    have r_l : br < w11.heap.size := (Array.getElem?_eq_some_iff.1 Krw11.out).1
    have z_0 : w11.cell? ⟨bz, 0, none⟩ = some _ := blk_cell Kzw11.out rfl
    have z_1 : w11.cell? ⟨bz, 1, none⟩ = some _ := blk_cell Kzw11.out rfl
    have z_2 : w11.cell? ⟨bz, 2, none⟩ = some _ := blk_cell Kzw11.out rfl
    have z_3 : w11.cell? ⟨bz, 3, none⟩ = some _ := blk_cell Kzw11.out rfl
    have z_l : bz < w11.heap.size := (Array.getElem?_eq_some_iff.1 Kzw11.out).1
    go_wp2
    go_ret
    exact ⟨rfl, Ext.below HX.out⟩
  have d0 : (callE c != 0) = false := by simp [h0]
  have H0 := Lib.hid h0
  clear h0
  have Hlm : Hid (lastS M.sess c.client = (c.seq, r)) := Lib.hid (by
    have := once_done (c := c) Hr.out H0.out (by rw [HEr.out]; simp only; rw [Hla.out]; exact Hk.out)
    rw [HEr.out] at this
    exact this)
  go_wp2
  clear c_0 c_1 c_2 c_3 c_4 c_5 c_6 c_7 c_8 c_9 c_l m_0 m_1 m_l r_0 r_1 r_2 r_3 r_l z_0 z_1 z_2 z_3 z_l
  go_loopw [11] (fun iv wr => ∃ (i : Nat) (N : AMach) (Ai Bi : Option Addr) (ci di : Nat), i ≤ n' ∧ i ≤ 200 ∧ iv = .int .i64 i ∧ wr.heap[bm]? = some (.cells #[.slice Ai N.pairs.length ci, .slice Bi N.sess.length di] 25 (0, 0)) ∧ NewM w wr (.slice Ai N.pairs.length ci) (.slice Bi N.sess.length di) N ∧ machB N = true ∧ lastS N.sess c.client = (c.seq, r) ∧ Mod (fun k => k = bm) w10 wr) (fun iv _ => n' - (intOf iv).toNat)
  case atStart => exact ⟨0, M, A1, B1, c1, d1, by omega, by omega, rfl, Kmw10.out, HN1.out, HRM.out, Hlm.out, Mod.refl _ _⟩
  case round =>
    obtain ⟨i, N, Ai, Bi, ci, di, hin, hi200, rfl, hB, hN, hr, hls, hm⟩ := hrel
    have HXr : Hid (Ext w wr) := Lib.hid (Mod.toExt ((Ext.mod HX.out (Since w.heap.size)).trans hm (fun k _ e => by unfold Since; omega)))
    have HMr := HM.out.ext HXr.out
    have Kmwr := Lib.hid hB
    have HNi := Lib.hid hN
    have HRN := Lib.hid hr
    have Hls := Lib.hid hls
    have Hm := Lib.hid hm
    have Kcwr := Lib.hid (hm.blk Kcw10.out (by omega))
    have Krwr := Lib.hid (hm.blk Krw10.out (by omega))
    have Kzwr := Lib.hid (hm.blk Kzw10.out (by omega))
    clear hB hN hr hls hm HN1 HX Kcw10 Kmw10 Krw10 Kzw10
    have HX := HXr
    clear HXr
    by_cases hi : i < n'
    · obtain ⟨g, off, x, rfl, hgT, hx, hxok, hcells⟩ := HMr.at hi
      have hi0 : (0 : Int) ≤ (i : Int) := by omega
      have hi1 : (i : Int) < (n' : Int) := by omega
      have ngb : ¬ g = bm := by omega
      have x0 := hcells 0 _ rfl
      have x1 := hcells 1 _ rfl
      have x2 := hcells 2 _ rfl
      have x3 := hcells 3 _ rfl
      have x4 := hcells 4 _ rfl
      have x5 := hcells 5 _ rfl
      have x6 := hcells 6 _ rfl
      have x7 := hcells 7 _ rfl
      have x8 := hcells 8 _ rfl
      have x9 := hcells 9 _ rfl
      rw [Nat.add_zero] at x0
      have z3 := x3
      rw [show off + i * 10 + 3 = off + i * 10 + 2 + 1 by omega] at z3
      have z4 := x4
      rw [show off + i * 10 + 4 = off + i * 10 + 2 + 2 by omega] at z4
      have z5 := x5
      rw [show off + i * 10 + 5 = off + i * 10 + 2 + 3 by omega] at z5
      have z6 := x6
      rw [show off + i * 10 + 6 = off + i * 10 + 2 + 4 by omega] at z6
      have z7 := x7
      rw [show off + i * 10 + 7 = off + i * 10 + 2 + 5 by omega] at z7
      have z8 := x8
      rw [show off + i * 10 + 8 = off + i * 10 + 2 + 6 by omega] at z8
      have z9 := x9
      rw [show off + i * 10 + 9 = off + i * 10 + 2 + 7 by omega] at z9
      have Hxok := Lib.hid hxok
      have hgl : g < wr.heap.size := World.block_lt_of_cell? _ _ x0
      clear hcells hx hxok HMr
      by_cases h200 : i < 200
      · clear Krwr Kzwr
        by_cases hcx : x.client = c.client
        · have dx : (x.client != c.client) = false := by simp [hcx]
          have Hcx := Lib.hid hcx
          clear hcx
          go_wp2_with fail
          have c_0 : wr.cell? ⟨bc, 0, none⟩ = some _ := blk_cell Kcwr.out rfl
          have c_1 : wr.cell? ⟨bc, 1, none⟩ = some _ := blk_cell Kcwr.out rfl
          have c_2 : wr.cell? ⟨bc, 2, none⟩ = some _ := blk_cell Kcwr.out rfl
          have c_3 : wr.cell? ⟨bc, 3, none⟩ = some _ := blk_cell Kcwr.out rfl
          have c_4 : wr.cell? ⟨bc, 4, none⟩ = some _ := blk_cell Kcwr.out rfl
          have c_5 : wr.cell? ⟨bc, 5, none⟩ = some _ := blk_cell Kcwr.out rfl
          have c_6 : wr.cell? ⟨bc, 6, none⟩ = some _ := blk_cell Kcwr.out rfl
          have c_7 : wr.cell? ⟨bc, 7, none⟩ = some _ := blk_cell Kcwr.out rfl
          have c_8 : wr.cell? ⟨bc, 8, none⟩ = some _ := blk_cell Kcwr.out rfl
          have c_9 : wr.cell? ⟨bc, 9, none⟩ = some _ := blk_cell Kcwr.out rfl
          have c_l : bc < wr.heap.size := (Array.getElem?_eq_some_iff.1 Kcwr.out).1
          have m_0 : wr.cell? ⟨bm, 0, none⟩ = some _ := blk_cell Kmwr.out rfl
          have m_1 : wr.cell? ⟨bm, 1, none⟩ = some _ := blk_cell Kmwr.out rfl
          have m_l : bm < wr.heap.size := (Array.getElem?_eq_some_iff.1 Kmwr.out).1
          refine wp_region_held_drew (S := fun W' => Ext wr W') (by kernel_rfl) (Mod.refl _ wr).drew (fun hS => ?_)
          refine takeH (i := 0) (v := ?_) (some 62) rfl rfl (by kernel_rfl) (by kernel_rfl) (by kernel_rfl) (fun _ _ _ h => h) (Or.inl ⟨by kernel_rfl, ?_⟩) hS ?_
          rotate_left
          · rintro W' hW'
            obtain ⟨hbc, hbf⟩ := bcell hW'
            go_simp
            try with_reducible rfl
          try simp only [pL]
          refine takeH (i := 1) (v := ?_) (some 63) rfl rfl (by kernel_rfl) (by kernel_rfl) (by kernel_rfl) (fun _ _ _ h => h) (Or.inl ⟨by kernel_rfl, ?_⟩) hS ?_
          rotate_left
          · rintro W' hW'
            obtain ⟨hbc, hbf⟩ := bcell hW'
            go_simp
            try with_reducible rfl
          try simp only [pL]
          refine takeH (i := 2) (v := ?_) (some 64) rfl rfl (by kernel_rfl) (by kernel_rfl) (by kernel_rfl) (fun _ _ _ h => h) (Or.inl ⟨by kernel_rfl, ?_⟩) hS ?_
          rotate_left
          · rintro W' hW'
            obtain ⟨hbc, hbf⟩ := bcell hW'
            go_simp
            try with_reducible rfl
          try simp only [pL]
          refine takeH (i := 3) (v := ?_) (some 65) rfl rfl (by kernel_rfl) (by kernel_rfl) (by kernel_rfl) (fun _ _ _ h => h) (Or.inl ⟨by kernel_rfl, ?_⟩) hS ?_
          rotate_left
          · rintro W' hW'
            obtain ⟨hbc, hbf⟩ := bcell hW'
            go_simp
            try with_reducible rfl
          try simp only [pL]
          refine takeH (i := 4) (v := ?_) (some 66) rfl rfl (by kernel_rfl) (by kernel_rfl) (by kernel_rfl) (fun _ _ _ h => h) (Or.inl ⟨by kernel_rfl, ?_⟩) hS ?_
          rotate_left
          · rintro W' hW'
            obtain ⟨hbc, hbf⟩ := bcell hW'
            go_simp
            try with_reducible rfl
          try simp only [pL]
          refine takeH (i := 5) (v := ?_) (some 67) rfl rfl (by kernel_rfl) (by kernel_rfl) (by kernel_rfl) (fun _ _ _ h => h) (Or.inl ⟨by kernel_rfl, ?_⟩) hS ?_
          rotate_left
          · rintro W' hW'
            obtain ⟨hbc, hbf⟩ := bcell hW'
            go_simp
            try with_reducible rfl
          try simp only [pL]
          refine takeH (i := 6) (v := ?_) (some 68) rfl rfl (by kernel_rfl) (by kernel_rfl) (by kernel_rfl) (fun _ _ _ h => h) (Or.inl ⟨by kernel_rfl, ?_⟩) hS ?_
          rotate_left
          · rintro W' hW'
            obtain ⟨hbc, hbf⟩ := bcell hW'
            go_simp
            try with_reducible rfl
          try simp only [pL]
          refine takeH (i := 7) (v := ?_) (some 69) rfl rfl (by kernel_rfl) (by kernel_rfl) (by kernel_rfl) (fun _ _ _ h => h) (Or.inl ⟨by kernel_rfl, ?_⟩) hS ?_
          rotate_left
          · rintro W' hW'
            obtain ⟨hbc, hbf⟩ := bcell hW'
            go_simp
            try with_reducible rfl
          try simp only [pL]
          refine takeH (i := 8) (v := ?_) (some 70) rfl rfl (by kernel_rfl) (by kernel_rfl) (by kernel_rfl) (fun _ _ _ h => h) (Or.inl ⟨by kernel_rfl, ?_⟩) hS ?_
          rotate_left
          · rintro W' hW'
            obtain ⟨hbc, hbf⟩ := bcell hW'
            go_simp
            try with_reducible rfl
          try simp only [pL]
          refine tuH 9 (some 71) rfl rfl hS ?_
          try simp only [pL]
          refine tuH 10 (some 72) rfl rfl hS ?_
          try simp only [pL]
          refine tuH 11 (some 73) rfl rfl hS ?_
          try simp only [pL]
          refine tuH 12 (some 74) rfl rfl hS ?_
          try simp only [pL]
          refine tuH 13 (some 75) rfl rfl hS ?_
          try simp only [pL]
          refine tuH 14 (some 76) rfl rfl hS ?_
          try simp only [pL]
          refine tuH 15 (some 77) rfl rfl hS ?_
          try simp only [pL]
          refine takeH (i := 16) (v := ?_) (some 78) rfl rfl (by kernel_rfl) (by kernel_rfl) (by kernel_rfl) (fun _ _ _ h => h) (Or.inl ⟨by kernel_rfl, ?_⟩) hS ?_
          rotate_left
          · rintro W' hW'
            obtain ⟨hbc, hbf⟩ := bcell hW'
            go_simp
            try with_reducible rfl
          try simp only [pL]
          refine wpAnyH_done (by kernel_rfl) ?_ _
          obtain ⟨w12, hnw⟩ : ∃ w12, w12 = wr.drew := ⟨_, rfl⟩
          rw [← hnw]
          replace hS : Ext wr w12 := by rw [hnw]; exact (Mod.refl _ _).drew
          clear hnw
          have hE := hS
          clear hS
          clear c_0 c_1 c_2 c_3 c_4 c_5 c_6 c_7 c_8 c_9 c_l m_0 m_1 m_l
          have Kcw12 := Lib.hid (hE.blk Kcwr.out id)
          have Kmw12 := Lib.hid (hE.blk Kmwr.out id)
          replace HNi := Lib.hid (newM_mod HNi.out hE (fun _ _ => id) (fun _ _ => id))
          replace Hm := Lib.hid (Hm.out.ext hE)
          replace x0 := hE.cell x0 id
          replace x1 := hE.cell x1 id
          replace x2 := hE.cell x2 id
          replace x3 := hE.cell x3 id
          replace x4 := hE.cell x4 id
          replace x5 := hE.cell x5 id
          replace x6 := hE.cell x6 id
          replace x7 := hE.cell x7 id
          replace x8 := hE.cell x8 id
          replace x9 := hE.cell x9 id
          replace z3 := hE.cell z3 id
          replace z4 := hE.cell z4 id
          replace z5 := hE.cell z5 id
          replace z6 := hE.cell z6 id
          replace z7 := hE.cell z7 id
          replace z8 := hE.cell z8 id
          replace z9 := hE.cell z9 id
          replace HX := Lib.hid (HX.out.ext hE)
          clear Kcwr
          clear Kmwr
          clear hE
          have c_0 : w12.cell? ⟨bc, 0, none⟩ = some _ := blk_cell Kcw12.out rfl
          have c_1 : w12.cell? ⟨bc, 1, none⟩ = some _ := blk_cell Kcw12.out rfl
          have c_2 : w12.cell? ⟨bc, 2, none⟩ = some _ := blk_cell Kcw12.out rfl
          have c_3 : w12.cell? ⟨bc, 3, none⟩ = some _ := blk_cell Kcw12.out rfl
          have c_4 : w12.cell? ⟨bc, 4, none⟩ = some _ := blk_cell Kcw12.out rfl
          have c_5 : w12.cell? ⟨bc, 5, none⟩ = some _ := blk_cell Kcw12.out rfl
          have c_6 : w12.cell? ⟨bc, 6, none⟩ = some _ := blk_cell Kcw12.out rfl
          have c_7 : w12.cell? ⟨bc, 7, none⟩ = some _ := blk_cell Kcw12.out rfl
          have c_8 : w12.cell? ⟨bc, 8, none⟩ = some _ := blk_cell Kcw12.out rfl
          have c_9 : w12.cell? ⟨bc, 9, none⟩ = some _ := blk_cell Kcw12.out rfl
          have c_l : bc < w12.heap.size := (Array.getElem?_eq_some_iff.1 Kcw12.out).1
          have m_0 : w12.cell? ⟨bm, 0, none⟩ = some _ := blk_cell Kmw12.out rfl
          have m_1 : w12.cell? ⟨bm, 1, none⟩ = some _ := blk_cell Kmw12.out rfl
          have m_l : bm < w12.heap.size := (Array.getElem?_eq_some_iff.1 Kmw12.out).1
          clear c_0 c_1 c_2 c_3 c_4 c_5 c_6 c_7 c_8 c_9 c_l m_0 m_1 m_l
          clear x0 x1 x2 x3 x4 x5 x6 x7 x8 x9 z3 z4 z5 z6 z7 z8 z9
          go_wp2
          exact ⟨⟨i + 1, N, Ai, Bi, ci, di, by omega, by omega, by go_num, Kmw12.out, HNi.out, HRN.out, Hls.out, Hm.out⟩, by simp [intOf]; omega⟩
        · have dx : (x.client != c.client) = true := by simp [hcx]
          have Hcx := Lib.hid hcx
          clear hcx
          rcases hh : heavyCmd x.cmd with _ | _
          · go_wp2_with fail
            have c_0 : wr.cell? ⟨bc, 0, none⟩ = some _ := blk_cell Kcwr.out rfl
            have c_1 : wr.cell? ⟨bc, 1, none⟩ = some _ := blk_cell Kcwr.out rfl
            have c_2 : wr.cell? ⟨bc, 2, none⟩ = some _ := blk_cell Kcwr.out rfl
            have c_3 : wr.cell? ⟨bc, 3, none⟩ = some _ := blk_cell Kcwr.out rfl
            have c_4 : wr.cell? ⟨bc, 4, none⟩ = some _ := blk_cell Kcwr.out rfl
            have c_5 : wr.cell? ⟨bc, 5, none⟩ = some _ := blk_cell Kcwr.out rfl
            have c_6 : wr.cell? ⟨bc, 6, none⟩ = some _ := blk_cell Kcwr.out rfl
            have c_7 : wr.cell? ⟨bc, 7, none⟩ = some _ := blk_cell Kcwr.out rfl
            have c_8 : wr.cell? ⟨bc, 8, none⟩ = some _ := blk_cell Kcwr.out rfl
            have c_9 : wr.cell? ⟨bc, 9, none⟩ = some _ := blk_cell Kcwr.out rfl
            have c_l : bc < wr.heap.size := (Array.getElem?_eq_some_iff.1 Kcwr.out).1
            have m_0 : wr.cell? ⟨bm, 0, none⟩ = some _ := blk_cell Kmwr.out rfl
            have m_1 : wr.cell? ⟨bm, 1, none⟩ = some _ := blk_cell Kmwr.out rfl
            have m_l : bm < wr.heap.size := (Array.getElem?_eq_some_iff.1 Kmwr.out).1
            refine wp_region_held_drew (S := fun W' => Ext wr W') (by kernel_rfl) (Mod.refl _ wr).drew (fun hS => ?_)
            refine takeH (i := 0) (v := ?_) (some 62) rfl rfl (by kernel_rfl) (by kernel_rfl) (by kernel_rfl) (fun _ _ _ h => h) (Or.inl ⟨by kernel_rfl, ?_⟩) hS ?_
            rotate_left
            · rintro W' hW'
              obtain ⟨hbc, hbf⟩ := bcell hW'
              go_simp
              try with_reducible rfl
            try simp only [pL]
            refine takeH (i := 1) (v := ?_) (some 63) rfl rfl (by kernel_rfl) (by kernel_rfl) (by kernel_rfl) (fun _ _ _ h => h) (Or.inl ⟨by kernel_rfl, ?_⟩) hS ?_
            rotate_left
            · rintro W' hW'
              obtain ⟨hbc, hbf⟩ := bcell hW'
              go_simp
              try with_reducible rfl
            try simp only [pL]
            refine takeH (i := 2) (v := ?_) (some 64) rfl rfl (by kernel_rfl) (by kernel_rfl) (by kernel_rfl) (fun _ _ _ h => h) (Or.inl ⟨by kernel_rfl, ?_⟩) hS ?_
            rotate_left
            · rintro W' hW'
              obtain ⟨hbc, hbf⟩ := bcell hW'
              go_simp
              try with_reducible rfl
            try simp only [pL]
            refine takeH (i := 3) (v := ?_) (some 65) rfl rfl (by kernel_rfl) (by kernel_rfl) (by kernel_rfl) (fun _ _ _ h => h) (Or.inl ⟨by kernel_rfl, ?_⟩) hS ?_
            rotate_left
            · rintro W' hW'
              obtain ⟨hbc, hbf⟩ := bcell hW'
              go_simp
              try with_reducible rfl
            try simp only [pL]
            refine takeH (i := 4) (v := ?_) (some 66) rfl rfl (by kernel_rfl) (by kernel_rfl) (by kernel_rfl) (fun _ _ _ h => h) (Or.inl ⟨by kernel_rfl, ?_⟩) hS ?_
            rotate_left
            · rintro W' hW'
              obtain ⟨hbc, hbf⟩ := bcell hW'
              go_simp
              try with_reducible rfl
            try simp only [pL]
            refine takeH (i := 5) (v := ?_) (some 67) rfl rfl (by kernel_rfl) (by kernel_rfl) (by kernel_rfl) (fun _ _ _ h => h) (Or.inl ⟨by kernel_rfl, ?_⟩) hS ?_
            rotate_left
            · rintro W' hW'
              obtain ⟨hbc, hbf⟩ := bcell hW'
              go_simp
              try with_reducible rfl
            try simp only [pL]
            refine takeH (i := 6) (v := ?_) (some 68) rfl rfl (by kernel_rfl) (by kernel_rfl) (by kernel_rfl) (fun _ _ _ h => h) (Or.inl ⟨by kernel_rfl, ?_⟩) hS ?_
            rotate_left
            · rintro W' hW'
              obtain ⟨hbc, hbf⟩ := bcell hW'
              go_simp
              try with_reducible rfl
            try simp only [pL]
            refine takeH (i := 7) (v := ?_) (some 69) rfl rfl (by kernel_rfl) (by kernel_rfl) (by kernel_rfl) (fun _ _ _ h => h) (Or.inl ⟨by kernel_rfl, ?_⟩) hS ?_
            rotate_left
            · rintro W' hW'
              obtain ⟨hbc, hbf⟩ := bcell hW'
              go_simp
              try with_reducible rfl
            try simp only [pL]
            refine takeH (i := 8) (v := ?_) (some 70) rfl rfl (by kernel_rfl) (by kernel_rfl) (by kernel_rfl) (fun _ _ _ h => h) (Or.inl ⟨by kernel_rfl, ?_⟩) hS ?_
            rotate_left
            · rintro W' hW'
              obtain ⟨hbc, hbf⟩ := bcell hW'
              go_simp
              try with_reducible rfl
            try simp only [pL]
            refine takeH (i := 9) (v := ?_) (some 71) rfl rfl (by kernel_rfl) (by kernel_rfl) (by kernel_rfl) (fun _ _ _ h => h) (Or.inl ⟨by kernel_rfl, ?_⟩) hS ?_
            rotate_left
            · rintro W' hW'
              obtain ⟨hbc, hbf⟩ := bcell hW'
              go_simp
              try with_reducible rfl
            try simp only [pL]
            refine takeH (i := 10) (v := ?_) (some 72) rfl rfl (by kernel_rfl) (by kernel_rfl) (by kernel_rfl) (fun _ _ _ h => h) (Or.inl ⟨by kernel_rfl, ?_⟩) hS ?_
            rotate_left
            · rintro W' hW'
              obtain ⟨hbc, hbf⟩ := bcell hW'
              go_simp
              try with_reducible rfl
            try simp only [pL]
            refine takeH (i := 11) (v := ?_) (some 73) rfl rfl (by kernel_rfl) (by kernel_rfl) (by kernel_rfl) (fun _ _ _ h => h) (Or.inl ⟨by kernel_rfl, ?_⟩) hS ?_
            rotate_left
            · rintro W' hW'
              obtain ⟨hbc, hbf⟩ := bcell hW'
              go_simp
              try with_reducible rfl
            try simp only [pL]
            refine takeH (i := 12) (v := ?_) (some 74) rfl rfl (by kernel_rfl) (by kernel_rfl) (by kernel_rfl) (fun _ _ _ h => h) (Or.inl ⟨by kernel_rfl, ?_⟩) hS ?_
            rotate_left
            · rintro W' hW'
              obtain ⟨hbc, hbf⟩ := bcell hW'
              go_simp
              try with_reducible rfl
            try simp only [pL]
            refine takeH (i := 13) (v := ?_) (some 75) rfl rfl (by kernel_rfl) (by kernel_rfl) (by kernel_rfl) (fun _ _ _ h => h) (Or.inl ⟨by kernel_rfl, ?_⟩) hS ?_
            rotate_left
            · rintro W' hW'
              obtain ⟨hbc, hbf⟩ := bcell hW'
              go_simp
              try with_reducible rfl
            try simp only [pL]
            refine wpAnyH_ready (rs := [14]) (by kernel_rfl) (by simp) ?_
            refine AllReadyH.cons rfl (fun K hK => ?_) AllReadyH.nil
            go_simp
            go_wp2_with fail
            refine (hv_cmd x.cmd _).mono ?_
            rintro e w12 ⟨rfl, hE⟩
            rw [hh]
            have hX := Mod.ext hS hE
            clear hE hS
            go_simp
            refine hK.out _ _ hX (fun hS => ?_)
            clear hK K hX
            refine takeH (i := 15) (v := ?_) (some 77) rfl rfl (by kernel_rfl) (by kernel_rfl) (by kernel_rfl) (fun _ _ _ h => h) (Or.inl ⟨by kernel_rfl, ?_⟩) hS ?_
            rotate_left
            · rintro W' hW'
              obtain ⟨hbc, hbf⟩ := bcell hW'
              go_simp
              try with_reducible rfl
            try simp only [pL]
            refine takeH (i := 16) (v := ?_) (some 78) rfl rfl (by kernel_rfl) (by kernel_rfl) (by kernel_rfl) (fun _ _ _ h => h) (Or.inl ⟨by kernel_rfl, ?_⟩) hS ?_
            rotate_left
            · rintro W' hW'
              obtain ⟨hbc, hbf⟩ := bcell hW'
              go_simp
              try with_reducible rfl
            try simp only [pL]
            refine wpAnyH_done (by kernel_rfl) ?_ _
            have hE := hS
            clear hS
            clear c_0 c_1 c_2 c_3 c_4 c_5 c_6 c_7 c_8 c_9 c_l m_0 m_1 m_l
            have Kcw12 := Lib.hid (hE.blk Kcwr.out id)
            have Kmw12 := Lib.hid (hE.blk Kmwr.out id)
            replace HNi := Lib.hid (newM_mod HNi.out hE (fun _ _ => id) (fun _ _ => id))
            replace Hm := Lib.hid (Hm.out.ext hE)
            replace x0 := hE.cell x0 id
            replace x1 := hE.cell x1 id
            replace x2 := hE.cell x2 id
            replace x3 := hE.cell x3 id
            replace x4 := hE.cell x4 id
            replace x5 := hE.cell x5 id
            replace x6 := hE.cell x6 id
            replace x7 := hE.cell x7 id
            replace x8 := hE.cell x8 id
            replace x9 := hE.cell x9 id
            replace z3 := hE.cell z3 id
            replace z4 := hE.cell z4 id
            replace z5 := hE.cell z5 id
            replace z6 := hE.cell z6 id
            replace z7 := hE.cell z7 id
            replace z8 := hE.cell z8 id
            replace z9 := hE.cell z9 id
            replace HX := Lib.hid (HX.out.ext hE)
            clear Kcwr
            clear Kmwr
            clear hE
            have c_0 : w12.cell? ⟨bc, 0, none⟩ = some _ := blk_cell Kcw12.out rfl
            have c_1 : w12.cell? ⟨bc, 1, none⟩ = some _ := blk_cell Kcw12.out rfl
            have c_2 : w12.cell? ⟨bc, 2, none⟩ = some _ := blk_cell Kcw12.out rfl
            have c_3 : w12.cell? ⟨bc, 3, none⟩ = some _ := blk_cell Kcw12.out rfl
            have c_4 : w12.cell? ⟨bc, 4, none⟩ = some _ := blk_cell Kcw12.out rfl
            have c_5 : w12.cell? ⟨bc, 5, none⟩ = some _ := blk_cell Kcw12.out rfl
            have c_6 : w12.cell? ⟨bc, 6, none⟩ = some _ := blk_cell Kcw12.out rfl
            have c_7 : w12.cell? ⟨bc, 7, none⟩ = some _ := blk_cell Kcw12.out rfl
            have c_8 : w12.cell? ⟨bc, 8, none⟩ = some _ := blk_cell Kcw12.out rfl
            have c_9 : w12.cell? ⟨bc, 9, none⟩ = some _ := blk_cell Kcw12.out rfl
            have c_l : bc < w12.heap.size := (Array.getElem?_eq_some_iff.1 Kcw12.out).1
            have m_0 : w12.cell? ⟨bm, 0, none⟩ = some _ := blk_cell Kmw12.out rfl
            have m_1 : w12.cell? ⟨bm, 1, none⟩ = some _ := blk_cell Kmw12.out rfl
            have m_l : bm < w12.heap.size := (Array.getElem?_eq_some_iff.1 Kmw12.out).1
            clear c_0 c_1 c_2 c_3 c_4 c_5 c_6 c_7 c_8 c_9 c_l m_0 m_1 m_l
            go_wp2_with fail
            rcases hr : onceP N x with ⟨MN, rN⟩
            have HR2 : Hid (machB MN = true) := Lib.hid (by have := once_right x HRN.out; rw [hr] at this; exact this)
            have Hl2 : Hid (lastS MN.sess c.client = (c.seq, r)) := Lib.hid (by have := once_other (c := x) (k := c.client) HRN.out Hcx.out; rw [hr] at this; exact this.trans Hls.out)
            have Hon := Lib.hid hr
            clear hr
            refine wp_region_held_drew (S := (fun W' : World => Mod (fun k => k = bm) w12 W' ∧ ∃ x y, W'.heap[bm]? = some (.cells #[x, y] 25 (0, 0)))) (by kernel_rfl) ⟨(Mod.refl _ w12).drew, _, _, Kmw12.out⟩ (fun hS => ?_)
            refine tkH 1 (some 81) rfl rfl ?_ hS ?_ ?_; rotate_left; · rintro W' ⟨hm', _⟩; go_simp; try with_reducible rfl
            try simp only [pL]
            refine tkH 2 (some 82) rfl rfl ?_ hS ?_ ?_; rotate_left; · rintro W' ⟨hm', _⟩; go_simp; try with_reducible rfl
            try simp only [pL]
            refine tkH 3 (some 83) rfl rfl ?_ hS ?_ ?_; rotate_left; · rintro W' ⟨hm', _⟩; go_simp; try with_reducible rfl
            try simp only [pL]
            refine takeH (i := 4) (v := ?_) (some 84) rfl rfl (by kernel_rfl) (by kernel_rfl) (by kernel_rfl) (fun _ _ _ h => h) (Or.inl ⟨by kernel_rfl, ?_⟩) hS ?_
            rotate_left
            · rintro W' ⟨hm', _⟩
              have q0 := hm'.cell x0 ngb
              have q1 := hm'.cell x1 ngb
              have q2 := hm'.cell x2 ngb
              have q3 := hm'.cell x3 ngb
              have q4 := hm'.cell x4 ngb
              have q5 := hm'.cell x5 ngb
              have q6 := hm'.cell x6 ngb
              have q7 := hm'.cell x7 ngb
              have q8 := hm'.cell x8 ngb
              have q9 := hm'.cell x9 ngb
              go_simp
              try with_reducible rfl
            try simp only [pL]
            refine wpAnyH_ready (rs := [0]) (by kernel_rfl) (by simp) ?_
            refine AllReadyH.cons rfl (fun K hK => ?_) AllReadyH.nil
            have m0 : w12.cell? ⟨bm, 0, none⟩ = some _ := blk_cell Kmw12.out rfl
            have m1 : w12.cell? ⟨bm, 1, none⟩ = some _ := blk_cell Kmw12.out rfl
            go_simp
            refine hK.out _ _ hS (fun hS => ?_)
            clear hK K m0 m1
            try simp only [pL]
            refine wpAnyH_ready (rs := [5]) (by kernel_rfl) (by simp) ?_
            refine AllReadyH.cons rfl (fun K hK => ?_) AllReadyH.nil
            go_simp
            go_wp2_with fail
            refine (s_do_at _ _ _ _ _ N x (HNi.out.prs.ext (Mod.refl _ _).drew) (HNi.out.ses.ext (Mod.refl _ _).drew) (mach_small HRN.out) Hxok.out.2.2.2.2.2 Hon.out).mono ?_
            rintro e wd ⟨pv2, v2, rfl, hN2, hE2⟩
            obtain ⟨A3, c3, rfl⟩ := own_form hN2.1.1
            obtain ⟨A4, c4, rfl⟩ := own_form hN2.2.1.1
            have hB2 := hE2.blk Kmw12.out id
            have hX := (⟨hS.1.ext hE2, _, _, hB2⟩ : (fun W' : World => Mod (fun k => k = bm) w12 W' ∧ ∃ x y, W'.heap[bm]? = some (.cells #[x, y] 25 (0, 0))) wd)
            have hM2 : Mod (fun k => k = bm) w12 wd := hS.1.ext hE2
            clear hS
            go_simp
            refine hK.out _ _ hX (fun hS => ?_)
            clear hK K hX
            try simp only [pL]
            refine tkH 6 (some 79) rfl rfl ?_ hS ?_ ?_; rotate_left; · rintro W' ⟨hm', _⟩; go_simp; try with_reducible rfl
            try simp only [pL]
            refine tkH 7 (some 86) rfl rfl ?_ hS ?_ ?_; rotate_left; · rintro W' ⟨hm', _⟩; go_simp; try with_reducible rfl
            try simp only [pL]
            refine tkH 8 (some 87) rfl rfl ?_ hS ?_ ?_; rotate_left; · rintro W' ⟨hm', _⟩; go_simp; try with_reducible rfl
            try simp only [pL]
            refine wpAnyH_ready (rs := [9]) (by kernel_rfl) (by simp) ?_
            refine AllReadyH.cons rfl (fun K hK => ?_) AllReadyH.nil
            have f0 : wd.frozen? ⟨bm, 0, none⟩ = false := blk_free 0 hB2
            have f1 : wd.frozen? ⟨bm, 1, none⟩ = false := blk_free 1 hB2
            have d0 : wd.cell? ⟨bm, 0, none⟩ = some _ := blk_cell hB2 rfl
            have d1 : wd.cell? ⟨bm, 1, none⟩ = some _ := blk_cell hB2 rfl
            have hB3 : ((wd.setCell ⟨bm, 0, none⟩ (.slice A3 MN.pairs.length c3)).setCell ⟨bm, 1, none⟩ (.slice A4 MN.sess.length c4)).heap[bm]? = some (.cells #[.slice A3 MN.pairs.length c3, .slice A4 MN.sess.length c4] 25 (0, 0)) := by simp [World.setCell, Array.getElem?_modify, hB2]
            have hM3 : Mod (fun k => k = bm) wd ((wd.setCell ⟨bm, 0, none⟩ (.slice A3 MN.pairs.length c3)).setCell ⟨bm, 1, none⟩ (.slice A4 MN.sess.length c4)) := mod_same (mod_same (Mod.refl _ _) _ _) _ _
            have hX := (⟨hS.1.self hM3, _, _, hB3⟩ : (fun W' : World => Mod (fun k => k = bm) w12 W' ∧ ∃ x y, W'.heap[bm]? = some (.cells #[x, y] 25 (0, 0))) _)
            go_simp
            refine hK.out _ _ hX (fun hS => ?_)
            clear hK K hX
            refine wpAnyH_done (by kernel_rfl) ?_ _
            clear f0 f1 d0 d1 hS
            have hup := newM_up hN2 (show w.heap.size ≤ _ by have := HX.out.size; simpa using this)
            have hN3 := newM_box hup hB2 hM3 (by decide) (by decide)
            have hm3 : Mod (fun k => k = bm) w10 _ := ((Hm.out.trans hM2 (fun _ _ e => e)).trans hM3 (fun _ _ e => e))
            have HB3 := Lib.hid hB3
            have HN3 := Lib.hid hN3
            have Hm3 := Lib.hid hm3
            clear hB3 hM3 hM2 hup hN3 hm3 hB2 hN2 hE2 x0 x1 x2 x3 x4 x5 x6 x7 x8 x9 z3 z4 z5 z6 z7 z8 z9
            go_wp2
            exact ⟨⟨i + 1, MN, A3, A4, c3, c4, by omega, by omega, by go_num, HB3.out, HN3.out, HR2.out, Hl2.out, Hm3.out⟩, by simp [intOf]; omega⟩
          · go_wp2_with fail
            have c_0 : wr.cell? ⟨bc, 0, none⟩ = some _ := blk_cell Kcwr.out rfl
            have c_1 : wr.cell? ⟨bc, 1, none⟩ = some _ := blk_cell Kcwr.out rfl
            have c_2 : wr.cell? ⟨bc, 2, none⟩ = some _ := blk_cell Kcwr.out rfl
            have c_3 : wr.cell? ⟨bc, 3, none⟩ = some _ := blk_cell Kcwr.out rfl
            have c_4 : wr.cell? ⟨bc, 4, none⟩ = some _ := blk_cell Kcwr.out rfl
            have c_5 : wr.cell? ⟨bc, 5, none⟩ = some _ := blk_cell Kcwr.out rfl
            have c_6 : wr.cell? ⟨bc, 6, none⟩ = some _ := blk_cell Kcwr.out rfl
            have c_7 : wr.cell? ⟨bc, 7, none⟩ = some _ := blk_cell Kcwr.out rfl
            have c_8 : wr.cell? ⟨bc, 8, none⟩ = some _ := blk_cell Kcwr.out rfl
            have c_9 : wr.cell? ⟨bc, 9, none⟩ = some _ := blk_cell Kcwr.out rfl
            have c_l : bc < wr.heap.size := (Array.getElem?_eq_some_iff.1 Kcwr.out).1
            have m_0 : wr.cell? ⟨bm, 0, none⟩ = some _ := blk_cell Kmwr.out rfl
            have m_1 : wr.cell? ⟨bm, 1, none⟩ = some _ := blk_cell Kmwr.out rfl
            have m_l : bm < wr.heap.size := (Array.getElem?_eq_some_iff.1 Kmwr.out).1
            refine wp_region_held_drew (S := fun W' => Ext wr W') (by kernel_rfl) (Mod.refl _ wr).drew (fun hS => ?_)
            refine takeH (i := 0) (v := ?_) (some 62) rfl rfl (by kernel_rfl) (by kernel_rfl) (by kernel_rfl) (fun _ _ _ h => h) (Or.inl ⟨by kernel_rfl, ?_⟩) hS ?_
            rotate_left
            · rintro W' hW'
              obtain ⟨hbc, hbf⟩ := bcell hW'
              go_simp
              try with_reducible rfl
            try simp only [pL]
            refine takeH (i := 1) (v := ?_) (some 63) rfl rfl (by kernel_rfl) (by kernel_rfl) (by kernel_rfl) (fun _ _ _ h => h) (Or.inl ⟨by kernel_rfl, ?_⟩) hS ?_
            rotate_left
            · rintro W' hW'
              obtain ⟨hbc, hbf⟩ := bcell hW'
              go_simp
              try with_reducible rfl
            try simp only [pL]
            refine takeH (i := 2) (v := ?_) (some 64) rfl rfl (by kernel_rfl) (by kernel_rfl) (by kernel_rfl) (fun _ _ _ h => h) (Or.inl ⟨by kernel_rfl, ?_⟩) hS ?_
            rotate_left
            · rintro W' hW'
              obtain ⟨hbc, hbf⟩ := bcell hW'
              go_simp
              try with_reducible rfl
            try simp only [pL]
            refine takeH (i := 3) (v := ?_) (some 65) rfl rfl (by kernel_rfl) (by kernel_rfl) (by kernel_rfl) (fun _ _ _ h => h) (Or.inl ⟨by kernel_rfl, ?_⟩) hS ?_
            rotate_left
            · rintro W' hW'
              obtain ⟨hbc, hbf⟩ := bcell hW'
              go_simp
              try with_reducible rfl
            try simp only [pL]
            refine takeH (i := 4) (v := ?_) (some 66) rfl rfl (by kernel_rfl) (by kernel_rfl) (by kernel_rfl) (fun _ _ _ h => h) (Or.inl ⟨by kernel_rfl, ?_⟩) hS ?_
            rotate_left
            · rintro W' hW'
              obtain ⟨hbc, hbf⟩ := bcell hW'
              go_simp
              try with_reducible rfl
            try simp only [pL]
            refine takeH (i := 5) (v := ?_) (some 67) rfl rfl (by kernel_rfl) (by kernel_rfl) (by kernel_rfl) (fun _ _ _ h => h) (Or.inl ⟨by kernel_rfl, ?_⟩) hS ?_
            rotate_left
            · rintro W' hW'
              obtain ⟨hbc, hbf⟩ := bcell hW'
              go_simp
              try with_reducible rfl
            try simp only [pL]
            refine takeH (i := 6) (v := ?_) (some 68) rfl rfl (by kernel_rfl) (by kernel_rfl) (by kernel_rfl) (fun _ _ _ h => h) (Or.inl ⟨by kernel_rfl, ?_⟩) hS ?_
            rotate_left
            · rintro W' hW'
              obtain ⟨hbc, hbf⟩ := bcell hW'
              go_simp
              try with_reducible rfl
            try simp only [pL]
            refine takeH (i := 7) (v := ?_) (some 69) rfl rfl (by kernel_rfl) (by kernel_rfl) (by kernel_rfl) (fun _ _ _ h => h) (Or.inl ⟨by kernel_rfl, ?_⟩) hS ?_
            rotate_left
            · rintro W' hW'
              obtain ⟨hbc, hbf⟩ := bcell hW'
              go_simp
              try with_reducible rfl
            try simp only [pL]
            refine takeH (i := 8) (v := ?_) (some 70) rfl rfl (by kernel_rfl) (by kernel_rfl) (by kernel_rfl) (fun _ _ _ h => h) (Or.inl ⟨by kernel_rfl, ?_⟩) hS ?_
            rotate_left
            · rintro W' hW'
              obtain ⟨hbc, hbf⟩ := bcell hW'
              go_simp
              try with_reducible rfl
            try simp only [pL]
            refine takeH (i := 9) (v := ?_) (some 71) rfl rfl (by kernel_rfl) (by kernel_rfl) (by kernel_rfl) (fun _ _ _ h => h) (Or.inl ⟨by kernel_rfl, ?_⟩) hS ?_
            rotate_left
            · rintro W' hW'
              obtain ⟨hbc, hbf⟩ := bcell hW'
              go_simp
              try with_reducible rfl
            try simp only [pL]
            refine takeH (i := 10) (v := ?_) (some 72) rfl rfl (by kernel_rfl) (by kernel_rfl) (by kernel_rfl) (fun _ _ _ h => h) (Or.inl ⟨by kernel_rfl, ?_⟩) hS ?_
            rotate_left
            · rintro W' hW'
              obtain ⟨hbc, hbf⟩ := bcell hW'
              go_simp
              try with_reducible rfl
            try simp only [pL]
            refine takeH (i := 11) (v := ?_) (some 73) rfl rfl (by kernel_rfl) (by kernel_rfl) (by kernel_rfl) (fun _ _ _ h => h) (Or.inl ⟨by kernel_rfl, ?_⟩) hS ?_
            rotate_left
            · rintro W' hW'
              obtain ⟨hbc, hbf⟩ := bcell hW'
              go_simp
              try with_reducible rfl
            try simp only [pL]
            refine takeH (i := 12) (v := ?_) (some 74) rfl rfl (by kernel_rfl) (by kernel_rfl) (by kernel_rfl) (fun _ _ _ h => h) (Or.inl ⟨by kernel_rfl, ?_⟩) hS ?_
            rotate_left
            · rintro W' hW'
              obtain ⟨hbc, hbf⟩ := bcell hW'
              go_simp
              try with_reducible rfl
            try simp only [pL]
            refine takeH (i := 13) (v := ?_) (some 75) rfl rfl (by kernel_rfl) (by kernel_rfl) (by kernel_rfl) (fun _ _ _ h => h) (Or.inl ⟨by kernel_rfl, ?_⟩) hS ?_
            rotate_left
            · rintro W' hW'
              obtain ⟨hbc, hbf⟩ := bcell hW'
              go_simp
              try with_reducible rfl
            try simp only [pL]
            refine wpAnyH_ready (rs := [14]) (by kernel_rfl) (by simp) ?_
            refine AllReadyH.cons rfl (fun K hK => ?_) AllReadyH.nil
            go_simp
            go_wp2_with fail
            refine (hv_cmd x.cmd _).mono ?_
            rintro e w12 ⟨rfl, hE⟩
            rw [hh]
            have hX := Mod.ext hS hE
            clear hE hS
            go_simp
            refine hK.out _ _ hX (fun hS => ?_)
            clear hK K hX
            refine takeH (i := 15) (v := ?_) (some 77) rfl rfl (by kernel_rfl) (by kernel_rfl) (by kernel_rfl) (fun _ _ _ h => h) (Or.inl ⟨by kernel_rfl, ?_⟩) hS ?_
            rotate_left
            · rintro W' hW'
              obtain ⟨hbc, hbf⟩ := bcell hW'
              go_simp
              try with_reducible rfl
            try simp only [pL]
            refine takeH (i := 16) (v := ?_) (some 78) rfl rfl (by kernel_rfl) (by kernel_rfl) (by kernel_rfl) (fun _ _ _ h => h) (Or.inl ⟨by kernel_rfl, ?_⟩) hS ?_
            rotate_left
            · rintro W' hW'
              obtain ⟨hbc, hbf⟩ := bcell hW'
              go_simp
              try with_reducible rfl
            try simp only [pL]
            refine wpAnyH_done (by kernel_rfl) ?_ _
            have hE := hS
            clear hS
            clear c_0 c_1 c_2 c_3 c_4 c_5 c_6 c_7 c_8 c_9 c_l m_0 m_1 m_l
            have Kcw12 := Lib.hid (hE.blk Kcwr.out id)
            have Kmw12 := Lib.hid (hE.blk Kmwr.out id)
            replace HNi := Lib.hid (newM_mod HNi.out hE (fun _ _ => id) (fun _ _ => id))
            replace Hm := Lib.hid (Hm.out.ext hE)
            replace x0 := hE.cell x0 id
            replace x1 := hE.cell x1 id
            replace x2 := hE.cell x2 id
            replace x3 := hE.cell x3 id
            replace x4 := hE.cell x4 id
            replace x5 := hE.cell x5 id
            replace x6 := hE.cell x6 id
            replace x7 := hE.cell x7 id
            replace x8 := hE.cell x8 id
            replace x9 := hE.cell x9 id
            replace z3 := hE.cell z3 id
            replace z4 := hE.cell z4 id
            replace z5 := hE.cell z5 id
            replace z6 := hE.cell z6 id
            replace z7 := hE.cell z7 id
            replace z8 := hE.cell z8 id
            replace z9 := hE.cell z9 id
            replace HX := Lib.hid (HX.out.ext hE)
            clear Kcwr
            clear Kmwr
            clear hE
            have c_0 : w12.cell? ⟨bc, 0, none⟩ = some _ := blk_cell Kcw12.out rfl
            have c_1 : w12.cell? ⟨bc, 1, none⟩ = some _ := blk_cell Kcw12.out rfl
            have c_2 : w12.cell? ⟨bc, 2, none⟩ = some _ := blk_cell Kcw12.out rfl
            have c_3 : w12.cell? ⟨bc, 3, none⟩ = some _ := blk_cell Kcw12.out rfl
            have c_4 : w12.cell? ⟨bc, 4, none⟩ = some _ := blk_cell Kcw12.out rfl
            have c_5 : w12.cell? ⟨bc, 5, none⟩ = some _ := blk_cell Kcw12.out rfl
            have c_6 : w12.cell? ⟨bc, 6, none⟩ = some _ := blk_cell Kcw12.out rfl
            have c_7 : w12.cell? ⟨bc, 7, none⟩ = some _ := blk_cell Kcw12.out rfl
            have c_8 : w12.cell? ⟨bc, 8, none⟩ = some _ := blk_cell Kcw12.out rfl
            have c_9 : w12.cell? ⟨bc, 9, none⟩ = some _ := blk_cell Kcw12.out rfl
            have c_l : bc < w12.heap.size := (Array.getElem?_eq_some_iff.1 Kcw12.out).1
            have m_0 : w12.cell? ⟨bm, 0, none⟩ = some _ := blk_cell Kmw12.out rfl
            have m_1 : w12.cell? ⟨bm, 1, none⟩ = some _ := blk_cell Kmw12.out rfl
            have m_l : bm < w12.heap.size := (Array.getElem?_eq_some_iff.1 Kmw12.out).1
            clear c_0 c_1 c_2 c_3 c_4 c_5 c_6 c_7 c_8 c_9 c_l m_0 m_1 m_l
            clear x0 x1 x2 x3 x4 x5 x6 x7 x8 x9 z3 z4 z5 z6 z7 z8 z9
            go_wp2
            exact ⟨⟨i + 1, N, Ai, Bi, ci, di, by omega, by omega, by go_num, Kmw12.out, HNi.out, HRN.out, Hls.out, Hm.out⟩, by simp [intOf]; omega⟩
      · clear x0 x1 x2 x3 x4 x5 x6 x7 x8 x9 z3 z4 z5 z6 z7 z8 z9
        clear Kzwr
        have c_0 : wr.cell? ⟨bc, 0, none⟩ = some _ := blk_cell Kcwr.out rfl
        have c_1 : wr.cell? ⟨bc, 1, none⟩ = some _ := blk_cell Kcwr.out rfl
        have c_2 : wr.cell? ⟨bc, 2, none⟩ = some _ := blk_cell Kcwr.out rfl
        have c_3 : wr.cell? ⟨bc, 3, none⟩ = some _ := blk_cell Kcwr.out rfl
        have c_4 : wr.cell? ⟨bc, 4, none⟩ = some _ := blk_cell Kcwr.out rfl
        have c_5 : wr.cell? ⟨bc, 5, none⟩ = some _ := blk_cell Kcwr.out rfl
        have c_6 : wr.cell? ⟨bc, 6, none⟩ = some _ := blk_cell Kcwr.out rfl
        have c_7 : wr.cell? ⟨bc, 7, none⟩ = some _ := blk_cell Kcwr.out rfl
        have c_8 : wr.cell? ⟨bc, 8, none⟩ = some _ := blk_cell Kcwr.out rfl
        have c_9 : wr.cell? ⟨bc, 9, none⟩ = some _ := blk_cell Kcwr.out rfl
        have c_l : bc < wr.heap.size := (Array.getElem?_eq_some_iff.1 Kcwr.out).1
        have m_0 : wr.cell? ⟨bm, 0, none⟩ = some _ := blk_cell Kmwr.out rfl
        have m_1 : wr.cell? ⟨bm, 1, none⟩ = some _ := blk_cell Kmwr.out rfl
        have m_l : bm < wr.heap.size := (Array.getElem?_eq_some_iff.1 Kmwr.out).1
        have r_0 : wr.cell? ⟨br, 0, none⟩ = some _ := blk_cell Krwr.out rfl
        have r_1 : wr.cell? ⟨br, 1, none⟩ = some _ := blk_cell Krwr.out rfl
        have r_2 : wr.cell? ⟨br, 2, none⟩ = some _ := blk_cell Krwr.out rfl
        have r_3 : wr.cell? ⟨br, 3, none⟩ = some _ := blk_cell Krwr.out rfl
        have r_l : br < wr.heap.size := (Array.getElem?_eq_some_iff.1 Krwr.out).1
        go_wp2_with fail
        have hso := HX.out.size
        refine (s_do_at wr _ _ _ _ N c (HNi.out.prs) (HNi.out.ses) (mach_small HRN.out) hc.2.2.2.2.2 (once_again HRN.out H0.out Hls.out)).mono ?_
        rintro e w111 ⟨p5, v5, rfl, hN, hE⟩
        clear c_0 c_1 c_2 c_3 c_4 c_5 c_6 c_7 c_8 c_9 c_l m_0 m_1 m_l r_0 r_1 r_2 r_3 r_l
        have Kcw111 := Lib.hid (hE.blk Kcwr.out id)
        have Kmw111 := Lib.hid (hE.blk Kmwr.out id)
        have Krw111 := Lib.hid (hE.blk Krwr.out id)
        replace HNi := Lib.hid (newM_mod HNi.out hE (fun _ _ => id) (fun _ _ => id))
        replace HX := Lib.hid (HX.out.ext hE)
        clear Kcwr
        clear Kmwr
        clear Krwr
        obtain ⟨A5, c5, rfl⟩ := own_form hN.1.1
        obtain ⟨B5, d5, rfl⟩ := own_form hN.2.1.1
        have HN5 := Lib.hid (newM_up hN hso)
        clear hN hso
        clear hE
        have c_0 : w111.cell? ⟨bc, 0, none⟩ = some _ := blk_cell Kcw111.out rfl
        have c_1 : w111.cell? ⟨bc, 1, none⟩ = some _ := blk_cell Kcw111.out rfl
        have c_2 : w111.cell? ⟨bc, 2, none⟩ = some _ := blk_cell Kcw111.out rfl
        have c_3 : w111.cell? ⟨bc, 3, none⟩ = some _ := blk_cell Kcw111.out rfl
        have c_4 : w111.cell? ⟨bc, 4, none⟩ = some _ := blk_cell Kcw111.out rfl
        have c_5 : w111.cell? ⟨bc, 5, none⟩ = some _ := blk_cell Kcw111.out rfl
        have c_6 : w111.cell? ⟨bc, 6, none⟩ = some _ := blk_cell Kcw111.out rfl
        have c_7 : w111.cell? ⟨bc, 7, none⟩ = some _ := blk_cell Kcw111.out rfl
        have c_8 : w111.cell? ⟨bc, 8, none⟩ = some _ := blk_cell Kcw111.out rfl
        have c_9 : w111.cell? ⟨bc, 9, none⟩ = some _ := blk_cell Kcw111.out rfl
        have c_l : bc < w111.heap.size := (Array.getElem?_eq_some_iff.1 Kcw111.out).1
        have m_0 : w111.cell? ⟨bm, 0, none⟩ = some _ := blk_cell Kmw111.out rfl
        have m_1 : w111.cell? ⟨bm, 1, none⟩ = some _ := blk_cell Kmw111.out rfl
        have m_l : bm < w111.heap.size := (Array.getElem?_eq_some_iff.1 Kmw111.out).1
        have r_0 : w111.cell? ⟨br, 0, none⟩ = some _ := blk_cell Krw111.out rfl
        have r_1 : w111.cell? ⟨br, 1, none⟩ = some _ := blk_cell Krw111.out rfl
        have r_2 : w111.cell? ⟨br, 2, none⟩ = some _ := blk_cell Krw111.out rfl
        have r_3 : w111.cell? ⟨br, 3, none⟩ = some _ := blk_cell Krw111.out rfl
        have r_l : br < w111.heap.size := (Array.getElem?_eq_some_iff.1 Krw111.out).1
        go_wp2_with fail
        obtain ⟨w112, hw112⟩ : ∃ w112, w112 = w111.alloc (.cells #[.slice A5 N.pairs.length c5, .slice B5 N.sess.length d5] 25) := ⟨_, rfl⟩
        obtain ⟨bx, hbx⟩ : ∃ bx, bx = w111.heap.size := ⟨_, rfl⟩
        have hzz : w111.heap.size = bx := hbx.symm
        have hE : Ext w111 w112 := by rw [hw112]; exact (Mod.refl _ w111).alloc _
        have hKn : w112.heap[bx]? = some (.cells #[.slice A5 N.pairs.length c5, .slice B5 N.sess.length d5] 25 (0, 0)) := by rw [hw112, ← hzz]; exact heap_alloc_new w111 _
        have hzn : w112.heap.size = bx + 1 := by rw [hw112, ← hzz]; simp
        rw [← hw112, ← hbx]
        have hltcx : bc < bx := by have := (Array.getElem?_eq_some_iff.1 Kcw111.out).1; omega
        have hltmx : bm < bx := by have := (Array.getElem?_eq_some_iff.1 Kmw111.out).1; omega
        have hltrx : br < bx := by have := (Array.getElem?_eq_some_iff.1 Krw111.out).1; omega
        clear c_0 c_1 c_2 c_3 c_4 c_5 c_6 c_7 c_8 c_9 c_l m_0 m_1 m_l r_0 r_1 r_2 r_3 r_l
        have HXo := HX
        have Kcw112 := Lib.hid (hE.blk Kcw111.out id)
        have Kmw112 := Lib.hid (hE.blk Kmw111.out id)
        have Krw112 := Lib.hid (hE.blk Krw111.out id)
        replace HNi := Lib.hid (newM_mod HNi.out hE (fun _ _ => id) (fun _ _ => id))
        replace HN5 := Lib.hid (newM_mod HN5.out hE (fun _ _ => id) (fun _ _ => id))
        replace HX := Lib.hid (HX.out.ext hE)
        clear Kcw111
        clear Kmw111
        clear Krw111
        have Kxw112 := Lib.hid hKn
        have hbz : w.heap.size ≤ bx := by have := HXo.out.size; omega
        clear hKn hE hw112 hbx HXo hzz
        have hbx := hbz
        clear hbz
        obtain ⟨w113, hw113⟩ : ∃ w113, w113 = w112.alloc (.cells #[.int .i64 r.code, .int .i64 r.val.kind, .float .f64 r.val.num, .string r.val.text] 38) := ⟨_, rfl⟩
        obtain ⟨bq, hbq⟩ : ∃ bq, bq = bx + 1 := ⟨_, rfl⟩
        have hzz : w112.heap.size = bq := hzn.trans hbq.symm
        clear hzn
        have hE : Ext w112 w113 := by rw [hw113]; exact (Mod.refl _ w112).alloc _
        have hKn : w113.heap[bq]? = some (.cells #[.int .i64 r.code, .int .i64 r.val.kind, .float .f64 r.val.num, .string r.val.text] 38 (0, 0)) := by rw [hw113, ← hzz]; exact heap_alloc_new w112 _
        have hzn : w113.heap.size = bq + 1 := by rw [hw113, ← hzz]; simp
        rw [← hw113, ← hbq]
        have hltcq : bc < bq := by have := (Array.getElem?_eq_some_iff.1 Kcw112.out).1; omega
        have hltmq : bm < bq := by have := (Array.getElem?_eq_some_iff.1 Kmw112.out).1; omega
        have hltrq : br < bq := by have := (Array.getElem?_eq_some_iff.1 Krw112.out).1; omega
        have hltxq : bx < bq := by have := (Array.getElem?_eq_some_iff.1 Kxw112.out).1; omega
        have HXo := HX
        have Kcw113 := Lib.hid (hE.blk Kcw112.out id)
        have Kmw113 := Lib.hid (hE.blk Kmw112.out id)
        have Krw113 := Lib.hid (hE.blk Krw112.out id)
        have Kxw113 := Lib.hid (hE.blk Kxw112.out id)
        replace HNi := Lib.hid (newM_mod HNi.out hE (fun _ _ => id) (fun _ _ => id))
        replace HN5 := Lib.hid (newM_mod HN5.out hE (fun _ _ => id) (fun _ _ => id))
        replace HX := Lib.hid (HX.out.ext hE)
        clear Kcw112
        clear Kmw112
        clear Krw112
        clear Kxw112
        have Kqw113 := Lib.hid hKn
        have hbz : w.heap.size ≤ bq := by have := HXo.out.size; omega
        clear hKn hE hw113 hbq HXo hzz
        have hbq := hbz
        clear hbz
        clear hzn
        refine (k_machine w113 _ _ _ _ _ _ _ _ N.pairs N.pairs N.sess N.sess HN5.out.prs HNi.out.prs HN5.out.ses HNi.out.ses).mono ?_
        rintro e w114 ⟨rfl, hE⟩
        have Kcw114 := Lib.hid (hE.blk Kcw113.out id)
        have Kmw114 := Lib.hid (hE.blk Kmw113.out id)
        have Krw114 := Lib.hid (hE.blk Krw113.out id)
        have Kxw114 := Lib.hid (hE.blk Kxw113.out id)
        have Kqw114 := Lib.hid (hE.blk Kqw113.out id)
        replace HNi := Lib.hid (newM_mod HNi.out hE (fun _ _ => id) (fun _ _ => id))
        replace HN5 := Lib.hid (newM_mod HN5.out hE (fun _ _ => id) (fun _ _ => id))
        replace HX := Lib.hid (HX.out.ext hE)
        clear Kcw113
        clear Kmw113
        clear Krw113
        clear Kxw113
        clear Kqw113
        rw [show eqM ⟨N.pairs, N.sess⟩ ⟨N.pairs, N.sess⟩ = true from eqM_refl _]
        clear hE
        have c_0 : w114.cell? ⟨bc, 0, none⟩ = some _ := blk_cell Kcw114.out rfl
        have c_1 : w114.cell? ⟨bc, 1, none⟩ = some _ := blk_cell Kcw114.out rfl
        have c_2 : w114.cell? ⟨bc, 2, none⟩ = some _ := blk_cell Kcw114.out rfl
        have c_3 : w114.cell? ⟨bc, 3, none⟩ = some _ := blk_cell Kcw114.out rfl
        have c_4 : w114.cell? ⟨bc, 4, none⟩ = some _ := blk_cell Kcw114.out rfl
        have c_5 : w114.cell? ⟨bc, 5, none⟩ = some _ := blk_cell Kcw114.out rfl
        have c_6 : w114.cell? ⟨bc, 6, none⟩ = some _ := blk_cell Kcw114.out rfl
        have c_7 : w114.cell? ⟨bc, 7, none⟩ = some _ := blk_cell Kcw114.out rfl
        have c_8 : w114.cell? ⟨bc, 8, none⟩ = some _ := blk_cell Kcw114.out rfl
        have c_9 : w114.cell? ⟨bc, 9, none⟩ = some _ := blk_cell Kcw114.out rfl
        have c_l : bc < w114.heap.size := (Array.getElem?_eq_some_iff.1 Kcw114.out).1
        have m_0 : w114.cell? ⟨bm, 0, none⟩ = some _ := blk_cell Kmw114.out rfl
        have m_1 : w114.cell? ⟨bm, 1, none⟩ = some _ := blk_cell Kmw114.out rfl
        have m_l : bm < w114.heap.size := (Array.getElem?_eq_some_iff.1 Kmw114.out).1
        have r_0 : w114.cell? ⟨br, 0, none⟩ = some _ := blk_cell Krw114.out rfl
        have r_1 : w114.cell? ⟨br, 1, none⟩ = some _ := blk_cell Krw114.out rfl
        have r_2 : w114.cell? ⟨br, 2, none⟩ = some _ := blk_cell Krw114.out rfl
        have r_3 : w114.cell? ⟨br, 3, none⟩ = some _ := blk_cell Krw114.out rfl
        have r_l : br < w114.heap.size := (Array.getElem?_eq_some_iff.1 Krw114.out).1
        have x_0 : w114.cell? ⟨bx, 0, none⟩ = some _ := blk_cell Kxw114.out rfl
        have x_1 : w114.cell? ⟨bx, 1, none⟩ = some _ := blk_cell Kxw114.out rfl
        have x_l : bx < w114.heap.size := (Array.getElem?_eq_some_iff.1 Kxw114.out).1
        have q_0 : w114.cell? ⟨bq, 0, none⟩ = some _ := blk_cell Kqw114.out rfl
        have q_1 : w114.cell? ⟨bq, 1, none⟩ = some _ := blk_cell Kqw114.out rfl
        have q_2 : w114.cell? ⟨bq, 2, none⟩ = some _ := blk_cell Kqw114.out rfl
        have q_3 : w114.cell? ⟨bq, 3, none⟩ = some _ := blk_cell Kqw114.out rfl
        have q_l : bq < w114.heap.size := (Array.getElem?_eq_some_iff.1 Kqw114.out).1
        go_wp2_with fail
        refine (k_reply r r w114).mono ?_
        rintro e w115 ⟨rfl, hE⟩
        clear c_0 c_1 c_2 c_3 c_4 c_5 c_6 c_7 c_8 c_9 c_l m_0 m_1 m_l r_0 r_1 r_2 r_3 r_l x_0 x_1 x_l q_0 q_1 q_2 q_3 q_l
        have Kcw115 := Lib.hid (hE.blk Kcw114.out id)
        have Kmw115 := Lib.hid (hE.blk Kmw114.out id)
        have Krw115 := Lib.hid (hE.blk Krw114.out id)
        have Kxw115 := Lib.hid (hE.blk Kxw114.out id)
        have Kqw115 := Lib.hid (hE.blk Kqw114.out id)
        replace HNi := Lib.hid (newM_mod HNi.out hE (fun _ _ => id) (fun _ _ => id))
        replace HN5 := Lib.hid (newM_mod HN5.out hE (fun _ _ => id) (fun _ _ => id))
        replace HX := Lib.hid (HX.out.ext hE)
        clear Kcw114
        clear Kmw114
        clear Krw114
        clear Kxw114
        clear Kqw114
        rw [eqReply_refl]
        clear hE
        have c_0 : w115.cell? ⟨bc, 0, none⟩ = some _ := blk_cell Kcw115.out rfl
        have c_1 : w115.cell? ⟨bc, 1, none⟩ = some _ := blk_cell Kcw115.out rfl
        have c_2 : w115.cell? ⟨bc, 2, none⟩ = some _ := blk_cell Kcw115.out rfl
        have c_3 : w115.cell? ⟨bc, 3, none⟩ = some _ := blk_cell Kcw115.out rfl
        have c_4 : w115.cell? ⟨bc, 4, none⟩ = some _ := blk_cell Kcw115.out rfl
        have c_5 : w115.cell? ⟨bc, 5, none⟩ = some _ := blk_cell Kcw115.out rfl
        have c_6 : w115.cell? ⟨bc, 6, none⟩ = some _ := blk_cell Kcw115.out rfl
        have c_7 : w115.cell? ⟨bc, 7, none⟩ = some _ := blk_cell Kcw115.out rfl
        have c_8 : w115.cell? ⟨bc, 8, none⟩ = some _ := blk_cell Kcw115.out rfl
        have c_9 : w115.cell? ⟨bc, 9, none⟩ = some _ := blk_cell Kcw115.out rfl
        have c_l : bc < w115.heap.size := (Array.getElem?_eq_some_iff.1 Kcw115.out).1
        have m_0 : w115.cell? ⟨bm, 0, none⟩ = some _ := blk_cell Kmw115.out rfl
        have m_1 : w115.cell? ⟨bm, 1, none⟩ = some _ := blk_cell Kmw115.out rfl
        have m_l : bm < w115.heap.size := (Array.getElem?_eq_some_iff.1 Kmw115.out).1
        have r_0 : w115.cell? ⟨br, 0, none⟩ = some _ := blk_cell Krw115.out rfl
        have r_1 : w115.cell? ⟨br, 1, none⟩ = some _ := blk_cell Krw115.out rfl
        have r_2 : w115.cell? ⟨br, 2, none⟩ = some _ := blk_cell Krw115.out rfl
        have r_3 : w115.cell? ⟨br, 3, none⟩ = some _ := blk_cell Krw115.out rfl
        have r_l : br < w115.heap.size := (Array.getElem?_eq_some_iff.1 Krw115.out).1
        have x_0 : w115.cell? ⟨bx, 0, none⟩ = some _ := blk_cell Kxw115.out rfl
        have x_1 : w115.cell? ⟨bx, 1, none⟩ = some _ := blk_cell Kxw115.out rfl
        have x_l : bx < w115.heap.size := (Array.getElem?_eq_some_iff.1 Kxw115.out).1
        have q_0 : w115.cell? ⟨bq, 0, none⟩ = some _ := blk_cell Kqw115.out rfl
        have q_1 : w115.cell? ⟨bq, 1, none⟩ = some _ := blk_cell Kqw115.out rfl
        have q_2 : w115.cell? ⟨bq, 2, none⟩ = some _ := blk_cell Kqw115.out rfl
        have q_3 : w115.cell? ⟨bq, 3, none⟩ = some _ := blk_cell Kqw115.out rfl
        have q_l : bq < w115.heap.size := (Array.getElem?_eq_some_iff.1 Kqw115.out).1
        have fz1 := blk_free 1 Kcw115.out
        have hzw : IntKind.i64.wrap (c.seq - 1) = c.seq - 1 := IntWalk.i64_in _ (by have := call_nums H0.out; omega)
        go_wp2_with fail
        clear c_0 c_1 c_2 c_3 c_4 c_5 c_6 c_7 c_8 c_9 c_l m_0 m_1 m_l r_0 r_1 r_2 r_3 r_l x_0 x_1 x_l q_0 q_1 q_2 q_3 q_l
        clear fz1 hzw
        clear HN5
        obtain ⟨w116, hw116⟩ : ∃ w116, (w115.setCell ⟨bc, 1, none⟩ (.int .i64 (c.seq - 1))) = w116 := ⟨_, rfl⟩
        have hKn : w116.heap[bc]? = some (.cells #[.int .i64 c.client, .int .i64 (c.seq - 1), .int .i64 c.cmd.kind, .string c.cmd.key, .int .i64 c.cmd.old.kind, .float .f64 c.cmd.old.num, .string c.cmd.old.text, .int .i64 c.cmd.val.kind, .float .f64 c.cmd.val.num, .string c.cmd.val.text] 32 (0, 0)) := by
          rw [← hw116]
          have := Kcw115.out
          simp [World.setCell, Array.getElem?_modify, this]
        have hM : Mod (fun k => k = bc) w115 w116 := by rw [← hw116]; exact mod_same (Mod.refl _ _) _ _
        rw [hw116]
        have Kcw116 := Lib.hid hKn
        have Kmw116 := Lib.hid (hM.blk Kmw115.out (by omega))
        have Krw116 := Lib.hid (hM.blk Krw115.out (by omega))
        have Kxw116 := Lib.hid (hM.blk Kxw115.out (by omega))
        have Kqw116 := Lib.hid (hM.blk Kqw115.out (by omega))
        replace HNi := Lib.hid (newM_box HNi.out Kcw115.out hM (by decide) (by decide))
        replace HX : Hid (Ext w w116) := Lib.hid (Mod.toExt ((Ext.mod HX.out (Since w.heap.size)).trans hM (fun k _ e => by rw [e]; exact hbc)))
        clear hKn hM hw116
        clear Kcw115
        clear Kmw115
        clear Krw115
        clear Kxw115
        clear Kqw115
        have c_0 : w116.cell? ⟨bc, 0, none⟩ = some _ := blk_cell Kcw116.out rfl
        have c_1 : w116.cell? ⟨bc, 1, none⟩ = some _ := blk_cell Kcw116.out rfl
        have c_2 : w116.cell? ⟨bc, 2, none⟩ = some _ := blk_cell Kcw116.out rfl
        have c_3 : w116.cell? ⟨bc, 3, none⟩ = some _ := blk_cell Kcw116.out rfl
        have c_4 : w116.cell? ⟨bc, 4, none⟩ = some _ := blk_cell Kcw116.out rfl
        have c_5 : w116.cell? ⟨bc, 5, none⟩ = some _ := blk_cell Kcw116.out rfl
        have c_6 : w116.cell? ⟨bc, 6, none⟩ = some _ := blk_cell Kcw116.out rfl
        have c_7 : w116.cell? ⟨bc, 7, none⟩ = some _ := blk_cell Kcw116.out rfl
        have c_8 : w116.cell? ⟨bc, 8, none⟩ = some _ := blk_cell Kcw116.out rfl
        have c_9 : w116.cell? ⟨bc, 9, none⟩ = some _ := blk_cell Kcw116.out rfl
        have c_l : bc < w116.heap.size := (Array.getElem?_eq_some_iff.1 Kcw116.out).1
        have m_0 : w116.cell? ⟨bm, 0, none⟩ = some _ := blk_cell Kmw116.out rfl
        have m_1 : w116.cell? ⟨bm, 1, none⟩ = some _ := blk_cell Kmw116.out rfl
        have m_l : bm < w116.heap.size := (Array.getElem?_eq_some_iff.1 Kmw116.out).1
        have r_0 : w116.cell? ⟨br, 0, none⟩ = some _ := blk_cell Krw116.out rfl
        have r_1 : w116.cell? ⟨br, 1, none⟩ = some _ := blk_cell Krw116.out rfl
        have r_2 : w116.cell? ⟨br, 2, none⟩ = some _ := blk_cell Krw116.out rfl
        have r_3 : w116.cell? ⟨br, 3, none⟩ = some _ := blk_cell Krw116.out rfl
        have r_l : br < w116.heap.size := (Array.getElem?_eq_some_iff.1 Krw116.out).1
        have x_0 : w116.cell? ⟨bx, 0, none⟩ = some _ := blk_cell Kxw116.out rfl
        have x_1 : w116.cell? ⟨bx, 1, none⟩ = some _ := blk_cell Kxw116.out rfl
        have x_l : bx < w116.heap.size := (Array.getElem?_eq_some_iff.1 Kxw116.out).1
        have q_0 : w116.cell? ⟨bq, 0, none⟩ = some _ := blk_cell Kqw116.out rfl
        have q_1 : w116.cell? ⟨bq, 1, none⟩ = some _ := blk_cell Kqw116.out rfl
        have q_2 : w116.cell? ⟨bq, 2, none⟩ = some _ := blk_cell Kqw116.out rfl
        have q_3 : w116.cell? ⟨bq, 3, none⟩ = some _ := blk_cell Kqw116.out rfl
        have q_l : bq < w116.heap.size := (Array.getElem?_eq_some_iff.1 Kqw116.out).1
        go_wp2_with fail
        have hso := HX.out.size
        rcases hq : onceP N ⟨c.client, c.seq - 1, c.cmd⟩ with ⟨N6, q⟩
        refine (s_do_at w116 _ _ _ _ N ⟨c.client, c.seq - 1, c.cmd⟩ (HNi.out.prs) (HNi.out.ses) (mach_small HRN.out) hc.2.2.2.2.2 hq).mono ?_
        rintro e w117 ⟨p6, v6, rfl, hN, hE⟩
        clear c_0 c_1 c_2 c_3 c_4 c_5 c_6 c_7 c_8 c_9 c_l m_0 m_1 m_l r_0 r_1 r_2 r_3 r_l x_0 x_1 x_l q_0 q_1 q_2 q_3 q_l
        have Kcw117 := Lib.hid (hE.blk Kcw116.out id)
        have Kmw117 := Lib.hid (hE.blk Kmw116.out id)
        have Krw117 := Lib.hid (hE.blk Krw116.out id)
        have Kxw117 := Lib.hid (hE.blk Kxw116.out id)
        have Kqw117 := Lib.hid (hE.blk Kqw116.out id)
        replace HNi := Lib.hid (newM_mod HNi.out hE (fun _ _ => id) (fun _ _ => id))
        replace HX := Lib.hid (HX.out.ext hE)
        clear Kcw116
        clear Kmw116
        clear Krw116
        clear Kxw116
        clear Kqw116
        obtain ⟨A6, c6, rfl⟩ := own_form hN.1.1
        obtain ⟨B6, d6, rfl⟩ := own_form hN.2.1.1
        have HN6 := Lib.hid (newM_up hN hso)
        clear hN hso
        have HEq := Lib.hid hq
        clear hq
        clear hE
        have c_0 : w117.cell? ⟨bc, 0, none⟩ = some _ := blk_cell Kcw117.out rfl
        have c_1 : w117.cell? ⟨bc, 1, none⟩ = some _ := blk_cell Kcw117.out rfl
        have c_2 : w117.cell? ⟨bc, 2, none⟩ = some _ := blk_cell Kcw117.out rfl
        have c_3 : w117.cell? ⟨bc, 3, none⟩ = some _ := blk_cell Kcw117.out rfl
        have c_4 : w117.cell? ⟨bc, 4, none⟩ = some _ := blk_cell Kcw117.out rfl
        have c_5 : w117.cell? ⟨bc, 5, none⟩ = some _ := blk_cell Kcw117.out rfl
        have c_6 : w117.cell? ⟨bc, 6, none⟩ = some _ := blk_cell Kcw117.out rfl
        have c_7 : w117.cell? ⟨bc, 7, none⟩ = some _ := blk_cell Kcw117.out rfl
        have c_8 : w117.cell? ⟨bc, 8, none⟩ = some _ := blk_cell Kcw117.out rfl
        have c_9 : w117.cell? ⟨bc, 9, none⟩ = some _ := blk_cell Kcw117.out rfl
        have c_l : bc < w117.heap.size := (Array.getElem?_eq_some_iff.1 Kcw117.out).1
        have m_0 : w117.cell? ⟨bm, 0, none⟩ = some _ := blk_cell Kmw117.out rfl
        have m_1 : w117.cell? ⟨bm, 1, none⟩ = some _ := blk_cell Kmw117.out rfl
        have m_l : bm < w117.heap.size := (Array.getElem?_eq_some_iff.1 Kmw117.out).1
        have r_0 : w117.cell? ⟨br, 0, none⟩ = some _ := blk_cell Krw117.out rfl
        have r_1 : w117.cell? ⟨br, 1, none⟩ = some _ := blk_cell Krw117.out rfl
        have r_2 : w117.cell? ⟨br, 2, none⟩ = some _ := blk_cell Krw117.out rfl
        have r_3 : w117.cell? ⟨br, 3, none⟩ = some _ := blk_cell Krw117.out rfl
        have r_l : br < w117.heap.size := (Array.getElem?_eq_some_iff.1 Krw117.out).1
        have x_0 : w117.cell? ⟨bx, 0, none⟩ = some _ := blk_cell Kxw117.out rfl
        have x_1 : w117.cell? ⟨bx, 1, none⟩ = some _ := blk_cell Kxw117.out rfl
        have x_l : bx < w117.heap.size := (Array.getElem?_eq_some_iff.1 Kxw117.out).1
        have q_0 : w117.cell? ⟨bq, 0, none⟩ = some _ := blk_cell Kqw117.out rfl
        have q_1 : w117.cell? ⟨bq, 1, none⟩ = some _ := blk_cell Kqw117.out rfl
        have q_2 : w117.cell? ⟨bq, 2, none⟩ = some _ := blk_cell Kqw117.out rfl
        have q_3 : w117.cell? ⟨bq, 3, none⟩ = some _ := blk_cell Kqw117.out rfl
        have q_l : bq < w117.heap.size := (Array.getElem?_eq_some_iff.1 Kqw117.out).1
        have helder := once_elder (c := c) HRN.out H0.out Hls.out
        rw [HEq.out] at helder
        obtain ⟨he1, he2, he3⟩ := helder
        have He1 : Hid (N6 = N) := Lib.hid he1
        have He2 : Hid (c.seq - 1 < 1 → q.code = 1) := Lib.hid he2
        have He3 : Hid (1 ≤ c.seq - 1 → q.code = 10) := Lib.hid (fun h => he3 (by omega))
        clear he1 he2 he3
        have fzx0 := blk_free 0 Kxw117.out
        have fzx1 := blk_free 1 Kxw117.out
        have fzq0 := blk_free 0 Kqw117.out
        have fzq1 := blk_free 1 Kqw117.out
        have fzq2 := blk_free 2 Kqw117.out
        have fzq3 := blk_free 3 Kqw117.out
        go_wp2_with fail
        clear c_0 c_1 c_2 c_3 c_4 c_5 c_6 c_7 c_8 c_9 c_l m_0 m_1 m_l r_0 r_1 r_2 r_3 r_l x_0 x_1 x_l q_0 q_1 q_2 q_3 q_l
        clear fzx0 fzx1
        clear fzq0 fzq1 fzq2 fzq3
        obtain ⟨w118, hw118⟩ : ∃ w118, ((w117.setCell ⟨bx, 0, none⟩ (.slice A6 N6.pairs.length c6)).setCell ⟨bx, 1, none⟩ (.slice B6 N6.sess.length d6)) = w118 := ⟨_, rfl⟩
        have hKn : w118.heap[bx]? = some (.cells #[.slice A6 N6.pairs.length c6, .slice B6 N6.sess.length d6] 25 (0, 0)) := by
          rw [← hw118]
          have := Kxw117.out
          simp [World.setCell, Array.getElem?_modify, this]
        have hM : Mod (fun k => k = bx) w117 w118 := by rw [← hw118]; exact mod_same (mod_same (Mod.refl _ _) _ _) _ _
        rw [hw118]
        have Kcw118 := Lib.hid (hM.blk Kcw117.out (by omega))
        have Kmw118 := Lib.hid (hM.blk Kmw117.out (by omega))
        have Krw118 := Lib.hid (hM.blk Krw117.out (by omega))
        have Kxw118 := Lib.hid hKn
        have Kqw118 := Lib.hid (hM.blk Kqw117.out (by omega))
        replace HNi := Lib.hid (newM_box HNi.out Kxw117.out hM (by decide) (by decide))
        replace HN6 := Lib.hid (newM_box HN6.out Kxw117.out hM (by decide) (by decide))
        replace HX : Hid (Ext w w118) := Lib.hid (Mod.toExt ((Ext.mod HX.out (Since w.heap.size)).trans hM (fun k _ e => by rw [e]; exact hbx)))
        clear hKn hM hw118
        clear Kcw117
        clear Kmw117
        clear Krw117
        clear Kxw117
        clear Kqw117
        obtain ⟨w119, hw119⟩ : ∃ w119, ((((w118.setCell ⟨bq, 0, none⟩ (.int .i64 q.code)).setCell ⟨bq, 1, none⟩ (.int .i64 q.val.kind)).setCell ⟨bq, 2, none⟩ (.float .f64 q.val.num)).setCell ⟨bq, 3, none⟩ (.string q.val.text)) = w119 := ⟨_, rfl⟩
        have hKn : w119.heap[bq]? = some (.cells #[.int .i64 q.code, .int .i64 q.val.kind, .float .f64 q.val.num, .string q.val.text] 38 (0, 0)) := by
          rw [← hw119]
          have := Kqw118.out
          simp [World.setCell, Array.getElem?_modify, this]
        have hM : Mod (fun k => k = bq) w118 w119 := by rw [← hw119]; exact mod_same (mod_same (mod_same (mod_same (Mod.refl _ _) _ _) _ _) _ _) _ _
        rw [hw119]
        have Kcw119 := Lib.hid (hM.blk Kcw118.out (by omega))
        have Kmw119 := Lib.hid (hM.blk Kmw118.out (by omega))
        have Krw119 := Lib.hid (hM.blk Krw118.out (by omega))
        have Kxw119 := Lib.hid (hM.blk Kxw118.out (by omega))
        have Kqw119 := Lib.hid hKn
        replace HNi := Lib.hid (newM_box HNi.out Kqw118.out hM (by decide) (by decide))
        replace HN6 := Lib.hid (newM_box HN6.out Kqw118.out hM (by decide) (by decide))
        replace HX : Hid (Ext w w119) := Lib.hid (Mod.toExt ((Ext.mod HX.out (Since w.heap.size)).trans hM (fun k _ e => by rw [e]; exact hbq)))
        clear hKn hM hw119
        clear Kcw118
        clear Kmw118
        clear Krw118
        clear Kxw118
        clear Kqw118
        have c_0 : w119.cell? ⟨bc, 0, none⟩ = some _ := blk_cell Kcw119.out rfl
        have c_1 : w119.cell? ⟨bc, 1, none⟩ = some _ := blk_cell Kcw119.out rfl
        have c_2 : w119.cell? ⟨bc, 2, none⟩ = some _ := blk_cell Kcw119.out rfl
        have c_3 : w119.cell? ⟨bc, 3, none⟩ = some _ := blk_cell Kcw119.out rfl
        have c_4 : w119.cell? ⟨bc, 4, none⟩ = some _ := blk_cell Kcw119.out rfl
        have c_5 : w119.cell? ⟨bc, 5, none⟩ = some _ := blk_cell Kcw119.out rfl
        have c_6 : w119.cell? ⟨bc, 6, none⟩ = some _ := blk_cell Kcw119.out rfl
        have c_7 : w119.cell? ⟨bc, 7, none⟩ = some _ := blk_cell Kcw119.out rfl
        have c_8 : w119.cell? ⟨bc, 8, none⟩ = some _ := blk_cell Kcw119.out rfl
        have c_9 : w119.cell? ⟨bc, 9, none⟩ = some _ := blk_cell Kcw119.out rfl
        have c_l : bc < w119.heap.size := (Array.getElem?_eq_some_iff.1 Kcw119.out).1
        have m_0 : w119.cell? ⟨bm, 0, none⟩ = some _ := blk_cell Kmw119.out rfl
        have m_1 : w119.cell? ⟨bm, 1, none⟩ = some _ := blk_cell Kmw119.out rfl
        have m_l : bm < w119.heap.size := (Array.getElem?_eq_some_iff.1 Kmw119.out).1
        have r_0 : w119.cell? ⟨br, 0, none⟩ = some _ := blk_cell Krw119.out rfl
        have r_1 : w119.cell? ⟨br, 1, none⟩ = some _ := blk_cell Krw119.out rfl
        have r_2 : w119.cell? ⟨br, 2, none⟩ = some _ := blk_cell Krw119.out rfl
        have r_3 : w119.cell? ⟨br, 3, none⟩ = some _ := blk_cell Krw119.out rfl
        have r_l : br < w119.heap.size := (Array.getElem?_eq_some_iff.1 Krw119.out).1
        have x_0 : w119.cell? ⟨bx, 0, none⟩ = some _ := blk_cell Kxw119.out rfl
        have x_1 : w119.cell? ⟨bx, 1, none⟩ = some _ := blk_cell Kxw119.out rfl
        have x_l : bx < w119.heap.size := (Array.getElem?_eq_some_iff.1 Kxw119.out).1
        have q_0 : w119.cell? ⟨bq, 0, none⟩ = some _ := blk_cell Kqw119.out rfl
        have q_1 : w119.cell? ⟨bq, 1, none⟩ = some _ := blk_cell Kqw119.out rfl
        have q_2 : w119.cell? ⟨bq, 2, none⟩ = some _ := blk_cell Kqw119.out rfl
        have q_3 : w119.cell? ⟨bq, 3, none⟩ = some _ := blk_cell Kqw119.out rfl
        have q_l : bq < w119.heap.size := (Array.getElem?_eq_some_iff.1 Kqw119.out).1
        go_wp2_with fail
        refine (k_machine w119 _ _ _ _ _ _ _ _ N6.pairs N.pairs N6.sess N.sess HN6.out.prs HNi.out.prs HN6.out.ses HNi.out.ses).mono ?_
        rintro e w120 ⟨rfl, hE⟩
        clear c_0 c_1 c_2 c_3 c_4 c_5 c_6 c_7 c_8 c_9 c_l m_0 m_1 m_l r_0 r_1 r_2 r_3 r_l x_0 x_1 x_l q_0 q_1 q_2 q_3 q_l
        have Kcw120 := Lib.hid (hE.blk Kcw119.out id)
        have Kmw120 := Lib.hid (hE.blk Kmw119.out id)
        have Krw120 := Lib.hid (hE.blk Krw119.out id)
        have Kxw120 := Lib.hid (hE.blk Kxw119.out id)
        have Kqw120 := Lib.hid (hE.blk Kqw119.out id)
        replace HNi := Lib.hid (newM_mod HNi.out hE (fun _ _ => id) (fun _ _ => id))
        replace HN6 := Lib.hid (newM_mod HN6.out hE (fun _ _ => id) (fun _ _ => id))
        replace HX := Lib.hid (HX.out.ext hE)
        clear Kcw119
        clear Kmw119
        clear Krw119
        clear Kxw119
        clear Kqw119
        rw [show eqM ⟨N6.pairs, N6.sess⟩ ⟨N.pairs, N.sess⟩ = true by rw [He1.out]; exact eqM_refl _]
        clear hE
        have c_0 : w120.cell? ⟨bc, 0, none⟩ = some _ := blk_cell Kcw120.out rfl
        have c_1 : w120.cell? ⟨bc, 1, none⟩ = some _ := blk_cell Kcw120.out rfl
        have c_2 : w120.cell? ⟨bc, 2, none⟩ = some _ := blk_cell Kcw120.out rfl
        have c_3 : w120.cell? ⟨bc, 3, none⟩ = some _ := blk_cell Kcw120.out rfl
        have c_4 : w120.cell? ⟨bc, 4, none⟩ = some _ := blk_cell Kcw120.out rfl
        have c_5 : w120.cell? ⟨bc, 5, none⟩ = some _ := blk_cell Kcw120.out rfl
        have c_6 : w120.cell? ⟨bc, 6, none⟩ = some _ := blk_cell Kcw120.out rfl
        have c_7 : w120.cell? ⟨bc, 7, none⟩ = some _ := blk_cell Kcw120.out rfl
        have c_8 : w120.cell? ⟨bc, 8, none⟩ = some _ := blk_cell Kcw120.out rfl
        have c_9 : w120.cell? ⟨bc, 9, none⟩ = some _ := blk_cell Kcw120.out rfl
        have c_l : bc < w120.heap.size := (Array.getElem?_eq_some_iff.1 Kcw120.out).1
        have m_0 : w120.cell? ⟨bm, 0, none⟩ = some _ := blk_cell Kmw120.out rfl
        have m_1 : w120.cell? ⟨bm, 1, none⟩ = some _ := blk_cell Kmw120.out rfl
        have m_l : bm < w120.heap.size := (Array.getElem?_eq_some_iff.1 Kmw120.out).1
        have r_0 : w120.cell? ⟨br, 0, none⟩ = some _ := blk_cell Krw120.out rfl
        have r_1 : w120.cell? ⟨br, 1, none⟩ = some _ := blk_cell Krw120.out rfl
        have r_2 : w120.cell? ⟨br, 2, none⟩ = some _ := blk_cell Krw120.out rfl
        have r_3 : w120.cell? ⟨br, 3, none⟩ = some _ := blk_cell Krw120.out rfl
        have r_l : br < w120.heap.size := (Array.getElem?_eq_some_iff.1 Krw120.out).1
        have x_0 : w120.cell? ⟨bx, 0, none⟩ = some _ := blk_cell Kxw120.out rfl
        have x_1 : w120.cell? ⟨bx, 1, none⟩ = some _ := blk_cell Kxw120.out rfl
        have x_l : bx < w120.heap.size := (Array.getElem?_eq_some_iff.1 Kxw120.out).1
        have q_0 : w120.cell? ⟨bq, 0, none⟩ = some _ := blk_cell Kqw120.out rfl
        have q_1 : w120.cell? ⟨bq, 1, none⟩ = some _ := blk_cell Kqw120.out rfl
        have q_2 : w120.cell? ⟨bq, 2, none⟩ = some _ := blk_cell Kqw120.out rfl
        have q_3 : w120.cell? ⟨bq, 3, none⟩ = some _ := blk_cell Kqw120.out rfl
        have q_l : bq < w120.heap.size := (Array.getElem?_eq_some_iff.1 Kqw120.out).1
        by_cases hs : c.seq - 1 < 1
        · have ds : decide (c.seq - 1 < 1) = true := decide_eq_true hs
          have dq : (q.code == 1) = true := by simp [He2.out hs]
          have Hs := Lib.hid hs
          clear hs
          go_wp2_with fail
          refine (l_wakes7 w120).mono ?_
          rintro e w121 ⟨rfl, hE⟩
          clear c_0 c_1 c_2 c_3 c_4 c_5 c_6 c_7 c_8 c_9 c_l m_0 m_1 m_l r_0 r_1 r_2 r_3 r_l x_0 x_1 x_l q_0 q_1 q_2 q_3 q_l
          have Kcw121 := Lib.hid (hE.blk Kcw120.out id)
          have Kmw121 := Lib.hid (hE.blk Kmw120.out id)
          have Krw121 := Lib.hid (hE.blk Krw120.out id)
          have Kxw121 := Lib.hid (hE.blk Kxw120.out id)
          have Kqw121 := Lib.hid (hE.blk Kqw120.out id)
          replace HNi := Lib.hid (newM_mod HNi.out hE (fun _ _ => id) (fun _ _ => id))
          replace HN6 := Lib.hid (newM_mod HN6.out hE (fun _ _ => id) (fun _ _ => id))
          replace HX := Lib.hid (HX.out.ext hE)
          clear Kcw120
          clear Kmw120
          clear Krw120
          clear Kxw120
          clear Kqw120
          clear hE
          have c_0 : w121.cell? ⟨bc, 0, none⟩ = some _ := blk_cell Kcw121.out rfl
          have c_1 : w121.cell? ⟨bc, 1, none⟩ = some _ := blk_cell Kcw121.out rfl
          have c_2 : w121.cell? ⟨bc, 2, none⟩ = some _ := blk_cell Kcw121.out rfl
          have c_3 : w121.cell? ⟨bc, 3, none⟩ = some _ := blk_cell Kcw121.out rfl
          have c_4 : w121.cell? ⟨bc, 4, none⟩ = some _ := blk_cell Kcw121.out rfl
          have c_5 : w121.cell? ⟨bc, 5, none⟩ = some _ := blk_cell Kcw121.out rfl
          have c_6 : w121.cell? ⟨bc, 6, none⟩ = some _ := blk_cell Kcw121.out rfl
          have c_7 : w121.cell? ⟨bc, 7, none⟩ = some _ := blk_cell Kcw121.out rfl
          have c_8 : w121.cell? ⟨bc, 8, none⟩ = some _ := blk_cell Kcw121.out rfl
          have c_9 : w121.cell? ⟨bc, 9, none⟩ = some _ := blk_cell Kcw121.out rfl
          have c_l : bc < w121.heap.size := (Array.getElem?_eq_some_iff.1 Kcw121.out).1
          have m_0 : w121.cell? ⟨bm, 0, none⟩ = some _ := blk_cell Kmw121.out rfl
          have m_1 : w121.cell? ⟨bm, 1, none⟩ = some _ := blk_cell Kmw121.out rfl
          have m_l : bm < w121.heap.size := (Array.getElem?_eq_some_iff.1 Kmw121.out).1
          have r_0 : w121.cell? ⟨br, 0, none⟩ = some _ := blk_cell Krw121.out rfl
          have r_1 : w121.cell? ⟨br, 1, none⟩ = some _ := blk_cell Krw121.out rfl
          have r_2 : w121.cell? ⟨br, 2, none⟩ = some _ := blk_cell Krw121.out rfl
          have r_3 : w121.cell? ⟨br, 3, none⟩ = some _ := blk_cell Krw121.out rfl
          have r_l : br < w121.heap.size := (Array.getElem?_eq_some_iff.1 Krw121.out).1
          have x_0 : w121.cell? ⟨bx, 0, none⟩ = some _ := blk_cell Kxw121.out rfl
          have x_1 : w121.cell? ⟨bx, 1, none⟩ = some _ := blk_cell Kxw121.out rfl
          have x_l : bx < w121.heap.size := (Array.getElem?_eq_some_iff.1 Kxw121.out).1
          have q_0 : w121.cell? ⟨bq, 0, none⟩ = some _ := blk_cell Kqw121.out rfl
          have q_1 : w121.cell? ⟨bq, 1, none⟩ = some _ := blk_cell Kqw121.out rfl
          have q_2 : w121.cell? ⟨bq, 2, none⟩ = some _ := blk_cell Kqw121.out rfl
          have q_3 : w121.cell? ⟨bq, 3, none⟩ = some _ := blk_cell Kqw121.out rfl
          have q_l : bq < w121.heap.size := (Array.getElem?_eq_some_iff.1 Kqw121.out).1
          go_wp2
          go_ret
          exact ⟨rfl, Ext.below HX.out⟩
        · have ds : decide (c.seq - 1 < 1) = false := decide_eq_false hs
          have dq : (q.code == 10) = true := by simp [He3.out (by omega)]
          have Hs := Lib.hid hs
          clear hs
          go_wp2_with fail
          refine (l_wakes7 w120).mono ?_
          rintro e w121 ⟨rfl, hE⟩
          clear c_0 c_1 c_2 c_3 c_4 c_5 c_6 c_7 c_8 c_9 c_l m_0 m_1 m_l r_0 r_1 r_2 r_3 r_l x_0 x_1 x_l q_0 q_1 q_2 q_3 q_l
          have Kcw121 := Lib.hid (hE.blk Kcw120.out id)
          have Kmw121 := Lib.hid (hE.blk Kmw120.out id)
          have Krw121 := Lib.hid (hE.blk Krw120.out id)
          have Kxw121 := Lib.hid (hE.blk Kxw120.out id)
          have Kqw121 := Lib.hid (hE.blk Kqw120.out id)
          replace HNi := Lib.hid (newM_mod HNi.out hE (fun _ _ => id) (fun _ _ => id))
          replace HN6 := Lib.hid (newM_mod HN6.out hE (fun _ _ => id) (fun _ _ => id))
          replace HX := Lib.hid (HX.out.ext hE)
          clear Kcw120
          clear Kmw120
          clear Krw120
          clear Kxw120
          clear Kqw120
          clear hE
          have c_0 : w121.cell? ⟨bc, 0, none⟩ = some _ := blk_cell Kcw121.out rfl
          have c_1 : w121.cell? ⟨bc, 1, none⟩ = some _ := blk_cell Kcw121.out rfl
          have c_2 : w121.cell? ⟨bc, 2, none⟩ = some _ := blk_cell Kcw121.out rfl
          have c_3 : w121.cell? ⟨bc, 3, none⟩ = some _ := blk_cell Kcw121.out rfl
          have c_4 : w121.cell? ⟨bc, 4, none⟩ = some _ := blk_cell Kcw121.out rfl
          have c_5 : w121.cell? ⟨bc, 5, none⟩ = some _ := blk_cell Kcw121.out rfl
          have c_6 : w121.cell? ⟨bc, 6, none⟩ = some _ := blk_cell Kcw121.out rfl
          have c_7 : w121.cell? ⟨bc, 7, none⟩ = some _ := blk_cell Kcw121.out rfl
          have c_8 : w121.cell? ⟨bc, 8, none⟩ = some _ := blk_cell Kcw121.out rfl
          have c_9 : w121.cell? ⟨bc, 9, none⟩ = some _ := blk_cell Kcw121.out rfl
          have c_l : bc < w121.heap.size := (Array.getElem?_eq_some_iff.1 Kcw121.out).1
          have m_0 : w121.cell? ⟨bm, 0, none⟩ = some _ := blk_cell Kmw121.out rfl
          have m_1 : w121.cell? ⟨bm, 1, none⟩ = some _ := blk_cell Kmw121.out rfl
          have m_l : bm < w121.heap.size := (Array.getElem?_eq_some_iff.1 Kmw121.out).1
          have r_0 : w121.cell? ⟨br, 0, none⟩ = some _ := blk_cell Krw121.out rfl
          have r_1 : w121.cell? ⟨br, 1, none⟩ = some _ := blk_cell Krw121.out rfl
          have r_2 : w121.cell? ⟨br, 2, none⟩ = some _ := blk_cell Krw121.out rfl
          have r_3 : w121.cell? ⟨br, 3, none⟩ = some _ := blk_cell Krw121.out rfl
          have r_l : br < w121.heap.size := (Array.getElem?_eq_some_iff.1 Krw121.out).1
          have x_0 : w121.cell? ⟨bx, 0, none⟩ = some _ := blk_cell Kxw121.out rfl
          have x_1 : w121.cell? ⟨bx, 1, none⟩ = some _ := blk_cell Kxw121.out rfl
          have x_l : bx < w121.heap.size := (Array.getElem?_eq_some_iff.1 Kxw121.out).1
          have q_0 : w121.cell? ⟨bq, 0, none⟩ = some _ := blk_cell Kqw121.out rfl
          have q_1 : w121.cell? ⟨bq, 1, none⟩ = some _ := blk_cell Kqw121.out rfl
          have q_2 : w121.cell? ⟨bq, 2, none⟩ = some _ := blk_cell Kqw121.out rfl
          have q_3 : w121.cell? ⟨bq, 3, none⟩ = some _ := blk_cell Kqw121.out rfl
          have q_l : bq < w121.heap.size := (Array.getElem?_eq_some_iff.1 Kqw121.out).1
          go_wp2
          go_ret
          exact ⟨rfl, Ext.below HX.out⟩
    · clear HMr
      clear Kzwr
      have c_0 : wr.cell? ⟨bc, 0, none⟩ = some _ := blk_cell Kcwr.out rfl
      have c_1 : wr.cell? ⟨bc, 1, none⟩ = some _ := blk_cell Kcwr.out rfl
      have c_2 : wr.cell? ⟨bc, 2, none⟩ = some _ := blk_cell Kcwr.out rfl
      have c_3 : wr.cell? ⟨bc, 3, none⟩ = some _ := blk_cell Kcwr.out rfl
      have c_4 : wr.cell? ⟨bc, 4, none⟩ = some _ := blk_cell Kcwr.out rfl
      have c_5 : wr.cell? ⟨bc, 5, none⟩ = some _ := blk_cell Kcwr.out rfl
      have c_6 : wr.cell? ⟨bc, 6, none⟩ = some _ := blk_cell Kcwr.out rfl
      have c_7 : wr.cell? ⟨bc, 7, none⟩ = some _ := blk_cell Kcwr.out rfl
      have c_8 : wr.cell? ⟨bc, 8, none⟩ = some _ := blk_cell Kcwr.out rfl
      have c_9 : wr.cell? ⟨bc, 9, none⟩ = some _ := blk_cell Kcwr.out rfl
      have c_l : bc < wr.heap.size := (Array.getElem?_eq_some_iff.1 Kcwr.out).1
      have m_0 : wr.cell? ⟨bm, 0, none⟩ = some _ := blk_cell Kmwr.out rfl
      have m_1 : wr.cell? ⟨bm, 1, none⟩ = some _ := blk_cell Kmwr.out rfl
      have m_l : bm < wr.heap.size := (Array.getElem?_eq_some_iff.1 Kmwr.out).1
      have r_0 : wr.cell? ⟨br, 0, none⟩ = some _ := blk_cell Krwr.out rfl
      have r_1 : wr.cell? ⟨br, 1, none⟩ = some _ := blk_cell Krwr.out rfl
      have r_2 : wr.cell? ⟨br, 2, none⟩ = some _ := blk_cell Krwr.out rfl
      have r_3 : wr.cell? ⟨br, 3, none⟩ = some _ := blk_cell Krwr.out rfl
      have r_l : br < wr.heap.size := (Array.getElem?_eq_some_iff.1 Krwr.out).1
      go_wp2_with fail
      have hso := HX.out.size
      refine (s_do_at wr _ _ _ _ N c (HNi.out.prs) (HNi.out.ses) (mach_small HRN.out) hc.2.2.2.2.2 (once_again HRN.out H0.out Hls.out)).mono ?_
      rintro e w111 ⟨p5, v5, rfl, hN, hE⟩
      clear c_0 c_1 c_2 c_3 c_4 c_5 c_6 c_7 c_8 c_9 c_l m_0 m_1 m_l r_0 r_1 r_2 r_3 r_l
      have Kcw111 := Lib.hid (hE.blk Kcwr.out id)
      have Kmw111 := Lib.hid (hE.blk Kmwr.out id)
      have Krw111 := Lib.hid (hE.blk Krwr.out id)
      replace HNi := Lib.hid (newM_mod HNi.out hE (fun _ _ => id) (fun _ _ => id))
      replace HX := Lib.hid (HX.out.ext hE)
      clear Kcwr
      clear Kmwr
      clear Krwr
      obtain ⟨A5, c5, rfl⟩ := own_form hN.1.1
      obtain ⟨B5, d5, rfl⟩ := own_form hN.2.1.1
      have HN5 := Lib.hid (newM_up hN hso)
      clear hN hso
      clear hE
      have c_0 : w111.cell? ⟨bc, 0, none⟩ = some _ := blk_cell Kcw111.out rfl
      have c_1 : w111.cell? ⟨bc, 1, none⟩ = some _ := blk_cell Kcw111.out rfl
      have c_2 : w111.cell? ⟨bc, 2, none⟩ = some _ := blk_cell Kcw111.out rfl
      have c_3 : w111.cell? ⟨bc, 3, none⟩ = some _ := blk_cell Kcw111.out rfl
      have c_4 : w111.cell? ⟨bc, 4, none⟩ = some _ := blk_cell Kcw111.out rfl
      have c_5 : w111.cell? ⟨bc, 5, none⟩ = some _ := blk_cell Kcw111.out rfl
      have c_6 : w111.cell? ⟨bc, 6, none⟩ = some _ := blk_cell Kcw111.out rfl
      have c_7 : w111.cell? ⟨bc, 7, none⟩ = some _ := blk_cell Kcw111.out rfl
      have c_8 : w111.cell? ⟨bc, 8, none⟩ = some _ := blk_cell Kcw111.out rfl
      have c_9 : w111.cell? ⟨bc, 9, none⟩ = some _ := blk_cell Kcw111.out rfl
      have c_l : bc < w111.heap.size := (Array.getElem?_eq_some_iff.1 Kcw111.out).1
      have m_0 : w111.cell? ⟨bm, 0, none⟩ = some _ := blk_cell Kmw111.out rfl
      have m_1 : w111.cell? ⟨bm, 1, none⟩ = some _ := blk_cell Kmw111.out rfl
      have m_l : bm < w111.heap.size := (Array.getElem?_eq_some_iff.1 Kmw111.out).1
      have r_0 : w111.cell? ⟨br, 0, none⟩ = some _ := blk_cell Krw111.out rfl
      have r_1 : w111.cell? ⟨br, 1, none⟩ = some _ := blk_cell Krw111.out rfl
      have r_2 : w111.cell? ⟨br, 2, none⟩ = some _ := blk_cell Krw111.out rfl
      have r_3 : w111.cell? ⟨br, 3, none⟩ = some _ := blk_cell Krw111.out rfl
      have r_l : br < w111.heap.size := (Array.getElem?_eq_some_iff.1 Krw111.out).1
      go_wp2_with fail
      obtain ⟨w112, hw112⟩ : ∃ w112, w112 = w111.alloc (.cells #[.slice A5 N.pairs.length c5, .slice B5 N.sess.length d5] 25) := ⟨_, rfl⟩
      obtain ⟨bx, hbx⟩ : ∃ bx, bx = w111.heap.size := ⟨_, rfl⟩
      have hzz : w111.heap.size = bx := hbx.symm
      have hE : Ext w111 w112 := by rw [hw112]; exact (Mod.refl _ w111).alloc _
      have hKn : w112.heap[bx]? = some (.cells #[.slice A5 N.pairs.length c5, .slice B5 N.sess.length d5] 25 (0, 0)) := by rw [hw112, ← hzz]; exact heap_alloc_new w111 _
      have hzn : w112.heap.size = bx + 1 := by rw [hw112, ← hzz]; simp
      rw [← hw112, ← hbx]
      have hltcx : bc < bx := by have := (Array.getElem?_eq_some_iff.1 Kcw111.out).1; omega
      have hltmx : bm < bx := by have := (Array.getElem?_eq_some_iff.1 Kmw111.out).1; omega
      have hltrx : br < bx := by have := (Array.getElem?_eq_some_iff.1 Krw111.out).1; omega
      clear c_0 c_1 c_2 c_3 c_4 c_5 c_6 c_7 c_8 c_9 c_l m_0 m_1 m_l r_0 r_1 r_2 r_3 r_l
      have HXo := HX
      have Kcw112 := Lib.hid (hE.blk Kcw111.out id)
      have Kmw112 := Lib.hid (hE.blk Kmw111.out id)
      have Krw112 := Lib.hid (hE.blk Krw111.out id)
      replace HNi := Lib.hid (newM_mod HNi.out hE (fun _ _ => id) (fun _ _ => id))
      replace HN5 := Lib.hid (newM_mod HN5.out hE (fun _ _ => id) (fun _ _ => id))
      replace HX := Lib.hid (HX.out.ext hE)
      clear Kcw111
      clear Kmw111
      clear Krw111
      have Kxw112 := Lib.hid hKn
      have hbz : w.heap.size ≤ bx := by have := HXo.out.size; omega
      clear hKn hE hw112 hbx HXo hzz
      have hbx := hbz
      clear hbz
      obtain ⟨w113, hw113⟩ : ∃ w113, w113 = w112.alloc (.cells #[.int .i64 r.code, .int .i64 r.val.kind, .float .f64 r.val.num, .string r.val.text] 38) := ⟨_, rfl⟩
      obtain ⟨bq, hbq⟩ : ∃ bq, bq = bx + 1 := ⟨_, rfl⟩
      have hzz : w112.heap.size = bq := hzn.trans hbq.symm
      clear hzn
      have hE : Ext w112 w113 := by rw [hw113]; exact (Mod.refl _ w112).alloc _
      have hKn : w113.heap[bq]? = some (.cells #[.int .i64 r.code, .int .i64 r.val.kind, .float .f64 r.val.num, .string r.val.text] 38 (0, 0)) := by rw [hw113, ← hzz]; exact heap_alloc_new w112 _
      have hzn : w113.heap.size = bq + 1 := by rw [hw113, ← hzz]; simp
      rw [← hw113, ← hbq]
      have hltcq : bc < bq := by have := (Array.getElem?_eq_some_iff.1 Kcw112.out).1; omega
      have hltmq : bm < bq := by have := (Array.getElem?_eq_some_iff.1 Kmw112.out).1; omega
      have hltrq : br < bq := by have := (Array.getElem?_eq_some_iff.1 Krw112.out).1; omega
      have hltxq : bx < bq := by have := (Array.getElem?_eq_some_iff.1 Kxw112.out).1; omega
      have HXo := HX
      have Kcw113 := Lib.hid (hE.blk Kcw112.out id)
      have Kmw113 := Lib.hid (hE.blk Kmw112.out id)
      have Krw113 := Lib.hid (hE.blk Krw112.out id)
      have Kxw113 := Lib.hid (hE.blk Kxw112.out id)
      replace HNi := Lib.hid (newM_mod HNi.out hE (fun _ _ => id) (fun _ _ => id))
      replace HN5 := Lib.hid (newM_mod HN5.out hE (fun _ _ => id) (fun _ _ => id))
      replace HX := Lib.hid (HX.out.ext hE)
      clear Kcw112
      clear Kmw112
      clear Krw112
      clear Kxw112
      have Kqw113 := Lib.hid hKn
      have hbz : w.heap.size ≤ bq := by have := HXo.out.size; omega
      clear hKn hE hw113 hbq HXo hzz
      have hbq := hbz
      clear hbz
      clear hzn
      refine (k_machine w113 _ _ _ _ _ _ _ _ N.pairs N.pairs N.sess N.sess HN5.out.prs HNi.out.prs HN5.out.ses HNi.out.ses).mono ?_
      rintro e w114 ⟨rfl, hE⟩
      have Kcw114 := Lib.hid (hE.blk Kcw113.out id)
      have Kmw114 := Lib.hid (hE.blk Kmw113.out id)
      have Krw114 := Lib.hid (hE.blk Krw113.out id)
      have Kxw114 := Lib.hid (hE.blk Kxw113.out id)
      have Kqw114 := Lib.hid (hE.blk Kqw113.out id)
      replace HNi := Lib.hid (newM_mod HNi.out hE (fun _ _ => id) (fun _ _ => id))
      replace HN5 := Lib.hid (newM_mod HN5.out hE (fun _ _ => id) (fun _ _ => id))
      replace HX := Lib.hid (HX.out.ext hE)
      clear Kcw113
      clear Kmw113
      clear Krw113
      clear Kxw113
      clear Kqw113
      rw [show eqM ⟨N.pairs, N.sess⟩ ⟨N.pairs, N.sess⟩ = true from eqM_refl _]
      clear hE
      have c_0 : w114.cell? ⟨bc, 0, none⟩ = some _ := blk_cell Kcw114.out rfl
      have c_1 : w114.cell? ⟨bc, 1, none⟩ = some _ := blk_cell Kcw114.out rfl
      have c_2 : w114.cell? ⟨bc, 2, none⟩ = some _ := blk_cell Kcw114.out rfl
      have c_3 : w114.cell? ⟨bc, 3, none⟩ = some _ := blk_cell Kcw114.out rfl
      have c_4 : w114.cell? ⟨bc, 4, none⟩ = some _ := blk_cell Kcw114.out rfl
      have c_5 : w114.cell? ⟨bc, 5, none⟩ = some _ := blk_cell Kcw114.out rfl
      have c_6 : w114.cell? ⟨bc, 6, none⟩ = some _ := blk_cell Kcw114.out rfl
      have c_7 : w114.cell? ⟨bc, 7, none⟩ = some _ := blk_cell Kcw114.out rfl
      have c_8 : w114.cell? ⟨bc, 8, none⟩ = some _ := blk_cell Kcw114.out rfl
      have c_9 : w114.cell? ⟨bc, 9, none⟩ = some _ := blk_cell Kcw114.out rfl
      have c_l : bc < w114.heap.size := (Array.getElem?_eq_some_iff.1 Kcw114.out).1
      have m_0 : w114.cell? ⟨bm, 0, none⟩ = some _ := blk_cell Kmw114.out rfl
      have m_1 : w114.cell? ⟨bm, 1, none⟩ = some _ := blk_cell Kmw114.out rfl
      have m_l : bm < w114.heap.size := (Array.getElem?_eq_some_iff.1 Kmw114.out).1
      have r_0 : w114.cell? ⟨br, 0, none⟩ = some _ := blk_cell Krw114.out rfl
      have r_1 : w114.cell? ⟨br, 1, none⟩ = some _ := blk_cell Krw114.out rfl
      have r_2 : w114.cell? ⟨br, 2, none⟩ = some _ := blk_cell Krw114.out rfl
      have r_3 : w114.cell? ⟨br, 3, none⟩ = some _ := blk_cell Krw114.out rfl
      have r_l : br < w114.heap.size := (Array.getElem?_eq_some_iff.1 Krw114.out).1
      have x_0 : w114.cell? ⟨bx, 0, none⟩ = some _ := blk_cell Kxw114.out rfl
      have x_1 : w114.cell? ⟨bx, 1, none⟩ = some _ := blk_cell Kxw114.out rfl
      have x_l : bx < w114.heap.size := (Array.getElem?_eq_some_iff.1 Kxw114.out).1
      have q_0 : w114.cell? ⟨bq, 0, none⟩ = some _ := blk_cell Kqw114.out rfl
      have q_1 : w114.cell? ⟨bq, 1, none⟩ = some _ := blk_cell Kqw114.out rfl
      have q_2 : w114.cell? ⟨bq, 2, none⟩ = some _ := blk_cell Kqw114.out rfl
      have q_3 : w114.cell? ⟨bq, 3, none⟩ = some _ := blk_cell Kqw114.out rfl
      have q_l : bq < w114.heap.size := (Array.getElem?_eq_some_iff.1 Kqw114.out).1
      go_wp2_with fail
      refine (k_reply r r w114).mono ?_
      rintro e w115 ⟨rfl, hE⟩
      clear c_0 c_1 c_2 c_3 c_4 c_5 c_6 c_7 c_8 c_9 c_l m_0 m_1 m_l r_0 r_1 r_2 r_3 r_l x_0 x_1 x_l q_0 q_1 q_2 q_3 q_l
      have Kcw115 := Lib.hid (hE.blk Kcw114.out id)
      have Kmw115 := Lib.hid (hE.blk Kmw114.out id)
      have Krw115 := Lib.hid (hE.blk Krw114.out id)
      have Kxw115 := Lib.hid (hE.blk Kxw114.out id)
      have Kqw115 := Lib.hid (hE.blk Kqw114.out id)
      replace HNi := Lib.hid (newM_mod HNi.out hE (fun _ _ => id) (fun _ _ => id))
      replace HN5 := Lib.hid (newM_mod HN5.out hE (fun _ _ => id) (fun _ _ => id))
      replace HX := Lib.hid (HX.out.ext hE)
      clear Kcw114
      clear Kmw114
      clear Krw114
      clear Kxw114
      clear Kqw114
      rw [eqReply_refl]
      clear hE
      have c_0 : w115.cell? ⟨bc, 0, none⟩ = some _ := blk_cell Kcw115.out rfl
      have c_1 : w115.cell? ⟨bc, 1, none⟩ = some _ := blk_cell Kcw115.out rfl
      have c_2 : w115.cell? ⟨bc, 2, none⟩ = some _ := blk_cell Kcw115.out rfl
      have c_3 : w115.cell? ⟨bc, 3, none⟩ = some _ := blk_cell Kcw115.out rfl
      have c_4 : w115.cell? ⟨bc, 4, none⟩ = some _ := blk_cell Kcw115.out rfl
      have c_5 : w115.cell? ⟨bc, 5, none⟩ = some _ := blk_cell Kcw115.out rfl
      have c_6 : w115.cell? ⟨bc, 6, none⟩ = some _ := blk_cell Kcw115.out rfl
      have c_7 : w115.cell? ⟨bc, 7, none⟩ = some _ := blk_cell Kcw115.out rfl
      have c_8 : w115.cell? ⟨bc, 8, none⟩ = some _ := blk_cell Kcw115.out rfl
      have c_9 : w115.cell? ⟨bc, 9, none⟩ = some _ := blk_cell Kcw115.out rfl
      have c_l : bc < w115.heap.size := (Array.getElem?_eq_some_iff.1 Kcw115.out).1
      have m_0 : w115.cell? ⟨bm, 0, none⟩ = some _ := blk_cell Kmw115.out rfl
      have m_1 : w115.cell? ⟨bm, 1, none⟩ = some _ := blk_cell Kmw115.out rfl
      have m_l : bm < w115.heap.size := (Array.getElem?_eq_some_iff.1 Kmw115.out).1
      have r_0 : w115.cell? ⟨br, 0, none⟩ = some _ := blk_cell Krw115.out rfl
      have r_1 : w115.cell? ⟨br, 1, none⟩ = some _ := blk_cell Krw115.out rfl
      have r_2 : w115.cell? ⟨br, 2, none⟩ = some _ := blk_cell Krw115.out rfl
      have r_3 : w115.cell? ⟨br, 3, none⟩ = some _ := blk_cell Krw115.out rfl
      have r_l : br < w115.heap.size := (Array.getElem?_eq_some_iff.1 Krw115.out).1
      have x_0 : w115.cell? ⟨bx, 0, none⟩ = some _ := blk_cell Kxw115.out rfl
      have x_1 : w115.cell? ⟨bx, 1, none⟩ = some _ := blk_cell Kxw115.out rfl
      have x_l : bx < w115.heap.size := (Array.getElem?_eq_some_iff.1 Kxw115.out).1
      have q_0 : w115.cell? ⟨bq, 0, none⟩ = some _ := blk_cell Kqw115.out rfl
      have q_1 : w115.cell? ⟨bq, 1, none⟩ = some _ := blk_cell Kqw115.out rfl
      have q_2 : w115.cell? ⟨bq, 2, none⟩ = some _ := blk_cell Kqw115.out rfl
      have q_3 : w115.cell? ⟨bq, 3, none⟩ = some _ := blk_cell Kqw115.out rfl
      have q_l : bq < w115.heap.size := (Array.getElem?_eq_some_iff.1 Kqw115.out).1
      have fz1 := blk_free 1 Kcw115.out
      have hzw : IntKind.i64.wrap (c.seq - 1) = c.seq - 1 := IntWalk.i64_in _ (by have := call_nums H0.out; omega)
      go_wp2_with fail
      clear c_0 c_1 c_2 c_3 c_4 c_5 c_6 c_7 c_8 c_9 c_l m_0 m_1 m_l r_0 r_1 r_2 r_3 r_l x_0 x_1 x_l q_0 q_1 q_2 q_3 q_l
      clear fz1 hzw
      clear HN5
      obtain ⟨w116, hw116⟩ : ∃ w116, (w115.setCell ⟨bc, 1, none⟩ (.int .i64 (c.seq - 1))) = w116 := ⟨_, rfl⟩
      have hKn : w116.heap[bc]? = some (.cells #[.int .i64 c.client, .int .i64 (c.seq - 1), .int .i64 c.cmd.kind, .string c.cmd.key, .int .i64 c.cmd.old.kind, .float .f64 c.cmd.old.num, .string c.cmd.old.text, .int .i64 c.cmd.val.kind, .float .f64 c.cmd.val.num, .string c.cmd.val.text] 32 (0, 0)) := by
        rw [← hw116]
        have := Kcw115.out
        simp [World.setCell, Array.getElem?_modify, this]
      have hM : Mod (fun k => k = bc) w115 w116 := by rw [← hw116]; exact mod_same (Mod.refl _ _) _ _
      rw [hw116]
      have Kcw116 := Lib.hid hKn
      have Kmw116 := Lib.hid (hM.blk Kmw115.out (by omega))
      have Krw116 := Lib.hid (hM.blk Krw115.out (by omega))
      have Kxw116 := Lib.hid (hM.blk Kxw115.out (by omega))
      have Kqw116 := Lib.hid (hM.blk Kqw115.out (by omega))
      replace HNi := Lib.hid (newM_box HNi.out Kcw115.out hM (by decide) (by decide))
      replace HX : Hid (Ext w w116) := Lib.hid (Mod.toExt ((Ext.mod HX.out (Since w.heap.size)).trans hM (fun k _ e => by rw [e]; exact hbc)))
      clear hKn hM hw116
      clear Kcw115
      clear Kmw115
      clear Krw115
      clear Kxw115
      clear Kqw115
      have c_0 : w116.cell? ⟨bc, 0, none⟩ = some _ := blk_cell Kcw116.out rfl
      have c_1 : w116.cell? ⟨bc, 1, none⟩ = some _ := blk_cell Kcw116.out rfl
      have c_2 : w116.cell? ⟨bc, 2, none⟩ = some _ := blk_cell Kcw116.out rfl
      have c_3 : w116.cell? ⟨bc, 3, none⟩ = some _ := blk_cell Kcw116.out rfl
      have c_4 : w116.cell? ⟨bc, 4, none⟩ = some _ := blk_cell Kcw116.out rfl
      have c_5 : w116.cell? ⟨bc, 5, none⟩ = some _ := blk_cell Kcw116.out rfl
      have c_6 : w116.cell? ⟨bc, 6, none⟩ = some _ := blk_cell Kcw116.out rfl
      have c_7 : w116.cell? ⟨bc, 7, none⟩ = some _ := blk_cell Kcw116.out rfl
      have c_8 : w116.cell? ⟨bc, 8, none⟩ = some _ := blk_cell Kcw116.out rfl
      have c_9 : w116.cell? ⟨bc, 9, none⟩ = some _ := blk_cell Kcw116.out rfl
      have c_l : bc < w116.heap.size := (Array.getElem?_eq_some_iff.1 Kcw116.out).1
      have m_0 : w116.cell? ⟨bm, 0, none⟩ = some _ := blk_cell Kmw116.out rfl
      have m_1 : w116.cell? ⟨bm, 1, none⟩ = some _ := blk_cell Kmw116.out rfl
      have m_l : bm < w116.heap.size := (Array.getElem?_eq_some_iff.1 Kmw116.out).1
      have r_0 : w116.cell? ⟨br, 0, none⟩ = some _ := blk_cell Krw116.out rfl
      have r_1 : w116.cell? ⟨br, 1, none⟩ = some _ := blk_cell Krw116.out rfl
      have r_2 : w116.cell? ⟨br, 2, none⟩ = some _ := blk_cell Krw116.out rfl
      have r_3 : w116.cell? ⟨br, 3, none⟩ = some _ := blk_cell Krw116.out rfl
      have r_l : br < w116.heap.size := (Array.getElem?_eq_some_iff.1 Krw116.out).1
      have x_0 : w116.cell? ⟨bx, 0, none⟩ = some _ := blk_cell Kxw116.out rfl
      have x_1 : w116.cell? ⟨bx, 1, none⟩ = some _ := blk_cell Kxw116.out rfl
      have x_l : bx < w116.heap.size := (Array.getElem?_eq_some_iff.1 Kxw116.out).1
      have q_0 : w116.cell? ⟨bq, 0, none⟩ = some _ := blk_cell Kqw116.out rfl
      have q_1 : w116.cell? ⟨bq, 1, none⟩ = some _ := blk_cell Kqw116.out rfl
      have q_2 : w116.cell? ⟨bq, 2, none⟩ = some _ := blk_cell Kqw116.out rfl
      have q_3 : w116.cell? ⟨bq, 3, none⟩ = some _ := blk_cell Kqw116.out rfl
      have q_l : bq < w116.heap.size := (Array.getElem?_eq_some_iff.1 Kqw116.out).1
      go_wp2_with fail
      have hso := HX.out.size
      rcases hq : onceP N ⟨c.client, c.seq - 1, c.cmd⟩ with ⟨N6, q⟩
      refine (s_do_at w116 _ _ _ _ N ⟨c.client, c.seq - 1, c.cmd⟩ (HNi.out.prs) (HNi.out.ses) (mach_small HRN.out) hc.2.2.2.2.2 hq).mono ?_
      rintro e w117 ⟨p6, v6, rfl, hN, hE⟩
      clear c_0 c_1 c_2 c_3 c_4 c_5 c_6 c_7 c_8 c_9 c_l m_0 m_1 m_l r_0 r_1 r_2 r_3 r_l x_0 x_1 x_l q_0 q_1 q_2 q_3 q_l
      have Kcw117 := Lib.hid (hE.blk Kcw116.out id)
      have Kmw117 := Lib.hid (hE.blk Kmw116.out id)
      have Krw117 := Lib.hid (hE.blk Krw116.out id)
      have Kxw117 := Lib.hid (hE.blk Kxw116.out id)
      have Kqw117 := Lib.hid (hE.blk Kqw116.out id)
      replace HNi := Lib.hid (newM_mod HNi.out hE (fun _ _ => id) (fun _ _ => id))
      replace HX := Lib.hid (HX.out.ext hE)
      clear Kcw116
      clear Kmw116
      clear Krw116
      clear Kxw116
      clear Kqw116
      obtain ⟨A6, c6, rfl⟩ := own_form hN.1.1
      obtain ⟨B6, d6, rfl⟩ := own_form hN.2.1.1
      have HN6 := Lib.hid (newM_up hN hso)
      clear hN hso
      have HEq := Lib.hid hq
      clear hq
      clear hE
      have c_0 : w117.cell? ⟨bc, 0, none⟩ = some _ := blk_cell Kcw117.out rfl
      have c_1 : w117.cell? ⟨bc, 1, none⟩ = some _ := blk_cell Kcw117.out rfl
      have c_2 : w117.cell? ⟨bc, 2, none⟩ = some _ := blk_cell Kcw117.out rfl
      have c_3 : w117.cell? ⟨bc, 3, none⟩ = some _ := blk_cell Kcw117.out rfl
      have c_4 : w117.cell? ⟨bc, 4, none⟩ = some _ := blk_cell Kcw117.out rfl
      have c_5 : w117.cell? ⟨bc, 5, none⟩ = some _ := blk_cell Kcw117.out rfl
      have c_6 : w117.cell? ⟨bc, 6, none⟩ = some _ := blk_cell Kcw117.out rfl
      have c_7 : w117.cell? ⟨bc, 7, none⟩ = some _ := blk_cell Kcw117.out rfl
      have c_8 : w117.cell? ⟨bc, 8, none⟩ = some _ := blk_cell Kcw117.out rfl
      have c_9 : w117.cell? ⟨bc, 9, none⟩ = some _ := blk_cell Kcw117.out rfl
      have c_l : bc < w117.heap.size := (Array.getElem?_eq_some_iff.1 Kcw117.out).1
      have m_0 : w117.cell? ⟨bm, 0, none⟩ = some _ := blk_cell Kmw117.out rfl
      have m_1 : w117.cell? ⟨bm, 1, none⟩ = some _ := blk_cell Kmw117.out rfl
      have m_l : bm < w117.heap.size := (Array.getElem?_eq_some_iff.1 Kmw117.out).1
      have r_0 : w117.cell? ⟨br, 0, none⟩ = some _ := blk_cell Krw117.out rfl
      have r_1 : w117.cell? ⟨br, 1, none⟩ = some _ := blk_cell Krw117.out rfl
      have r_2 : w117.cell? ⟨br, 2, none⟩ = some _ := blk_cell Krw117.out rfl
      have r_3 : w117.cell? ⟨br, 3, none⟩ = some _ := blk_cell Krw117.out rfl
      have r_l : br < w117.heap.size := (Array.getElem?_eq_some_iff.1 Krw117.out).1
      have x_0 : w117.cell? ⟨bx, 0, none⟩ = some _ := blk_cell Kxw117.out rfl
      have x_1 : w117.cell? ⟨bx, 1, none⟩ = some _ := blk_cell Kxw117.out rfl
      have x_l : bx < w117.heap.size := (Array.getElem?_eq_some_iff.1 Kxw117.out).1
      have q_0 : w117.cell? ⟨bq, 0, none⟩ = some _ := blk_cell Kqw117.out rfl
      have q_1 : w117.cell? ⟨bq, 1, none⟩ = some _ := blk_cell Kqw117.out rfl
      have q_2 : w117.cell? ⟨bq, 2, none⟩ = some _ := blk_cell Kqw117.out rfl
      have q_3 : w117.cell? ⟨bq, 3, none⟩ = some _ := blk_cell Kqw117.out rfl
      have q_l : bq < w117.heap.size := (Array.getElem?_eq_some_iff.1 Kqw117.out).1
      have helder := once_elder (c := c) HRN.out H0.out Hls.out
      rw [HEq.out] at helder
      obtain ⟨he1, he2, he3⟩ := helder
      have He1 : Hid (N6 = N) := Lib.hid he1
      have He2 : Hid (c.seq - 1 < 1 → q.code = 1) := Lib.hid he2
      have He3 : Hid (1 ≤ c.seq - 1 → q.code = 10) := Lib.hid (fun h => he3 (by omega))
      clear he1 he2 he3
      have fzx0 := blk_free 0 Kxw117.out
      have fzx1 := blk_free 1 Kxw117.out
      have fzq0 := blk_free 0 Kqw117.out
      have fzq1 := blk_free 1 Kqw117.out
      have fzq2 := blk_free 2 Kqw117.out
      have fzq3 := blk_free 3 Kqw117.out
      go_wp2_with fail
      clear c_0 c_1 c_2 c_3 c_4 c_5 c_6 c_7 c_8 c_9 c_l m_0 m_1 m_l r_0 r_1 r_2 r_3 r_l x_0 x_1 x_l q_0 q_1 q_2 q_3 q_l
      clear fzx0 fzx1
      clear fzq0 fzq1 fzq2 fzq3
      obtain ⟨w118, hw118⟩ : ∃ w118, ((w117.setCell ⟨bx, 0, none⟩ (.slice A6 N6.pairs.length c6)).setCell ⟨bx, 1, none⟩ (.slice B6 N6.sess.length d6)) = w118 := ⟨_, rfl⟩
      have hKn : w118.heap[bx]? = some (.cells #[.slice A6 N6.pairs.length c6, .slice B6 N6.sess.length d6] 25 (0, 0)) := by
        rw [← hw118]
        have := Kxw117.out
        simp [World.setCell, Array.getElem?_modify, this]
      have hM : Mod (fun k => k = bx) w117 w118 := by rw [← hw118]; exact mod_same (mod_same (Mod.refl _ _) _ _) _ _
      rw [hw118]
      have Kcw118 := Lib.hid (hM.blk Kcw117.out (by omega))
      have Kmw118 := Lib.hid (hM.blk Kmw117.out (by omega))
      have Krw118 := Lib.hid (hM.blk Krw117.out (by omega))
      have Kxw118 := Lib.hid hKn
      have Kqw118 := Lib.hid (hM.blk Kqw117.out (by omega))
      replace HNi := Lib.hid (newM_box HNi.out Kxw117.out hM (by decide) (by decide))
      replace HN6 := Lib.hid (newM_box HN6.out Kxw117.out hM (by decide) (by decide))
      replace HX : Hid (Ext w w118) := Lib.hid (Mod.toExt ((Ext.mod HX.out (Since w.heap.size)).trans hM (fun k _ e => by rw [e]; exact hbx)))
      clear hKn hM hw118
      clear Kcw117
      clear Kmw117
      clear Krw117
      clear Kxw117
      clear Kqw117
      obtain ⟨w119, hw119⟩ : ∃ w119, ((((w118.setCell ⟨bq, 0, none⟩ (.int .i64 q.code)).setCell ⟨bq, 1, none⟩ (.int .i64 q.val.kind)).setCell ⟨bq, 2, none⟩ (.float .f64 q.val.num)).setCell ⟨bq, 3, none⟩ (.string q.val.text)) = w119 := ⟨_, rfl⟩
      have hKn : w119.heap[bq]? = some (.cells #[.int .i64 q.code, .int .i64 q.val.kind, .float .f64 q.val.num, .string q.val.text] 38 (0, 0)) := by
        rw [← hw119]
        have := Kqw118.out
        simp [World.setCell, Array.getElem?_modify, this]
      have hM : Mod (fun k => k = bq) w118 w119 := by rw [← hw119]; exact mod_same (mod_same (mod_same (mod_same (Mod.refl _ _) _ _) _ _) _ _) _ _
      rw [hw119]
      have Kcw119 := Lib.hid (hM.blk Kcw118.out (by omega))
      have Kmw119 := Lib.hid (hM.blk Kmw118.out (by omega))
      have Krw119 := Lib.hid (hM.blk Krw118.out (by omega))
      have Kxw119 := Lib.hid (hM.blk Kxw118.out (by omega))
      have Kqw119 := Lib.hid hKn
      replace HNi := Lib.hid (newM_box HNi.out Kqw118.out hM (by decide) (by decide))
      replace HN6 := Lib.hid (newM_box HN6.out Kqw118.out hM (by decide) (by decide))
      replace HX : Hid (Ext w w119) := Lib.hid (Mod.toExt ((Ext.mod HX.out (Since w.heap.size)).trans hM (fun k _ e => by rw [e]; exact hbq)))
      clear hKn hM hw119
      clear Kcw118
      clear Kmw118
      clear Krw118
      clear Kxw118
      clear Kqw118
      have c_0 : w119.cell? ⟨bc, 0, none⟩ = some _ := blk_cell Kcw119.out rfl
      have c_1 : w119.cell? ⟨bc, 1, none⟩ = some _ := blk_cell Kcw119.out rfl
      have c_2 : w119.cell? ⟨bc, 2, none⟩ = some _ := blk_cell Kcw119.out rfl
      have c_3 : w119.cell? ⟨bc, 3, none⟩ = some _ := blk_cell Kcw119.out rfl
      have c_4 : w119.cell? ⟨bc, 4, none⟩ = some _ := blk_cell Kcw119.out rfl
      have c_5 : w119.cell? ⟨bc, 5, none⟩ = some _ := blk_cell Kcw119.out rfl
      have c_6 : w119.cell? ⟨bc, 6, none⟩ = some _ := blk_cell Kcw119.out rfl
      have c_7 : w119.cell? ⟨bc, 7, none⟩ = some _ := blk_cell Kcw119.out rfl
      have c_8 : w119.cell? ⟨bc, 8, none⟩ = some _ := blk_cell Kcw119.out rfl
      have c_9 : w119.cell? ⟨bc, 9, none⟩ = some _ := blk_cell Kcw119.out rfl
      have c_l : bc < w119.heap.size := (Array.getElem?_eq_some_iff.1 Kcw119.out).1
      have m_0 : w119.cell? ⟨bm, 0, none⟩ = some _ := blk_cell Kmw119.out rfl
      have m_1 : w119.cell? ⟨bm, 1, none⟩ = some _ := blk_cell Kmw119.out rfl
      have m_l : bm < w119.heap.size := (Array.getElem?_eq_some_iff.1 Kmw119.out).1
      have r_0 : w119.cell? ⟨br, 0, none⟩ = some _ := blk_cell Krw119.out rfl
      have r_1 : w119.cell? ⟨br, 1, none⟩ = some _ := blk_cell Krw119.out rfl
      have r_2 : w119.cell? ⟨br, 2, none⟩ = some _ := blk_cell Krw119.out rfl
      have r_3 : w119.cell? ⟨br, 3, none⟩ = some _ := blk_cell Krw119.out rfl
      have r_l : br < w119.heap.size := (Array.getElem?_eq_some_iff.1 Krw119.out).1
      have x_0 : w119.cell? ⟨bx, 0, none⟩ = some _ := blk_cell Kxw119.out rfl
      have x_1 : w119.cell? ⟨bx, 1, none⟩ = some _ := blk_cell Kxw119.out rfl
      have x_l : bx < w119.heap.size := (Array.getElem?_eq_some_iff.1 Kxw119.out).1
      have q_0 : w119.cell? ⟨bq, 0, none⟩ = some _ := blk_cell Kqw119.out rfl
      have q_1 : w119.cell? ⟨bq, 1, none⟩ = some _ := blk_cell Kqw119.out rfl
      have q_2 : w119.cell? ⟨bq, 2, none⟩ = some _ := blk_cell Kqw119.out rfl
      have q_3 : w119.cell? ⟨bq, 3, none⟩ = some _ := blk_cell Kqw119.out rfl
      have q_l : bq < w119.heap.size := (Array.getElem?_eq_some_iff.1 Kqw119.out).1
      go_wp2_with fail
      refine (k_machine w119 _ _ _ _ _ _ _ _ N6.pairs N.pairs N6.sess N.sess HN6.out.prs HNi.out.prs HN6.out.ses HNi.out.ses).mono ?_
      rintro e w120 ⟨rfl, hE⟩
      clear c_0 c_1 c_2 c_3 c_4 c_5 c_6 c_7 c_8 c_9 c_l m_0 m_1 m_l r_0 r_1 r_2 r_3 r_l x_0 x_1 x_l q_0 q_1 q_2 q_3 q_l
      have Kcw120 := Lib.hid (hE.blk Kcw119.out id)
      have Kmw120 := Lib.hid (hE.blk Kmw119.out id)
      have Krw120 := Lib.hid (hE.blk Krw119.out id)
      have Kxw120 := Lib.hid (hE.blk Kxw119.out id)
      have Kqw120 := Lib.hid (hE.blk Kqw119.out id)
      replace HNi := Lib.hid (newM_mod HNi.out hE (fun _ _ => id) (fun _ _ => id))
      replace HN6 := Lib.hid (newM_mod HN6.out hE (fun _ _ => id) (fun _ _ => id))
      replace HX := Lib.hid (HX.out.ext hE)
      clear Kcw119
      clear Kmw119
      clear Krw119
      clear Kxw119
      clear Kqw119
      rw [show eqM ⟨N6.pairs, N6.sess⟩ ⟨N.pairs, N.sess⟩ = true by rw [He1.out]; exact eqM_refl _]
      clear hE
      have c_0 : w120.cell? ⟨bc, 0, none⟩ = some _ := blk_cell Kcw120.out rfl
      have c_1 : w120.cell? ⟨bc, 1, none⟩ = some _ := blk_cell Kcw120.out rfl
      have c_2 : w120.cell? ⟨bc, 2, none⟩ = some _ := blk_cell Kcw120.out rfl
      have c_3 : w120.cell? ⟨bc, 3, none⟩ = some _ := blk_cell Kcw120.out rfl
      have c_4 : w120.cell? ⟨bc, 4, none⟩ = some _ := blk_cell Kcw120.out rfl
      have c_5 : w120.cell? ⟨bc, 5, none⟩ = some _ := blk_cell Kcw120.out rfl
      have c_6 : w120.cell? ⟨bc, 6, none⟩ = some _ := blk_cell Kcw120.out rfl
      have c_7 : w120.cell? ⟨bc, 7, none⟩ = some _ := blk_cell Kcw120.out rfl
      have c_8 : w120.cell? ⟨bc, 8, none⟩ = some _ := blk_cell Kcw120.out rfl
      have c_9 : w120.cell? ⟨bc, 9, none⟩ = some _ := blk_cell Kcw120.out rfl
      have c_l : bc < w120.heap.size := (Array.getElem?_eq_some_iff.1 Kcw120.out).1
      have m_0 : w120.cell? ⟨bm, 0, none⟩ = some _ := blk_cell Kmw120.out rfl
      have m_1 : w120.cell? ⟨bm, 1, none⟩ = some _ := blk_cell Kmw120.out rfl
      have m_l : bm < w120.heap.size := (Array.getElem?_eq_some_iff.1 Kmw120.out).1
      have r_0 : w120.cell? ⟨br, 0, none⟩ = some _ := blk_cell Krw120.out rfl
      have r_1 : w120.cell? ⟨br, 1, none⟩ = some _ := blk_cell Krw120.out rfl
      have r_2 : w120.cell? ⟨br, 2, none⟩ = some _ := blk_cell Krw120.out rfl
      have r_3 : w120.cell? ⟨br, 3, none⟩ = some _ := blk_cell Krw120.out rfl
      have r_l : br < w120.heap.size := (Array.getElem?_eq_some_iff.1 Krw120.out).1
      have x_0 : w120.cell? ⟨bx, 0, none⟩ = some _ := blk_cell Kxw120.out rfl
      have x_1 : w120.cell? ⟨bx, 1, none⟩ = some _ := blk_cell Kxw120.out rfl
      have x_l : bx < w120.heap.size := (Array.getElem?_eq_some_iff.1 Kxw120.out).1
      have q_0 : w120.cell? ⟨bq, 0, none⟩ = some _ := blk_cell Kqw120.out rfl
      have q_1 : w120.cell? ⟨bq, 1, none⟩ = some _ := blk_cell Kqw120.out rfl
      have q_2 : w120.cell? ⟨bq, 2, none⟩ = some _ := blk_cell Kqw120.out rfl
      have q_3 : w120.cell? ⟨bq, 3, none⟩ = some _ := blk_cell Kqw120.out rfl
      have q_l : bq < w120.heap.size := (Array.getElem?_eq_some_iff.1 Kqw120.out).1
      by_cases hs : c.seq - 1 < 1
      · have ds : decide (c.seq - 1 < 1) = true := decide_eq_true hs
        have dq : (q.code == 1) = true := by simp [He2.out hs]
        have Hs := Lib.hid hs
        clear hs
        go_wp2_with fail
        refine (l_wakes7 w120).mono ?_
        rintro e w121 ⟨rfl, hE⟩
        clear c_0 c_1 c_2 c_3 c_4 c_5 c_6 c_7 c_8 c_9 c_l m_0 m_1 m_l r_0 r_1 r_2 r_3 r_l x_0 x_1 x_l q_0 q_1 q_2 q_3 q_l
        have Kcw121 := Lib.hid (hE.blk Kcw120.out id)
        have Kmw121 := Lib.hid (hE.blk Kmw120.out id)
        have Krw121 := Lib.hid (hE.blk Krw120.out id)
        have Kxw121 := Lib.hid (hE.blk Kxw120.out id)
        have Kqw121 := Lib.hid (hE.blk Kqw120.out id)
        replace HNi := Lib.hid (newM_mod HNi.out hE (fun _ _ => id) (fun _ _ => id))
        replace HN6 := Lib.hid (newM_mod HN6.out hE (fun _ _ => id) (fun _ _ => id))
        replace HX := Lib.hid (HX.out.ext hE)
        clear Kcw120
        clear Kmw120
        clear Krw120
        clear Kxw120
        clear Kqw120
        clear hE
        have c_0 : w121.cell? ⟨bc, 0, none⟩ = some _ := blk_cell Kcw121.out rfl
        have c_1 : w121.cell? ⟨bc, 1, none⟩ = some _ := blk_cell Kcw121.out rfl
        have c_2 : w121.cell? ⟨bc, 2, none⟩ = some _ := blk_cell Kcw121.out rfl
        have c_3 : w121.cell? ⟨bc, 3, none⟩ = some _ := blk_cell Kcw121.out rfl
        have c_4 : w121.cell? ⟨bc, 4, none⟩ = some _ := blk_cell Kcw121.out rfl
        have c_5 : w121.cell? ⟨bc, 5, none⟩ = some _ := blk_cell Kcw121.out rfl
        have c_6 : w121.cell? ⟨bc, 6, none⟩ = some _ := blk_cell Kcw121.out rfl
        have c_7 : w121.cell? ⟨bc, 7, none⟩ = some _ := blk_cell Kcw121.out rfl
        have c_8 : w121.cell? ⟨bc, 8, none⟩ = some _ := blk_cell Kcw121.out rfl
        have c_9 : w121.cell? ⟨bc, 9, none⟩ = some _ := blk_cell Kcw121.out rfl
        have c_l : bc < w121.heap.size := (Array.getElem?_eq_some_iff.1 Kcw121.out).1
        have m_0 : w121.cell? ⟨bm, 0, none⟩ = some _ := blk_cell Kmw121.out rfl
        have m_1 : w121.cell? ⟨bm, 1, none⟩ = some _ := blk_cell Kmw121.out rfl
        have m_l : bm < w121.heap.size := (Array.getElem?_eq_some_iff.1 Kmw121.out).1
        have r_0 : w121.cell? ⟨br, 0, none⟩ = some _ := blk_cell Krw121.out rfl
        have r_1 : w121.cell? ⟨br, 1, none⟩ = some _ := blk_cell Krw121.out rfl
        have r_2 : w121.cell? ⟨br, 2, none⟩ = some _ := blk_cell Krw121.out rfl
        have r_3 : w121.cell? ⟨br, 3, none⟩ = some _ := blk_cell Krw121.out rfl
        have r_l : br < w121.heap.size := (Array.getElem?_eq_some_iff.1 Krw121.out).1
        have x_0 : w121.cell? ⟨bx, 0, none⟩ = some _ := blk_cell Kxw121.out rfl
        have x_1 : w121.cell? ⟨bx, 1, none⟩ = some _ := blk_cell Kxw121.out rfl
        have x_l : bx < w121.heap.size := (Array.getElem?_eq_some_iff.1 Kxw121.out).1
        have q_0 : w121.cell? ⟨bq, 0, none⟩ = some _ := blk_cell Kqw121.out rfl
        have q_1 : w121.cell? ⟨bq, 1, none⟩ = some _ := blk_cell Kqw121.out rfl
        have q_2 : w121.cell? ⟨bq, 2, none⟩ = some _ := blk_cell Kqw121.out rfl
        have q_3 : w121.cell? ⟨bq, 3, none⟩ = some _ := blk_cell Kqw121.out rfl
        have q_l : bq < w121.heap.size := (Array.getElem?_eq_some_iff.1 Kqw121.out).1
        go_wp2
        go_ret
        exact ⟨rfl, Ext.below HX.out⟩
      · have ds : decide (c.seq - 1 < 1) = false := decide_eq_false hs
        have dq : (q.code == 10) = true := by simp [He3.out (by omega)]
        have Hs := Lib.hid hs
        clear hs
        go_wp2_with fail
        refine (l_wakes7 w120).mono ?_
        rintro e w121 ⟨rfl, hE⟩
        clear c_0 c_1 c_2 c_3 c_4 c_5 c_6 c_7 c_8 c_9 c_l m_0 m_1 m_l r_0 r_1 r_2 r_3 r_l x_0 x_1 x_l q_0 q_1 q_2 q_3 q_l
        have Kcw121 := Lib.hid (hE.blk Kcw120.out id)
        have Kmw121 := Lib.hid (hE.blk Kmw120.out id)
        have Krw121 := Lib.hid (hE.blk Krw120.out id)
        have Kxw121 := Lib.hid (hE.blk Kxw120.out id)
        have Kqw121 := Lib.hid (hE.blk Kqw120.out id)
        replace HNi := Lib.hid (newM_mod HNi.out hE (fun _ _ => id) (fun _ _ => id))
        replace HN6 := Lib.hid (newM_mod HN6.out hE (fun _ _ => id) (fun _ _ => id))
        replace HX := Lib.hid (HX.out.ext hE)
        clear Kcw120
        clear Kmw120
        clear Krw120
        clear Kxw120
        clear Kqw120
        clear hE
        have c_0 : w121.cell? ⟨bc, 0, none⟩ = some _ := blk_cell Kcw121.out rfl
        have c_1 : w121.cell? ⟨bc, 1, none⟩ = some _ := blk_cell Kcw121.out rfl
        have c_2 : w121.cell? ⟨bc, 2, none⟩ = some _ := blk_cell Kcw121.out rfl
        have c_3 : w121.cell? ⟨bc, 3, none⟩ = some _ := blk_cell Kcw121.out rfl
        have c_4 : w121.cell? ⟨bc, 4, none⟩ = some _ := blk_cell Kcw121.out rfl
        have c_5 : w121.cell? ⟨bc, 5, none⟩ = some _ := blk_cell Kcw121.out rfl
        have c_6 : w121.cell? ⟨bc, 6, none⟩ = some _ := blk_cell Kcw121.out rfl
        have c_7 : w121.cell? ⟨bc, 7, none⟩ = some _ := blk_cell Kcw121.out rfl
        have c_8 : w121.cell? ⟨bc, 8, none⟩ = some _ := blk_cell Kcw121.out rfl
        have c_9 : w121.cell? ⟨bc, 9, none⟩ = some _ := blk_cell Kcw121.out rfl
        have c_l : bc < w121.heap.size := (Array.getElem?_eq_some_iff.1 Kcw121.out).1
        have m_0 : w121.cell? ⟨bm, 0, none⟩ = some _ := blk_cell Kmw121.out rfl
        have m_1 : w121.cell? ⟨bm, 1, none⟩ = some _ := blk_cell Kmw121.out rfl
        have m_l : bm < w121.heap.size := (Array.getElem?_eq_some_iff.1 Kmw121.out).1
        have r_0 : w121.cell? ⟨br, 0, none⟩ = some _ := blk_cell Krw121.out rfl
        have r_1 : w121.cell? ⟨br, 1, none⟩ = some _ := blk_cell Krw121.out rfl
        have r_2 : w121.cell? ⟨br, 2, none⟩ = some _ := blk_cell Krw121.out rfl
        have r_3 : w121.cell? ⟨br, 3, none⟩ = some _ := blk_cell Krw121.out rfl
        have r_l : br < w121.heap.size := (Array.getElem?_eq_some_iff.1 Krw121.out).1
        have x_0 : w121.cell? ⟨bx, 0, none⟩ = some _ := blk_cell Kxw121.out rfl
        have x_1 : w121.cell? ⟨bx, 1, none⟩ = some _ := blk_cell Kxw121.out rfl
        have x_l : bx < w121.heap.size := (Array.getElem?_eq_some_iff.1 Kxw121.out).1
        have q_0 : w121.cell? ⟨bq, 0, none⟩ = some _ := blk_cell Kqw121.out rfl
        have q_1 : w121.cell? ⟨bq, 1, none⟩ = some _ := blk_cell Kqw121.out rfl
        have q_2 : w121.cell? ⟨bq, 2, none⟩ = some _ := blk_cell Kqw121.out rfl
        have q_3 : w121.cell? ⟨bq, 3, none⟩ = some _ := blk_cell Kqw121.out rfl
        have q_l : bq < w121.heap.size := (Array.getElem?_eq_some_iff.1 Kqw121.out).1
        go_wp2
        go_ret
        exact ⟨rfl, Ext.below HX.out⟩
theorem sesOnce_a (w : World) (v0 : Value) (l : List ACall) (c : ACall) (v2 : Value) (l' : List ACall) (hC : Cas w (fun g => g < w.heap.size) v0 l) (hc : c.ok) (hM : Cas w (fun g => g < w.heap.size) v2 l') :
    Calls Try.prog 4 #[v0, .agg #[.int .i64 c.client, .int .i64 c.seq, .int .i64 c.cmd.kind, .string c.cmd.key, .int .i64 c.cmd.old.kind, .float .f64 c.cmd.old.num, .string c.cmd.old.text, .int .i64 c.cmd.val.kind, .float .f64 c.cmd.val.num, .string c.cmd.val.text], v2] w fun e w' => e = .returned (.bool true) ∧ Below w.heap.size w w' := by
  obtain ⟨A, cc, rfl⟩ := hC.form
  obtain ⟨A', cc', rfl⟩ := hM.form
  exact sesOnce_walk w A _ cc l hC rfl A' _ cc' l' hM rfl c hc
end Go.Proofs.Ytplpegjnmlabkaa
