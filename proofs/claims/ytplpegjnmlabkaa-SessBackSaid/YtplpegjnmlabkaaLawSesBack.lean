/-
  The walk of SessBack. Conditions: as the theorem names them.
-/
import Derived.Test.YtplpegjnmlabkaaSesDec
namespace Go.Proofs.Ytplpegjnmlabkaa
set_option linter.unusedSimpArgs false
open Go.RowKit

set_option maxRecDepth 100000 in
set_option maxHeartbeats 2000000 in
theorem sesBack_walk (w : World) (T : Nat → Prop) (A : Option Addr) (n cc : Nat) (l : List ACall) (hC : Cas w T (.slice A n cc) l) (hn : l.length = n) (hT : ∀ g, T g → g < w.heap.size) (A2 : Option Addr) (k ck : Nat) (bs : List UInt8) (hB : Byt w (fun g => g < w.heap.size) (.slice A2 k ck) bs) (hk : bs.length = k) :
    Calls Try.prog 8 #[.slice A n cc, .slice A2 k ck] w fun e w' => e = .returned (.bool true) ∧ Below w.heap.size w w' := by
  have hl := hC.1.le
  rw [hn] at hl
  have hl2 := hB.le
  rw [hk] at hl2
  unfold maxLen at hl hl2
  by_cases h1 : 1000 < n
  · have d1 : decide ((n : Int) > 1000) = true := by simp; omega
    go_enter Try.func8, Try.ntmps8
    go_wp2
    go_ret
    exact ⟨rfl, Ext.below (Mod.refl _ w)⟩
  have d1 : decide ((n : Int) > 1000) = false := by simp; omega
  by_cases h2 : 32768 < k
  · have d2 : decide ((k : Int) > 32768) = true := by simp; omega
    go_enter Try.func8, Try.ntmps8
    go_wp2
    go_ret
    exact ⟨rfl, Ext.below (Mod.refl _ w)⟩
  have d2 : decide ((k : Int) > 32768) = false := by simp; omega
  have HT := Lib.hid hT
  have Hk := Lib.hid hk
  clear hT hk
  have HX : Hid (Ext w w) := Lib.hid (Mod.refl _ w)
  have HC := Lib.hid hC
  have HBb := Lib.hid hB
  clear hC hB
  go_enter Try.func8, Try.ntmps8
  go_wp2_with fail
  refine (l_grown7 w T _ l HC.out (by omega)).mono ?_
  rintro e w1 ⟨p7, v7, m, rfl, hN, hr, hE⟩
  replace HC := Lib.hid (HC.out.ext hE)
  replace HBb := Lib.hid (HBb.out.ext hE)
  replace HX := Lib.hid (HX.out.ext hE)
  obtain ⟨A7, c7, rfl⟩ := own_form hN.1.1
  obtain ⟨B7, d7, rfl⟩ := own_form hN.2.1.1
  have HN7 := Lib.hid hN
  have Hr := Lib.hid hr
  clear hN hr
  clear hE
  clear HC
  go_wp2_with fail
  obtain ⟨w2, hw2⟩ : ∃ w2, w2 = w1.alloc (.cells #[.slice A7 m.pairs.length c7, .slice B7 m.sess.length d7] 25) := ⟨_, rfl⟩
  obtain ⟨bm, hbm⟩ : ∃ bm, bm = w1.heap.size := ⟨_, rfl⟩
  have hzz : w1.heap.size = bm := hbm.symm
  have hE : Ext w1 w2 := by rw [hw2]; exact (Mod.refl _ w1).alloc _
  have hKn : w2.heap[bm]? = some (.cells #[.slice A7 m.pairs.length c7, .slice B7 m.sess.length d7] 25 (0, 0)) := by rw [hw2, ← hzz]; exact heap_alloc_new w1 _
  have hzn : w2.heap.size = bm + 1 := by rw [hw2, ← hzz]; simp
  rw [← hw2, ← hbm]
  have HXo := HX
  replace HBb := Lib.hid (HBb.out.ext hE)
  replace HN7 := Lib.hid (newM_mod HN7.out hE (fun _ _ => id) (fun _ _ => id))
  replace HX := Lib.hid (HX.out.ext hE)
  have Kmw2 := Lib.hid hKn
  have hbz : w.heap.size ≤ bm := by have := HXo.out.size; omega
  clear hKn hE hw2 hbm HXo hzz
  have hbm := hbz
  clear hbz
  clear hzn
  have hso := HX.out.size
  refine (s_enc_ok w2 _ _ _ _ m.pairs m.sess HN7.out.prs HN7.out.ses (Hr.out)).mono ?_
  rintro e w3 ⟨bx, rfl, hN, hE⟩
  have Kmw3 := Lib.hid (hE.blk Kmw2.out id)
  replace HBb := Lib.hid (HBb.out.ext hE)
  replace HN7 := Lib.hid (newM_mod HN7.out hE (fun _ _ => id) (fun _ _ => id))
  replace HX := Lib.hid (HX.out.ext hE)
  clear Kmw2
  obtain ⟨Px, ex, rfl⟩ := own_form hN.1
  have HBx := Lib.hid (newB_up hN hso)
  clear hN hso
  clear hE
  have m_0 : w3.cell? ⟨bm, 0, none⟩ = some _ := blk_cell Kmw3.out rfl
  have m_1 : w3.cell? ⟨bm, 1, none⟩ = some _ := blk_cell Kmw3.out rfl
  have m_l : bm < w3.heap.size := (Array.getElem?_eq_some_iff.1 Kmw3.out).1
  go_wp2_with fail
  have hso := HX.out.size
  refine (s_dec w3 _ _ _ HBx.out.sl (by have : (encM ⟨m.pairs, m.sess⟩).length ≤ 10000 := encM_len Hr.out; omega)).mono ?_
  rintro e w4 ⟨p1, v1, rfl, hN, hE⟩
  clear m_0 m_1 m_l
  have Kmw4 := Lib.hid (hE.blk Kmw3.out id)
  replace HBb := Lib.hid (HBb.out.ext hE)
  replace HN7 := Lib.hid (newM_mod HN7.out hE (fun _ _ => id) (fun _ _ => id))
  replace HBx := Lib.hid (newB_mod HBx.out hE)
  replace HX := Lib.hid (HX.out.ext hE)
  clear Kmw3
  rw [show decE (encM ⟨m.pairs, m.sess⟩) = 0 from (dec_enc Hr.out (newM_ok HN7.out)).2]
  rw [show decR (encM ⟨m.pairs, m.sess⟩) = m from (dec_enc Hr.out (newM_ok HN7.out)).1] at hN
  obtain ⟨A1, c1, rfl⟩ := own_form hN.1.1
  obtain ⟨B1, d1, rfl⟩ := own_form hN.2.1.1
  have HN1 := Lib.hid (newM_up hN hso)
  clear hN hso
  clear hE
  have m_0 : w4.cell? ⟨bm, 0, none⟩ = some _ := blk_cell Kmw4.out rfl
  have m_1 : w4.cell? ⟨bm, 1, none⟩ = some _ := blk_cell Kmw4.out rfl
  have m_l : bm < w4.heap.size := (Array.getElem?_eq_some_iff.1 Kmw4.out).1
  go_wp2_with fail
  obtain ⟨w5, hw5⟩ : ∃ w5, w5 = w4.alloc (.cells #[.slice A1 m.pairs.length c1, .slice B1 m.sess.length d1] 25) := ⟨_, rfl⟩
  obtain ⟨byy, hbyy⟩ : ∃ byy, byy = w4.heap.size := ⟨_, rfl⟩
  have hzz : w4.heap.size = byy := hbyy.symm
  have hE : Ext w4 w5 := by rw [hw5]; exact (Mod.refl _ w4).alloc _
  have hKn : w5.heap[byy]? = some (.cells #[.slice A1 m.pairs.length c1, .slice B1 m.sess.length d1] 25 (0, 0)) := by rw [hw5, ← hzz]; exact heap_alloc_new w4 _
  have hzn : w5.heap.size = byy + 1 := by rw [hw5, ← hzz]; simp
  rw [← hw5, ← hbyy]
  have hltmyy : bm < byy := by have := (Array.getElem?_eq_some_iff.1 Kmw4.out).1; omega
  clear m_0 m_1 m_l
  have HXo := HX
  have Kmw5 := Lib.hid (hE.blk Kmw4.out id)
  replace HBb := Lib.hid (HBb.out.ext hE)
  replace HN7 := Lib.hid (newM_mod HN7.out hE (fun _ _ => id) (fun _ _ => id))
  replace HBx := Lib.hid (newB_mod HBx.out hE)
  replace HN1 := Lib.hid (newM_mod HN1.out hE (fun _ _ => id) (fun _ _ => id))
  replace HX := Lib.hid (HX.out.ext hE)
  clear Kmw4
  have Kyyw5 := Lib.hid hKn
  have hbz : w.heap.size ≤ byy := by have := HXo.out.size; omega
  clear hKn hE hw5 hbyy HXo hzz
  have hbyy := hbz
  clear hbz
  clear hzn
  refine (k_machine w5 _ _ _ _ _ _ _ _ m.pairs m.pairs m.sess m.sess HN1.out.prs HN7.out.prs HN1.out.ses HN7.out.ses).mono ?_
  rintro e w6 ⟨rfl, hE⟩
  have Kmw6 := Lib.hid (hE.blk Kmw5.out id)
  have Kyyw6 := Lib.hid (hE.blk Kyyw5.out id)
  replace HBb := Lib.hid (HBb.out.ext hE)
  replace HN7 := Lib.hid (newM_mod HN7.out hE (fun _ _ => id) (fun _ _ => id))
  replace HBx := Lib.hid (newB_mod HBx.out hE)
  replace HN1 := Lib.hid (newM_mod HN1.out hE (fun _ _ => id) (fun _ _ => id))
  replace HX := Lib.hid (HX.out.ext hE)
  clear Kmw5
  clear Kyyw5
  rw [show eqM ⟨m.pairs, m.sess⟩ ⟨m.pairs, m.sess⟩ = true from eqM_refl _]
  clear hE
  have m_0 : w6.cell? ⟨bm, 0, none⟩ = some _ := blk_cell Kmw6.out rfl
  have m_1 : w6.cell? ⟨bm, 1, none⟩ = some _ := blk_cell Kmw6.out rfl
  have m_l : bm < w6.heap.size := (Array.getElem?_eq_some_iff.1 Kmw6.out).1
  have yy_0 : w6.cell? ⟨byy, 0, none⟩ = some _ := blk_cell Kyyw6.out rfl
  have yy_1 : w6.cell? ⟨byy, 1, none⟩ = some _ := blk_cell Kyyw6.out rfl
  have yy_l : byy < w6.heap.size := (Array.getElem?_eq_some_iff.1 Kyyw6.out).1
  obtain ⟨M, hM⟩ : ∃ M, decR bs = M := ⟨_, rfl⟩
  rcases decE_or bs with ⟨e0, hR, hO, hEn⟩ | ⟨e0, hz⟩
  · rw [hM] at hR hO hEn
    have He0 := Lib.hid e0
    have HM := Lib.hid hM
    have HR := Lib.hid hR
    have HEn := Lib.hid hEn
    clear e0 hM hR hO hEn
    go_wp2_with fail
    have hso := HX.out.size
    refine (s_dec w6 _ _ _ HBb.out (by have := Hk.out; omega)).mono ?_
    rintro e w7 ⟨p2, v2, rfl, hN, hE⟩
    clear m_0 m_1 m_l yy_0 yy_1 yy_l
    have Kmw7 := Lib.hid (hE.blk Kmw6.out id)
    have Kyyw7 := Lib.hid (hE.blk Kyyw6.out id)
    replace HBb := Lib.hid (HBb.out.ext hE)
    replace HN7 := Lib.hid (newM_mod HN7.out hE (fun _ _ => id) (fun _ _ => id))
    replace HBx := Lib.hid (newB_mod HBx.out hE)
    replace HN1 := Lib.hid (newM_mod HN1.out hE (fun _ _ => id) (fun _ _ => id))
    replace HX := Lib.hid (HX.out.ext hE)
    clear Kmw6
    clear Kyyw6
    rw [He0.out]
    rw [HM.out] at hN
    obtain ⟨A2, c2, rfl⟩ := own_form hN.1.1
    obtain ⟨B2, d2, rfl⟩ := own_form hN.2.1.1
    have HN2 := Lib.hid (newM_up hN hso)
    clear hN hso
    clear hE
    have m_0 : w7.cell? ⟨bm, 0, none⟩ = some _ := blk_cell Kmw7.out rfl
    have m_1 : w7.cell? ⟨bm, 1, none⟩ = some _ := blk_cell Kmw7.out rfl
    have m_l : bm < w7.heap.size := (Array.getElem?_eq_some_iff.1 Kmw7.out).1
    have yy_0 : w7.cell? ⟨byy, 0, none⟩ = some _ := blk_cell Kyyw7.out rfl
    have yy_1 : w7.cell? ⟨byy, 1, none⟩ = some _ := blk_cell Kyyw7.out rfl
    have yy_l : byy < w7.heap.size := (Array.getElem?_eq_some_iff.1 Kyyw7.out).1
    have fz0 := blk_free 0 Kyyw7.out
    have fz1 := blk_free 1 Kyyw7.out
    go_wp2_with fail
    clear m_0 m_1 m_l yy_0 yy_1 yy_l
    clear fz0 fz1
    obtain ⟨w8, hw8⟩ : ∃ w8, ((w7.setCell ⟨byy, 0, none⟩ (.slice A2 M.pairs.length c2)).setCell ⟨byy, 1, none⟩ (.slice B2 M.sess.length d2)) = w8 := ⟨_, rfl⟩
    have hKn : w8.heap[byy]? = some (.cells #[.slice A2 M.pairs.length c2, .slice B2 M.sess.length d2] 25 (0, 0)) := by
      rw [← hw8]
      have := Kyyw7.out
      simp [World.setCell, Array.getElem?_modify, this]
    have hM : Mod (fun k => k = byy) w7 w8 := by rw [← hw8]; exact mod_same (mod_same (Mod.refl _ _) _ _) _ _
    rw [hw8]
    have Kmw8 := Lib.hid (hM.blk Kmw7.out (by omega))
    have Kyyw8 := Lib.hid hKn
    replace HBb := Lib.hid (HBb.out.mod hM (fun g hg e => by have := hbyy; omega))
    replace HN7 := Lib.hid (newM_box HN7.out Kyyw7.out hM (by decide) (by decide))
    replace HBx := Lib.hid (newB_box HBx.out Kyyw7.out hM (by decide))
    replace HN1 := Lib.hid (newM_box HN1.out Kyyw7.out hM (by decide) (by decide))
    replace HN2 := Lib.hid (newM_box HN2.out Kyyw7.out hM (by decide) (by decide))
    replace HX : Hid (Ext w w8) := Lib.hid (Mod.toExt ((Ext.mod HX.out (Since w.heap.size)).trans hM (fun k _ e => by rw [e]; exact hbyy)))
    clear hKn hM hw8
    clear Kmw7
    clear Kyyw7
    have m_0 : w8.cell? ⟨bm, 0, none⟩ = some _ := blk_cell Kmw8.out rfl
    have m_1 : w8.cell? ⟨bm, 1, none⟩ = some _ := blk_cell Kmw8.out rfl
    have m_l : bm < w8.heap.size := (Array.getElem?_eq_some_iff.1 Kmw8.out).1
    have yy_0 : w8.cell? ⟨byy, 0, none⟩ = some _ := blk_cell Kyyw8.out rfl
    have yy_1 : w8.cell? ⟨byy, 1, none⟩ = some _ := blk_cell Kyyw8.out rfl
    have yy_l : byy < w8.heap.size := (Array.getElem?_eq_some_iff.1 Kyyw8.out).1
    go_wp2_with fail
    have hso := HX.out.size
    refine (s_enc_ok w8 _ _ _ _ M.pairs M.sess HN2.out.prs HN2.out.ses (HR.out)).mono ?_
    rintro e w9 ⟨bz, rfl, hN, hE⟩
    clear m_0 m_1 m_l yy_0 yy_1 yy_l
    have Kmw9 := Lib.hid (hE.blk Kmw8.out id)
    have Kyyw9 := Lib.hid (hE.blk Kyyw8.out id)
    replace HBb := Lib.hid (HBb.out.ext hE)
    replace HN7 := Lib.hid (newM_mod HN7.out hE (fun _ _ => id) (fun _ _ => id))
    replace HBx := Lib.hid (newB_mod HBx.out hE)
    replace HN1 := Lib.hid (newM_mod HN1.out hE (fun _ _ => id) (fun _ _ => id))
    replace HN2 := Lib.hid (newM_mod HN2.out hE (fun _ _ => id) (fun _ _ => id))
    replace HX := Lib.hid (HX.out.ext hE)
    clear Kmw8
    clear Kyyw8
    obtain ⟨Pz, ez, rfl⟩ := own_form hN.1
    have HBz := Lib.hid (newB_up hN hso)
    clear hN hso
    clear hE
    have m_0 : w9.cell? ⟨bm, 0, none⟩ = some _ := blk_cell Kmw9.out rfl
    have m_1 : w9.cell? ⟨bm, 1, none⟩ = some _ := blk_cell Kmw9.out rfl
    have m_l : bm < w9.heap.size := (Array.getElem?_eq_some_iff.1 Kmw9.out).1
    have yy_0 : w9.cell? ⟨byy, 0, none⟩ = some _ := blk_cell Kyyw9.out rfl
    have yy_1 : w9.cell? ⟨byy, 1, none⟩ = some _ := blk_cell Kyyw9.out rfl
    have yy_l : byy < w9.heap.size := (Array.getElem?_eq_some_iff.1 Kyyw9.out).1
    go_wp2_with fail
    refine (k_bytes w9 _ _ _ _ _ bs HBz.out.sl HBb.out).mono ?_
    rintro e w10 ⟨rfl, hE⟩
    clear m_0 m_1 m_l yy_0 yy_1 yy_l
    have Kmw10 := Lib.hid (hE.blk Kmw9.out id)
    have Kyyw10 := Lib.hid (hE.blk Kyyw9.out id)
    replace HBb := Lib.hid (HBb.out.ext hE)
    replace HN7 := Lib.hid (newM_mod HN7.out hE (fun _ _ => id) (fun _ _ => id))
    replace HBx := Lib.hid (newB_mod HBx.out hE)
    replace HN1 := Lib.hid (newM_mod HN1.out hE (fun _ _ => id) (fun _ _ => id))
    replace HN2 := Lib.hid (newM_mod HN2.out hE (fun _ _ => id) (fun _ _ => id))
    replace HBz := Lib.hid (newB_mod HBz.out hE)
    replace HX := Lib.hid (HX.out.ext hE)
    clear Kmw9
    clear Kyyw9
    rw [show (encM ⟨M.pairs, M.sess⟩ == bs) = true by rw [show encM ⟨M.pairs, M.sess⟩ = bs from HEn.out]; simp]
    clear hE
    have m_0 : w10.cell? ⟨bm, 0, none⟩ = some _ := blk_cell Kmw10.out rfl
    have m_1 : w10.cell? ⟨bm, 1, none⟩ = some _ := blk_cell Kmw10.out rfl
    have m_l : bm < w10.heap.size := (Array.getElem?_eq_some_iff.1 Kmw10.out).1
    have yy_0 : w10.cell? ⟨byy, 0, none⟩ = some _ := blk_cell Kyyw10.out rfl
    have yy_1 : w10.cell? ⟨byy, 1, none⟩ = some _ := blk_cell Kyyw10.out rfl
    have yy_l : byy < w10.heap.size := (Array.getElem?_eq_some_iff.1 Kyyw10.out).1
    go_wp2_with fail
    refine (l_wakes7 w10).mono ?_
    rintro e w11 ⟨rfl, hE⟩
    clear m_0 m_1 m_l yy_0 yy_1 yy_l
    have Kmw11 := Lib.hid (hE.blk Kmw10.out id)
    have Kyyw11 := Lib.hid (hE.blk Kyyw10.out id)
    replace HBb := Lib.hid (HBb.out.ext hE)
    replace HN7 := Lib.hid (newM_mod HN7.out hE (fun _ _ => id) (fun _ _ => id))
    replace HBx := Lib.hid (newB_mod HBx.out hE)
    replace HN1 := Lib.hid (newM_mod HN1.out hE (fun _ _ => id) (fun _ _ => id))
    replace HN2 := Lib.hid (newM_mod HN2.out hE (fun _ _ => id) (fun _ _ => id))
    replace HBz := Lib.hid (newB_mod HBz.out hE)
    replace HX := Lib.hid (HX.out.ext hE)
    clear Kmw10
    clear Kyyw10
    clear hE
    have m_0 : w11.cell? ⟨bm, 0, none⟩ = some _ := blk_cell Kmw11.out rfl
    have m_1 : w11.cell? ⟨bm, 1, none⟩ = some _ := blk_cell Kmw11.out rfl
    have m_l : bm < w11.heap.size := (Array.getElem?_eq_some_iff.1 Kmw11.out).1
    have yy_0 : w11.cell? ⟨byy, 0, none⟩ = some _ := blk_cell Kyyw11.out rfl
    have yy_1 : w11.cell? ⟨byy, 1, none⟩ = some _ := blk_cell Kyyw11.out rfl
    have yy_l : byy < w11.heap.size := (Array.getElem?_eq_some_iff.1 Kyyw11.out).1
    go_wp2
    go_ret
    exact ⟨rfl, Ext.below HX.out⟩
  · rw [hM] at hz
    have He0 := Lib.hid e0
    have HM := Lib.hid hM
    clear e0 hM hz
    go_wp2_with fail
    have hso := HX.out.size
    refine (s_dec w6 _ _ _ HBb.out (by have := Hk.out; omega)).mono ?_
    rintro e w7 ⟨p2, v2, rfl, hN, hE⟩
    clear m_0 m_1 m_l yy_0 yy_1 yy_l
    have Kmw7 := Lib.hid (hE.blk Kmw6.out id)
    have Kyyw7 := Lib.hid (hE.blk Kyyw6.out id)
    replace HBb := Lib.hid (HBb.out.ext hE)
    replace HN7 := Lib.hid (newM_mod HN7.out hE (fun _ _ => id) (fun _ _ => id))
    replace HBx := Lib.hid (newB_mod HBx.out hE)
    replace HN1 := Lib.hid (newM_mod HN1.out hE (fun _ _ => id) (fun _ _ => id))
    replace HX := Lib.hid (HX.out.ext hE)
    clear Kmw6
    clear Kyyw6
    rw [He0.out]
    rw [HM.out] at hN
    obtain ⟨A2, c2, rfl⟩ := own_form hN.1.1
    obtain ⟨B2, d2, rfl⟩ := own_form hN.2.1.1
    have HN2 := Lib.hid (newM_up hN hso)
    clear hN hso
    clear hE
    have m_0 : w7.cell? ⟨bm, 0, none⟩ = some _ := blk_cell Kmw7.out rfl
    have m_1 : w7.cell? ⟨bm, 1, none⟩ = some _ := blk_cell Kmw7.out rfl
    have m_l : bm < w7.heap.size := (Array.getElem?_eq_some_iff.1 Kmw7.out).1
    have yy_0 : w7.cell? ⟨byy, 0, none⟩ = some _ := blk_cell Kyyw7.out rfl
    have yy_1 : w7.cell? ⟨byy, 1, none⟩ = some _ := blk_cell Kyyw7.out rfl
    have yy_l : byy < w7.heap.size := (Array.getElem?_eq_some_iff.1 Kyyw7.out).1
    have fz0 := blk_free 0 Kyyw7.out
    have fz1 := blk_free 1 Kyyw7.out
    go_wp2_with fail
    clear m_0 m_1 m_l yy_0 yy_1 yy_l
    clear fz0 fz1
    obtain ⟨w8, hw8⟩ : ∃ w8, ((w7.setCell ⟨byy, 0, none⟩ (.slice A2 M.pairs.length c2)).setCell ⟨byy, 1, none⟩ (.slice B2 M.sess.length d2)) = w8 := ⟨_, rfl⟩
    have hKn : w8.heap[byy]? = some (.cells #[.slice A2 M.pairs.length c2, .slice B2 M.sess.length d2] 25 (0, 0)) := by
      rw [← hw8]
      have := Kyyw7.out
      simp [World.setCell, Array.getElem?_modify, this]
    have hM : Mod (fun k => k = byy) w7 w8 := by rw [← hw8]; exact mod_same (mod_same (Mod.refl _ _) _ _) _ _
    rw [hw8]
    have Kmw8 := Lib.hid (hM.blk Kmw7.out (by omega))
    have Kyyw8 := Lib.hid hKn
    replace HBb := Lib.hid (HBb.out.mod hM (fun g hg e => by have := hbyy; omega))
    replace HN7 := Lib.hid (newM_box HN7.out Kyyw7.out hM (by decide) (by decide))
    replace HBx := Lib.hid (newB_box HBx.out Kyyw7.out hM (by decide))
    replace HN1 := Lib.hid (newM_box HN1.out Kyyw7.out hM (by decide) (by decide))
    replace HN2 := Lib.hid (newM_box HN2.out Kyyw7.out hM (by decide) (by decide))
    replace HX : Hid (Ext w w8) := Lib.hid (Mod.toExt ((Ext.mod HX.out (Since w.heap.size)).trans hM (fun k _ e => by rw [e]; exact hbyy)))
    clear hKn hM hw8
    clear Kmw7
    clear Kyyw7
    have m_0 : w8.cell? ⟨bm, 0, none⟩ = some _ := blk_cell Kmw8.out rfl
    have m_1 : w8.cell? ⟨bm, 1, none⟩ = some _ := blk_cell Kmw8.out rfl
    have m_l : bm < w8.heap.size := (Array.getElem?_eq_some_iff.1 Kmw8.out).1
    have yy_0 : w8.cell? ⟨byy, 0, none⟩ = some _ := blk_cell Kyyw8.out rfl
    have yy_1 : w8.cell? ⟨byy, 1, none⟩ = some _ := blk_cell Kyyw8.out rfl
    have yy_l : byy < w8.heap.size := (Array.getElem?_eq_some_iff.1 Kyyw8.out).1
    go_wp2_with fail
    refine (l_wakes7 w8).mono ?_
    rintro e w9 ⟨rfl, hE⟩
    clear m_0 m_1 m_l yy_0 yy_1 yy_l
    have Kmw9 := Lib.hid (hE.blk Kmw8.out id)
    have Kyyw9 := Lib.hid (hE.blk Kyyw8.out id)
    replace HBb := Lib.hid (HBb.out.ext hE)
    replace HN7 := Lib.hid (newM_mod HN7.out hE (fun _ _ => id) (fun _ _ => id))
    replace HBx := Lib.hid (newB_mod HBx.out hE)
    replace HN1 := Lib.hid (newM_mod HN1.out hE (fun _ _ => id) (fun _ _ => id))
    replace HN2 := Lib.hid (newM_mod HN2.out hE (fun _ _ => id) (fun _ _ => id))
    replace HX := Lib.hid (HX.out.ext hE)
    clear Kmw8
    clear Kyyw8
    clear hE
    have m_0 : w9.cell? ⟨bm, 0, none⟩ = some _ := blk_cell Kmw9.out rfl
    have m_1 : w9.cell? ⟨bm, 1, none⟩ = some _ := blk_cell Kmw9.out rfl
    have m_l : bm < w9.heap.size := (Array.getElem?_eq_some_iff.1 Kmw9.out).1
    have yy_0 : w9.cell? ⟨byy, 0, none⟩ = some _ := blk_cell Kyyw9.out rfl
    have yy_1 : w9.cell? ⟨byy, 1, none⟩ = some _ := blk_cell Kyyw9.out rfl
    have yy_l : byy < w9.heap.size := (Array.getElem?_eq_some_iff.1 Kyyw9.out).1
    go_wp2
    go_ret
    exact ⟨rfl, Ext.below HX.out⟩
theorem sesBack_a (w : World) (v0 v1 : Value) (l : List ACall) (bs : List UInt8) (hC : Cas w (fun g => g < w.heap.size) v0 l) (hB : Byt w (fun g => g < w.heap.size) v1 bs) :
    Calls Try.prog 8 #[v0, v1] w fun e w' => e = .returned (.bool true) ∧ Below w.heap.size w w' := by
  obtain ⟨A, cc, rfl⟩ := hC.form
  obtain ⟨A2, ck, rfl⟩ := hB.form
  exact sesBack_walk w _ A _ cc l hC rfl (fun _ h => h) A2 _ ck bs hB rfl
end Go.Proofs.Ytplpegjnmlabkaa
