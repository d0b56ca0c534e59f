/-
  The walk of SessBytes. Conditions: as the theorems name them.
-/
import Derived.Test.YtplpegjnmlabkaaRefDec
import Derived.Test.YtplpegjnmlabkaaSesRefE
namespace Go.Proofs.Ytplpegjnmlabkaa
set_option linter.unusedSimpArgs false
open Go.RowKit

theorem decP_facts (bs : List UInt8) : (decE bs = 0 ∧ (decP bs).isSome = true ∧ (decP bs).getD ⟨[], []⟩ = decR bs) ∨ (decE bs = 6 ∧ (decP bs).isSome = false ∧ (decP bs).getD ⟨[], []⟩ = decR bs) := by
  have h := decP_eq bs
  rcases decE_or bs with ⟨h0, _⟩ | ⟨h0, h1⟩
  · rw [if_pos h0] at h
    exact .inl ⟨h0, by rw [h]; rfl, by rw [h]; rfl⟩
  · rw [if_neg (by omega)] at h
    exact .inr ⟨h0, by rw [h]; rfl, by rw [h, h1]; rfl⟩
set_option maxRecDepth 100000 in
set_option maxHeartbeats 2000000 in
theorem sesBytes_heavy (w : World) (T U : Nat → Prop) (_ : ∀ g, T g → g < w.heap.size) (_ : ∀ g, U g → g < w.heap.size) (A B : Option Addr) (ca cb : Nat) (p : List APair) (l : List ASess) (hP : Prs w U (.slice A p.length ca) p) (hS : Ses w T (.slice B l.length cb) l) (A2 : Option Addr) (k ck : Nat) (bs : List UInt8) (hB : Byt w (fun g => g < w.heap.size) (.slice A2 k ck) bs) (hk : bs.length = k) (hv : heavyM ⟨p, l⟩ = true ∨ (heavyM ⟨p, l⟩ = false ∧ 32768 < k)) :
    Calls Try.prog 7 #[.agg #[.slice A p.length ca, .slice B l.length cb], .slice A2 k ck] w fun e w' => e = .returned (.bool true) ∧ Below w.heap.size w w' := by
  have hl2 := hB.le
  rw [hk] at hl2
  unfold maxLen at hl2
  rcases hv with h1 | ⟨h1, h2⟩
  · have HX : Hid (Ext w w) := Lib.hid (Mod.refl _ w)
    have HP := Lib.hid hP
    have HS := Lib.hid hS
    have HBb := Lib.hid hB
    clear hP hS hB
    go_enter Try.func7, Try.ntmps7
    go_wp2_with fail
    obtain ⟨w1, hw1⟩ : ∃ w1, w1 = w.alloc (.cells #[.slice A p.length ca, .slice B l.length cb] 25) := ⟨_, rfl⟩
    obtain ⟨bm, hbm⟩ : ∃ bm, bm = w.heap.size := ⟨_, rfl⟩
    have hzz : w.heap.size = bm := hbm.symm
    have hE : Ext w w1 := by rw [hw1]; exact (Mod.refl _ w).alloc _
    have hKn : w1.heap[bm]? = some (.cells #[.slice A p.length ca, .slice B l.length cb] 25 (0, 0)) := by rw [hw1, ← hzz]; exact heap_alloc_new w _
    have hzn : w1.heap.size = bm + 1 := by rw [hw1, ← hzz]; simp
    rw [← hw1, ← hbm]
    have HXo := HX
    replace HP := Lib.hid (HP.out.ext hE)
    replace HS := Lib.hid (HS.out.ext hE)
    replace HBb := Lib.hid (HBb.out.ext hE)
    replace HX := Lib.hid (HX.out.ext hE)
    have Kmw1 := Lib.hid hKn
    have hbz : w.heap.size ≤ bm := by have := HXo.out.size; omega
    clear hKn hE hw1 hbm HXo hzz
    have hbm := hbz
    clear hbz
    clear hzn
    refine (hv_mach w1 _ _ _ _ p l HP.out HS.out).mono ?_
    rintro e w2 ⟨rfl, hE⟩
    have Kmw2 := Lib.hid (hE.blk Kmw1.out id)
    replace HP := Lib.hid (HP.out.ext hE)
    replace HS := Lib.hid (HS.out.ext hE)
    replace HBb := Lib.hid (HBb.out.ext hE)
    replace HX := Lib.hid (HX.out.ext hE)
    clear Kmw1
    rw [h1]
    clear hE
    have m_0 : w2.cell? ⟨bm, 0, none⟩ = some _ := blk_cell Kmw2.out rfl
    have m_1 : w2.cell? ⟨bm, 1, none⟩ = some _ := blk_cell Kmw2.out rfl
    have m_l : bm < w2.heap.size := (Array.getElem?_eq_some_iff.1 Kmw2.out).1
    go_wp2
    go_ret
    exact ⟨rfl, Ext.below HX.out⟩
  · have d2 : decide ((k : Int) > 32768) = true := by simp; omega
    have HX : Hid (Ext w w) := Lib.hid (Mod.refl _ w)
    have HP := Lib.hid hP
    have HS := Lib.hid hS
    have HBb := Lib.hid hB
    clear hP hS hB
    go_enter Try.func7, Try.ntmps7
    go_wp2_with fail
    obtain ⟨w1, hw1⟩ : ∃ w1, w1 = w.alloc (.cells #[.slice A p.length ca, .slice B l.length cb] 25) := ⟨_, rfl⟩
    obtain ⟨bm, hbm⟩ : ∃ bm, bm = w.heap.size := ⟨_, rfl⟩
    have hzz : w.heap.size = bm := hbm.symm
    have hE : Ext w w1 := by rw [hw1]; exact (Mod.refl _ w).alloc _
    have hKn : w1.heap[bm]? = some (.cells #[.slice A p.length ca, .slice B l.length cb] 25 (0, 0)) := by rw [hw1, ← hzz]; exact heap_alloc_new w _
    have hzn : w1.heap.size = bm + 1 := by rw [hw1, ← hzz]; simp
    rw [← hw1, ← hbm]
    have HXo := HX
    replace HP := Lib.hid (HP.out.ext hE)
    replace HS := Lib.hid (HS.out.ext hE)
    replace HBb := Lib.hid (HBb.out.ext hE)
    replace HX := Lib.hid (HX.out.ext hE)
    have Kmw1 := Lib.hid hKn
    have hbz : w.heap.size ≤ bm := by have := HXo.out.size; omega
    clear hKn hE hw1 hbm HXo hzz
    have hbm := hbz
    clear hbz
    clear hzn
    refine (hv_mach w1 _ _ _ _ p l HP.out HS.out).mono ?_
    rintro e w2 ⟨rfl, hE⟩
    have Kmw2 := Lib.hid (hE.blk Kmw1.out id)
    replace HP := Lib.hid (HP.out.ext hE)
    replace HS := Lib.hid (HS.out.ext hE)
    replace HBb := Lib.hid (HBb.out.ext hE)
    replace HX := Lib.hid (HX.out.ext hE)
    clear Kmw1
    rw [h1]
    clear hE
    have m_0 : w2.cell? ⟨bm, 0, none⟩ = some _ := blk_cell Kmw2.out rfl
    have m_1 : w2.cell? ⟨bm, 1, none⟩ = some _ := blk_cell Kmw2.out rfl
    have m_l : bm < w2.heap.size := (Array.getElem?_eq_some_iff.1 Kmw2.out).1
    go_wp2
    go_ret
    exact ⟨rfl, Ext.below HX.out⟩
set_option maxRecDepth 100000 in
set_option maxHeartbeats 2000000 in
theorem sesBytes_right (w : World) (T U : Nat → Prop) (hT : ∀ g, T g → g < w.heap.size) (hU : ∀ g, U g → g < w.heap.size) (A B : Option Addr) (ca cb : Nat) (p : List APair) (l : List ASess) (hP : Prs w U (.slice A p.length ca) p) (hS : Ses w T (.slice B l.length cb) l) (A2 : Option Addr) (k ck : Nat) (bs : List UInt8) (hB : Byt w (fun g => g < w.heap.size) (.slice A2 k ck) bs) (hk : bs.length = k) (h1 : heavyM ⟨p, l⟩ = false) (h2 : ¬ 32768 < k) (hp : machB ⟨p, l⟩ = true) :
    Calls Try.prog 7 #[.agg #[.slice A p.length ca, .slice B l.length cb], .slice A2 k ck] w fun e w' => e = .returned (.bool true) ∧ Below w.heap.size w w' := by
  have hl2 := hB.le
  rw [hk] at hl2
  unfold maxLen at hl2
  have d2 : decide ((k : Int) > 32768) = false := by simp; omega
  have Hp := Lib.hid hp
  have HT := Lib.hid hT
  have HU := Lib.hid hU
  have Hk := Lib.hid hk
  clear hp hT hU hk
  have HX : Hid (Ext w w) := Lib.hid (Mod.refl _ w)
  have HP := Lib.hid hP
  have HS := Lib.hid hS
  have HBb := Lib.hid hB
  clear hP hS hB
  go_enter Try.func7, Try.ntmps7
  go_wp2_with fail
  obtain ⟨w1, hw1⟩ : ∃ w1, w1 = w.alloc (.cells #[.slice A p.length ca, .slice B l.length cb] 25) := ⟨_, rfl⟩
  obtain ⟨bm, hbm⟩ : ∃ bm, bm = w.heap.size := ⟨_, rfl⟩
  have hzz : w.heap.size = bm := hbm.symm
  have hE : Ext w w1 := by rw [hw1]; exact (Mod.refl _ w).alloc _
  have hKn : w1.heap[bm]? = some (.cells #[.slice A p.length ca, .slice B l.length cb] 25 (0, 0)) := by rw [hw1, ← hzz]; exact heap_alloc_new w _
  have hzn : w1.heap.size = bm + 1 := by rw [hw1, ← hzz]; simp
  rw [← hw1, ← hbm]
  have HXo := HX
  replace HP := Lib.hid (HP.out.ext hE)
  replace HS := Lib.hid (HS.out.ext hE)
  replace HBb := Lib.hid (HBb.out.ext hE)
  replace HX := Lib.hid (HX.out.ext hE)
  have Kmw1 := Lib.hid hKn
  have hbz : w.heap.size ≤ bm := by have := HXo.out.size; omega
  clear hKn hE hw1 hbm HXo hzz
  have hbm := hbz
  clear hbz
  clear hzn
  refine (hv_mach w1 _ _ _ _ p l HP.out HS.out).mono ?_
  rintro e w2 ⟨rfl, hE⟩
  have Kmw2 := Lib.hid (hE.blk Kmw1.out id)
  replace HP := Lib.hid (HP.out.ext hE)
  replace HS := Lib.hid (HS.out.ext hE)
  replace HBb := Lib.hid (HBb.out.ext hE)
  replace HX := Lib.hid (HX.out.ext hE)
  clear Kmw1
  rw [h1]
  clear h1
  clear hE
  have m_0 : w2.cell? ⟨bm, 0, none⟩ = some _ := blk_cell Kmw2.out rfl
  have m_1 : w2.cell? ⟨bm, 1, none⟩ = some _ := blk_cell Kmw2.out rfl
  have m_l : bm < w2.heap.size := (Array.getElem?_eq_some_iff.1 Kmw2.out).1
  go_wp2_with fail
  have hso := HX.out.size
  refine (s_enc_ok w2 _ _ _ _ p l HP.out HS.out Hp.out).mono ?_
  rintro e w3 ⟨bx, rfl, hN, hE⟩
  clear m_0 m_1 m_l
  have Kmw3 := Lib.hid (hE.blk Kmw2.out id)
  replace HP := Lib.hid (HP.out.ext hE)
  replace HS := Lib.hid (HS.out.ext hE)
  replace HBb := Lib.hid (HBb.out.ext hE)
  replace HX := Lib.hid (HX.out.ext hE)
  clear Kmw2
  obtain ⟨Px, ex, rfl⟩ := own_form hN.1
  have HBx := Lib.hid (newB_up hN hso)
  clear hN hso
  clear hE
  have m_0 : w3.cell? ⟨bm, 0, none⟩ = some _ := blk_cell Kmw3.out rfl
  have m_1 : w3.cell? ⟨bm, 1, none⟩ = some _ := blk_cell Kmw3.out rfl
  have m_l : bm < w3.heap.size := (Array.getElem?_eq_some_iff.1 Kmw3.out).1
  go_wp2_with fail
  refine (r_machine w3 _ _ _ _ p l HP.out HS.out).mono ?_
  rintro e w4 ⟨rfl, hE⟩
  clear m_0 m_1 m_l
  have Kmw4 := Lib.hid (hE.blk Kmw3.out id)
  replace HP := Lib.hid (HP.out.ext hE)
  replace HS := Lib.hid (HS.out.ext hE)
  replace HBb := Lib.hid (HBb.out.ext hE)
  replace HBx := Lib.hid (newB_mod HBx.out hE)
  replace HX := Lib.hid (HX.out.ext hE)
  clear Kmw3
  rw [Hp.out]
  clear hE
  have m_0 : w4.cell? ⟨bm, 0, none⟩ = some _ := blk_cell Kmw4.out rfl
  have m_1 : w4.cell? ⟨bm, 1, none⟩ = some _ := blk_cell Kmw4.out rfl
  have m_l : bm < w4.heap.size := (Array.getElem?_eq_some_iff.1 Kmw4.out).1
  go_wp2_with fail
  have hso := HX.out.size
  refine (r5_enc w4 _ _ _ _ p l HP.out HS.out Hp.out).mono ?_
  rintro e w5 ⟨bz, rfl, hN, hE⟩
  clear m_0 m_1 m_l
  have Kmw5 := Lib.hid (hE.blk Kmw4.out id)
  replace HP := Lib.hid (HP.out.ext hE)
  replace HS := Lib.hid (HS.out.ext hE)
  replace HBb := Lib.hid (HBb.out.ext hE)
  replace HBx := Lib.hid (newB_mod HBx.out hE)
  replace HX := Lib.hid (HX.out.ext hE)
  clear Kmw4
  obtain ⟨Pz, ez, rfl⟩ := own_form hN.1
  have HBz := Lib.hid (newB_up hN hso)
  clear hN hso
  clear hE
  have m_0 : w5.cell? ⟨bm, 0, none⟩ = some _ := blk_cell Kmw5.out rfl
  have m_1 : w5.cell? ⟨bm, 1, none⟩ = some _ := blk_cell Kmw5.out rfl
  have m_l : bm < w5.heap.size := (Array.getElem?_eq_some_iff.1 Kmw5.out).1
  go_wp2_with fail
  refine (k_bytes w5 _ _ _ _ _ _ HBx.out.sl HBz.out.sl).mono ?_
  rintro e w6 ⟨rfl, hE⟩
  clear m_0 m_1 m_l
  have Kmw6 := Lib.hid (hE.blk Kmw5.out id)
  replace HP := Lib.hid (HP.out.ext hE)
  replace HS := Lib.hid (HS.out.ext hE)
  replace HBb := Lib.hid (HBb.out.ext hE)
  replace HBx := Lib.hid (newB_mod HBx.out hE)
  replace HBz := Lib.hid (newB_mod HBz.out hE)
  replace HX := Lib.hid (HX.out.ext hE)
  clear Kmw5
  rw [show (encM ⟨p, l⟩ == encM ⟨p, l⟩) = true by simp]
  clear HBx HBz
  clear hE
  have m_0 : w6.cell? ⟨bm, 0, none⟩ = some _ := blk_cell Kmw6.out rfl
  have m_1 : w6.cell? ⟨bm, 1, none⟩ = some _ := blk_cell Kmw6.out rfl
  have m_l : bm < w6.heap.size := (Array.getElem?_eq_some_iff.1 Kmw6.out).1
  clear HP HS
  go_wp2_with fail
  have hso := HX.out.size
  refine (k_twin w6 _ _ bs HBb.out (by have := Hk.out; omega)).mono ?_
  rintro e w7 ⟨b9, rfl, hN, hE⟩
  clear m_0 m_1 m_l
  have Kmw7 := Lib.hid (hE.blk Kmw6.out id)
  replace HBb := Lib.hid (HBb.out.ext hE)
  replace HX := Lib.hid (HX.out.ext hE)
  clear Kmw6
  obtain ⟨P9, e9, rfl⟩ := own_form hN.1
  have HB9 := Lib.hid (newB_up hN hso)
  clear hN hso
  clear hE
  have m_0 : w7.cell? ⟨bm, 0, none⟩ = some _ := blk_cell Kmw7.out rfl
  have m_1 : w7.cell? ⟨bm, 1, none⟩ = some _ := blk_cell Kmw7.out rfl
  have m_l : bm < w7.heap.size := (Array.getElem?_eq_some_iff.1 Kmw7.out).1
  obtain ⟨Y, hY⟩ : ∃ Y, decR bs = Y := ⟨_, rfl⟩
  obtain ⟨d, hd⟩ : ∃ d, decE bs = d := ⟨_, rfl⟩
  have HY := Lib.hid hY
  have Hd := Lib.hid hd
  clear hY hd
  go_wp2_with fail
  have hso := HX.out.size
  have hlo := HB9.out.1.lt
  refine (s_dec w7 _ _ bs HB9.out.sl (by have := Hk.out; omega)).mono ?_
  rintro e w8 ⟨p1, v1, rfl, hN, hE⟩
  clear m_0 m_1 m_l
  have Kmw8 := Lib.hid (hE.blk Kmw7.out id)
  replace HBb := Lib.hid (HBb.out.ext hE)
  replace HB9 := Lib.hid (newB_mod HB9.out hE)
  replace HX := Lib.hid (HX.out.ext hE)
  clear Kmw7
  rw [Hd.out]
  rw [HY.out] at hN
  obtain ⟨A1, c1, rfl⟩ := own_form hN.1.1
  obtain ⟨B1, d1, rfl⟩ := own_form hN.2.1.1
  have Hfar : Hid (∀ g, ((Value.slice A1 Y.pairs.length c1).ownBlock = some g ∨ (Value.slice B1 Y.sess.length d1).ownBlock = some g) → ∀ h, (Value.slice P9 bs.length e9).ownBlock = some h → h < g) := Lib.hid (fun g hg => by
    have h1 : w7.heap.size ≤ g := by
      rcases hg with e | e
      · exact hN.1.2.2 g e
      · exact hN.2.1.2.2 g e
    intro h hh
    have := (hlo h hh).2
    omega)
  have HN1 := Lib.hid (newM_up hN hso)
  clear hN hso hlo
  clear hE
  have m_0 : w8.cell? ⟨bm, 0, none⟩ = some _ := blk_cell Kmw8.out rfl
  have m_1 : w8.cell? ⟨bm, 1, none⟩ = some _ := blk_cell Kmw8.out rfl
  have m_l : bm < w8.heap.size := (Array.getElem?_eq_some_iff.1 Kmw8.out).1
  go_wp2_with fail
  obtain ⟨w9, hw9⟩ : ∃ w9, w9 = w8.alloc (.cells #[.slice A1 Y.pairs.length c1, .slice B1 Y.sess.length d1] 25) := ⟨_, rfl⟩
  obtain ⟨byy, hbyy⟩ : ∃ byy, byy = w8.heap.size := ⟨_, rfl⟩
  have hzz : w8.heap.size = byy := hbyy.symm
  have hE : Ext w8 w9 := by rw [hw9]; exact (Mod.refl _ w8).alloc _
  have hKn : w9.heap[byy]? = some (.cells #[.slice A1 Y.pairs.length c1, .slice B1 Y.sess.length d1] 25 (0, 0)) := by rw [hw9, ← hzz]; exact heap_alloc_new w8 _
  have hzn : w9.heap.size = byy + 1 := by rw [hw9, ← hzz]; simp
  rw [← hw9, ← hbyy]
  have hltmyy : bm < byy := by have := (Array.getElem?_eq_some_iff.1 Kmw8.out).1; omega
  clear m_0 m_1 m_l
  have HXo := HX
  have Kmw9 := Lib.hid (hE.blk Kmw8.out id)
  replace HBb := Lib.hid (HBb.out.ext hE)
  replace HB9 := Lib.hid (newB_mod HB9.out hE)
  replace HN1 := Lib.hid (newM_mod HN1.out hE (fun _ _ => id) (fun _ _ => id))
  replace HX := Lib.hid (HX.out.ext hE)
  clear Kmw8
  have Kyyw9 := Lib.hid hKn
  have hbz : w.heap.size ≤ byy := by have := HXo.out.size; omega
  clear hKn hE hw9 hbyy HXo hzz
  have hbyy := hbz
  clear hbz
  clear hzn
  refine (k_spoilB w9 _ bs HB9.out.1).mono ?_
  rintro e w10 ⟨rfl, hM⟩
  have Kmw10 := Lib.hid (hM.blk Kmw9.out (fun e => own_apart HB9.out.1 e Kmw9.out (by decide) rfl))
  clear Kmw9
  have Kyyw10 := Lib.hid (hM.blk Kyyw9.out (fun e => own_apart HB9.out.1 e Kyyw9.out (by decide) rfl))
  clear Kyyw9
  replace HN1 := Lib.hid (newM_mod HN1.out hM (fun g hg e => by have := Hfar.out g (.inl hg) g e; omega) (fun g hg e => by have := Hfar.out g (.inr hg) g e; omega))
  replace HBb := Lib.hid (HBb.out.mod hM (fun g hg e => by have := HB9.out.2 g e; omega))
  replace HX : Hid (Ext w w10) := Lib.hid (Mod.toExt ((Ext.mod HX.out (Since w.heap.size)).trans hM (fun g _ e => HB9.out.2 g e)))
  clear hM HB9
  have m_0 : w10.cell? ⟨bm, 0, none⟩ = some _ := blk_cell Kmw10.out rfl
  have m_1 : w10.cell? ⟨bm, 1, none⟩ = some _ := blk_cell Kmw10.out rfl
  have m_l : bm < w10.heap.size := (Array.getElem?_eq_some_iff.1 Kmw10.out).1
  have yy_0 : w10.cell? ⟨byy, 0, none⟩ = some _ := blk_cell Kyyw10.out rfl
  have yy_1 : w10.cell? ⟨byy, 1, none⟩ = some _ := blk_cell Kyyw10.out rfl
  have yy_l : byy < w10.heap.size := (Array.getElem?_eq_some_iff.1 Kyyw10.out).1
  go_wp2_with fail
  have hso := HX.out.size
  obtain ⟨ok, hok⟩ : ∃ ok, (decP bs).isSome = ok := ⟨_, rfl⟩
  have hdf := decP_facts bs
  have hgd : (decP bs).getD ⟨[], []⟩ = Y := by rcases hdf with ⟨_, _, h⟩ | ⟨_, _, h⟩ <;> rw [h, HY.out]
  rw [hok, Hd.out] at hdf
  have Hdf : Hid ((d = 0 ∧ ok = true) ∨ (d = 6 ∧ ok = false)) := Lib.hid (by rcases hdf with ⟨a, b, _⟩ | ⟨a, b, _⟩; exact .inl ⟨a, b⟩; exact .inr ⟨a, b⟩)
  clear hdf
  refine (r5_dec w10 _ _ bs HBb.out (fun g hg => by have := HX.out.size; omega)).mono ?_
  rintro e w11 ⟨p2, v2, rfl, hN, hE⟩
  clear m_0 m_1 m_l yy_0 yy_1 yy_l
  have Kmw11 := Lib.hid (hE.blk Kmw10.out id)
  have Kyyw11 := Lib.hid (hE.blk Kyyw10.out id)
  replace HBb := Lib.hid (HBb.out.ext hE)
  replace HN1 := Lib.hid (newM_mod HN1.out hE (fun _ _ => id) (fun _ _ => id))
  replace HX := Lib.hid (HX.out.ext hE)
  clear Kmw10
  clear Kyyw10
  rw [hok]
  rw [hgd] at hN
  clear hok hgd
  obtain ⟨A2, c2, rfl⟩ := own_form hN.1.1
  obtain ⟨B2, d2, rfl⟩ := own_form hN.2.1.1
  have HN2 := Lib.hid (newM_up hN hso)
  clear hN hso
  clear hE
  have m_0 : w11.cell? ⟨bm, 0, none⟩ = some _ := blk_cell Kmw11.out rfl
  have m_1 : w11.cell? ⟨bm, 1, none⟩ = some _ := blk_cell Kmw11.out rfl
  have m_l : bm < w11.heap.size := (Array.getElem?_eq_some_iff.1 Kmw11.out).1
  have yy_0 : w11.cell? ⟨byy, 0, none⟩ = some _ := blk_cell Kyyw11.out rfl
  have yy_1 : w11.cell? ⟨byy, 1, none⟩ = some _ := blk_cell Kyyw11.out rfl
  have yy_l : byy < w11.heap.size := (Array.getElem?_eq_some_iff.1 Kyyw11.out).1
  go_wp2_with fail
  obtain ⟨w12, hw12⟩ : ∃ w12, w12 = w11.alloc (.cells #[.slice A2 Y.pairs.length c2, .slice B2 Y.sess.length d2] 25) := ⟨_, rfl⟩
  obtain ⟨bzz, hbzz⟩ : ∃ bzz, bzz = w11.heap.size := ⟨_, rfl⟩
  have hzz : w11.heap.size = bzz := hbzz.symm
  have hE : Ext w11 w12 := by rw [hw12]; exact (Mod.refl _ w11).alloc _
  have hKn : w12.heap[bzz]? = some (.cells #[.slice A2 Y.pairs.length c2, .slice B2 Y.sess.length d2] 25 (0, 0)) := by rw [hw12, ← hzz]; exact heap_alloc_new w11 _
  have hzn : w12.heap.size = bzz + 1 := by rw [hw12, ← hzz]; simp
  rw [← hw12, ← hbzz]
  have hltmzz : bm < bzz := by have := (Array.getElem?_eq_some_iff.1 Kmw11.out).1; omega
  have hltyyzz : byy < bzz := by have := (Array.getElem?_eq_some_iff.1 Kyyw11.out).1; omega
  clear m_0 m_1 m_l yy_0 yy_1 yy_l
  have HXo := HX
  have Kmw12 := Lib.hid (hE.blk Kmw11.out id)
  have Kyyw12 := Lib.hid (hE.blk Kyyw11.out id)
  replace HBb := Lib.hid (HBb.out.ext hE)
  replace HN1 := Lib.hid (newM_mod HN1.out hE (fun _ _ => id) (fun _ _ => id))
  replace HN2 := Lib.hid (newM_mod HN2.out hE (fun _ _ => id) (fun _ _ => id))
  replace HX := Lib.hid (HX.out.ext hE)
  clear Kmw11
  clear Kyyw11
  have Kzzw12 := Lib.hid hKn
  have hbz : w.heap.size ≤ bzz := by have := HXo.out.size; omega
  clear hKn hE hw12 hbzz HXo hzz
  have hbzz := hbz
  clear hbz
  clear hzn
  refine (k_machine w12 _ _ _ _ _ _ _ _ Y.pairs Y.pairs Y.sess Y.sess HN1.out.prs HN2.out.prs HN1.out.ses HN2.out.ses).mono ?_
  rintro e w13 ⟨rfl, hE⟩
  have Kmw13 := Lib.hid (hE.blk Kmw12.out id)
  have Kyyw13 := Lib.hid (hE.blk Kyyw12.out id)
  have Kzzw13 := Lib.hid (hE.blk Kzzw12.out id)
  replace HBb := Lib.hid (HBb.out.ext hE)
  replace HN1 := Lib.hid (newM_mod HN1.out hE (fun _ _ => id) (fun _ _ => id))
  replace HN2 := Lib.hid (newM_mod HN2.out hE (fun _ _ => id) (fun _ _ => id))
  replace HX := Lib.hid (HX.out.ext hE)
  clear Kmw12
  clear Kyyw12
  clear Kzzw12
  rw [show eqM ⟨Y.pairs, Y.sess⟩ ⟨Y.pairs, Y.sess⟩ = true from eqM_refl _]
  clear hE
  have m_0 : w13.cell? ⟨bm, 0, none⟩ = some _ := blk_cell Kmw13.out rfl
  have m_1 : w13.cell? ⟨bm, 1, none⟩ = some _ := blk_cell Kmw13.out rfl
  have m_l : bm < w13.heap.size := (Array.getElem?_eq_some_iff.1 Kmw13.out).1
  have yy_0 : w13.cell? ⟨byy, 0, none⟩ = some _ := blk_cell Kyyw13.out rfl
  have yy_1 : w13.cell? ⟨byy, 1, none⟩ = some _ := blk_cell Kyyw13.out rfl
  have yy_l : byy < w13.heap.size := (Array.getElem?_eq_some_iff.1 Kyyw13.out).1
  have zz_0 : w13.cell? ⟨bzz, 0, none⟩ = some _ := blk_cell Kzzw13.out rfl
  have zz_1 : w13.cell? ⟨bzz, 1, none⟩ = some _ := blk_cell Kzzw13.out rfl
  have zz_l : bzz < w13.heap.size := (Array.getElem?_eq_some_iff.1 Kzzw13.out).1
  rcases Hdf.out with ⟨rfl, rfl⟩ | ⟨rfl, rfl⟩
  · go_wp2_with fail
    refine (l_wakes7 w13).mono ?_
    rintro e w14 ⟨rfl, hE⟩
    clear m_0 m_1 m_l yy_0 yy_1 yy_l zz_0 zz_1 zz_l
    have Kmw14 := Lib.hid (hE.blk Kmw13.out id)
    have Kyyw14 := Lib.hid (hE.blk Kyyw13.out id)
    have Kzzw14 := Lib.hid (hE.blk Kzzw13.out id)
    replace HBb := Lib.hid (HBb.out.ext hE)
    replace HN1 := Lib.hid (newM_mod HN1.out hE (fun _ _ => id) (fun _ _ => id))
    replace HN2 := Lib.hid (newM_mod HN2.out hE (fun _ _ => id) (fun _ _ => id))
    replace HX := Lib.hid (HX.out.ext hE)
    clear Kmw13
    clear Kyyw13
    clear Kzzw13
    clear hE
    have m_0 : w14.cell? ⟨bm, 0, none⟩ = some _ := blk_cell Kmw14.out rfl
    have m_1 : w14.cell? ⟨bm, 1, none⟩ = some _ := blk_cell Kmw14.out rfl
    have m_l : bm < w14.heap.size := (Array.getElem?_eq_some_iff.1 Kmw14.out).1
    have yy_0 : w14.cell? ⟨byy, 0, none⟩ = some _ := blk_cell Kyyw14.out rfl
    have yy_1 : w14.cell? ⟨byy, 1, none⟩ = some _ := blk_cell Kyyw14.out rfl
    have yy_l : byy < w14.heap.size := (Array.getElem?_eq_some_iff.1 Kyyw14.out).1
    have zz_0 : w14.cell? ⟨bzz, 0, none⟩ = some _ := blk_cell Kzzw14.out rfl
    have zz_1 : w14.cell? ⟨bzz, 1, none⟩ = some _ := blk_cell Kzzw14.out rfl
    have zz_l : bzz < w14.heap.size := (Array.getElem?_eq_some_iff.1 Kzzw14.out).1
    go_wp2
    go_ret
    exact ⟨rfl, Ext.below HX.out⟩
  · go_wp2_with fail
    refine (l_wakes7 w13).mono ?_
    rintro e w14 ⟨rfl, hE⟩
    clear m_0 m_1 m_l yy_0 yy_1 yy_l zz_0 zz_1 zz_l
    have Kmw14 := Lib.hid (hE.blk Kmw13.out id)
    have Kyyw14 := Lib.hid (hE.blk Kyyw13.out id)
    have Kzzw14 := Lib.hid (hE.blk Kzzw13.out id)
    replace HBb := Lib.hid (HBb.out.ext hE)
    replace HN1 := Lib.hid (newM_mod HN1.out hE (fun _ _ => id) (fun _ _ => id))
    replace HN2 := Lib.hid (newM_mod HN2.out hE (fun _ _ => id) (fun _ _ => id))
    replace HX := Lib.hid (HX.out.ext hE)
    clear Kmw13
    clear Kyyw13
    clear Kzzw13
    clear hE
    have m_0 : w14.cell? ⟨bm, 0, none⟩ = some _ := blk_cell Kmw14.out rfl
    have m_1 : w14.cell? ⟨bm, 1, none⟩ = some _ := blk_cell Kmw14.out rfl
    have m_l : bm < w14.heap.size := (Array.getElem?_eq_some_iff.1 Kmw14.out).1
    have yy_0 : w14.cell? ⟨byy, 0, none⟩ = some _ := blk_cell Kyyw14.out rfl
    have yy_1 : w14.cell? ⟨byy, 1, none⟩ = some _ := blk_cell Kyyw14.out rfl
    have yy_l : byy < w14.heap.size := (Array.getElem?_eq_some_iff.1 Kyyw14.out).1
    have zz_0 : w14.cell? ⟨bzz, 0, none⟩ = some _ := blk_cell Kzzw14.out rfl
    have zz_1 : w14.cell? ⟨bzz, 1, none⟩ = some _ := blk_cell Kzzw14.out rfl
    have zz_l : bzz < w14.heap.size := (Array.getElem?_eq_some_iff.1 Kzzw14.out).1
    go_wp2
    go_ret
    exact ⟨rfl, Ext.below HX.out⟩
set_option maxRecDepth 100000 in
set_option maxHeartbeats 2000000 in
theorem sesBytes_wrong (w : World) (T U : Nat → Prop) (hT : ∀ g, T g → g < w.heap.size) (hU : ∀ g, U g → g < w.heap.size) (A B : Option Addr) (ca cb : Nat) (p : List APair) (l : List ASess) (hP : Prs w U (.slice A p.length ca) p) (hS : Ses w T (.slice B l.length cb) l) (A2 : Option Addr) (k ck : Nat) (bs : List UInt8) (hB : Byt w (fun g => g < w.heap.size) (.slice A2 k ck) bs) (hk : bs.length = k) (h1 : heavyM ⟨p, l⟩ = false) (h2 : ¬ 32768 < k) (hp : machB ⟨p, l⟩ = false) :
    Calls Try.prog 7 #[.agg #[.slice A p.length ca, .slice B l.length cb], .slice A2 k ck] w fun e w' => e = .returned (.bool true) ∧ Below w.heap.size w w' := by
  have hl2 := hB.le
  rw [hk] at hl2
  unfold maxLen at hl2
  have d2 : decide ((k : Int) > 32768) = false := by simp; omega
  have Hp := Lib.hid hp
  have HT := Lib.hid hT
  have HU := Lib.hid hU
  have Hk := Lib.hid hk
  clear hp hT hU hk
  have HX : Hid (Ext w w) := Lib.hid (Mod.refl _ w)
  have HP := Lib.hid hP
  have HS := Lib.hid hS
  have HBb := Lib.hid hB
  clear hP hS hB
  go_enter Try.func7, Try.ntmps7
  go_wp2_with fail
  obtain ⟨w1, hw1⟩ : ∃ w1, w1 = w.alloc (.cells #[.slice A p.length ca, .slice B l.length cb] 25) := ⟨_, rfl⟩
  obtain ⟨bm, hbm⟩ : ∃ bm, bm = w.heap.size := ⟨_, rfl⟩
  have hzz : w.heap.size = bm := hbm.symm
  have hE : Ext w w1 := by rw [hw1]; exact (Mod.refl _ w).alloc _
  have hKn : w1.heap[bm]? = some (.cells #[.slice A p.length ca, .slice B l.length cb] 25 (0, 0)) := by rw [hw1, ← hzz]; exact heap_alloc_new w _
  have hzn : w1.heap.size = bm + 1 := by rw [hw1, ← hzz]; simp
  rw [← hw1, ← hbm]
  have HXo := HX
  replace HP := Lib.hid (HP.out.ext hE)
  replace HS := Lib.hid (HS.out.ext hE)
  replace HBb := Lib.hid (HBb.out.ext hE)
  replace HX := Lib.hid (HX.out.ext hE)
  have Kmw1 := Lib.hid hKn
  have hbz : w.heap.size ≤ bm := by have := HXo.out.size; omega
  clear hKn hE hw1 hbm HXo hzz
  have hbm := hbz
  clear hbz
  clear hzn
  refine (hv_mach w1 _ _ _ _ p l HP.out HS.out).mono ?_
  rintro e w2 ⟨rfl, hE⟩
  have Kmw2 := Lib.hid (hE.blk Kmw1.out id)
  replace HP := Lib.hid (HP.out.ext hE)
  replace HS := Lib.hid (HS.out.ext hE)
  replace HBb := Lib.hid (HBb.out.ext hE)
  replace HX := Lib.hid (HX.out.ext hE)
  clear Kmw1
  rw [h1]
  clear h1
  clear hE
  have m_0 : w2.cell? ⟨bm, 0, none⟩ = some _ := blk_cell Kmw2.out rfl
  have m_1 : w2.cell? ⟨bm, 1, none⟩ = some _ := blk_cell Kmw2.out rfl
  have m_l : bm < w2.heap.size := (Array.getElem?_eq_some_iff.1 Kmw2.out).1
  go_wp2_with fail
  refine (s_enc_bad w2 _ _ _ _ p l HP.out HS.out Hp.out).mono ?_
  rintro e w3 ⟨rfl, hE⟩
  clear m_0 m_1 m_l
  have Kmw3 := Lib.hid (hE.blk Kmw2.out id)
  replace HP := Lib.hid (HP.out.ext hE)
  replace HS := Lib.hid (HS.out.ext hE)
  replace HBb := Lib.hid (HBb.out.ext hE)
  replace HX := Lib.hid (HX.out.ext hE)
  clear Kmw2
  clear hE
  have m_0 : w3.cell? ⟨bm, 0, none⟩ = some _ := blk_cell Kmw3.out rfl
  have m_1 : w3.cell? ⟨bm, 1, none⟩ = some _ := blk_cell Kmw3.out rfl
  have m_l : bm < w3.heap.size := (Array.getElem?_eq_some_iff.1 Kmw3.out).1
  go_wp2_with fail
  refine (r_machine w3 _ _ _ _ p l HP.out HS.out).mono ?_
  rintro e w4 ⟨rfl, hE⟩
  clear m_0 m_1 m_l
  have Kmw4 := Lib.hid (hE.blk Kmw3.out id)
  replace HP := Lib.hid (HP.out.ext hE)
  replace HS := Lib.hid (HS.out.ext hE)
  replace HBb := Lib.hid (HBb.out.ext hE)
  replace HX := Lib.hid (HX.out.ext hE)
  clear Kmw3
  rw [Hp.out]
  clear hE
  have m_0 : w4.cell? ⟨bm, 0, none⟩ = some _ := blk_cell Kmw4.out rfl
  have m_1 : w4.cell? ⟨bm, 1, none⟩ = some _ := blk_cell Kmw4.out rfl
  have m_l : bm < w4.heap.size := (Array.getElem?_eq_some_iff.1 Kmw4.out).1
  clear HP HS
  go_wp2_with fail
  have hso := HX.out.size
  refine (k_twin w4 _ _ bs HBb.out (by have := Hk.out; omega)).mono ?_
  rintro e w5 ⟨b9, rfl, hN, hE⟩
  clear m_0 m_1 m_l
  have Kmw5 := Lib.hid (hE.blk Kmw4.out id)
  replace HBb := Lib.hid (HBb.out.ext hE)
  replace HX := Lib.hid (HX.out.ext hE)
  clear Kmw4
  obtain ⟨P9, e9, rfl⟩ := own_form hN.1
  have HB9 := Lib.hid (newB_up hN hso)
  clear hN hso
  clear hE
  have m_0 : w5.cell? ⟨bm, 0, none⟩ = some _ := blk_cell Kmw5.out rfl
  have m_1 : w5.cell? ⟨bm, 1, none⟩ = some _ := blk_cell Kmw5.out rfl
  have m_l : bm < w5.heap.size := (Array.getElem?_eq_some_iff.1 Kmw5.out).1
  obtain ⟨Y, hY⟩ : ∃ Y, decR bs = Y := ⟨_, rfl⟩
  obtain ⟨d, hd⟩ : ∃ d, decE bs = d := ⟨_, rfl⟩
  have HY := Lib.hid hY
  have Hd := Lib.hid hd
  clear hY hd
  go_wp2_with fail
  have hso := HX.out.size
  have hlo := HB9.out.1.lt
  refine (s_dec w5 _ _ bs HB9.out.sl (by have := Hk.out; omega)).mono ?_
  rintro e w6 ⟨p1, v1, rfl, hN, hE⟩
  clear m_0 m_1 m_l
  have Kmw6 := Lib.hid (hE.blk Kmw5.out id)
  replace HBb := Lib.hid (HBb.out.ext hE)
  replace HB9 := Lib.hid (newB_mod HB9.out hE)
  replace HX := Lib.hid (HX.out.ext hE)
  clear Kmw5
  rw [Hd.out]
  rw [HY.out] at hN
  obtain ⟨A1, c1, rfl⟩ := own_form hN.1.1
  obtain ⟨B1, d1, rfl⟩ := own_form hN.2.1.1
  have Hfar : Hid (∀ g, ((Value.slice A1 Y.pairs.length c1).ownBlock = some g ∨ (Value.slice B1 Y.sess.length d1).ownBlock = some g) → ∀ h, (Value.slice P9 bs.length e9).ownBlock = some h → h < g) := Lib.hid (fun g hg => by
    have h1 : w5.heap.size ≤ g := by
      rcases hg with e | e
      · exact hN.1.2.2 g e
      · exact hN.2.1.2.2 g e
    intro h hh
    have := (hlo h hh).2
    omega)
  have HN1 := Lib.hid (newM_up hN hso)
  clear hN hso hlo
  clear hE
  have m_0 : w6.cell? ⟨bm, 0, none⟩ = some _ := blk_cell Kmw6.out rfl
  have m_1 : w6.cell? ⟨bm, 1, none⟩ = some _ := blk_cell Kmw6.out rfl
  have m_l : bm < w6.heap.size := (Array.getElem?_eq_some_iff.1 Kmw6.out).1
  go_wp2_with fail
  obtain ⟨w7, hw7⟩ : ∃ w7, w7 = w6.alloc (.cells #[.slice A1 Y.pairs.length c1, .slice B1 Y.sess.length d1] 25) := ⟨_, rfl⟩
  obtain ⟨byy, hbyy⟩ : ∃ byy, byy = w6.heap.size := ⟨_, rfl⟩
  have hzz : w6.heap.size = byy := hbyy.symm
  have hE : Ext w6 w7 := by rw [hw7]; exact (Mod.refl _ w6).alloc _
  have hKn : w7.heap[byy]? = some (.cells #[.slice A1 Y.pairs.length c1, .slice B1 Y.sess.length d1] 25 (0, 0)) := by rw [hw7, ← hzz]; exact heap_alloc_new w6 _
  have hzn : w7.heap.size = byy + 1 := by rw [hw7, ← hzz]; simp
  rw [← hw7, ← hbyy]
  have hltmyy : bm < byy := by have := (Array.getElem?_eq_some_iff.1 Kmw6.out).1; omega
  clear m_0 m_1 m_l
  have HXo := HX
  have Kmw7 := Lib.hid (hE.blk Kmw6.out id)
  replace HBb := Lib.hid (HBb.out.ext hE)
  replace HB9 := Lib.hid (newB_mod HB9.out hE)
  replace HN1 := Lib.hid (newM_mod HN1.out hE (fun _ _ => id) (fun _ _ => id))
  replace HX := Lib.hid (HX.out.ext hE)
  clear Kmw6
  have Kyyw7 := Lib.hid hKn
  have hbz : w.heap.size ≤ byy := by have := HXo.out.size; omega
  clear hKn hE hw7 hbyy HXo hzz
  have hbyy := hbz
  clear hbz
  clear hzn
  refine (k_spoilB w7 _ bs HB9.out.1).mono ?_
  rintro e w8 ⟨rfl, hM⟩
  have Kmw8 := Lib.hid (hM.blk Kmw7.out (fun e => own_apart HB9.out.1 e Kmw7.out (by decide) rfl))
  clear Kmw7
  have Kyyw8 := Lib.hid (hM.blk Kyyw7.out (fun e => own_apart HB9.out.1 e Kyyw7.out (by decide) rfl))
  clear Kyyw7
  replace HN1 := Lib.hid (newM_mod HN1.out hM (fun g hg e => by have := Hfar.out g (.inl hg) g e; omega) (fun g hg e => by have := Hfar.out g (.inr hg) g e; omega))
  replace HBb := Lib.hid (HBb.out.mod hM (fun g hg e => by have := HB9.out.2 g e; omega))
  replace HX : Hid (Ext w w8) := Lib.hid (Mod.toExt ((Ext.mod HX.out (Since w.heap.size)).trans hM (fun g _ e => HB9.out.2 g e)))
  clear hM HB9
  have m_0 : w8.cell? ⟨bm, 0, none⟩ = some _ := blk_cell Kmw8.out rfl
  have m_1 : w8.cell? ⟨bm, 1, none⟩ = some _ := blk_cell Kmw8.out rfl
  have m_l : bm < w8.heap.size := (Array.getElem?_eq_some_iff.1 Kmw8.out).1
  have yy_0 : w8.cell? ⟨byy, 0, none⟩ = some _ := blk_cell Kyyw8.out rfl
  have yy_1 : w8.cell? ⟨byy, 1, none⟩ = some _ := blk_cell Kyyw8.out rfl
  have yy_l : byy < w8.heap.size := (Array.getElem?_eq_some_iff.1 Kyyw8.out).1
  go_wp2_with fail
  have hso := HX.out.size
  obtain ⟨ok, hok⟩ : ∃ ok, (decP bs).isSome = ok := ⟨_, rfl⟩
  have hdf := decP_facts bs
  have hgd : (decP bs).getD ⟨[], []⟩ = Y := by rcases hdf with ⟨_, _, h⟩ | ⟨_, _, h⟩ <;> rw [h, HY.out]
  rw [hok, Hd.out] at hdf
  have Hdf : Hid ((d = 0 ∧ ok = true) ∨ (d = 6 ∧ ok = false)) := Lib.hid (by rcases hdf with ⟨a, b, _⟩ | ⟨a, b, _⟩; exact .inl ⟨a, b⟩; exact .inr ⟨a, b⟩)
  clear hdf
  refine (r5_dec w8 _ _ bs HBb.out (fun g hg => by have := HX.out.size; omega)).mono ?_
  rintro e w9 ⟨p2, v2, rfl, hN, hE⟩
  clear m_0 m_1 m_l yy_0 yy_1 yy_l
  have Kmw9 := Lib.hid (hE.blk Kmw8.out id)
  have Kyyw9 := Lib.hid (hE.blk Kyyw8.out id)
  replace HBb := Lib.hid (HBb.out.ext hE)
  replace HN1 := Lib.hid (newM_mod HN1.out hE (fun _ _ => id) (fun _ _ => id))
  replace HX := Lib.hid (HX.out.ext hE)
  clear Kmw8
  clear Kyyw8
  rw [hok]
  rw [hgd] at hN
  clear hok hgd
  obtain ⟨A2, c2, rfl⟩ := own_form hN.1.1
  obtain ⟨B2, d2, rfl⟩ := own_form hN.2.1.1
  have HN2 := Lib.hid (newM_up hN hso)
  clear hN hso
  clear hE
  have m_0 : w9.cell? ⟨bm, 0, none⟩ = some _ := blk_cell Kmw9.out rfl
  have m_1 : w9.cell? ⟨bm, 1, none⟩ = some _ := blk_cell Kmw9.out rfl
  have m_l : bm < w9.heap.size := (Array.getElem?_eq_some_iff.1 Kmw9.out).1
  have yy_0 : w9.cell? ⟨byy, 0, none⟩ = some _ := blk_cell Kyyw9.out rfl
  have yy_1 : w9.cell? ⟨byy, 1, none⟩ = some _ := blk_cell Kyyw9.out rfl
  have yy_l : byy < w9.heap.size := (Array.getElem?_eq_some_iff.1 Kyyw9.out).1
  go_wp2_with fail
  obtain ⟨w10, hw10⟩ : ∃ w10, w10 = w9.alloc (.cells #[.slice A2 Y.pairs.length c2, .slice B2 Y.sess.length d2] 25) := ⟨_, rfl⟩
  obtain ⟨bzz, hbzz⟩ : ∃ bzz, bzz = w9.heap.size := ⟨_, rfl⟩
  have hzz : w9.heap.size = bzz := hbzz.symm
  have hE : Ext w9 w10 := by rw [hw10]; exact (Mod.refl _ w9).alloc _
  have hKn : w10.heap[bzz]? = some (.cells #[.slice A2 Y.pairs.length c2, .slice B2 Y.sess.length d2] 25 (0, 0)) := by rw [hw10, ← hzz]; exact heap_alloc_new w9 _
  have hzn : w10.heap.size = bzz + 1 := by rw [hw10, ← hzz]; simp
  rw [← hw10, ← hbzz]
  have hltmzz : bm < bzz := by have := (Array.getElem?_eq_some_iff.1 Kmw9.out).1; omega
  have hltyyzz : byy < bzz := by have := (Array.getElem?_eq_some_iff.1 Kyyw9.out).1; omega
  clear m_0 m_1 m_l yy_0 yy_1 yy_l
  have HXo := HX
  have Kmw10 := Lib.hid (hE.blk Kmw9.out id)
  have Kyyw10 := Lib.hid (hE.blk Kyyw9.out id)
  replace HBb := Lib.hid (HBb.out.ext hE)
  replace HN1 := Lib.hid (newM_mod HN1.out hE (fun _ _ => id) (fun _ _ => id))
  replace HN2 := Lib.hid (newM_mod HN2.out hE (fun _ _ => id) (fun _ _ => id))
  replace HX := Lib.hid (HX.out.ext hE)
  clear Kmw9
  clear Kyyw9
  have Kzzw10 := Lib.hid hKn
  have hbz : w.heap.size ≤ bzz := by have := HXo.out.size; omega
  clear hKn hE hw10 hbzz HXo hzz
  have hbzz := hbz
  clear hbz
  clear hzn
  refine (k_machine w10 _ _ _ _ _ _ _ _ Y.pairs Y.pairs Y.sess Y.sess HN1.out.prs HN2.out.prs HN1.out.ses HN2.out.ses).mono ?_
  rintro e w11 ⟨rfl, hE⟩
  have Kmw11 := Lib.hid (hE.blk Kmw10.out id)
  have Kyyw11 := Lib.hid (hE.blk Kyyw10.out id)
  have Kzzw11 := Lib.hid (hE.blk Kzzw10.out id)
  replace HBb := Lib.hid (HBb.out.ext hE)
  replace HN1 := Lib.hid (newM_mod HN1.out hE (fun _ _ => id) (fun _ _ => id))
  replace HN2 := Lib.hid (newM_mod HN2.out hE (fun _ _ => id) (fun _ _ => id))
  replace HX := Lib.hid (HX.out.ext hE)
  clear Kmw10
  clear Kyyw10
  clear Kzzw10
  rw [show eqM ⟨Y.pairs, Y.sess⟩ ⟨Y.pairs, Y.sess⟩ = true from eqM_refl _]
  clear hE
  have m_0 : w11.cell? ⟨bm, 0, none⟩ = some _ := blk_cell Kmw11.out rfl
  have m_1 : w11.cell? ⟨bm, 1, none⟩ = some _ := blk_cell Kmw11.out rfl
  have m_l : bm < w11.heap.size := (Array.getElem?_eq_some_iff.1 Kmw11.out).1
  have yy_0 : w11.cell? ⟨byy, 0, none⟩ = some _ := blk_cell Kyyw11.out rfl
  have yy_1 : w11.cell? ⟨byy, 1, none⟩ = some _ := blk_cell Kyyw11.out rfl
  have yy_l : byy < w11.heap.size := (Array.getElem?_eq_some_iff.1 Kyyw11.out).1
  have zz_0 : w11.cell? ⟨bzz, 0, none⟩ = some _ := blk_cell Kzzw11.out rfl
  have zz_1 : w11.cell? ⟨bzz, 1, none⟩ = some _ := blk_cell Kzzw11.out rfl
  have zz_l : bzz < w11.heap.size := (Array.getElem?_eq_some_iff.1 Kzzw11.out).1
  rcases Hdf.out with ⟨rfl, rfl⟩ | ⟨rfl, rfl⟩
  · go_wp2_with fail
    refine (l_wakes7 w11).mono ?_
    rintro e w12 ⟨rfl, hE⟩
    clear m_0 m_1 m_l yy_0 yy_1 yy_l zz_0 zz_1 zz_l
    have Kmw12 := Lib.hid (hE.blk Kmw11.out id)
    have Kyyw12 := Lib.hid (hE.blk Kyyw11.out id)
    have Kzzw12 := Lib.hid (hE.blk Kzzw11.out id)
    replace HBb := Lib.hid (HBb.out.ext hE)
    replace HN1 := Lib.hid (newM_mod HN1.out hE (fun _ _ => id) (fun _ _ => id))
    replace HN2 := Lib.hid (newM_mod HN2.out hE (fun _ _ => id) (fun _ _ => id))
    replace HX := Lib.hid (HX.out.ext hE)
    clear Kmw11
    clear Kyyw11
    clear Kzzw11
    clear hE
    have m_0 : w12.cell? ⟨bm, 0, none⟩ = some _ := blk_cell Kmw12.out rfl
    have m_1 : w12.cell? ⟨bm, 1, none⟩ = some _ := blk_cell Kmw12.out rfl
    have m_l : bm < w12.heap.size := (Array.getElem?_eq_some_iff.1 Kmw12.out).1
    have yy_0 : w12.cell? ⟨byy, 0, none⟩ = some _ := blk_cell Kyyw12.out rfl
    have yy_1 : w12.cell? ⟨byy, 1, none⟩ = some _ := blk_cell Kyyw12.out rfl
    have yy_l : byy < w12.heap.size := (Array.getElem?_eq_some_iff.1 Kyyw12.out).1
    have zz_0 : w12.cell? ⟨bzz, 0, none⟩ = some _ := blk_cell Kzzw12.out rfl
    have zz_1 : w12.cell? ⟨bzz, 1, none⟩ = some _ := blk_cell Kzzw12.out rfl
    have zz_l : bzz < w12.heap.size := (Array.getElem?_eq_some_iff.1 Kzzw12.out).1
    go_wp2
    go_ret
    exact ⟨rfl, Ext.below HX.out⟩
  · go_wp2_with fail
    refine (l_wakes7 w11).mono ?_
    rintro e w12 ⟨rfl, hE⟩
    clear m_0 m_1 m_l yy_0 yy_1 yy_l zz_0 zz_1 zz_l
    have Kmw12 := Lib.hid (hE.blk Kmw11.out id)
    have Kyyw12 := Lib.hid (hE.blk Kyyw11.out id)
    have Kzzw12 := Lib.hid (hE.blk Kzzw11.out id)
    replace HBb := Lib.hid (HBb.out.ext hE)
    replace HN1 := Lib.hid (newM_mod HN1.out hE (fun _ _ => id) (fun _ _ => id))
    replace HN2 := Lib.hid (newM_mod HN2.out hE (fun _ _ => id) (fun _ _ => id))
    replace HX := Lib.hid (HX.out.ext hE)
    clear Kmw11
    clear Kyyw11
    clear Kzzw11
    clear hE
    have m_0 : w12.cell? ⟨bm, 0, none⟩ = some _ := blk_cell Kmw12.out rfl
    have m_1 : w12.cell? ⟨bm, 1, none⟩ = some _ := blk_cell Kmw12.out rfl
    have m_l : bm < w12.heap.size := (Array.getElem?_eq_some_iff.1 Kmw12.out).1
    have yy_0 : w12.cell? ⟨byy, 0, none⟩ = some _ := blk_cell Kyyw12.out rfl
    have yy_1 : w12.cell? ⟨byy, 1, none⟩ = some _ := blk_cell Kyyw12.out rfl
    have yy_l : byy < w12.heap.size := (Array.getElem?_eq_some_iff.1 Kyyw12.out).1
    have zz_0 : w12.cell? ⟨bzz, 0, none⟩ = some _ := blk_cell Kzzw12.out rfl
    have zz_1 : w12.cell? ⟨bzz, 1, none⟩ = some _ := blk_cell Kzzw12.out rfl
    have zz_l : bzz < w12.heap.size := (Array.getElem?_eq_some_iff.1 Kzzw12.out).1
    go_wp2
    go_ret
    exact ⟨rfl, Ext.below HX.out⟩
theorem sesBytes_a (w : World) (v0 v1 v2 : Value) (p : List APair) (l : List ASess) (bs : List UInt8) (hP : Prs w (fun g => g < w.heap.size) v0 p) (hS : Ses w (fun g => g < w.heap.size) v1 l) (hB : Byt w (fun g => g < w.heap.size) v2 bs) :
    Calls Try.prog 7 #[.agg #[v0, v1], v2] w fun e w' => e = .returned (.bool true) ∧ Below w.heap.size w w' := by
  obtain ⟨A, ca, rfl⟩ := hP.form
  obtain ⟨B, cb, rfl⟩ := hS.form
  obtain ⟨A2, ck, rfl⟩ := hB.form
  rcases h1 : heavyM ⟨p, l⟩ with _ | _
  · by_cases h2 : 32768 < bs.length
    · exact sesBytes_heavy w _ _ (fun _ h => h) (fun _ h => h) A B ca cb p l hP hS A2 _ ck bs hB rfl (.inr ⟨h1, h2⟩)
    · rcases h3 : machB ⟨p, l⟩ with _ | _
      · exact sesBytes_wrong w _ _ (fun _ h => h) (fun _ h => h) A B ca cb p l hP hS A2 _ ck bs hB rfl h1 h2 h3
      · exact sesBytes_right w _ _ (fun _ h => h) (fun _ h => h) A B ca cb p l hP hS A2 _ ck bs hB rfl h1 h2 h3
  · exact sesBytes_heavy w _ _ (fun _ h => h) (fun _ h => h) A B ca cb p l hP hS A2 _ ck bs hB rfl (.inl h1)
end Go.Proofs.Ytplpegjnmlabkaa
