/-
 The walk of HistExact. Conditions: as the theorems name them.
-/
import Derived.Test.YtbclnghbgoblcaaGreatHisHist
import Derived.Test.YtbclnghbgoblcaaGreatHisWake
import Derived.Test.YtbclnghbgoblcaaGreatHisLog
import Derived.Test.YtbclnghbgoblcaaGreatHisRefO
import Derived.Test.YtbclnghbgoblcaaGreatSesMore
import Derived.Deep.DeepCutAuto
import Derived.Deep.CutBlock
namespace Go.Proofs.YtbclnghbgoblcaaGreat
set_option linter.unusedSimpArgs false
set_option linter.unusedVariables false
open Go.RowKit

set_option maxRecDepth 100000 in
set_option maxHeartbeats 8000000 in
theorem histExact_walk (w : World) (A B : Option Addr) (n cc N cb : Nat) (l : List AEntry) (h : List AEvent) (hC : Ents w (fun g => g < w.heap.size) (.slice A n cc) l) (hn : l.length = n)
  (hV : Evs w (fun g => g < w.heap.size) (.slice B N cb) h) (hN : h.length = N) (nn : Int) (h64 : I64 nn) :
  Calls Tryz.prog 3 #[.slice A n cc, .slice B N cb, .int .i64 nn] w fun e w' => e = .returned (.bool true) ∧ Below w.heap.size w w' := by
 have hl := hC.1.le
 have hl2 := hV.1.le
 rw [hn] at hl
 rw [hN] at hl2
 unfold maxLen at hl hl2
 have HX : Hid (Ext w w) := Lib.hid (Mod.refl _ w)
 have HC := Lib.hid hC
 have HC0 := HC
 have HW := Lib.hid hV
 have HW0 := HW
 have Hn := Lib.hid hn
 have HN := Lib.hid hN
 have H64 := Lib.hid h64
 clear hC hV hn hN h64
 rcases h1 : heavyH l h with _ | _
 case true =>
  go_enter Tryz.func3, Tryz.ntmps3
  go_wp2_with fail
  refine (hv_hist w _ _ _ _ l h HC.out HW.out).mono ?_
  rintro e w1 ⟨rfl, hE⟩
  replace HC := Lib.hid (HC.out.ext hE)
  replace HW := Lib.hid (HW.out.ext hE)
  replace HX := Lib.hid (HX.out.ext hE)
  rw [h1]
  clear hE
  go_wp2
  go_ret
  exact ⟨rfl, Ext.below HX.out⟩
 have hsm := heavyH_no h1
 rw [Hn.out, HN.out] at hsm
 go_enter Tryz.func3, Tryz.ntmps3
 go_wp2_with fail
 refine (hv_hist w _ _ _ _ l h HC.out HW.out).mono ?_
 rintro e w1 ⟨rfl, hE⟩
 replace HC := Lib.hid (HC.out.ext hE)
 replace HW := Lib.hid (HW.out.ext hE)
 replace HX := Lib.hid (HX.out.ext hE)
 rw [h1]
 clear hE
 clear h1
 go_wp2_with fail
 have HXo := HX
 refine (k_twinEntries w1 _ _ l HC.out (by rw [Hn.out]; omega)).mono ?_
 rintro e w2 ⟨v1, rfl, hN1, hE⟩
 replace HC := Lib.hid (HC.out.ext hE)
 replace HW := Lib.hid (HW.out.ext hE)
 replace HX := Lib.hid (HX.out.ext hE)
 obtain ⟨A1, c1, rfl⟩ := hN1.form
 rw [Hn.out] at hN1 ⊢
 have HL := Lib.hid (newE_up hN1 HXo.out.size)
 clear hN1 HXo
 clear hE
 go_wp2_with fail
 have HXo := HX
 refine (k_twinEvents w2 _ _ h HW.out (by rw [HN.out]; omega)).mono ?_
 rintro e w3 ⟨v2, rfl, hN1, hE⟩
 replace HC := Lib.hid (HC.out.ext hE)
 replace HW := Lib.hid (HW.out.ext hE)
 replace HL := Lib.hid (newE_mod HL.out hE (fun _ _ => id))
 replace HX := Lib.hid (HX.out.ext hE)
 obtain ⟨B1, d1, rfl⟩ := hN1.form
 rw [HN.out] at hN1 ⊢
 have HV := Lib.hid (newV_up hN1 HXo.out.size)
 clear hN1 HXo
 clear hE
 go_upto_region 4 with fail
 go_cut [33] (fun s33 wx => s33 = .bool false ∧ Ext w3 wx)
 case first =>
  have HE3 : Hid (Ext w3 w3) := Lib.hid (Mod.refl _ _)
  rcases hb : histB h with _ | _
  ·
   have Hck : Hid (checkE h = 6) := Lib.hid (by unfold checkE; rw [hb]; rfl)
   have Hhb := Lib.hid hb
   clear hb
   go_wp2_with fail
   refine (h_check w3 _ _ h HV.out.evs).mono ?_
   rintro e w4 ⟨rfl, hE⟩
   replace HC := Lib.hid (HC.out.ext hE)
   replace HW := Lib.hid (HW.out.ext hE)
   replace HL := Lib.hid (newE_mod HL.out hE (fun _ _ => id))
   replace HV := Lib.hid (newV_mod HV.out hE (fun _ _ => id))
   replace HE3 := Lib.hid (HE3.out.ext hE)
   replace HX := Lib.hid (HX.out.ext hE)
   rw [Hck.out]
   clear hE
   go_wp2_with fail
   refine (r25_history w4 _ _ h HW.out).mono ?_
   rintro e w5 ⟨rfl, hE⟩
   replace HC := Lib.hid (HC.out.ext hE)
   replace HW := Lib.hid (HW.out.ext hE)
   replace HL := Lib.hid (newE_mod HL.out hE (fun _ _ => id))
   replace HV := Lib.hid (newV_mod HV.out hE (fun _ _ => id))
   replace HE3 := Lib.hid (HE3.out.ext hE)
   replace HX := Lib.hid (HX.out.ext hE)
   rw [Hhb.out]
   clear hE
   go_wp2_with fail
   refine (h_check w5 _ _ h HV.out.evs).mono ?_
   rintro e w6 ⟨rfl, hE⟩
   replace HC := Lib.hid (HC.out.ext hE)
   replace HW := Lib.hid (HW.out.ext hE)
   replace HL := Lib.hid (newE_mod HL.out hE (fun _ _ => id))
   replace HV := Lib.hid (newV_mod HV.out hE (fun _ _ => id))
   replace HE3 := Lib.hid (HE3.out.ext hE)
   replace HX := Lib.hid (HX.out.ext hE)
   rw [Hck.out]
   clear hE
   go_wp2_with fail
   refine (h_check w6 _ _ h HV.out.evs).mono ?_
   rintro e w7 ⟨rfl, hE⟩
   replace HC := Lib.hid (HC.out.ext hE)
   replace HW := Lib.hid (HW.out.ext hE)
   replace HL := Lib.hid (newE_mod HL.out hE (fun _ _ => id))
   replace HV := Lib.hid (newV_mod HV.out hE (fun _ _ => id))
   replace HE3 := Lib.hid (HE3.out.ext hE)
   replace HX := Lib.hid (HX.out.ext hE)
   rw [Hck.out]
   clear hE
   go_wp2
   go_meet
   exact ⟨rfl, HE3.out⟩
  ·
   have Hck : Hid (checkE h = 0) := Lib.hid (by unfold checkE; rw [hb]; rfl)
   have Hhb := Lib.hid hb
   clear hb
   go_wp2_with fail
   refine (h_check w3 _ _ h HV.out.evs).mono ?_
   rintro e w4 ⟨rfl, hE⟩
   replace HC := Lib.hid (HC.out.ext hE)
   replace HW := Lib.hid (HW.out.ext hE)
   replace HL := Lib.hid (newE_mod HL.out hE (fun _ _ => id))
   replace HV := Lib.hid (newV_mod HV.out hE (fun _ _ => id))
   replace HE3 := Lib.hid (HE3.out.ext hE)
   replace HX := Lib.hid (HX.out.ext hE)
   rw [Hck.out]
   clear hE
   go_wp2_with fail
   refine (r25_history w4 _ _ h HW.out).mono ?_
   rintro e w5 ⟨rfl, hE⟩
   replace HC := Lib.hid (HC.out.ext hE)
   replace HW := Lib.hid (HW.out.ext hE)
   replace HL := Lib.hid (newE_mod HL.out hE (fun _ _ => id))
   replace HV := Lib.hid (newV_mod HV.out hE (fun _ _ => id))
   replace HE3 := Lib.hid (HE3.out.ext hE)
   replace HX := Lib.hid (HX.out.ext hE)
   rw [Hhb.out]
   clear hE
   go_wp2_with fail
   refine (h_check w5 _ _ h HV.out.evs).mono ?_
   rintro e w6 ⟨rfl, hE⟩
   replace HC := Lib.hid (HC.out.ext hE)
   replace HW := Lib.hid (HW.out.ext hE)
   replace HL := Lib.hid (newE_mod HL.out hE (fun _ _ => id))
   replace HV := Lib.hid (newV_mod HV.out hE (fun _ _ => id))
   replace HE3 := Lib.hid (HE3.out.ext hE)
   replace HX := Lib.hid (HX.out.ext hE)
   rw [Hck.out]
   clear hE
   go_wp2
   go_meet
   exact ⟨rfl, HE3.out⟩
 obtain ⟨rfl, hE⟩ := hcut
 obtain ⟨w4, rfl⟩ : ∃ w4 : World, w4 = wc := ⟨_, rfl⟩
 replace HC := Lib.hid (HC.out.ext hE)
 replace HW := Lib.hid (HW.out.ext hE)
 replace HL := Lib.hid (newE_mod HL.out hE (fun _ _ => id))
 replace HV := Lib.hid (newV_mod HV.out hE (fun _ _ => id))
 replace HX := Lib.hid (HX.out.ext hE)
 clear hE
 go_wp2_with fail
 have HXo := HX
 refine (h_at w4 _ _ l nn HL.out.ents H64.out).mono ?_
 rintro e w5 ⟨p3, v3, rfl, hN3, hE⟩
 replace HC := Lib.hid (HC.out.ext hE)
 replace HW := Lib.hid (HW.out.ext hE)
 replace HL := Lib.hid (newE_mod HL.out hE (fun _ _ => id))
 replace HV := Lib.hid (newV_mod HV.out hE (fun _ _ => id))
 replace HX := Lib.hid (HX.out.ext hE)
 obtain ⟨A3, c3, rfl⟩ := own_form hN3.1.1
 obtain ⟨B3, d3, rfl⟩ := own_form hN3.2.1.1
 obtain ⟨m, hm⟩ : ∃ m, atP l nn = m := ⟨_, rfl⟩
 rw [hm] at hN3 ⊢
 have Hm := Lib.hid hm
 have hlo : w4.heap.size ≤ w5.heap.size := hE.size
 have Hfar : Hid (∀ g, ((Value.slice A3 m.pairs.length c3).ownBlock = some g ∨ (Value.slice B3 m.sess.length d3).ownBlock = some g) → w.heap.size ≤ g) := Lib.hid (fun g hg => by
  have := HXo.out.size
  rcases hg with e | e
  ·
   have := hN3.1.2.2 g e; omega
  ·
   have := hN3.2.1.2.2 g e; omega)
 have HM := Lib.hid (newM_up hN3 HXo.out.size)
 clear hN3 hm hlo HXo
 clear hE
 go_wp2_with fail
 obtain ⟨w6, hw6⟩ : ∃ w6, w6 = w5.alloc (.cells #[.slice A3 m.pairs.length c3, .slice B3 m.sess.length d3] 33) := ⟨_, rfl⟩
 obtain ⟨bm, hbm⟩ : ∃ bm, bm = w5.heap.size := ⟨_, rfl⟩
 have hzz : w5.heap.size = bm := hbm.symm
 have hE : Ext w5 w6 := by rw [hw6]; exact (Mod.refl _ w5).alloc _
 have hKn : w6.heap[bm]? = some (.cells #[.slice A3 m.pairs.length c3, .slice B3 m.sess.length d3] 33 (0, 0)) := by rw [hw6, ← hzz]; exact heap_alloc_new w5 _
 have hzn : w6.heap.size = bm + 1 := by rw [hw6, ← hzz]; simp
 rw [← hw6, ← hbm]
 have HXo := HX
 replace HC := Lib.hid (HC.out.ext hE)
 replace HW := Lib.hid (HW.out.ext hE)
 replace HL := Lib.hid (newE_mod HL.out hE (fun _ _ => id))
 replace HV := Lib.hid (newV_mod HV.out hE (fun _ _ => id))
 replace HM := Lib.hid (newM_mod HM.out hE (fun _ _ => id) (fun _ _ => id))
 replace HX := Lib.hid (HX.out.ext hE)
 have Kmw6 := Lib.hid hKn
 have hbz : w.heap.size ≤ bm := by have := HXo.out.size; omega
 clear hKn hE hw6 hbm HXo hzz
 have hbm := hbz
 clear hbz
 clear hzn
 have m_0 : w6.cell? ⟨bm, 0, none⟩ = some _ := blk_cell Kmw6.out rfl
 have m_1 : w6.cell? ⟨bm, 1, none⟩ = some _ := blk_cell Kmw6.out rfl
 have m_l : bm < w6.heap.size := (Array.getElem?_eq_some_iff.1 Kmw6.out).1
 refine wp_region_held_drew (S := fun W' => Ext w6 W') (by kernel_rfl) (Mod.refl _ w6).drew (fun hS => ?_)
 refine tkE 0 (some 37) rfl rfl ?_ hS ?_ ?_; rotate_left; · rintro W' _ _; go_simp; try with_reducible rfl
 try simp only [pL]
 refine tkE 1 (some 38) rfl rfl ?_ hS ?_ ?_; rotate_left; · rintro W' _ _; go_simp; try with_reducible rfl
 try simp only [pL]
 refine tkE 2 (some 39) rfl rfl ?_ hS ?_ ?_; rotate_left; · rintro W' _ _; go_simp; try with_reducible rfl
 try simp only [pL]
 refine wpAnyH_ready (rs := [3]) (by kernel_rfl) (by simp) ?_
 refine AllReadyH.cons rfl (fun K hK => ?_) AllReadyH.nil
 go_simp
 go_wp2_with fail
 refine (r25_at _ _ _ l nn (HC.out.ext hS) H64.out).mono ?_
 rintro e w7 ⟨p4, v4, rfl, hN4, hE⟩
 rw [Hm.out] at hN4
 have HN4 := Lib.hid hN4
 clear hN4
 have hX := Mod.ext hS hE
 clear hE hS
 go_simp
 refine hK.out _ _ hX (fun hS => ?_)
 clear hK K hX
 refine wpAnyH_ready (rs := [4]) (by kernel_rfl) (by simp) ?_
 refine AllReadyH.cons rfl (fun K hK => ?_) AllReadyH.nil
 go_simp
 go_wp2_with fail
 refine (k_machine _ _ _ _ _ _ _ _ _ m.pairs m.pairs m.sess m.sess (HM.out.prs.ext hS) HN4.out.prs (HM.out.ses.ext hS) HN4.out.ses).mono ?_
 rintro e w8 ⟨rfl, hE⟩
 rw [show eqM ⟨m.pairs, m.sess⟩ ⟨m.pairs, m.sess⟩ = true from eqM_refl _]
 have hX := Mod.ext hS hE
 clear hE hS
 go_simp
 refine hK.out _ _ hX (fun hS => ?_)
 clear hK K hX
 refine tkE 5 (some 42) rfl rfl ?_ hS ?_ ?_; rotate_left; · rintro W' _ _; go_simp; try with_reducible rfl
 try simp only [pL]
 refine wpAnyH_done (by kernel_rfl) ?_ _
 have hE := hS
 clear hS
 clear m_0 m_1 m_l
 have Kmw8 := Lib.hid (hE.blk Kmw6.out id)
 replace HC := Lib.hid (HC.out.ext hE)
 replace HW := Lib.hid (HW.out.ext hE)
 replace HL := Lib.hid (newE_mod HL.out hE (fun _ _ => id))
 replace HV := Lib.hid (newV_mod HV.out hE (fun _ _ => id))
 replace HM := Lib.hid (newM_mod HM.out hE (fun _ _ => id) (fun _ _ => id))
 replace HX := Lib.hid (HX.out.ext hE)
 clear Kmw6
 clear hE
 have m_0 : w8.cell? ⟨bm, 0, none⟩ = some _ := blk_cell Kmw8.out rfl
 have m_1 : w8.cell? ⟨bm, 1, none⟩ = some _ := blk_cell Kmw8.out rfl
 have m_l : bm < w8.heap.size := (Array.getElem?_eq_some_iff.1 Kmw8.out).1
 go_wp2_with fail
 clear m_0 m_1 m_l
 refine (k_spoilM w w8 _ _ m HM.out).mono ?_
 rintro e w9 ⟨rfl, hM⟩
 replace HC := Lib.hid (HC.out.mod hM (fun g hg e => by have := Hfar.out g e; omega))
 replace HW := Lib.hid (HW.out.mod hM (fun g hg e => by have := Hfar.out g e; omega))
 replace HL := Lib.hid (newE_mod HL.out hM (fun g e1 e2 => by rcases e2 with e2 | e2; { exact own_own HL.out.1 HM.out.1.1 (by decide) e1 e2 }; { exact own_own HL.out.1 HM.out.2.1.1 (by decide) e1 e2 }))
 replace HV := Lib.hid (newV_mod HV.out hM (fun g e1 e2 => by rcases e2 with e2 | e2; { exact own_own HV.out.1 HM.out.1.1 (by decide) e1 e2 }; { exact own_own HV.out.1 HM.out.2.1.1 (by decide) e1 e2 }))
 replace HX : Hid (Ext w w9) := Lib.hid (Mod.toExt ((Ext.mod HX.out (Since w.heap.size)).trans hM (fun g _ e => Hfar.out g e)))
 clear hM HM Kmw8
 go_wp2_with fail
 go_loopw [10] (fun iv wr => ∃ i : Nat, i ≤ N ∧ iv = .int .i64 i ∧ Ext w wr ∧ NewE w wr (.slice A1 n c1) l ∧ NewV w wr (.slice B1 N d1) h) (fun iv _ => N - (intOf iv).toNat)
 case atStart => exact ⟨0, by omega, rfl, HX.out, HL.out, HV.out⟩
 case round =>
  obtain ⟨i, hin, rfl, hX, hL, hV⟩ := hrel
  clear HX HL HV HC HW
  have HX := Lib.hid hX
  have HL := Lib.hid hL
  have HV := Lib.hid hV
  have HC := Lib.hid (HC0.out.ext hX)
  have HW := Lib.hid (HW0.out.ext hX)
  clear hX hL hV
  by_cases hi : i < N
  case pos =>
   obtain ⟨g, off, x, rfl, hgT, hx, hxok, hcells⟩ := HW.out.at hi
   have hi0 : (0 : Int) ≤ (i : Int) := by omega
   have hi1 : (i : Int) < (N : Int) := by omega
   have Hxok := Lib.hid hxok
   have x1 : wr.cell? ⟨g, off + i * 16 + 1, none⟩ = some _ := hcells 1 _ rfl
   have x2 : wr.cell? ⟨g, off + i * 16 + 1 + 1, none⟩ = some _ := hcells 2 _ rfl
   have x3 : wr.cell? ⟨g, off + i * 16 + 1 + 2, none⟩ = some _ := hcells 3 _ rfl
   have x4 : wr.cell? ⟨g, off + i * 16 + 1 + 3, none⟩ = some _ := hcells 4 _ rfl
   have x5 : wr.cell? ⟨g, off + i * 16 + 1 + 4, none⟩ = some _ := hcells 5 _ rfl
   have x6 : wr.cell? ⟨g, off + i * 16 + 1 + 5, none⟩ = some _ := hcells 6 _ rfl
   have x7 : wr.cell? ⟨g, off + i * 16 + 1 + 6, none⟩ = some _ := hcells 7 _ rfl
   have x8 : wr.cell? ⟨g, off + i * 16 + 1 + 7, none⟩ = some _ := hcells 8 _ rfl
   have x9 : wr.cell? ⟨g, off + i * 16 + 1 + 8, none⟩ = some _ := hcells 9 _ rfl
   have x10 : wr.cell? ⟨g, off + i * 16 + 1 + 9, none⟩ = some _ := hcells 10 _ rfl
   have x11 : wr.cell? ⟨g, off + i * 16 + 1 + 10, none⟩ = some _ := hcells 11 _ rfl
   have x12 : wr.cell? ⟨g, off + i * 16 + 1 + 11, none⟩ = some _ := hcells 12 _ rfl
   have x13 : wr.cell? ⟨g, off + i * 16 + 1 + 12, none⟩ = some _ := hcells 13 _ rfl
   have x14 : wr.cell? ⟨g, off + i * 16 + 1 + 13, none⟩ = some _ := hcells 14 _ rfl
   have x15 : wr.cell? ⟨g, off + i * 16 + 1 + 14, none⟩ = some _ := hcells 15 _ rfl
   have gl : g < wr.heap.size := World.block_lt_of_cell? _ _ x1
   obtain ⟨p, hp⟩ : ∃ p, placeH l x.told.call = p := ⟨_, rfl⟩
   obtain ⟨bt, hbt⟩ : ∃ bt, toldP l x.told = bt := ⟨_, rfl⟩
   have dp : ((p : Int) != (p : Int)) = false := by simp
   have dp2 : (p != p) = false := by simp
   have dt : (bt != bt) = false := by cases bt <;> rfl
   have Hp := Lib.hid hp
   have Hbt := Lib.hid hbt
   clear hcells hx hxok hgT hp hbt
   go_wp2_with fail
   refine wp_region_held_drew (S := fun W' => Ext wr W') (by kernel_rfl) (Mod.refl _ wr).drew (fun hS => ?_)
   refine tkE 0 (some 51) rfl rfl ?_ hS ?_ ?_; rotate_left; · rintro W' _ _; go_simp; try with_reducible rfl
   try simp only [pL]
   refine tkE 1 (some 52) rfl rfl ?_ hS ?_ ?_; rotate_left; · rintro W' _ _; go_simp; try with_reducible rfl
   try simp only [pL]
   refine tkE 2 (some 53) rfl rfl ?_ hS ?_ ?_; rotate_left; · rintro W' _ _; go_simp; try with_reducible rfl
   try simp only [pL]
   refine tkE 3 (some 54) rfl rfl ?_ hS ?_ ?_; rotate_left; · rintro W' _ _; go_simp; try with_reducible rfl
   try simp only [pL]
   refine tkE 4 (some 55) rfl rfl ?_ hS ?_ ?_; rotate_left; · rintro W' _ _; go_simp; try with_reducible rfl
   try simp only [pL]
   refine tkE 5 (some 56) rfl rfl ?_ hS ?_ ?_; rotate_left; · rintro W' _ _; go_simp; try with_reducible rfl
   try simp only [pL]
   refine tkE 6 (some 57) rfl rfl ?_ hS ?_ ?_; rotate_left; · rintro W' _ _; go_simp; try with_reducible rfl
   try simp only [pL]
   refine tkE 8 (some 59) rfl rfl ?_ hS ?_ ?_; rotate_left; · rintro W' _ _; go_simp; try with_reducible rfl
   try simp only [pL]
   refine tkE 9 (some 60) rfl rfl ?_ hS ?_ ?_; rotate_left; · rintro W' _ _; go_simp; try with_reducible rfl
   try simp only [pL]
   refine tkE 10 (some 61) rfl rfl ?_ hS ?_ ?_; rotate_left; · rintro W' _ _; go_simp; try with_reducible rfl
   try simp only [pL]
   refine tkE 11 (some 62) rfl rfl ?_ hS ?_ ?_; rotate_left; · rintro W' _ _; go_simp; try with_reducible rfl
   try simp only [pL]
   refine tkE 12 (some 63) rfl rfl ?_ hS ?_ ?_; rotate_left; · rintro W' _ _; go_simp; try with_reducible rfl
   try simp only [pL]
   refine tkE 13 (some 64) rfl rfl ?_ hS ?_ ?_; rotate_left; · rintro W' _ _; go_simp; try with_reducible rfl
   try simp only [pL]
   refine tkE 14 (some 65) rfl rfl ?_ hS ?_ ?_; rotate_left; · rintro W' _ _; go_simp; try with_reducible rfl
   try simp only [pL]
   refine wpAnyH_ready (rs := [7]) (by kernel_rfl) (by simp) ?_
   refine AllReadyH.cons rfl (fun K hK => ?_) AllReadyH.nil
   go_simp
   go_wp2_with fail
   refine (h_place _ _ _ l x.told.call (HL.out.ents.ext hS)).mono ?_
   rintro e w10 ⟨rfl, hE⟩
   rw [Hp.out]
   have hX := Mod.ext hS hE
   clear hE hS
   go_simp
   refine hK.out _ _ hX (fun hS => ?_)
   clear hK K hX
   refine wpAnyH_ready (rs := [15]) (by kernel_rfl) (by simp) ?_
   refine AllReadyH.cons rfl (fun K hK => ?_) AllReadyH.nil
   go_simp
   go_wp2_with fail
   refine (r25_place _ _ _ l x.told.call (HC.out.ext hS)).mono ?_
   rintro e w11 ⟨rfl, hE⟩
   rw [Hp.out]
   have hX := Mod.ext hS hE
   clear hE hS
   go_simp
   refine hK.out _ _ hX (fun hS => ?_)
   clear hK K hX
   refine tkE 16 (some 67) rfl rfl ?_ hS ?_ ?_; rotate_left; · rintro W' _ _; go_simp; try with_reducible rfl
   try simp only [pL]
   refine tkE 17 (some 68) rfl rfl ?_ hS ?_ ?_; rotate_left; · rintro W' _ _; go_simp; try with_reducible rfl
   try simp only [pL]
   refine tkE 18 (some 69) rfl rfl ?_ hS ?_ ?_; rotate_left; · rintro W' _ _; go_simp; try with_reducible rfl
   try simp only [pL]
   refine tkE 19 (some 70) rfl rfl ?_ hS ?_ ?_; rotate_left; · rintro W' _ _; go_simp; try with_reducible rfl
   try simp only [pL]
   refine tkE 20 (some 71) rfl rfl ?_ hS ?_ ?_; rotate_left; · rintro W' _ _; go_simp; try with_reducible rfl
   try simp only [pL]
   refine tkE 21 (some 72) rfl rfl ?_ hS ?_ ?_; rotate_left; · rintro W' _ _; go_simp; try with_reducible rfl
   try simp only [pL]
   refine tkE 22 (some 73) rfl rfl ?_ hS ?_ ?_; rotate_left; · rintro W' _ _; go_simp; try with_reducible rfl
   try simp only [pL]
   refine tkE 23 (some 74) rfl rfl ?_ hS ?_ ?_; rotate_left; · rintro W' _ _; go_simp; try with_reducible rfl
   try simp only [pL]
   refine tkE 25 (some 76) rfl rfl ?_ hS ?_ ?_; rotate_left; · rintro W' _ _; go_simp; try with_reducible rfl
   try simp only [pL]
   refine tkE 26 (some 77) rfl rfl ?_ hS ?_ ?_; rotate_left; · rintro W' _ _; go_simp; try with_reducible rfl
   try simp only [pL]
   refine tkE 27 (some 78) rfl rfl ?_ hS ?_ ?_; rotate_left; · rintro W' _ _; go_simp; try with_reducible rfl
   try simp only [pL]
   refine tkE 28 (some 79) rfl rfl ?_ hS ?_ ?_; rotate_left; · rintro W' _ _; go_simp; try with_reducible rfl
   try simp only [pL]
   refine tkE 29 (some 80) rfl rfl ?_ hS ?_ ?_; rotate_left; · rintro W' _ _; go_simp; try with_reducible rfl
   try simp only [pL]
   refine tkE 30 (some 81) rfl rfl ?_ hS ?_ ?_; rotate_left; · rintro W' _ _; go_simp; try with_reducible rfl
   try simp only [pL]
   refine wpAnyH_ready (rs := [24]) (by kernel_rfl) (by simp) ?_
   refine AllReadyH.cons rfl (fun K hK => ?_) AllReadyH.nil
   go_simp
   go_wp2_with fail
   refine (h_told _ _ _ l x.told (HL.out.ents.ext hS) Hxok.out).mono ?_
   rintro e w12 ⟨rfl, hE⟩
   rw [Hbt.out]
   have hX := Mod.ext hS hE
   clear hE hS
   go_simp
   refine hK.out _ _ hX (fun hS => ?_)
   clear hK K hX
   refine wpAnyH_ready (rs := [31]) (by kernel_rfl) (by simp) ?_
   refine AllReadyH.cons rfl (fun K hK => ?_) AllReadyH.nil
   go_simp
   go_wp2_with fail
   refine (r25_told _ _ _ l x.told (HC.out.ext hS) Hxok.out).mono ?_
   rintro e w13 ⟨rfl, hE⟩
   rw [Hbt.out]
   have hX := Mod.ext hS hE
   clear hE hS
   go_simp
   refine hK.out _ _ hX (fun hS => ?_)
   clear hK K hX
   refine tkE 32 (some 83) rfl rfl ?_ hS ?_ ?_; rotate_left; · rintro W' _ _; go_simp; try with_reducible rfl
   try simp only [pL]
   refine tkE 33 (some 84) rfl rfl ?_ hS ?_ ?_; rotate_left; · rintro W' _ _; go_simp; try with_reducible rfl
   try simp only [pL]
   refine wpAnyH_done (by kernel_rfl) ?_ _
   have hE := hS
   clear hS
   replace HC := Lib.hid (HC.out.ext hE)
   replace HW := Lib.hid (HW.out.ext hE)
   replace HL := Lib.hid (newE_mod HL.out hE (fun _ _ => id))
   replace HV := Lib.hid (newV_mod HV.out hE (fun _ _ => id))
   replace HX := Lib.hid (HX.out.ext hE)
   clear hE
   clear x1 x2 x3 x4 x5 x6 x7 x8 x9 x10 x11 x12 x13 x14 x15 gl dp dp2 dt
   go_wp2
   exact ⟨⟨i + 1, by omega, by go_num, HX.out, HL.out, HV.out⟩, by simp [intOf]; omega⟩
  obtain ⟨bo, hbo⟩ : ∃ bo, orderB l h = bo := ⟨_, rfl⟩
  have de : (bo == bo) = true := by cases bo <;> rfl
  have Hbo := Lib.hid hbo
  clear hbo
  go_wp2_with fail
  refine (h_order wr _ _ _ _ l h HL.out.ents HV.out.evs).mono ?_
  rintro e w10 ⟨rfl, hE⟩
  replace HC := Lib.hid (HC.out.ext hE)
  replace HW := Lib.hid (HW.out.ext hE)
  replace HL := Lib.hid (newE_mod HL.out hE (fun _ _ => id))
  replace HV := Lib.hid (newV_mod HV.out hE (fun _ _ => id))
  replace HX := Lib.hid (HX.out.ext hE)
  rw [Hbo.out]
  clear hE
  go_wp2_with fail
  refine (r25_order w10 _ _ _ _ l h HC.out HW.out).mono ?_
  rintro e w11 ⟨rfl, hE⟩
  replace HC := Lib.hid (HC.out.ext hE)
  replace HW := Lib.hid (HW.out.ext hE)
  replace HL := Lib.hid (newE_mod HL.out hE (fun _ _ => id))
  replace HV := Lib.hid (newV_mod HV.out hE (fun _ _ => id))
  replace HX := Lib.hid (HX.out.ext hE)
  rw [Hbo.out]
  clear hE
  go_wp2_with fail
  refine (k_entries w11 _ _ _ _ l l HL.out.ents HC.out).mono ?_
  rintro e w12 ⟨rfl, hE⟩
  replace HC := Lib.hid (HC.out.ext hE)
  replace HW := Lib.hid (HW.out.ext hE)
  replace HL := Lib.hid (newE_mod HL.out hE (fun _ _ => id))
  replace HV := Lib.hid (newV_mod HV.out hE (fun _ _ => id))
  replace HX := Lib.hid (HX.out.ext hE)
  rw [eqEnts_same]
  clear hE
  go_wp2_with fail
  refine (k_events_same w12 _ _ _ _ h HV.out.evs HW.out).mono ?_
  rintro e w13 ⟨rfl, hE⟩
  replace HC := Lib.hid (HC.out.ext hE)
  replace HW := Lib.hid (HW.out.ext hE)
  replace HL := Lib.hid (newE_mod HL.out hE (fun _ _ => id))
  replace HV := Lib.hid (newV_mod HV.out hE (fun _ _ => id))
  replace HX := Lib.hid (HX.out.ext hE)
  clear hE
  go_wp2_with fail
  refine (l_wakes25 w13).mono ?_
  rintro e w14 ⟨rfl, hE⟩
  replace HC := Lib.hid (HC.out.ext hE)
  replace HW := Lib.hid (HW.out.ext hE)
  replace HL := Lib.hid (newE_mod HL.out hE (fun _ _ => id))
  replace HV := Lib.hid (newV_mod HV.out hE (fun _ _ => id))
  replace HX := Lib.hid (HX.out.ext hE)
  clear hE
  go_wp2
  go_ret
  exact ⟨rfl, Ext.below HX.out⟩
theorem histExact_a (w : World) (v0 v1 : Value) (l : List AEntry) (h : List AEvent) (nn : Int) (hC : Ents w (fun g => g < w.heap.size) v0 l) (hV : Evs w (fun g => g < w.heap.size) v1 h) (h64 : I64 nn) :
  Calls Tryz.prog 3 #[v0, v1, .int .i64 nn] w fun e w' => e = .returned (.bool true) ∧ Below w.heap.size w w' := by
 obtain ⟨A, cc, rfl⟩ := hC.form
 obtain ⟨B, cb, rfl⟩ := hV.form
 exact histExact_walk w A B _ cc _ cb l h hC rfl hV rfl nn h64
end Go.Proofs.YtbclnghbgoblcaaGreat
