/-
  The contract of the page's Decode. Conditions: as each theorem names them.
-/
import Derived.Test.YtplpegjnmlabkaaRefVal
import Derived.Test.YtplpegjnmlabkaaSesDec
import Derived.Test.YtplpegjnmlabkaaGOpen
import Derived.Deep.DeepCutAuto
import Derived.Deep.CutBlock
namespace Go.Proofs.Ytplpegjnmlabkaa
set_option linter.unusedSimpArgs false
open Go.RowKit

theorem rp_e {w : World} {T : Nat → Prop} {b : Nat} {bs : List UInt8} {r : RS} (h : RpX w T b bs r) : w.cell? ⟨b, 2, none⟩ = some (.int .i64 r.e) := by
  obtain ⟨a, v, hb, _⟩ := h
  exact (rp_cells hb).2.2.1
theorem rp_lt {w : World} {T : Nat → Prop} {b : Nat} {bs : List UInt8} {r : RS} (h : RpX w T b bs r) : b < w.heap.size := by
  obtain ⟨a, v, hb, _⟩ := h
  exact (Array.getElem?_eq_some_iff.1 hb).1
theorem ext_new {w a b : World} {S : Nat → Prop} (h : Ext w a) (hm : Mod S a b) (hS : ∀ k, S k → w.heap.size ≤ k) : Ext w b :=
  Mod.toExt ((Ext.mod h (Since w.heap.size)).trans hm (fun k _ e => hS k e))
theorem rdPsP_stop {n : Nat} {r : RS} (h : n = 0 ∨ r.e ≠ 0) : rdPsP n r = ([], r) := by
  cases n with
  | zero => rfl
  | succ n => rw [rdPsP, if_pos (by rcases h with h | h; omega; exact h)]
theorem rdPsP_step {n : Nat} {r : RS} (h : r.e = 0) : rdPsP (n + 1) r = (⟨textB r.text.1, r.text.2.valP.1⟩ :: (rdPsP n r.text.2.valP.2).1, (rdPsP n r.text.2.valP.2).2) := by
  rw [rdPsP, if_neg (by simpa using h)]
theorem rdSsP_stop {n : Nat} {r : RS} (h : n = 0 ∨ r.e ≠ 0) : rdSsP n r = ([], r) := by
  cases n with
  | zero => rfl
  | succ n => rw [rdSsP, if_pos (by rcases h with h | h; omega; exact h)]
theorem rdSsP_step {n : Nat} {r : RS} (h : r.e = 0) : rdSsP (n + 1) r = (r.sessP.1 :: (rdSsP n r.sessP.2).1, (rdSsP n r.sessP.2).2) := by
  rw [rdSsP, if_neg (by simpa using h)]
def DecPOut (w : World) (bs : List UInt8) (e : Ending) (w' : World) : Prop :=
  ∃ pv v, e = .returned (.tuple #[.agg #[pv, v], .bool (decP bs).isSome]) ∧ NewM w w' pv v ((decP bs).getD ⟨[], []⟩) ∧ Ext w w'
def DP1 (w wx : World) (T : Nat → Prop) (bs : List UInt8) (q0 i : Nat) (VA : Option Addr) (vc : Nat) (os : List APair) (r : RS) : Prop :=
  RpX wx T (q0 + 1) bs r ∧ wx.heap[q0]? = some (.cells #[.slice none 0 0, .slice none 0 0] 25 (0, 0)) ∧ wx.heap[q0 + 2]? = some (.cells #[.slice VA i vc, .slice none 0 0] 25 (0, 0)) ∧ os.length = i ∧ wx.ownsRow 0 87 4 (.slice VA i vc) i (os.flatMap APair.cells) ∧ (∀ g, (Value.slice VA i vc).ownBlock = some g → q0 + 3 ≤ g) ∧ (∀ x ∈ os, x.ok) ∧ Ext w wx
def DP2 (w w3 wx : World) (T : Nat → Prop) (bs : List UInt8) (q0 m : Nat) (VA : Option Addr) (vc : Nat) (os : List APair) (i : Nat) (VB : Option Addr) (vd : Nat) (ss : List ASess) (r : RS) : Prop :=
  RpX wx T (q0 + 1) bs r ∧ wx.heap[q0]? = some (.cells #[.slice none 0 0, .slice none 0 0] 25 (0, 0)) ∧ wx.heap[q0 + 2]? = some (.cells #[.slice VA m vc, .slice VB i vd] 25 (0, 0)) ∧ wx.ownsRow 0 87 4 (.slice VA m vc) m (os.flatMap APair.cells) ∧ ss.length = i ∧ wx.ownsRow 0 72 6 (.slice VB i vd) i (flS ss) ∧ (∀ g, (Value.slice VB i vd).ownBlock = some g → w3.heap.size ≤ g) ∧ (∀ x ∈ ss, x.ok) ∧ Ext w wx ∧ w3.heap.size ≤ wx.heap.size

set_option maxRecDepth 100000 in
set_option maxHeartbeats 4000000 in
theorem r5_dec (w : World) (T : Nat → Prop) (v : Value) (bs : List UInt8) (h : Byt w T v bs) (hT : ∀ g, T g → g < w.heap.size) :
    Calls Try.prog 32 #[v] w (DecPOut w bs) := by
  obtain ⟨i0, hi, hz0, hz1, hz2⟩ := info_parts info_pair
  obtain ⟨j0, hj, hj0, hj1, hj2⟩ := info_parts info_sess
  obtain ⟨AA, cc, rfl⟩ := h.form
  obtain ⟨q0, hq0⟩ : ∃ q0, w.heap.size = q0 := ⟨_, rfl⟩
  obtain ⟨W, hW⟩ : ∃ W, W = ((w.alloc (.cells #[.slice none 0 0, .slice none 0 0] 25)).alloc (.cells #[.slice AA bs.length cc, .int .i64 0, .int .i64 0] 105)).alloc (.cells #[.slice none 0 0, .slice none 0 0] 25) := ⟨_, rfl⟩
  have hE : Ext w W := by rw [hW]; exact (((Mod.refl _ w).alloc _).alloc _).alloc _
  obtain ⟨hA, hB, hsz⟩ := two_new w (.cells #[.slice none 0 0, .slice none 0 0] 25) (.cells #[.slice AA bs.length cc, .int .i64 0, .int .i64 0] 105)
  rw [hq0] at hA hB hsz
  replace hA : W.heap[q0]? = some (.cells #[.slice none 0 0, .slice none 0 0] 25 (0, 0)) := by rw [hW, Below.heap_alloc _ _ _ (by omega)]; exact hA
  replace hB : W.heap[q0 + 1]? = some (.cells #[.slice AA bs.length cc, .int .i64 ((0 : Nat) : Int), .int .i64 0] 105 (0, 0)) := by rw [hW, Below.heap_alloc _ _ _ (by omega)]; exact hB
  have hC : W.heap[q0 + 2]? = some (.cells #[.slice none 0 0, .slice none 0 0] 25 (0, 0)) := by rw [hW, ← hsz]; exact heap_alloc_new _ _
  have hR : RpX W T (q0 + 1) bs ⟨bs, 0⟩ := ⟨0, .slice AA bs.length cc, hB, h.ext hE, fun e => by have := hT _ e; omega, Nat.zero_le _, rfl⟩
  have HW := Lib.hid hW
  have Hq0 := Lib.hid hq0
  have HA := Lib.hid hA
  have HC := Lib.hid hC
  have hTq : ∀ g, T g → g < q0 := fun g hg => by have := hT g hg; omega
  have HT := Lib.hid hTq
  clear hW hq0 hA hB hC hsz hT hTq h
  go_enter Try.func32, Try.ntmps32
  go_wp2_with fail
  rw [← HW.out, Hq0.out]
  refine (p_int W T (q0 + 1) bs _ hR).mono ?_
  rintro e w2 ⟨rfl, hR2, hm2⟩
  obtain ⟨n0, hn0⟩ : ∃ n0, (RS.int ⟨bs, 0⟩).1 = n0 := ⟨_, rfl⟩
  obtain ⟨r1, hr1⟩ : ∃ r1, (RS.int ⟨bs, 0⟩).2 = r1 := ⟨_, rfl⟩
  rw [hn0]
  rw [hr1] at hR2
  have hA2 := hm2.blk HA.out (by omega)
  have hC2 := hm2.blk HC.out (by omega)
  have hX2 : Ext w w2 := ext_new hE hm2 (fun k e => by have := Hq0.out; omega)
  have Hn0 := Lib.hid hn0
  have Hr1 := Lib.hid hr1
  have HA2 := Lib.hid hA2
  have HC2 := Lib.hid hC2
  have HX2 := Lib.hid hX2
  have HR2 := Lib.hid hR2
  clear hn0 hr1 hA2 hC2 hX2 hR2 hm2 hR hE
  by_cases hneg : n0 < 0
  · have d1 : decide (n0 < 0) = true := by simp [hneg]
    have Hneg := Lib.hid hneg
    clear hneg
    have c0 : w2.cell? ⟨q0, 0, none⟩ = some _ := blk_cell HA2.out rfl
    have c1 : w2.cell? ⟨q0, 1, none⟩ = some _ := blk_cell HA2.out rfl
    have f0 : w2.frozen? ⟨q0, 0, none⟩ = false := blk_free 0 HA2.out
    have f1 : w2.frozen? ⟨q0, 1, none⟩ = false := blk_free 1 HA2.out
    have HXb := Lib.hid (HX2.out)
    have Hnone : Hid (decP bs = none) := Lib.hid (by unfold decP; rw [Hn0.out, if_pos (.inl Hneg.out)])
    go_wp2
    refine bodyPost_ret (v := .tuple #[.agg #[.slice none 0 0, .slice none 0 0], .bool false]) (by simp [results, Try.results32, go_sem, c0, c1]) rfl ⟨_, _, by rw [Hnone.out]; rfl, by rw [Hnone.out]; exact newM_nil _ _, ?_⟩
    exact ext_new HXb.out (mod_same (mod_same (Mod.refl _ _) _ _) _ _) (fun k e => by rw [e, ← Hq0.out]; exact Nat.le_refl _)
  have d1 : decide (n0 < 0) = false := by simp; omega
  by_cases hbig : 32 < n0
  · have d2 : decide (n0 > 32) = true := by simp; omega
    have Hbig := Lib.hid hbig
    clear hbig hneg
    have c0 : w2.cell? ⟨q0, 0, none⟩ = some _ := blk_cell HA2.out rfl
    have c1 : w2.cell? ⟨q0, 1, none⟩ = some _ := blk_cell HA2.out rfl
    have f0 : w2.frozen? ⟨q0, 0, none⟩ = false := blk_free 0 HA2.out
    have f1 : w2.frozen? ⟨q0, 1, none⟩ = false := blk_free 1 HA2.out
    have HXb := Lib.hid (HX2.out)
    have Hnone : Hid (decP bs = none) := Lib.hid (by unfold decP; rw [Hn0.out, if_pos (.inr Hbig.out)])
    go_wp2
    refine bodyPost_ret (v := .tuple #[.agg #[.slice none 0 0, .slice none 0 0], .bool false]) (by simp [results, Try.results32, go_sem, c0, c1]) rfl ⟨_, _, by rw [Hnone.out]; rfl, by rw [Hnone.out]; exact newM_nil _ _, ?_⟩
    exact ext_new HXb.out (mod_same (mod_same (Mod.refl _ _) _ _) _ _) (fun k e => by rw [e, ← Hq0.out]; exact Nat.le_refl _)
  have d2 : decide (n0 > 32) = false := by simp; omega
  obtain ⟨N, rfl⟩ := Int.eq_ofNat_of_zero_le (show 0 ≤ n0 by omega)
  have hN32 : N ≤ 32 := by omega
  clear hneg hbig d1 d2
  have d1 : decide ((N : Int) < 0) = false := by simp
  have d2 : decide ((N : Int) > 32) = false := by simp; omega
  have hl2 : q0 + 2 < w2.heap.size := (Array.getElem?_eq_some_iff.1 HC2.out).1
  go_upto_block 0 with fail
  go_cut [7] (fun s7 wx => ∃ (i : Nat) (VA : Option Addr) (vc : Nat) (os : List APair) (r : RS), i ≤ N ∧ DP1 w wx T bs q0 i VA vc os r ∧ rdPsP N r1 = (os, r) ∧ w2.heap.size ≤ wx.heap.size)
  case first =>
    go_wp2
    go_loopw [7] (fun iv wr => ∃ (i : Nat) (VA : Option Addr) (vc : Nat) (os : List APair) (r : RS), iv = .int .i64 i ∧ i ≤ N ∧ DP1 w wr T bs q0 i VA vc os r ∧ rdPsP N r1 = (os ++ (rdPsP (N - i) r).1, (rdPsP (N - i) r).2) ∧ w2.heap.size ≤ wr.heap.size) (fun iv _ => N - (intOf iv).toNat)
    case atStart => exact ⟨0, none, 0, [], r1, rfl, by omega, ⟨HR2.out, HA2.out, HC2.out, rfl, World.ownsRow_nil _ _ _ _, by simp [Value.ownBlock], by simp, HX2.out⟩, by simp, Nat.le_refl _⟩
    case round =>
      obtain ⟨i, VA, vc, os, r, rfl, hiN, hD, hps, hsz⟩ := hrel
      have HD := Lib.hid hD
      have Hps := Lib.hid hps
      have c2 := rp_e hD.1
      clear hD hps
      by_cases hin : i < N
      case neg =>
        obtain rfl : i = N := by omega
        have hfin : rdPsP (i - i) r = ([], r) := rdPsP_stop (.inl (by omega))
        have Hfin := Lib.hid hfin
        have dn : decide ((i : Int) < (i : Int)) = false := by simp
        clear hfin
        go_wp2_with fail
        go_meet
        exact ⟨i, VA, vc, os, r, hiN, HD.out, by rw [Hps.out, Hfin.out]; simp, hsz⟩
      by_cases he : r.e = 0
      case neg =>
        have de : (r.e == 0) = false := by simp [he]
        have Hfin := Lib.hid (rdPsP_stop (n := N - i) (.inr he))
        clear he
        go_wp2_with fail
        go_meet
        exact ⟨i, VA, vc, os, r, hiN, HD.out, by rw [Hps.out, Hfin.out]; simp, hsz⟩
      have de : (r.e == 0) = true := by simp [he]
      have He := Lib.hid he
      clear he
      obtain ⟨hR, hA, hK, hom, hown, hfar, hok, hX⟩ := HD.out
      have Hom := Lib.hid hom
      have Hok := Lib.hid hok
      have Hfar := Lib.hid hfar
      clear hom hok hfar
      go_wp2_with fail
      refine (p_text wr T (q0 + 1) bs r hR).mono ?_
      rintro e wt ⟨vt, rfl, hNB, hRt, hmt⟩
      have hcv := conv_bs hNB.sl
      have hAt := hmt.blk hA (by omega)
      have hKt := hmt.blk hK (by omega)
      have hot := own_mod hown hmt (fun y hy e => by have := Hfar.out y hy; omega)
      have hXt := ext_new hX hmt (fun k e => by have := Hq0.out; omega)
      have hst := hmt.size
      obtain ⟨A5, c5, rfl⟩ := own_form hNB.1
      have HRt := Lib.hid hRt
      have HAt := Lib.hid hAt
      have HKt := Lib.hid hKt
      have Hot := Lib.hid hot
      have HXt := Lib.hid hXt
      clear hNB hRt hAt hKt hot hXt hmt hR hA hK hown hX c2
      go_wp2_with fail
      refine wp_region_held_drew (S := fun _ => True) (by kernel_rfl) trivial (fun hS => ?_)
      obtain ⟨e0, he0⟩ : ∃ e0, e0 = wt.drew := ⟨_, rfl⟩
      have hEd : Ext wt e0 := by rw [he0]; exact (Mod.refl _ _).drew
      rw [← he0]
      clear he0 hcv
      have hRc := HRt.out.mod hEd id (fun _ _ => id)
      have hAc := hEd.blk HAt.out id
      have hKc := hEd.blk HKt.out id
      have hoc := own_mod Hot.out hEd (fun _ _ => id)
      have hXc := HXt.out.ext hEd
      have hsc : w2.heap.size ≤ e0.heap.size := by have := hEd.size; omega
      clear hEd
      refine tkH 0 (some 38) rfl rfl ?_ hS ?_ ?_; rotate_left; · rintro W' _; go_simp; try with_reducible rfl
      try simp only [pL]
      refine tkH 2 (some 40) rfl rfl ?_ hS ?_ ?_; rotate_left; · rintro W' _; go_simp; try with_reducible rfl
      try simp only [pL]
      refine tkH 3 (some 41) rfl rfl ?_ hS ?_ ?_; rotate_left; · rintro W' _; go_simp; try with_reducible rfl
      try simp only [pL]
      refine wpAnyH_ready (rs := [1, 4]) (by kernel_rfl) (by simp) ?_
      refine AllReadyH.cons rfl (fun K_ hK_ => ?_) (AllReadyH.cons rfl (fun K_ hK_ => ?_) AllReadyH.nil)
      · have mc : e0.cell? ⟨q0 + 2, 0, none⟩ = some _ := blk_cell hKc rfl
        go_simp
        refine hK_.out _ _ trivial (fun hS => ?_)
        clear hK_ K_
        try simp only [pL]
        clear mc
        refine wpAnyH_ready (rs := [4]) (by kernel_rfl) (by simp) ?_
        refine AllReadyH.cons rfl (fun K_ hK_ => ?_) AllReadyH.nil
        go_simp
        go_wp2_with fail
        refine (p_value e0 T (q0 + 1) bs r.text.2 hRc (fun g hg => by have := HT.out g hg; omega) (by omega)).mono ?_
        rintro e e2 ⟨rfl, hRt, hmt⟩
        replace hKc := hmt.blk hKc (by omega)
        replace hAc := hmt.blk hAc (by omega)
        replace hoc := own_mod hoc hmt (fun y hy e => by have := Hfar.out y hy; omega)
        replace hXc := ext_new hXc hmt (fun k e => by have := Hq0.out; omega)
        replace hsc : w2.heap.size ≤ e2.heap.size := by have := hmt.size; omega
        clear hRc hmt
        have hRc := hRt
        clear hRt
        go_simp
        refine hK_.out _ _ trivial (fun hS => ?_)
        clear hK_ K_
        try simp only [pL]
        refine tkH 5 (some 43) rfl rfl ?_ hS ?_ ?_; rotate_left; · rintro W' _; go_simp; try with_reducible rfl
        try simp only [pL]
        refine wpAnyH_ready (rs := [6]) (by kernel_rfl) (by simp) ?_
        refine AllReadyH.cons rfl (fun K_ hK_ => ?_) AllReadyH.nil
        go_simp
        obtain ⟨e3, hnw⟩ : ∃ e3, e3 = e2.alloc (.cells #[.string ⟨r.text.1.toArray⟩, .int .i64 r.text.2.valP.1.kind, .float .f64 r.text.2.valP.1.num, .string r.text.2.valP.1.text] 87) := ⟨_, rfl⟩
        have hEa : Ext e2 e3 := by rw [hnw]; exact (Mod.refl _ _).alloc _
        have hsl : Sl e3 (fun y => y = e2.heap.size) 4 (.slice (some ⟨e2.heap.size, 0, none⟩) 1 1) 1 (⟨textB r.text.1, r.text.2.valP.1⟩ : APair).cells := by rw [hnw]; exact sl_one e2 87 _
        rw [← hnw]
        clear hnw
        replace hKc := hEa.blk hKc id
        replace hAc := hEa.blk hAc id
        replace hoc := own_mod hoc hEa (fun _ _ => id)
        replace hRc := hRc.mod hEa id (fun _ _ => id)
        replace hXc := hXc.ext hEa
        replace hsc : w2.heap.size ≤ e3.heap.size := by have := hEa.size; omega
        clear hEa
        refine hK_.out _ _ trivial (fun hS => ?_)
        clear hK_ K_
        try simp only [pL]
        refine wpAnyH_ready (rs := [7]) (by kernel_rfl) (by simp) ?_
        refine AllReadyH.cons rfl (fun K_ hK_ => ?_) AllReadyH.nil
        refine step_app _ rfl _ _ 22 rfl 87 i0 _ 4 48 Try.underlying22 hi hz0 hz1 hz2 rfl (by omega) (.slice VA i vc) i (os.flatMap APair.cells) rfl hoc _ _ 1 _ rfl hsl (pair1 _) (by simp only [maxLen]; omega) (by omega) ?_
        intro v9 e4 ho hgr hat
        obtain ⟨B9, d9, rfl⟩ := own_form ho
        have hnl : ∀ y, (Value.slice B9 (i + 1) d9).ownBlock = some y → q0 + 3 ≤ y := fun y hy => by
          rcases hat with e | e
          · exact Hfar.out y (by rw [← e]; exact hy)
          · rw [e] at hy; injection hy with hy; omega
        have hgm : Mod (fun k => q0 + 3 ≤ k) e3 e4 := (Mod.refl _ _).grown hgr (fun k hk => .inr (Hfar.out k hk))
        replace hKc := hgm.blk hKc (by omega)
        replace hAc := hgm.blk hAc (by omega)
        replace hRc := hRc.mod hgm (by omega) (fun g hg e => by have := HT.out g hg; omega)
        replace hXc := ext_new hXc hgm (fun k e => by have := Hq0.out; omega)
        replace hsc : w2.heap.size ≤ e4.heap.size := by have := hgm.size; omega
        have hon := ho
        clear hgr hat ho hgm
        refine hK_.out _ _ trivial (fun hS => ?_)
        clear hK_ K_
        try simp only [pL]
        refine tkH 8 (some 46) rfl rfl ?_ hS ?_ ?_; rotate_left; · rintro W' _; go_simp; try with_reducible rfl
        try simp only [pL]
        refine wpAnyH_ready (rs := [9]) (by kernel_rfl) (by simp) ?_
        refine AllReadyH.cons rfl (fun K_ hK_ => ?_) AllReadyH.nil
        have fz := blk_free 0 hKc
        have cz : e4.cell? ⟨q0 + 2, 0, none⟩ = some _ := blk_cell hKc rfl
        have hMs : Mod (fun k => k = q0 + 2) e4 (e4.setCell ⟨q0 + 2, 0, none⟩ (.slice B9 (i + 1) d9)) := mod_same (Mod.refl _ _) _ _
        have hKs : (e4.setCell ⟨q0 + 2, 0, none⟩ (.slice B9 (i + 1) d9)).heap[q0 + 2]? = some (.cells #[.slice B9 (i + 1) d9, .slice none 0 0] 25 (0, 0)) := by simp [World.setCell, Array.getElem?_modify, hKc]
        have hss : w2.heap.size ≤ (e4.setCell ⟨q0 + 2, 0, none⟩ (.slice B9 (i + 1) d9)).heap.size := by have := hMs.size; omega
        have hDn : Hid (DP1 w (e4.setCell ⟨q0 + 2, 0, none⟩ (.slice B9 (i + 1) d9)) T bs q0 (i + 1) B9 d9 (os ++ [(⟨textB r.text.1, r.text.2.valP.1⟩ : APair)]) r.text.2.valP.2) := Lib.hid ⟨hRc.mod hMs (by omega) (fun g hg e => by have := HT.out g hg; omega), hMs.blk hAc (by omega), hKs, by simp [Hom.out], by have := own_mod hon hMs (fun y hy e => by have := hnl y hy; omega); simpa using this, hnl, fun y hy => by
          rcases List.mem_append.1 hy with hy | hy
          · exact Hok.out y hy
          · simp at hy; subst hy; exact pairP_ok r, ext_new hXc hMs (fun k e => by have := Hq0.out; omega)⟩
        have Hss := Lib.hid hss
        go_simp
        refine hK_.out _ _ trivial (fun hS => ?_)
        clear hK_ K_
        try simp only [pL]
        clear fz cz hMs hKs hss
        refine wpAnyH_done (by kernel_rfl) ?_ _
        clear hRc hKc hAc hoc hXc hsc hon hnl hsl hS
        have hwn : IntKind.i64.wrap ((i : Int) + 1) = (i : Int) + 1 := IntWalk.i64_in _ (by omega)
        go_wp2
        exact ⟨⟨i + 1, B9, d9, _, r.text.2.valP.2, by go_num, by omega, hDn.out, by rw [Hps.out, show N - i = (N - (i + 1)) + 1 by omega, rdPsP_step He.out]; simp, Hss.out⟩, by simp [intOf]; omega⟩
      · go_simp
        go_wp2_with fail
        refine (p_value e0 T (q0 + 1) bs r.text.2 hRc (fun g hg => by have := HT.out g hg; omega) (by omega)).mono ?_
        rintro e e5 ⟨rfl, hRt, hmt⟩
        replace hKc := hmt.blk hKc (by omega)
        replace hAc := hmt.blk hAc (by omega)
        replace hoc := own_mod hoc hmt (fun y hy e => by have := Hfar.out y hy; omega)
        replace hXc := ext_new hXc hmt (fun k e => by have := Hq0.out; omega)
        replace hsc : w2.heap.size ≤ e5.heap.size := by have := hmt.size; omega
        clear hRc hmt
        have hRc := hRt
        clear hRt
        go_simp
        refine hK_.out _ _ trivial (fun hS => ?_)
        clear hK_ K_
        try simp only [pL]
        refine tkH 5 (some 43) rfl rfl ?_ hS ?_ ?_; rotate_left; · rintro W' _; go_simp; try with_reducible rfl
        try simp only [pL]
        refine wpAnyH_ready (rs := [1, 6]) (by kernel_rfl) (by simp) ?_
        refine AllReadyH.cons rfl (fun K_ hK_ => ?_) (AllReadyH.cons rfl (fun K_ hK_ => ?_) AllReadyH.nil)
        · have mc : e5.cell? ⟨q0 + 2, 0, none⟩ = some _ := blk_cell hKc rfl
          go_simp
          refine hK_.out _ _ trivial (fun hS => ?_)
          clear hK_ K_
          try simp only [pL]
          clear mc
          refine wpAnyH_ready (rs := [6]) (by kernel_rfl) (by simp) ?_
          refine AllReadyH.cons rfl (fun K_ hK_ => ?_) AllReadyH.nil
          go_simp
          obtain ⟨e7, hnw⟩ : ∃ e7, e7 = e5.alloc (.cells #[.string ⟨r.text.1.toArray⟩, .int .i64 r.text.2.valP.1.kind, .float .f64 r.text.2.valP.1.num, .string r.text.2.valP.1.text] 87) := ⟨_, rfl⟩
          have hEa : Ext e5 e7 := by rw [hnw]; exact (Mod.refl _ _).alloc _
          have hsl : Sl e7 (fun y => y = e5.heap.size) 4 (.slice (some ⟨e5.heap.size, 0, none⟩) 1 1) 1 (⟨textB r.text.1, r.text.2.valP.1⟩ : APair).cells := by rw [hnw]; exact sl_one e5 87 _
          rw [← hnw]
          clear hnw
          replace hKc := hEa.blk hKc id
          replace hAc := hEa.blk hAc id
          replace hoc := own_mod hoc hEa (fun _ _ => id)
          replace hRc := hRc.mod hEa id (fun _ _ => id)
          replace hXc := hXc.ext hEa
          replace hsc : w2.heap.size ≤ e7.heap.size := by have := hEa.size; omega
          clear hEa
          refine hK_.out _ _ trivial (fun hS => ?_)
          clear hK_ K_
          try simp only [pL]
          refine wpAnyH_ready (rs := [7]) (by kernel_rfl) (by simp) ?_
          refine AllReadyH.cons rfl (fun K_ hK_ => ?_) AllReadyH.nil
          refine step_app _ rfl _ _ 22 rfl 87 i0 _ 4 48 Try.underlying22 hi hz0 hz1 hz2 rfl (by omega) (.slice VA i vc) i (os.flatMap APair.cells) rfl hoc _ _ 1 _ rfl hsl (pair1 _) (by simp only [maxLen]; omega) (by omega) ?_
          intro v9 e8 ho hgr hat
          obtain ⟨B9, d9, rfl⟩ := own_form ho
          have hnl : ∀ y, (Value.slice B9 (i + 1) d9).ownBlock = some y → q0 + 3 ≤ y := fun y hy => by
            rcases hat with e | e
            · exact Hfar.out y (by rw [← e]; exact hy)
            · rw [e] at hy; injection hy with hy; omega
          have hgm : Mod (fun k => q0 + 3 ≤ k) e7 e8 := (Mod.refl _ _).grown hgr (fun k hk => .inr (Hfar.out k hk))
          replace hKc := hgm.blk hKc (by omega)
          replace hAc := hgm.blk hAc (by omega)
          replace hRc := hRc.mod hgm (by omega) (fun g hg e => by have := HT.out g hg; omega)
          replace hXc := ext_new hXc hgm (fun k e => by have := Hq0.out; omega)
          replace hsc : w2.heap.size ≤ e8.heap.size := by have := hgm.size; omega
          have hon := ho
          clear hgr hat ho hgm
          refine hK_.out _ _ trivial (fun hS => ?_)
          clear hK_ K_
          try simp only [pL]
          refine tkH 8 (some 46) rfl rfl ?_ hS ?_ ?_; rotate_left; · rintro W' _; go_simp; try with_reducible rfl
          try simp only [pL]
          refine wpAnyH_ready (rs := [9]) (by kernel_rfl) (by simp) ?_
          refine AllReadyH.cons rfl (fun K_ hK_ => ?_) AllReadyH.nil
          have fz := blk_free 0 hKc
          have cz : e8.cell? ⟨q0 + 2, 0, none⟩ = some _ := blk_cell hKc rfl
          have hMs : Mod (fun k => k = q0 + 2) e8 (e8.setCell ⟨q0 + 2, 0, none⟩ (.slice B9 (i + 1) d9)) := mod_same (Mod.refl _ _) _ _
          have hKs : (e8.setCell ⟨q0 + 2, 0, none⟩ (.slice B9 (i + 1) d9)).heap[q0 + 2]? = some (.cells #[.slice B9 (i + 1) d9, .slice none 0 0] 25 (0, 0)) := by simp [World.setCell, Array.getElem?_modify, hKc]
          have hss : w2.heap.size ≤ (e8.setCell ⟨q0 + 2, 0, none⟩ (.slice B9 (i + 1) d9)).heap.size := by have := hMs.size; omega
          have hDn : Hid (DP1 w (e8.setCell ⟨q0 + 2, 0, none⟩ (.slice B9 (i + 1) d9)) T bs q0 (i + 1) B9 d9 (os ++ [(⟨textB r.text.1, r.text.2.valP.1⟩ : APair)]) r.text.2.valP.2) := Lib.hid ⟨hRc.mod hMs (by omega) (fun g hg e => by have := HT.out g hg; omega), hMs.blk hAc (by omega), hKs, by simp [Hom.out], by have := own_mod hon hMs (fun y hy e => by have := hnl y hy; omega); simpa using this, hnl, fun y hy => by
            rcases List.mem_append.1 hy with hy | hy
            · exact Hok.out y hy
            · simp at hy; subst hy; exact pairP_ok r, ext_new hXc hMs (fun k e => by have := Hq0.out; omega)⟩
          have Hss := Lib.hid hss
          go_simp
          refine hK_.out _ _ trivial (fun hS => ?_)
          clear hK_ K_
          try simp only [pL]
          clear fz cz hMs hKs hss
          refine wpAnyH_done (by kernel_rfl) ?_ _
          clear hRc hKc hAc hoc hXc hsc hon hnl hsl hS
          have hwn : IntKind.i64.wrap ((i : Int) + 1) = (i : Int) + 1 := IntWalk.i64_in _ (by omega)
          go_wp2
          exact ⟨⟨i + 1, B9, d9, _, r.text.2.valP.2, by go_num, by omega, hDn.out, by rw [Hps.out, show N - i = (N - (i + 1)) + 1 by omega, rdPsP_step He.out]; simp, Hss.out⟩, by simp [intOf]; omega⟩
        · go_simp
          obtain ⟨e9, hnw⟩ : ∃ e9, e9 = e5.alloc (.cells #[.string ⟨r.text.1.toArray⟩, .int .i64 r.text.2.valP.1.kind, .float .f64 r.text.2.valP.1.num, .string r.text.2.valP.1.text] 87) := ⟨_, rfl⟩
          have hEa : Ext e5 e9 := by rw [hnw]; exact (Mod.refl _ _).alloc _
          have hsl : Sl e9 (fun y => y = e5.heap.size) 4 (.slice (some ⟨e5.heap.size, 0, none⟩) 1 1) 1 (⟨textB r.text.1, r.text.2.valP.1⟩ : APair).cells := by rw [hnw]; exact sl_one e5 87 _
          rw [← hnw]
          clear hnw
          replace hKc := hEa.blk hKc id
          replace hAc := hEa.blk hAc id
          replace hoc := own_mod hoc hEa (fun _ _ => id)
          replace hRc := hRc.mod hEa id (fun _ _ => id)
          replace hXc := hXc.ext hEa
          replace hsc : w2.heap.size ≤ e9.heap.size := by have := hEa.size; omega
          clear hEa
          refine hK_.out _ _ trivial (fun hS => ?_)
          clear hK_ K_
          try simp only [pL]
          refine wpAnyH_ready (rs := [1]) (by kernel_rfl) (by simp) ?_
          refine AllReadyH.cons rfl (fun K_ hK_ => ?_) AllReadyH.nil
          have mc : e9.cell? ⟨q0 + 2, 0, none⟩ = some _ := blk_cell hKc rfl
          go_simp
          refine hK_.out _ _ trivial (fun hS => ?_)
          clear hK_ K_
          try simp only [pL]
          clear mc
          refine wpAnyH_ready (rs := [7]) (by kernel_rfl) (by simp) ?_
          refine AllReadyH.cons rfl (fun K_ hK_ => ?_) AllReadyH.nil
          refine step_app _ rfl _ _ 22 rfl 87 i0 _ 4 48 Try.underlying22 hi hz0 hz1 hz2 rfl (by omega) (.slice VA i vc) i (os.flatMap APair.cells) rfl hoc _ _ 1 _ rfl hsl (pair1 _) (by simp only [maxLen]; omega) (by omega) ?_
          intro v9 e11 ho hgr hat
          obtain ⟨B9, d9, rfl⟩ := own_form ho
          have hnl : ∀ y, (Value.slice B9 (i + 1) d9).ownBlock = some y → q0 + 3 ≤ y := fun y hy => by
            rcases hat with e | e
            · exact Hfar.out y (by rw [← e]; exact hy)
            · rw [e] at hy; injection hy with hy; omega
          have hgm : Mod (fun k => q0 + 3 ≤ k) e9 e11 := (Mod.refl _ _).grown hgr (fun k hk => .inr (Hfar.out k hk))
          replace hKc := hgm.blk hKc (by omega)
          replace hAc := hgm.blk hAc (by omega)
          replace hRc := hRc.mod hgm (by omega) (fun g hg e => by have := HT.out g hg; omega)
          replace hXc := ext_new hXc hgm (fun k e => by have := Hq0.out; omega)
          replace hsc : w2.heap.size ≤ e11.heap.size := by have := hgm.size; omega
          have hon := ho
          clear hgr hat ho hgm
          refine hK_.out _ _ trivial (fun hS => ?_)
          clear hK_ K_
          try simp only [pL]
          refine tkH 8 (some 46) rfl rfl ?_ hS ?_ ?_; rotate_left; · rintro W' _; go_simp; try with_reducible rfl
          try simp only [pL]
          refine wpAnyH_ready (rs := [9]) (by kernel_rfl) (by simp) ?_
          refine AllReadyH.cons rfl (fun K_ hK_ => ?_) AllReadyH.nil
          have fz := blk_free 0 hKc
          have cz : e11.cell? ⟨q0 + 2, 0, none⟩ = some _ := blk_cell hKc rfl
          have hMs : Mod (fun k => k = q0 + 2) e11 (e11.setCell ⟨q0 + 2, 0, none⟩ (.slice B9 (i + 1) d9)) := mod_same (Mod.refl _ _) _ _
          have hKs : (e11.setCell ⟨q0 + 2, 0, none⟩ (.slice B9 (i + 1) d9)).heap[q0 + 2]? = some (.cells #[.slice B9 (i + 1) d9, .slice none 0 0] 25 (0, 0)) := by simp [World.setCell, Array.getElem?_modify, hKc]
          have hss : w2.heap.size ≤ (e11.setCell ⟨q0 + 2, 0, none⟩ (.slice B9 (i + 1) d9)).heap.size := by have := hMs.size; omega
          have hDn : Hid (DP1 w (e11.setCell ⟨q0 + 2, 0, none⟩ (.slice B9 (i + 1) d9)) T bs q0 (i + 1) B9 d9 (os ++ [(⟨textB r.text.1, r.text.2.valP.1⟩ : APair)]) r.text.2.valP.2) := Lib.hid ⟨hRc.mod hMs (by omega) (fun g hg e => by have := HT.out g hg; omega), hMs.blk hAc (by omega), hKs, by simp [Hom.out], by have := own_mod hon hMs (fun y hy e => by have := hnl y hy; omega); simpa using this, hnl, fun y hy => by
            rcases List.mem_append.1 hy with hy | hy
            · exact Hok.out y hy
            · simp at hy; subst hy; exact pairP_ok r, ext_new hXc hMs (fun k e => by have := Hq0.out; omega)⟩
          have Hss := Lib.hid hss
          go_simp
          refine hK_.out _ _ trivial (fun hS => ?_)
          clear hK_ K_
          try simp only [pL]
          clear fz cz hMs hKs hss
          refine wpAnyH_done (by kernel_rfl) ?_ _
          clear hRc hKc hAc hoc hXc hsc hon hnl hsl hS
          have hwn : IntKind.i64.wrap ((i : Int) + 1) = (i : Int) + 1 := IntWalk.i64_in _ (by omega)
          go_wp2
          exact ⟨⟨i + 1, B9, d9, _, r.text.2.valP.2, by go_num, by omega, hDn.out, by rw [Hps.out, show N - i = (N - (i + 1)) + 1 by omega, rdPsP_step He.out]; simp, Hss.out⟩, by simp [intOf]; omega⟩
  case rest =>
    obtain ⟨m, VA, vc, os, r, hmN, hD, hps, hsz⟩ := hcut
    obtain ⟨hR, hA, hK, hom, hown, hfar, hok, hX⟩ := hD
    have Hps := Lib.hid hps
    have Hom := Lib.hid hom
    have Hfar := Lib.hid hfar
    have Hok := Lib.hid hok
    clear hps hom hfar hok
    go_wp2_with fail
    refine (p_int wc T (q0 + 1) bs r hR).mono ?_
    rintro e w3 ⟨rfl, hR3, hm3⟩
    have hX3 : Ext w w3 := ext_new hX hm3 (fun k e => by have := Hq0.out; omega)
    have hA3 := hm3.blk hA (by omega)
    have hK3 := hm3.blk hK (by omega)
    have hown3 := own_mod hown hm3 (fun y hy e => by have := Hfar.out y hy; omega)
    obtain ⟨n1, hn1⟩ : ∃ n1, r.int.1 = n1 := ⟨_, rfl⟩
    obtain ⟨r3, hr3⟩ : ∃ r3, r.int.2 = r3 := ⟨_, rfl⟩
    rw [hn1]
    rw [hr3] at hR3
    have HR3 := Lib.hid hR3
    have HX3 := Lib.hid hX3
    have HA3 := Lib.hid hA3
    have HK3 := Lib.hid hK3
    have Hown3 := Lib.hid hown3
    have Hn1 := Lib.hid hn1
    have Hr3 := Lib.hid hr3
    clear hX3 hA3 hK3 hown3 hn1 hr3 hR3 hm3 hR hA hK hown hX
    have Hd0 : Hid (decP bs = if n1 < 0 ∨ 4 < n1 then none else if (rdSsP n1.toNat r3).2.done ≠ 0 ∨ machB ⟨os, (rdSsP n1.toNat r3).1⟩ = false then none else some ⟨os, (rdSsP n1.toNat r3).1⟩) := Lib.hid (by
      unfold decP
      rw [Hn0.out, Hr1.out, if_neg (by omega)]
      simp only [Int.toNat_natCast]
      rw [Hps.out]
      simp only
      rw [Hn1.out, Hr3.out])
    by_cases hneg : n1 < 0
    · have d1 : decide (n1 < 0) = true := by simp [hneg]
      have Hneg := Lib.hid hneg
      clear hneg
      have c0 : w3.cell? ⟨q0, 0, none⟩ = some _ := blk_cell HA3.out rfl
      have c1 : w3.cell? ⟨q0, 1, none⟩ = some _ := blk_cell HA3.out rfl
      have f0 : w3.frozen? ⟨q0, 0, none⟩ = false := blk_free 0 HA3.out
      have f1 : w3.frozen? ⟨q0, 1, none⟩ = false := blk_free 1 HA3.out
      have HXb := Lib.hid (HX3.out)
      have Hnone : Hid (decP bs = none) := Lib.hid (by rw [Hd0.out, if_pos (.inl Hneg.out)])
      go_wp2
      refine bodyPost_ret (v := .tuple #[.agg #[.slice none 0 0, .slice none 0 0], .bool false]) (by simp [results, Try.results32, go_sem, c0, c1]) rfl ⟨_, _, by rw [Hnone.out]; rfl, by rw [Hnone.out]; exact newM_nil _ _, ?_⟩
      exact ext_new HXb.out (mod_same (mod_same (Mod.refl _ _) _ _) _ _) (fun k e => by rw [e, ← Hq0.out]; exact Nat.le_refl _)
    have d1 : decide (n1 < 0) = false := by simp; omega
    by_cases hbig : 4 < n1
    · have d2 : decide (n1 > 4) = true := by simp; omega
      have Hbig := Lib.hid hbig
      clear hbig hneg
      have c0 : w3.cell? ⟨q0, 0, none⟩ = some _ := blk_cell HA3.out rfl
      have c1 : w3.cell? ⟨q0, 1, none⟩ = some _ := blk_cell HA3.out rfl
      have f0 : w3.frozen? ⟨q0, 0, none⟩ = false := blk_free 0 HA3.out
      have f1 : w3.frozen? ⟨q0, 1, none⟩ = false := blk_free 1 HA3.out
      have HXb := Lib.hid (HX3.out)
      have Hnone : Hid (decP bs = none) := Lib.hid (by rw [Hd0.out, if_pos (.inr Hbig.out)])
      go_wp2
      refine bodyPost_ret (v := .tuple #[.agg #[.slice none 0 0, .slice none 0 0], .bool false]) (by simp [results, Try.results32, go_sem, c0, c1]) rfl ⟨_, _, by rw [Hnone.out]; rfl, by rw [Hnone.out]; exact newM_nil _ _, ?_⟩
      exact ext_new HXb.out (mod_same (mod_same (Mod.refl _ _) _ _) _ _) (fun k e => by rw [e, ← Hq0.out]; exact Nat.le_refl _)
    obtain ⟨M, rfl⟩ := Int.eq_ofNat_of_zero_le (show 0 ≤ n1 by omega)
    have hM4 : M ≤ 4 := by omega
    clear hneg hbig d1
    have d1 : decide ((M : Int) < 0) = false := by simp
    have d2 : decide ((M : Int) > 4) = false := by simp; omega
    have hl3 : q0 + 2 < w3.heap.size := (Array.getElem?_eq_some_iff.1 HK3.out).1
    go_upto_block 2 with fail
    go_cut [9] (fun s9 wx => ∃ (i : Nat) (VB : Option Addr) (vd : Nat) (ss : List ASess) (r : RS), DP2 w w3 wx T bs q0 m VA vc os i VB vd ss r ∧ rdSsP M r3 = (ss, r))
    case first =>
      go_wp2
      go_loopw [9] (fun iv wr => ∃ (i : Nat) (VB : Option Addr) (vd : Nat) (ss : List ASess) (r : RS), iv = .int .i64 i ∧ i ≤ M ∧ DP2 w w3 wr T bs q0 m VA vc os i VB vd ss r ∧ rdSsP M r3 = (ss ++ (rdSsP (M - i) r).1, (rdSsP (M - i) r).2)) (fun iv _ => M - (intOf iv).toNat)
      case atStart => exact ⟨0, none, 0, [], r3, rfl, by omega, ⟨HR3.out, HA3.out, HK3.out, Hown3.out, rfl, World.ownsRow_nil _ _ _ _, by simp [Value.ownBlock], by simp, HX3.out, Nat.le_refl _⟩, by simp⟩
      case round =>
        obtain ⟨i, VB, vd, ss, r, rfl, hiN, hD, hps⟩ := hrel
        have HD := Lib.hid hD
        have Hps2 := Lib.hid hps
        have c2 := rp_e hD.1
        clear hD hps
        by_cases hin : i < M
        case neg =>
          obtain rfl : i = M := by omega
          have hfin : rdSsP (i - i) r = ([], r) := rdSsP_stop (.inl (by omega))
          have Hfin := Lib.hid hfin
          have dn : decide ((i : Int) < (i : Int)) = false := by simp
          clear hfin
          go_wp2_with fail
          go_meet
          exact ⟨i, VB, vd, ss, r, HD.out, by rw [Hps2.out, Hfin.out]; simp⟩
        by_cases he : r.e = 0
        case neg =>
          have de : (r.e == 0) = false := by simp [he]
          have Hfin := Lib.hid (rdSsP_stop (n := M - i) (.inr he))
          clear he
          go_wp2_with fail
          go_meet
          exact ⟨i, VB, vd, ss, r, HD.out, by rw [Hps2.out, Hfin.out]; simp⟩
        have de : (r.e == 0) = true := by simp [he]
        have He := Lib.hid he
        clear he
        obtain ⟨hR, hA, hK, hpo, hsm, hso, hsf, hsk, hX, hs3⟩ := HD.out
        have Hsm := Lib.hid hsm
        have Hsf := Lib.hid hsf
        have Hsk := Lib.hid hsk
        clear hsm hsf hsk
        go_wp2_with fail
        refine (p_int wr T (q0 + 1) bs r hR).mono ?_
        rintro e wa ⟨rfl, hRa, hma⟩
        have hAa := hma.blk hA (by omega)
        have hKa := hma.blk hK (by omega)
        have hpoa := own_mod hpo hma (fun y hy e => by have := Hfar.out y hy; omega)
        have hsoa := own_mod hso hma (fun y hy e => by have := Hsf.out y hy; omega)
        have hXa := ext_new hX hma (fun k e => by have := Hq0.out; omega)
        go_wp2_with fail
        refine (p_int wa T (q0 + 1) bs _ hRa).mono ?_
        rintro e wb ⟨rfl, hRb, hmb⟩
        have hAb := hmb.blk hAa (by omega)
        have hKb := hmb.blk hKa (by omega)
        have hpob := own_mod hpoa hmb (fun y hy e => by have := Hfar.out y hy; omega)
        have hsob := own_mod hsoa hmb (fun y hy e => by have := Hsf.out y hy; omega)
        have hXb := ext_new hXa hmb (fun k e => by have := Hq0.out; omega)
        clear c2 hA hK hpo hso hX hAa hKa hpoa hsoa hXa hRa hR
        go_wp2_with fail
        obtain ⟨q, hq⟩ : ∃ q, wb.heap.size = q := ⟨_, rfl⟩
        obtain ⟨Wb, hWb⟩ : ∃ Wb, Wb = wb.alloc (.cells #[.int .i64 r.int.1, .int .i64 r.int.2.int.1, .int .i64 0, .int .i64 0, .float .f64 0, .string ⟨#[]⟩] 72) := ⟨_, rfl⟩
        have hQ : Wb.heap[q]? = some (.cells #[.int .i64 r.int.1, .int .i64 r.int.2.int.1, .int .i64 0, .int .i64 0, .float .f64 0, .string ⟨#[]⟩] 72 (0, 0)) := by rw [hWb, ← hq]; exact heap_alloc_new wb _
        have hEb : Ext wb Wb := by rw [hWb]; exact (Mod.refl _ wb).alloc _
        rw [← hWb, hq]
        have hqq : w3.heap.size ≤ q := by have := hma.size; have := hmb.size; omega
        have hplt : ∀ g, (Value.slice VA m vc).ownBlock = some g → g ≠ q := fun g hg => by have := (hpob.lt g hg).2; omega
        have hslt : ∀ g, (Value.slice VB i vd).ownBlock = some g → g ≠ q := fun g hg => by have := (hsob.lt g hg).2; omega
        have hRB := hRb.mod hEb id (fun _ _ => id)
        have hAB := hEb.blk hAb id
        have hKB := hEb.blk hKb id
        have hpoB := own_mod hpob hEb (fun _ _ => id)
        have hsoB := own_mod hsob hEb (fun _ _ => id)
        have hXB := hXb.ext hEb
        clear hWb hEb hRb hAb hKb hpob hsob hXb hma hmb hq
        refine (p_int Wb T (q0 + 1) bs _ hRB).mono ?_
        rintro e wc ⟨rfl, hRc, hmc⟩
        have hAc := hmc.blk hAB (by omega)
        have hKc := hmc.blk hKB (by omega)
        have hpoc := own_mod hpoB hmc (fun y hy e => by have := Hfar.out y hy; omega)
        have hsoc := own_mod hsoB hmc (fun y hy e => by have := Hsf.out y hy; omega)
        have hXc := ext_new hXB hmc (fun k e => by have := Hq0.out; omega)
        have hQc := hmc.blk hQ (by omega)
        clear hRB hAB hKB hpoB hsoB hXB hmc hQ
        obtain ⟨Wc, hWc⟩ : ∃ Wc, wc.setCell ⟨q, 2, none⟩ (.int .i64 r.int.2.int.2.int.1) = Wc := ⟨_, rfl⟩
        have hmC : Mod (fun k => k = q) wc Wc := by rw [← hWc]; exact mod_same (Mod.refl _ _) _ _
        have hQ2 : Wc.heap[q]? = some (.cells #[.int .i64 r.int.1, .int .i64 r.int.2.int.1, .int .i64 r.int.2.int.2.int.1, .int .i64 0, .float .f64 0, .string ⟨#[]⟩] 72 (0, 0)) := by rw [← hWc]; simp [World.setCell, Array.getElem?_modify, hQc]
        have fq2 : wc.frozen? ⟨q, 2, none⟩ = false := blk_free 2 hQc
        have cq2 : wc.cell? ⟨q, 2, none⟩ = some _ := blk_cell hQc rfl
        have hRC := hRc.mod hmC (by omega) (fun g hg e => by have := HT.out g hg; omega)
        have hAC := hmC.blk hAc (by omega)
        have hKC := hmC.blk hKc (by omega)
        have hpoC := own_mod hpoc hmC hplt
        have hsoC := own_mod hsoc hmC hslt
        have hXC := ext_new hXc hmC (fun k e => by have := Hq0.out; omega)
        have HWc := Lib.hid hWc
        have HQ2 := Lib.hid hQ2
        have HRC := Lib.hid hRC
        have HAC := Lib.hid hAC
        have HKC := Lib.hid hKC
        have HpoC := Lib.hid hpoC
        have HsoC := Lib.hid hsoC
        have HXC := Lib.hid hXC
        have Hplt := Lib.hid hplt
        have Hslt := Lib.hid hslt
        have hTC : ∀ g, T g → g < Wc.heap.size := fun g hg => by have := HT.out g hg; have := (Array.getElem?_eq_some_iff.1 hAC).1; omega
        have hbC := rp_lt hRC
        clear hWc hQ2 hRC hAC hKC hpoC hsoC hXC hplt hslt hmC hRc hAc hKc hpoc hsoc hXc hQc
        go_wp2_with fail
        rw [HWc.out]
        refine (p_value Wc T (q0 + 1) bs _ HRC.out hTC hbC).mono ?_
        rintro e wd ⟨rfl, hRd, hmd⟩
        have hQd := hmd.blk HQ2.out (by omega)
        have hAd := hmd.blk HAC.out (by omega)
        have hKd := hmd.blk HKC.out (by omega)
        have hpod := own_mod HpoC.out hmd (fun y hy e => by have := Hfar.out y hy; omega)
        have hsod := own_mod HsoC.out hmd (fun y hy e => by have := Hsf.out y hy; omega)
        have hXd := ext_new HXC.out hmd (fun k e => by have := Hq0.out; omega)
        obtain ⟨sx, hsx⟩ : ∃ sx : ASess, r.sessP.1 = sx := ⟨_, rfl⟩
        have e1 : r.int.1 = sx.client := by rw [← hsx]; rfl
        have e2 : r.int.2.int.1 = sx.seq := by rw [← hsx]; rfl
        have e3 : r.int.2.int.2.int.1 = sx.reply.code := by rw [← hsx]; rfl
        have e4 : r.int.2.int.2.int.2.valP.1 = sx.reply.val := by rw [← hsx]; rfl
        have e5 : r.int.2.int.2.int.2.valP.2 = r.sessP.2 := rfl
        rw [e1, e2, e3] at hQd
        rw [e4]
        rw [e5] at hRd
        have Hsx := Lib.hid hsx
        clear hsx e1 e2 e3 e4 e5 hmd HQ2 HRC HAC HKC HpoC HsoC HXC HWc hTC hbC
        have q3 : wd.frozen? ⟨q, 3, none⟩ = false := blk_free 3 hQd
        have q4 : wd.frozen? ⟨q, 4, none⟩ = false := blk_free 4 hQd
        have q5 : wd.frozen? ⟨q, 5, none⟩ = false := blk_free 5 hQd
        have x0 : wd.cell? ⟨q, 0, none⟩ = some _ := blk_cell hQd rfl
        have x1 : wd.cell? ⟨q, 1, none⟩ = some _ := blk_cell hQd rfl
        have x2 : wd.cell? ⟨q, 2, none⟩ = some _ := blk_cell hQd rfl
        have x3 : wd.cell? ⟨q, 3, none⟩ = some _ := blk_cell hQd rfl
        have x4 : wd.cell? ⟨q, 4, none⟩ = some _ := blk_cell hQd rfl
        have x5 : wd.cell? ⟨q, 5, none⟩ = some _ := blk_cell hQd rfl
        have k1 : wd.cell? ⟨q0 + 2, 1, none⟩ = some _ := blk_cell hKd rfl
        have nqK : ¬ q = q0 + 2 := by omega
        have nqK2 : ¬ q0 + 2 = q := by omega
        have hM5 : Mod (fun k => k = q) wd (((wd.setCell ⟨q, 3, none⟩ (.int .i64 sx.reply.val.kind)).setCell ⟨q, 4, none⟩ (.float .f64 sx.reply.val.num)).setCell ⟨q, 5, none⟩ (.string sx.reply.val.text)) := mod_same (mod_same (mod_same (Mod.refl _ _) _ _) _ _) _ _
        have hK5 := hM5.blk hKd nqK2
        have hA5 := hM5.blk hAd (by omega)
        have hpo5 := own_mod hpod hM5 Hplt.out
        have hso5 := own_mod hsod hM5 Hslt.out
        have hR5 := hRd.mod hM5 (by omega) (fun g hg e => by have := HT.out g hg; omega)
        have hX5 := ext_new hXd hM5 (fun k e => by have := Hq0.out; omega)
        have qlt : q < wd.heap.size := (Array.getElem?_eq_some_iff.1 hQd).1
        have hsl := sl_one (((wd.setCell ⟨q, 3, none⟩ (.int .i64 sx.reply.val.kind)).setCell ⟨q, 4, none⟩ (.float .f64 sx.reply.val.num)).setCell ⟨q, 5, none⟩ (.string sx.reply.val.text)) 72 sx.cells
        have hz5 : (((wd.setCell ⟨q, 3, none⟩ (.int .i64 sx.reply.val.kind)).setCell ⟨q, 4, none⟩ (.float .f64 sx.reply.val.num)).setCell ⟨q, 5, none⟩ (.string sx.reply.val.text)).heap.size = wd.heap.size := by simp [World.setCell]
        rw [hz5] at hsl
        have HK5 := Lib.hid hK5
        have HA5 := Lib.hid hA5
        have Hpo5 := Lib.hid hpo5
        have Hso5 := Lib.hid hso5
        have HR5 := Lib.hid hR5
        have HX5 := Lib.hid hX5
        have Hz5 := Lib.hid hz5
        clear hK5 hA5 hpo5 hso5 hR5 hX5 hM5 hRd hpod hsod hQd hKd hAd hXd hz5
        go_wp2_with (at_builtin; refine wpList_app _ rfl _ _ 23 rfl 72 j0 _ 6 56 Try.underlying23 hj hj0 hj1 hj2 rfl (by omega) _ i _ rfl (Hso5.out.alloc _) _ _ 1 sx.cells rfl hsl (ses1 sx) (by simp only [maxLen]; omega) (by omega) ?_)
        intro v9 w9 ho hgr hat
        obtain ⟨B9, d9, rfl⟩ := own_form ho
        have hnl : ∀ y, (Value.slice B9 (i + 1) d9).ownBlock = some y → w3.heap.size ≤ y := fun y hy => by
          rcases hat with e | e
          · exact Hsf.out y (by rw [← e]; exact hy)
          · rw [e] at hy; injection hy with hy; have := Hz5.out; omega
        have hgm := ((Mod.refl (fun k => w3.heap.size ≤ k) _).alloc _).grown hgr (fun y hy => .inr (Hsf.out y hy))
        have hK9 := hgm.blk HK5.out (by omega)
        have hA9 := hgm.blk HA5.out (by omega)
        have hR9 := HR5.out.mod hgm (by omega) (fun g hg e => by have := HT.out g hg; omega)
        have hpo9 := own_mod Hpo5.out hgm (fun y hy e => by have := (Hown3.out.lt y hy).2; omega)
        have hX9 := ext_new HX5.out hgm (fun k e => by have := Hq0.out; omega)
        have hs9 : w3.heap.size ≤ w9.heap.size := by have := hgm.size; have := Hz5.out; omega
        have hMs : Mod (fun k => k = q0 + 2) w9 (w9.setCell ⟨q0 + 2, 1, none⟩ (.slice B9 (i + 1) d9)) := mod_same (Mod.refl _ _) _ _
        have hKs : (w9.setCell ⟨q0 + 2, 1, none⟩ (.slice B9 (i + 1) d9)).heap[q0 + 2]? = some (.cells #[.slice VA m vc, .slice B9 (i + 1) d9] 25 (0, 0)) := by simp [World.setCell, Array.getElem?_modify, hK9]
        have f9 : w9.frozen? ⟨q0 + 2, 1, none⟩ = false := blk_free 1 hK9
        have c9 : w9.cell? ⟨q0 + 2, 1, none⟩ = some _ := blk_cell hK9 rfl
        have HDn : Hid (DP2 w w3 (w9.setCell ⟨q0 + 2, 1, none⟩ (.slice B9 (i + 1) d9)) T bs q0 m VA vc os (i + 1) B9 d9 (ss ++ [sx]) r.sessP.2) := by
          refine Lib.hid ⟨hR9.mod hMs (by omega) (fun g hg e => by have := HT.out g hg; omega), hMs.blk hA9 (by omega), hKs, own_mod hpo9 hMs (fun y hy e => by have := Hfar.out y hy; omega), by simp [Hsm.out], ?_, hnl, ?_, ext_new hX9 hMs (fun k e => by have := Hq0.out; omega), by have := hMs.size; omega⟩
          · have := own_mod ho hMs (fun y hy e => by have := hnl y hy; omega)
            simpa [flS] using this
          · intro y hy
            rcases List.mem_append.1 hy with hy | hy
            · exact Hsk.out y hy
            · simp at hy; subst hy; rw [← Hsx.out]; exact sessP_ok r
        clear ho hgr hat hnl hgm hK9 hA9 hR9 hpo9 hX9 hs9 hMs hKs
        have hwn : IntKind.i64.wrap ((i : Int) + 1) = (i : Int) + 1 := IntWalk.i64_in _ (by omega)
        go_wp2
        exact ⟨⟨i + 1, B9, d9, _, r.sessP.2, by go_num, by omega, HDn.out, by rw [Hps2.out, show M - i = (M - (i + 1)) + 1 by omega, rdSsP_step He.out, Hsx.out]; simp⟩, by simp [intOf]; omega⟩
    case rest =>
      obtain ⟨i, VB, vd, ss, r, hD, hps2⟩ := hcut
      obtain ⟨hR, hA, hK, hpo, hsm, hso, hsf, hsk, hX, hs3⟩ := hD
      have hom := Hom.out
      subst hom
      subst hsm
      have Hdd : Hid (decP bs = if r.done ≠ 0 ∨ machB ⟨os, ss⟩ = false then none else some ⟨os, ss⟩) := Lib.hid (by
        rw [Hd0.out, if_neg (by omega)]
        simp only [Int.toNat_natCast]
        rw [hps2])
      have HNM : Hid (NewM w wc (.slice VA os.length vc) (.slice VB ss.length vd) ⟨os, ss⟩) := Lib.hid ⟨⟨hpo, Hok.out, fun g hg => by have := Hfar.out g hg; have := Hq0.out; omega⟩, ⟨hso, hsk, fun g hg => by have := hsf g hg; have := Hq0.out; omega⟩, fun g hg e => by have h1 := (Hown3.out.lt g hg).2; have h2 := hsf g e; omega⟩
      have HK := Lib.hid hK
      have HX := Lib.hid hX
      have HA := Lib.hid hA
      clear hK hX hpo hso hsf hsk hps2 hA
      go_wp2_with fail
      refine (p_done wc T (q0 + 1) bs r hR).mono ?_
      rintro e w4 ⟨rfl, hE4⟩
      have hA4 := hE4.blk HA.out id
      have HK4 := Lib.hid (hE4.blk HK.out id)
      have HX4 := Lib.hid (HX.out.ext hE4)
      have HNM4 := Lib.hid (newM_mod HNM.out hE4 (fun _ _ => id) (fun _ _ => id))
      clear hE4 hR
      obtain ⟨d, hd⟩ : ∃ d, r.done = d := ⟨_, rfl⟩
      rw [hd]
      have Hd := Lib.hid hd
      clear hd
      by_cases hd0 : d = 0
      case neg =>
        have d5 : (d == 0) = false := by simp [hd0]
        have d6 : (d != 0) = true := by simp [hd0]
        have Hd0 := Lib.hid hd0
        clear hd0
        have c0 : w4.cell? ⟨q0, 0, none⟩ = some _ := blk_cell hA4 rfl
        have c1 : w4.cell? ⟨q0, 1, none⟩ = some _ := blk_cell hA4 rfl
        have f0 : w4.frozen? ⟨q0, 0, none⟩ = false := blk_free 0 hA4
        have f1 : w4.frozen? ⟨q0, 1, none⟩ = false := blk_free 1 hA4
        have HXb := Lib.hid (HX4.out)
        have Hnone : Hid (decP bs = none) := Lib.hid (by rw [Hdd.out, if_pos (.inl (by rw [Hd.out]; exact Hd0.out))])
        go_wp2
        refine bodyPost_ret (v := .tuple #[.agg #[.slice none 0 0, .slice none 0 0], .bool false]) (by simp [results, Try.results32, go_sem, c0, c1]) rfl ⟨_, _, by rw [Hnone.out]; rfl, by rw [Hnone.out]; exact newM_nil _ _, ?_⟩
        exact ext_new HXb.out (mod_same (mod_same (Mod.refl _ _) _ _) _ _) (fun k e => by rw [e, ← Hq0.out]; exact Nat.le_refl _)
      have d5 : (d == 0) = true := by simp [hd0]
      have d6 : (d != 0) = false := by simp [hd0]
      have Hd0 := Lib.hid hd0
      clear hd0
      have k0 : w4.cell? ⟨q0 + 2, 0, none⟩ = some _ := blk_cell HK4.out rfl
      have k1 : w4.cell? ⟨q0 + 2, 1, none⟩ = some _ := blk_cell HK4.out rfl
      go_wp2_with fail
      refine (r_machine w4 _ _ _ _ os ss HNM4.out.prs HNM4.out.ses).mono ?_
      rintro e w5 ⟨rfl, hE5⟩
      have hA5 := hE5.blk hA4 id
      have HK5 := Lib.hid (hE5.blk HK4.out id)
      have HX5 := Lib.hid (HX4.out.ext hE5)
      have HNM5 := Lib.hid (newM_mod HNM4.out hE5 (fun _ _ => id) (fun _ _ => id))
      clear hE5 hA4 k0 k1
      rcases hmb : machB ⟨os, ss⟩ with _ | _
      · have Hmb := Lib.hid hmb
        clear hmb
        have c0 : w5.cell? ⟨q0, 0, none⟩ = some _ := blk_cell hA5 rfl
        have c1 : w5.cell? ⟨q0, 1, none⟩ = some _ := blk_cell hA5 rfl
        have f0 : w5.frozen? ⟨q0, 0, none⟩ = false := blk_free 0 hA5
        have f1 : w5.frozen? ⟨q0, 1, none⟩ = false := blk_free 1 hA5
        have HXb := Lib.hid (HX5.out)
        have Hnone : Hid (decP bs = none) := Lib.hid (by rw [Hdd.out, if_pos (.inr Hmb.out)])
        go_wp2
        refine bodyPost_ret (v := .tuple #[.agg #[.slice none 0 0, .slice none 0 0], .bool false]) (by simp [results, Try.results32, go_sem, c0, c1]) rfl ⟨_, _, by rw [Hnone.out]; rfl, by rw [Hnone.out]; exact newM_nil _ _, ?_⟩
        exact ext_new HXb.out (mod_same (mod_same (Mod.refl _ _) _ _) _ _) (fun k e => by rw [e, ← Hq0.out]; exact Nat.le_refl _)
      · have Hsome : Hid (decP bs = some ⟨os, ss⟩) := Lib.hid (by rw [Hdd.out, if_neg (by rw [Hd.out, hmb]; simp [Hd0.out])])
        clear hmb
        have c0 : w5.cell? ⟨q0, 0, none⟩ = some _ := blk_cell hA5 rfl
        have c1 : w5.cell? ⟨q0, 1, none⟩ = some _ := blk_cell hA5 rfl
        have f0 : w5.frozen? ⟨q0, 0, none⟩ = false := blk_free 0 hA5
        have f1 : w5.frozen? ⟨q0, 1, none⟩ = false := blk_free 1 hA5
        have k0 : w5.cell? ⟨q0 + 2, 0, none⟩ = some _ := blk_cell HK5.out rfl
        have k1 : w5.cell? ⟨q0 + 2, 1, none⟩ = some _ := blk_cell HK5.out rfl
        have HA6 := Lib.hid hA5
        clear hA5
        go_wp2
        have hMs : Mod (fun k => k = q0) w5 ((w5.setCell ⟨q0, 0, none⟩ (.slice VA os.length vc)).setCell ⟨q0, 1, none⟩ (.slice VB ss.length vd)) := mod_same (mod_same (Mod.refl _ _) _ _) _ _
        refine bodyPost_ret (v := .tuple #[.agg #[.slice VA os.length vc, .slice VB ss.length vd], .bool true]) (by simp [results, Try.results32, go_sem, c0, c1]) rfl ⟨_, _, by rw [Hsome.out]; rfl, by rw [Hsome.out]; exact newM_box HNM5.out HA6.out hMs (by decide) (by decide), ?_⟩
        exact ext_new HX5.out hMs (fun k e => by have := Hq0.out; omega)
end Go.Proofs.Ytplpegjnmlabkaa
