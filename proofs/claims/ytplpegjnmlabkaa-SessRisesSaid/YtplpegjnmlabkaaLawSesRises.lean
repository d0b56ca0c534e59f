/-
  The walk of SessRises. Conditions: as the theorem names them.
-/
import Derived.Test.YtplpegjnmlabkaaSesMore
import Derived.Test.YtplpegjnmlabkaaGOpen
import Derived.Test.YtplpegjnmlabkaaGNum
import Derived.Deep.DeepCutAuto
import Derived.Deep.CutBlock
import Derived.Deep.RegionHeld3
namespace Go.Proofs.Ytplpegjnmlabkaa
set_option linter.unusedSimpArgs false
open Go.RowKit

set_option maxRecDepth 100000 in
set_option maxHeartbeats 4000000 in
theorem sesRises_walk (w : World) (A : Option Addr) (n cc : Nat) (l : List ACall) (hC : Cas w (fun g => g < w.heap.size) (.slice A n cc) l) (hn : l.length = n) :
    Calls Try.prog 6 #[.slice A n cc] w fun e w' => e = .returned (.bool true) ∧ Below w.heap.size w w' := by
  have hl := hC.1.le
  rw [hn] at hl
  unfold maxLen at hl
  by_cases h1 : 1000 < n
  · have d1 : decide ((n : Int) > 1000) = true := by simp; omega
    go_enter Try.func6, Try.ntmps6
    go_wp2
    go_ret
    exact ⟨rfl, Ext.below (Mod.refl _ w)⟩
  have d1 : decide ((n : Int) > 1000) = false := by simp; omega
  have HC := Lib.hid hC
  clear hC hn
  go_enter Try.func6, Try.ntmps6
  go_wp2
  obtain ⟨W0, hW0⟩ : ∃ W0, W0 = w.alloc (.cells #[.slice none 0 0, .slice none 0 0] 25) := ⟨_, rfl⟩
  obtain ⟨bm, hbm⟩ : ∃ bm, bm = w.heap.size := ⟨_, rfl⟩
  have hE0 : Ext w W0 := by rw [hW0]; exact (Mod.refl _ _).alloc _
  have hK0 : W0.heap[bm]? = some (.cells #[.slice none 0 0, .slice none 0 0] 25 (0, 0)) := by rw [hW0, hbm]; exact heap_alloc_new _ _
  rw [← hW0, ← hbm]
  have HE0 := Lib.hid hE0
  have HK0 := Lib.hid hK0
  have hbw : w.heap.size ≤ bm := Nat.le_of_eq hbm.symm
  clear hW0 hbm hE0 hK0
  go_loopw [4] (fun iv wr => ∃ (i : Nat) (N : AMach) (Ai Bi : Option Addr) (ci di : Nat), i ≤ n ∧ i ≤ 200 ∧ iv = .int .i64 i ∧ wr.heap[bm]? = some (.cells #[.slice Ai N.pairs.length ci, .slice Bi N.sess.length di] 25 (0, 0)) ∧ NewM w wr (.slice Ai N.pairs.length ci) (.slice Bi N.sess.length di) N ∧ machB N = true ∧ Mod (fun k => k = bm) W0 wr) (fun iv _ => n - (intOf iv).toNat)
  case atStart => exact ⟨0, mach0, none, none, 0, 0, by omega, by omega, rfl, HK0.out, ⟨⟨World.ownsRow_nil _ _ _ _, by simp [mach0], by simp [Value.ownBlock]⟩, ⟨World.ownsRow_nil _ _ _ _, by simp [mach0], by simp [Value.ownBlock]⟩, by simp [Value.ownBlock]⟩, mach0_right, Mod.refl _ _⟩
  case round =>
    obtain ⟨i, N, Ai, Bi, ci, di, hin, hi200, rfl, hB, hN, hr, hm⟩ := hrel
    have HX : Hid (Ext w wr) := Lib.hid (Mod.toExt ((Ext.mod HE0.out (Since w.heap.size)).trans hm (fun k _ e => by unfold Since; omega)))
    have hC := HC.out.ext HX.out
    have Kmwr := Lib.hid hB
    have HNi := Lib.hid hN
    have HRN := Lib.hid hr
    have Hm := Lib.hid hm
    clear hB hN hr hm
    by_cases hi : i < n ∧ i < 200
    case neg =>
      by_cases hi2 : i < n
      all_goals
        go_wp2_with fail
        refine (l_wakes7 wr).mono ?_
        rintro e w1 ⟨rfl, hE⟩
        replace HX := Lib.hid (HX.out.ext hE)
        clear hE
        go_wp2
        go_ret
        exact ⟨rfl, Ext.below HX.out⟩
    obtain ⟨hi, h200⟩ := hi
    obtain ⟨g, off, x, rfl, hgT, hx, hxok, hcells⟩ := hC.at hi
    have hi0 : (0 : Int) ≤ (i : Int) := by omega
    have hi1 : (i : Int) < (n : Int) := by omega
    have ngb : ¬ g = bm := by omega
    have nbg : ¬ bm = g := by omega
    have x0 := hcells 0 _ rfl
    have x1 := hcells 1 _ rfl
    have x2 := hcells 2 _ rfl
    have x3 := hcells 3 _ rfl
    have x4 := hcells 4 _ rfl
    have x5 := hcells 5 _ rfl
    have x6 := hcells 6 _ rfl
    have x7 := hcells 7 _ rfl
    have x8 := hcells 8 _ rfl
    have x9 := hcells 9 _ rfl
    rw [Nat.add_zero] at x0
    have z3 := x3
    rw [show off + i * 10 + 3 = off + i * 10 + 2 + 1 by omega] at z3
    have z4 := x4
    rw [show off + i * 10 + 4 = off + i * 10 + 2 + 2 by omega] at z4
    have z5 := x5
    rw [show off + i * 10 + 5 = off + i * 10 + 2 + 3 by omega] at z5
    have z6 := x6
    rw [show off + i * 10 + 6 = off + i * 10 + 2 + 4 by omega] at z6
    have z7 := x7
    rw [show off + i * 10 + 7 = off + i * 10 + 2 + 5 by omega] at z7
    have z8 := x8
    rw [show off + i * 10 + 8 = off + i * 10 + 2 + 6 by omega] at z8
    have z9 := x9
    rw [show off + i * 10 + 9 = off + i * 10 + 2 + 7 by omega] at z9
    have Hxok := Lib.hid hxok
    have hgl : g < wr.heap.size := World.block_lt_of_cell? _ _ x0
    have hbml : w.heap.size ≤ bm := hbw
    clear hcells hx hxok hC
    rcases hh : heavyCmd x.cmd with _ | _
    case true =>
      go_wp2_with fail
      refine (hv_cmd x.cmd wr).mono ?_
      rintro e w1 ⟨rfl, hE⟩
      have Kmw1 := Lib.hid (hE.blk Kmwr.out id)
      replace HNi := Lib.hid (newM_mod HNi.out hE (fun _ _ => id) (fun _ _ => id))
      replace Hm := Lib.hid (Hm.out.ext hE)
      replace x0 := hE.cell x0 id
      replace x1 := hE.cell x1 id
      replace x2 := hE.cell x2 id
      replace x3 := hE.cell x3 id
      replace x4 := hE.cell x4 id
      replace x5 := hE.cell x5 id
      replace x6 := hE.cell x6 id
      replace x7 := hE.cell x7 id
      replace x8 := hE.cell x8 id
      replace x9 := hE.cell x9 id
      replace z3 := hE.cell z3 id
      replace z4 := hE.cell z4 id
      replace z5 := hE.cell z5 id
      replace z6 := hE.cell z6 id
      replace z7 := hE.cell z7 id
      replace z8 := hE.cell z8 id
      replace z9 := hE.cell z9 id
      replace HX := Lib.hid (HX.out.ext hE)
      clear Kmwr
      rw [hh]
      clear hE
      have m_0 : w1.cell? ⟨bm, 0, none⟩ = some _ := blk_cell Kmw1.out rfl
      have m_1 : w1.cell? ⟨bm, 1, none⟩ = some _ := blk_cell Kmw1.out rfl
      have m_l : bm < w1.heap.size := (Array.getElem?_eq_some_iff.1 Kmw1.out).1
      go_wp2
      go_ret
      exact ⟨rfl, Ext.below HX.out⟩
    go_wp2_with fail
    refine (hv_cmd x.cmd wr).mono ?_
    rintro e w1 ⟨rfl, hE⟩
    have Kmw1 := Lib.hid (hE.blk Kmwr.out id)
    replace HNi := Lib.hid (newM_mod HNi.out hE (fun _ _ => id) (fun _ _ => id))
    replace Hm := Lib.hid (Hm.out.ext hE)
    replace x0 := hE.cell x0 id
    replace x1 := hE.cell x1 id
    replace x2 := hE.cell x2 id
    replace x3 := hE.cell x3 id
    replace x4 := hE.cell x4 id
    replace x5 := hE.cell x5 id
    replace x6 := hE.cell x6 id
    replace x7 := hE.cell x7 id
    replace x8 := hE.cell x8 id
    replace x9 := hE.cell x9 id
    replace z3 := hE.cell z3 id
    replace z4 := hE.cell z4 id
    replace z5 := hE.cell z5 id
    replace z6 := hE.cell z6 id
    replace z7 := hE.cell z7 id
    replace z8 := hE.cell z8 id
    replace z9 := hE.cell z9 id
    replace HX := Lib.hid (HX.out.ext hE)
    clear Kmwr
    rw [hh]
    clear hE
    have m_0 : w1.cell? ⟨bm, 0, none⟩ = some _ := blk_cell Kmw1.out rfl
    have m_1 : w1.cell? ⟨bm, 1, none⟩ = some _ := blk_cell Kmw1.out rfl
    have m_l : bm < w1.heap.size := (Array.getElem?_eq_some_iff.1 Kmw1.out).1
    rcases hla : lastS N.sess x.client with ⟨k, z⟩
    have Hla := Lib.hid hla
    clear hla
    have hgl1 : g < w1.heap.size := World.block_lt_of_cell? _ _ x0
    go_upto_region 9 with fail
    go_cut [5, 6] (fun s5 s6 wx => ∃ q : Nat, s5 = .int .i64 k ∧ s6 = .pointer (some ⟨q, 0, none⟩) ∧ w1.heap.size ≤ q ∧ wx.heap[q]? = some (.cells #[.int .i64 z.code, .int .i64 z.val.kind, .float .f64 z.val.num, .string z.val.text] 38 (0, 0)) ∧ Ext w1 wx)
    case first =>
      refine wp_region_held_drew (S := fun W' => Ext w1 W') (by kernel_rfl) (Mod.refl _ w1).drew (fun hS => ?_)
      obtain ⟨e0, he0⟩ : ∃ e0, e0 = w1.drew := ⟨_, rfl⟩
      rw [← he0] at hS ⊢
      clear he0
      refine takeH (i := 0) (v := ?_) (some 32) rfl rfl (by kernel_rfl) (by kernel_rfl) (by kernel_rfl) (fun _ _ _ h => h) (Or.inl ⟨by kernel_rfl, ?_⟩) hS ?_
      rotate_left
      · rintro W' hW'
        obtain ⟨hbc, hbf⟩ := bcell hW'
        go_simp
        try with_reducible rfl
      try simp only [pL]
      refine takeH (i := 1) (v := ?_) (some 33) rfl rfl (by kernel_rfl) (by kernel_rfl) (by kernel_rfl) (fun _ _ _ h => h) (Or.inl ⟨by kernel_rfl, ?_⟩) hS ?_
      rotate_left
      · rintro W' hW'
        obtain ⟨hbc, hbf⟩ := bcell hW'
        go_simp
        try with_reducible rfl
      try simp only [pL]
      refine takeH (i := 2) (v := ?_) (some 34) rfl rfl (by kernel_rfl) (by kernel_rfl) (by kernel_rfl) (fun _ _ _ h => h) (Or.inl ⟨by kernel_rfl, ?_⟩) hS ?_
      rotate_left
      · rintro W' hW'
        obtain ⟨hbc, hbf⟩ := bcell hW'
        go_simp
        try with_reducible rfl
      try simp only [pL]
      refine takeH (i := 3) (v := ?_) (some 35) rfl rfl (by kernel_rfl) (by kernel_rfl) (by kernel_rfl) (fun _ _ _ h => h) (Or.inl ⟨by kernel_rfl, ?_⟩) hS ?_
      rotate_left
      · rintro W' hW'
        obtain ⟨hbc, hbf⟩ := bcell hW'
        go_simp
        try with_reducible rfl
      try simp only [pL]
      refine takeH (i := 4) (v := ?_) (some 36) rfl rfl (by kernel_rfl) (by kernel_rfl) (by kernel_rfl) (fun _ _ _ h => h) (Or.inl ⟨by kernel_rfl, ?_⟩) hS ?_
      rotate_left
      · rintro W' hW'
        obtain ⟨hbc, hbf⟩ := bcell hW'
        go_simp
        try with_reducible rfl
      try simp only [pL]
      refine takeH (i := 5) (v := ?_) (some 37) rfl rfl (by kernel_rfl) (by kernel_rfl) (by kernel_rfl) (fun _ _ _ h => h) (Or.inl ⟨by kernel_rfl, ?_⟩) hS ?_
      rotate_left
      · rintro W' hW'
        obtain ⟨hbc, hbf⟩ := bcell hW'
        go_simp
        try with_reducible rfl
      try simp only [pL]
      refine wpAnyH_ready (rs := [6, 10]) (by kernel_rfl) (by simp) ?_
      refine AllReadyH.cons rfl (fun K hK => ?_) (AllReadyH.cons rfl (fun K hK => ?_) AllReadyH.nil)
      · go_simp
        go_wp2_with fail
        refine (s_last _ _ _ _ N.sess x.client (HNi.out.ses.ext hS)).mono ?_
        rintro e e1 ⟨rfl, hE⟩
        rw [Hla.out]
        have hX := Mod.ext hS hE
        clear hE hS
        go_simp
        refine hK.out _ _ hX (fun hS => ?_)
        clear hK K hX
        try simp only [pL]
        refine takeH (i := 7) (v := ?_) (some 31) rfl rfl (by kernel_rfl) (by kernel_rfl) (by kernel_rfl) (fun _ _ _ h => h) (Or.inl ⟨by kernel_rfl, ?_⟩) hS ?_
        rotate_left
        · rintro W' hW'
          obtain ⟨hbc, hbf⟩ := bcell hW'
          go_simp
          try with_reducible rfl
        try simp only [pL]
        refine takeH (i := 8) (v := ?_) (some 39) rfl rfl (by kernel_rfl) (by kernel_rfl) (by kernel_rfl) (fun _ _ _ h => h) (Or.inl ⟨by kernel_rfl, ?_⟩) hS ?_
        rotate_left
        · rintro W' hW'
          obtain ⟨hbc, hbf⟩ := bcell hW'
          go_simp
          try with_reducible rfl
        try simp only [pL]
        refine takeH (i := 9) (v := ?_) (some 40) rfl rfl (by kernel_rfl) (by kernel_rfl) (by kernel_rfl) (fun _ _ _ h => h) (Or.inl ⟨by kernel_rfl, ?_⟩) hS ?_
        rotate_left
        · rintro W' hW'
          obtain ⟨hbc, hbf⟩ := bcell hW'
          go_simp
          try with_reducible rfl
        try simp only [pL]
        refine wpAnyH_ready (rs := [10]) (by kernel_rfl) (by simp) ?_
        refine AllReadyH.cons rfl (fun K hK => ?_) AllReadyH.nil
        go_simp
        obtain ⟨e2, hwn⟩ : ∃ e2, e2 = e1.alloc (.cells #[.int .i64 0, .int .i64 0, .float .f64 0, .string ⟨#[]⟩] 38) := ⟨_, rfl⟩
        obtain ⟨bq, hbn⟩ : ∃ bq, bq = e1.heap.size := ⟨_, rfl⟩
        rw [← hwn, ← hbn]
        have hE : Ext e1 e2 := by rw [hwn]; exact (Mod.refl _ _).alloc _
        have Kbq : e2.heap[bq]? = some (.cells #[.int .i64 0, .int .i64 0, .float .f64 0, .string ⟨#[]⟩] 38 (0, 0)) := by rw [hwn, hbn]; exact heap_alloc_new _ _
        have hX := Mod.ext hS hE
        have gbq : w1.heap.size ≤ bq := by rw [hbn]; exact hS.size
        clear hwn hE hS hbn
        refine hK.out _ _ hX (fun hS => ?_)
        clear hK K hX
        try simp only [pL]
        refine takeH (i := 11) (v := ?_) (some 5) rfl rfl (by kernel_rfl) (by kernel_rfl) (by kernel_rfl) (fun _ _ _ h => h) (Or.inl ⟨by kernel_rfl, ?_⟩) hS ?_
        rotate_left
        · rintro W' hW'
          obtain ⟨hbc, hbf⟩ := bcell hW'
          go_simp
          try with_reducible rfl
        try simp only [pL]
        refine wpAnyH_ready (rs := [12]) (by kernel_rfl) (by simp) ?_
        refine AllReadyH.cons rfl (fun K hK => ?_) AllReadyH.nil
        have fz0 := blk_free 0 Kbq
        have cz0 : e2.cell? ⟨bq, 0, none⟩ = some _ := blk_cell Kbq rfl
        have fz1 := blk_free 1 Kbq
        have cz1 : e2.cell? ⟨bq, 1, none⟩ = some _ := blk_cell Kbq rfl
        have fz2 := blk_free 2 Kbq
        have cz2 : e2.cell? ⟨bq, 2, none⟩ = some _ := blk_cell Kbq rfl
        have fz3 := blk_free 3 Kbq
        have cz3 : e2.cell? ⟨bq, 3, none⟩ = some _ := blk_cell Kbq rfl
        obtain ⟨e3, hwn⟩ : ∃ e3, ((((e2.setCell ⟨bq, 0, none⟩ (.int .i64 z.code)).setCell ⟨bq, 1, none⟩ (.int .i64 z.val.kind)).setCell ⟨bq, 2, none⟩ (.float .f64 z.val.num)).setCell ⟨bq, 3, none⟩ (.string z.val.text)) = e3 := ⟨_, rfl⟩
        have hKn : e3.heap[bq]? = some (.cells #[.int .i64 z.code, .int .i64 z.val.kind, .float .f64 z.val.num, .string z.val.text] 38 (0, 0)) := by rw [← hwn]; simp [World.setCell, Array.getElem?_modify, Kbq]
        have hM : Mod (fun k => k = bq) e2 e3 := by rw [← hwn]; exact mod_same (mod_same (mod_same (mod_same (Mod.refl _ _) _ _) _ _) _ _) _ _
        
        have hX : Ext w1 e3 := Mod.toExt ((Ext.mod hS (Since w1.heap.size)).trans hM (fun k _ e => by rw [e]; exact gbq))
        clear hS
        go_simp
        try rw [hwn]
        refine hK.out _ _ hX (fun hS => ?_)
        clear hK K hX hwn hM Kbq fz0 cz0 fz1 cz1 fz2 cz2 fz3 cz3
        have Kbq := hKn
        clear hKn
        try simp only [pL]
        refine wpAnyH_done (by kernel_rfl) ?_ _
        go_wp2_with fail
        go_meet
        exact ⟨bq, rfl, rfl, gbq, Kbq, hS⟩
      · go_simp
        obtain ⟨e4, hwn⟩ : ∃ e4, e4 = e0.alloc (.cells #[.int .i64 0, .int .i64 0, .float .f64 0, .string ⟨#[]⟩] 38) := ⟨_, rfl⟩
        obtain ⟨bq, hbn⟩ : ∃ bq, bq = e0.heap.size := ⟨_, rfl⟩
        rw [← hwn, ← hbn]
        have hE : Ext e0 e4 := by rw [hwn]; exact (Mod.refl _ _).alloc _
        have Kbq : e4.heap[bq]? = some (.cells #[.int .i64 0, .int .i64 0, .float .f64 0, .string ⟨#[]⟩] 38 (0, 0)) := by rw [hwn, hbn]; exact heap_alloc_new _ _
        have hX := Mod.ext hS hE
        have gbq : w1.heap.size ≤ bq := by rw [hbn]; exact hS.size
        clear hwn hE hS hbn
        refine hK.out _ _ hX (fun hS => ?_)
        clear hK K hX
        try simp only [pL]
        refine wpAnyH_ready (rs := [6]) (by kernel_rfl) (by simp) ?_
        refine AllReadyH.cons rfl (fun K hK => ?_) AllReadyH.nil
        go_simp
        go_wp2_with fail
        refine (s_last _ _ _ _ N.sess x.client (HNi.out.ses.ext hS)).mono ?_
        rintro e e5 ⟨rfl, hE⟩
        rw [Hla.out]
        replace Kbq := hE.blk Kbq id
        have hX := Mod.ext hS hE
        clear hE hS
        go_simp
        refine hK.out _ _ hX (fun hS => ?_)
        clear hK K hX
        try simp only [pL]
        refine takeH (i := 7) (v := ?_) (some 31) rfl rfl (by kernel_rfl) (by kernel_rfl) (by kernel_rfl) (fun _ _ _ h => h) (Or.inl ⟨by kernel_rfl, ?_⟩) hS ?_
        rotate_left
        · rintro W' hW'
          obtain ⟨hbc, hbf⟩ := bcell hW'
          go_simp
          try with_reducible rfl
        try simp only [pL]
        refine takeH (i := 8) (v := ?_) (some 39) rfl rfl (by kernel_rfl) (by kernel_rfl) (by kernel_rfl) (fun _ _ _ h => h) (Or.inl ⟨by kernel_rfl, ?_⟩) hS ?_
        rotate_left
        · rintro W' hW'
          obtain ⟨hbc, hbf⟩ := bcell hW'
          go_simp
          try with_reducible rfl
        try simp only [pL]
        refine takeH (i := 9) (v := ?_) (some 40) rfl rfl (by kernel_rfl) (by kernel_rfl) (by kernel_rfl) (fun _ _ _ h => h) (Or.inl ⟨by kernel_rfl, ?_⟩) hS ?_
        rotate_left
        · rintro W' hW'
          obtain ⟨hbc, hbf⟩ := bcell hW'
          go_simp
          try with_reducible rfl
        try simp only [pL]
        refine takeH (i := 11) (v := ?_) (some 5) rfl rfl (by kernel_rfl) (by kernel_rfl) (by kernel_rfl) (fun _ _ _ h => h) (Or.inl ⟨by kernel_rfl, ?_⟩) hS ?_
        rotate_left
        · rintro W' hW'
          obtain ⟨hbc, hbf⟩ := bcell hW'
          go_simp
          try with_reducible rfl
        try simp only [pL]
        refine wpAnyH_ready (rs := [12]) (by kernel_rfl) (by simp) ?_
        refine AllReadyH.cons rfl (fun K hK => ?_) AllReadyH.nil
        have fz0 := blk_free 0 Kbq
        have cz0 : e5.cell? ⟨bq, 0, none⟩ = some _ := blk_cell Kbq rfl
        have fz1 := blk_free 1 Kbq
        have cz1 : e5.cell? ⟨bq, 1, none⟩ = some _ := blk_cell Kbq rfl
        have fz2 := blk_free 2 Kbq
        have cz2 : e5.cell? ⟨bq, 2, none⟩ = some _ := blk_cell Kbq rfl
        have fz3 := blk_free 3 Kbq
        have cz3 : e5.cell? ⟨bq, 3, none⟩ = some _ := blk_cell Kbq rfl
        obtain ⟨e6, hwn⟩ : ∃ e6, ((((e5.setCell ⟨bq, 0, none⟩ (.int .i64 z.code)).setCell ⟨bq, 1, none⟩ (.int .i64 z.val.kind)).setCell ⟨bq, 2, none⟩ (.float .f64 z.val.num)).setCell ⟨bq, 3, none⟩ (.string z.val.text)) = e6 := ⟨_, rfl⟩
        have hKn : e6.heap[bq]? = some (.cells #[.int .i64 z.code, .int .i64 z.val.kind, .float .f64 z.val.num, .string z.val.text] 38 (0, 0)) := by rw [← hwn]; simp [World.setCell, Array.getElem?_modify, Kbq]
        have hM : Mod (fun k => k = bq) e5 e6 := by rw [← hwn]; exact mod_same (mod_same (mod_same (mod_same (Mod.refl _ _) _ _) _ _) _ _) _ _
        
        have hX : Ext w1 e6 := Mod.toExt ((Ext.mod hS (Since w1.heap.size)).trans hM (fun k _ e => by rw [e]; exact gbq))
        clear hS
        go_simp
        try rw [hwn]
        refine hK.out _ _ hX (fun hS => ?_)
        clear hK K hX hwn hM Kbq fz0 cz0 fz1 cz1 fz2 cz2 fz3 cz3
        have Kbq := hKn
        clear hKn
        try simp only [pL]
        refine wpAnyH_done (by kernel_rfl) ?_ _
        go_wp2_with fail
        go_meet
        exact ⟨bq, rfl, rfl, gbq, Kbq, hS⟩
    case rest =>
      obtain ⟨bq, rfl, rfl, gq, Kq, hE⟩ := hcut
      clear m_0 m_1 m_l
      obtain ⟨wA, hnw⟩ : ∃ wA, wA = wc := ⟨_, rfl⟩
      rw [← hnw] at hE ⊢
      rw [← hnw] at Kq
      clear hnw
      have hbq : w.heap.size ≤ bq := by have := HX.out.size; omega
      have hltmq : bm < bq := by have := (Array.getElem?_eq_some_iff.1 Kmw1.out).1; omega
      have KmwA := Lib.hid (hE.blk Kmw1.out id)
      replace HNi := Lib.hid (newM_mod HNi.out hE (fun _ _ => id) (fun _ _ => id))
      replace Hm := Lib.hid (Hm.out.ext hE)
      replace x0 := hE.cell x0 id
      replace x1 := hE.cell x1 id
      replace x2 := hE.cell x2 id
      replace x3 := hE.cell x3 id
      replace x4 := hE.cell x4 id
      replace x5 := hE.cell x5 id
      replace x6 := hE.cell x6 id
      replace x7 := hE.cell x7 id
      replace x8 := hE.cell x8 id
      replace x9 := hE.cell x9 id
      replace z3 := hE.cell z3 id
      replace z4 := hE.cell z4 id
      replace z5 := hE.cell z5 id
      replace z6 := hE.cell z6 id
      replace z7 := hE.cell z7 id
      replace z8 := hE.cell z8 id
      replace z9 := hE.cell z9 id
      replace HX := Lib.hid (HX.out.ext hE)
      clear Kmw1
      have KqwA := Lib.hid Kq
      clear Kq gq
      clear hE
      have m_0 : wA.cell? ⟨bm, 0, none⟩ = some _ := blk_cell KmwA.out rfl
      have m_1 : wA.cell? ⟨bm, 1, none⟩ = some _ := blk_cell KmwA.out rfl
      have m_l : bm < wA.heap.size := (Array.getElem?_eq_some_iff.1 KmwA.out).1
      have q_0 : wA.cell? ⟨bq, 0, none⟩ = some _ := blk_cell KqwA.out rfl
      have q_1 : wA.cell? ⟨bq, 1, none⟩ = some _ := blk_cell KqwA.out rfl
      have q_2 : wA.cell? ⟨bq, 2, none⟩ = some _ := blk_cell KqwA.out rfl
      have q_3 : wA.cell? ⟨bq, 3, none⟩ = some _ := blk_cell KqwA.out rfl
      have q_l : bq < wA.heap.size := (Array.getElem?_eq_some_iff.1 KqwA.out).1
      have hgl_wA : g < wA.heap.size := World.block_lt_of_cell? _ _ x0
      rcases hon : onceP N x with ⟨MN, r⟩
      have Hon := Lib.hid hon
      clear hon
      go_upto_region 10 with fail
      go_cut [7, 8] (fun s7 s8 wx => ∃ (q1 q2 : Nat) (A3 B3 : Option Addr) (c3 d3 : Nat), s7 = .pointer (some ⟨q1, 0, none⟩) ∧ s8 = .pointer (some ⟨q2, 0, none⟩) ∧ wA.heap.size ≤ q1 ∧ wA.heap.size ≤ q2 ∧ q1 ≠ q2 ∧ wx.heap[q1]? = some (.cells #[.slice A3 MN.pairs.length c3, .slice B3 MN.sess.length d3] 25 (0, 0)) ∧ wx.heap[q2]? = some (.cells #[.int .i64 r.code, .int .i64 r.val.kind, .float .f64 r.val.num, .string r.val.text] 38 (0, 0)) ∧ NewM w wx (.slice A3 MN.pairs.length c3) (.slice B3 MN.sess.length d3) MN ∧ Ext wA wx)
      case first =>
        refine wp_region_held_drew (S := fun W' => Ext wA W') (by kernel_rfl) (Mod.refl _ wA).drew (fun hS => ?_)
        obtain ⟨e0, he0⟩ : ∃ e0, e0 = wA.drew := ⟨_, rfl⟩
        rw [← he0] at hS ⊢
        clear he0
        refine takeH (i := 0) (v := ?_) (some 42) rfl rfl (by kernel_rfl) (by kernel_rfl) (by kernel_rfl) (fun _ _ _ h => h) (Or.inl ⟨by kernel_rfl, ?_⟩) hS ?_
        rotate_left
        · rintro W' hW'
          obtain ⟨hbc, hbf⟩ := bcell hW'
          go_simp
          try with_reducible rfl
        try simp only [pL]
        refine takeH (i := 1) (v := ?_) (some 43) rfl rfl (by kernel_rfl) (by kernel_rfl) (by kernel_rfl) (fun _ _ _ h => h) (Or.inl ⟨by kernel_rfl, ?_⟩) hS ?_
        rotate_left
        · rintro W' hW'
          obtain ⟨hbc, hbf⟩ := bcell hW'
          go_simp
          try with_reducible rfl
        try simp only [pL]
        refine takeH (i := 2) (v := ?_) (some 44) rfl rfl (by kernel_rfl) (by kernel_rfl) (by kernel_rfl) (fun _ _ _ h => h) (Or.inl ⟨by kernel_rfl, ?_⟩) hS ?_
        rotate_left
        · rintro W' hW'
          obtain ⟨hbc, hbf⟩ := bcell hW'
          go_simp
          try with_reducible rfl
        try simp only [pL]
        refine takeH (i := 3) (v := ?_) (some 45) rfl rfl (by kernel_rfl) (by kernel_rfl) (by kernel_rfl) (fun _ _ _ h => h) (Or.inl ⟨by kernel_rfl, ?_⟩) hS ?_
        rotate_left
        · rintro W' hW'
          obtain ⟨hbc, hbf⟩ := bcell hW'
          go_simp
          try with_reducible rfl
        try simp only [pL]
        refine takeH (i := 4) (v := ?_) (some 46) rfl rfl (by kernel_rfl) (by kernel_rfl) (by kernel_rfl) (fun _ _ _ h => h) (Or.inl ⟨by kernel_rfl, ?_⟩) hS ?_
        rotate_left
        · rintro W' hW'
          obtain ⟨hbc, hbf⟩ := bcell hW'
          go_simp
          try with_reducible rfl
        try simp only [pL]
        refine wpAnyH_ready (rs := [5, 9, 10]) (by kernel_rfl) (by simp) ?_
        refine AllReadyH.cons rfl (fun K hK => ?_) (AllReadyH.cons rfl (fun K hK => ?_) (AllReadyH.cons rfl (fun K hK => ?_) AllReadyH.nil))
        · go_simp
          go_wp2_with fail
          refine (s_do_at _ _ _ _ _ N x (HNi.out.prs.ext hS) (HNi.out.ses.ext hS) (mach_small HRN.out) Hxok.out.2.2.2.2.2 Hon.out).mono ?_
          rintro e e21 ⟨p3, v3, rfl, hN, hE⟩
          obtain ⟨A3, c3, rfl⟩ := own_form hN.1.1
          obtain ⟨B3, d3, rfl⟩ := own_form hN.2.1.1
          have HN3 := newM_up hN (show w.heap.size ≤ _ by have := HX.out.size; have := hS.size; omega)
          clear hN
          have hX := Mod.ext hS hE
          clear hE hS
          go_simp
          refine hK.out _ _ hX (fun hS => ?_)
          clear hK K hX
          try simp only [pL]
          refine takeH (i := 6) (v := ?_) (some 41) rfl rfl (by kernel_rfl) (by kernel_rfl) (by kernel_rfl) (fun _ _ _ h => h) (Or.inl ⟨by kernel_rfl, ?_⟩) hS ?_
          rotate_left
          · rintro W' hW'
            obtain ⟨hbc, hbf⟩ := bcell hW'
            go_simp
            try with_reducible rfl
          try simp only [pL]
          refine takeH (i := 7) (v := ?_) (some 48) rfl rfl (by kernel_rfl) (by kernel_rfl) (by kernel_rfl) (fun _ _ _ h => h) (Or.inl ⟨by kernel_rfl, ?_⟩) hS ?_
          rotate_left
          · rintro W' hW'
            obtain ⟨hbc, hbf⟩ := bcell hW'
            go_simp
            try with_reducible rfl
          try simp only [pL]
          refine takeH (i := 8) (v := ?_) (some 49) rfl rfl (by kernel_rfl) (by kernel_rfl) (by kernel_rfl) (fun _ _ _ h => h) (Or.inl ⟨by kernel_rfl, ?_⟩) hS ?_
          rotate_left
          · rintro W' hW'
            obtain ⟨hbc, hbf⟩ := bcell hW'
            go_simp
            try with_reducible rfl
          try simp only [pL]
          refine wpAnyH_ready (rs := [9, 10]) (by kernel_rfl) (by simp) ?_
          refine AllReadyH.cons rfl (fun K hK => ?_) (AllReadyH.cons rfl (fun K hK => ?_) AllReadyH.nil)
          · go_simp
            obtain ⟨e22, hwn⟩ : ∃ e22, e22 = e21.alloc (.cells #[.slice none 0 0, .slice none 0 0] 25) := ⟨_, rfl⟩
            obtain ⟨bx, hbn⟩ : ∃ bx, bx = e21.heap.size := ⟨_, rfl⟩
            rw [← hwn, ← hbn]
            have hE : Ext e21 e22 := by rw [hwn]; exact (Mod.refl _ _).alloc _
            replace HN3 := newM_mod HN3 hE (fun _ _ => id) (fun _ _ => id)
            have Kbx : e22.heap[bx]? = some (.cells #[.slice none 0 0, .slice none 0 0] 25 (0, 0)) := by rw [hwn, hbn]; exact heap_alloc_new _ _
            have hX := Mod.ext hS hE
            have gbx : wA.heap.size ≤ bx := by rw [hbn]; exact hS.size
            clear hwn hE hS hbn
            refine hK.out _ _ hX (fun hS => ?_)
            clear hK K hX
            try simp only [pL]
            refine wpAnyH_ready (rs := [10]) (by kernel_rfl) (by simp) ?_
            refine AllReadyH.cons rfl (fun K hK => ?_) AllReadyH.nil
            go_simp
            obtain ⟨e23, hwn⟩ : ∃ e23, e23 = e22.alloc (.cells #[.int .i64 0, .int .i64 0, .float .f64 0, .string ⟨#[]⟩] 38) := ⟨_, rfl⟩
            obtain ⟨br, hbn⟩ : ∃ br, br = e22.heap.size := ⟨_, rfl⟩
            rw [← hwn, ← hbn]
            have hE : Ext e22 e23 := by rw [hwn]; exact (Mod.refl _ _).alloc _
            have nbxbr : bx < br := by rw [hbn]; exact (Array.getElem?_eq_some_iff.1 Kbx).1
            replace Kbx := hE.blk Kbx id
            replace HN3 := newM_mod HN3 hE (fun _ _ => id) (fun _ _ => id)
            have Kbr : e23.heap[br]? = some (.cells #[.int .i64 0, .int .i64 0, .float .f64 0, .string ⟨#[]⟩] 38 (0, 0)) := by rw [hwn, hbn]; exact heap_alloc_new _ _
            have hX := Mod.ext hS hE
            have gbr : wA.heap.size ≤ br := by rw [hbn]; exact hS.size
            clear hwn hE hS hbn
            refine hK.out _ _ hX (fun hS => ?_)
            clear hK K hX
            try simp only [pL]
            refine wpAnyH_ready (rs := [11]) (by kernel_rfl) (by simp) ?_
            refine AllReadyH.cons rfl (fun K hK => ?_) AllReadyH.nil
            have fz0 := blk_free 0 Kbx
            have cz0 : e23.cell? ⟨bx, 0, none⟩ = some _ := blk_cell Kbx rfl
            have fz1 := blk_free 1 Kbx
            have cz1 : e23.cell? ⟨bx, 1, none⟩ = some _ := blk_cell Kbx rfl
            obtain ⟨e24, hwn⟩ : ∃ e24, ((e23.setCell ⟨bx, 0, none⟩ (.slice A3 MN.pairs.length c3)).setCell ⟨bx, 1, none⟩ (.slice B3 MN.sess.length d3)) = e24 := ⟨_, rfl⟩
            have hKn : e24.heap[bx]? = some (.cells #[.slice A3 MN.pairs.length c3, .slice B3 MN.sess.length d3] 25 (0, 0)) := by rw [← hwn]; simp [World.setCell, Array.getElem?_modify, Kbx]
            have hM : Mod (fun k => k = bx) e23 e24 := by rw [← hwn]; exact mod_same (mod_same (Mod.refl _ _) _ _) _ _
            replace Kbr := hM.blk Kbr (by omega)
            replace HN3 := newM_box HN3 Kbx hM (by decide) (by decide)
            have hX : Ext wA e24 := Mod.toExt ((Ext.mod hS (Since wA.heap.size)).trans hM (fun k _ e => by rw [e]; exact gbx))
            clear hS
            go_simp
            try rw [hwn]
            refine hK.out _ _ hX (fun hS => ?_)
            clear hK K hX hwn hM Kbx fz0 cz0 fz1 cz1
            have Kbx := hKn
            clear hKn
            try simp only [pL]
            refine wpAnyH_ready (rs := [12]) (by kernel_rfl) (by simp) ?_
            refine AllReadyH.cons rfl (fun K hK => ?_) AllReadyH.nil
            have fz0 := blk_free 0 Kbr
            have cz0 : e24.cell? ⟨br, 0, none⟩ = some _ := blk_cell Kbr rfl
            have fz1 := blk_free 1 Kbr
            have cz1 : e24.cell? ⟨br, 1, none⟩ = some _ := blk_cell Kbr rfl
            have fz2 := blk_free 2 Kbr
            have cz2 : e24.cell? ⟨br, 2, none⟩ = some _ := blk_cell Kbr rfl
            have fz3 := blk_free 3 Kbr
            have cz3 : e24.cell? ⟨br, 3, none⟩ = some _ := blk_cell Kbr rfl
            obtain ⟨e25, hwn⟩ : ∃ e25, ((((e24.setCell ⟨br, 0, none⟩ (.int .i64 r.code)).setCell ⟨br, 1, none⟩ (.int .i64 r.val.kind)).setCell ⟨br, 2, none⟩ (.float .f64 r.val.num)).setCell ⟨br, 3, none⟩ (.string r.val.text)) = e25 := ⟨_, rfl⟩
            have hKn : e25.heap[br]? = some (.cells #[.int .i64 r.code, .int .i64 r.val.kind, .float .f64 r.val.num, .string r.val.text] 38 (0, 0)) := by rw [← hwn]; simp [World.setCell, Array.getElem?_modify, Kbr]
            have hM : Mod (fun k => k = br) e24 e25 := by rw [← hwn]; exact mod_same (mod_same (mod_same (mod_same (Mod.refl _ _) _ _) _ _) _ _) _ _
            replace Kbx := hM.blk Kbx (by omega)
            replace HN3 := newM_box HN3 Kbr hM (by decide) (by decide)
            have hX : Ext wA e25 := Mod.toExt ((Ext.mod hS (Since wA.heap.size)).trans hM (fun k _ e => by rw [e]; exact gbr))
            clear hS
            go_simp
            try rw [hwn]
            refine hK.out _ _ hX (fun hS => ?_)
            clear hK K hX hwn hM Kbr fz0 cz0 fz1 cz1 fz2 cz2 fz3 cz3
            have Kbr := hKn
            clear hKn
            try simp only [pL]
            refine wpAnyH_done (by kernel_rfl) ?_ _
            go_wp2_with fail
            go_meet
            exact ⟨bx, br, A3, B3, c3, d3, rfl, rfl, gbx, gbr, by omega, Kbx, Kbr, HN3, hS⟩
          · go_simp
            obtain ⟨e26, hwn⟩ : ∃ e26, e26 = e21.alloc (.cells #[.int .i64 0, .int .i64 0, .float .f64 0, .string ⟨#[]⟩] 38) := ⟨_, rfl⟩
            obtain ⟨br, hbn⟩ : ∃ br, br = e21.heap.size := ⟨_, rfl⟩
            rw [← hwn, ← hbn]
            have hE : Ext e21 e26 := by rw [hwn]; exact (Mod.refl _ _).alloc _
            replace HN3 := newM_mod HN3 hE (fun _ _ => id) (fun _ _ => id)
            have Kbr : e26.heap[br]? = some (.cells #[.int .i64 0, .int .i64 0, .float .f64 0, .string ⟨#[]⟩] 38 (0, 0)) := by rw [hwn, hbn]; exact heap_alloc_new _ _
            have hX := Mod.ext hS hE
            have gbr : wA.heap.size ≤ br := by rw [hbn]; exact hS.size
            clear hwn hE hS hbn
            refine hK.out _ _ hX (fun hS => ?_)
            clear hK K hX
            try simp only [pL]
            refine wpAnyH_ready (rs := [9]) (by kernel_rfl) (by simp) ?_
            refine AllReadyH.cons rfl (fun K hK => ?_) AllReadyH.nil
            go_simp
            obtain ⟨e27, hwn⟩ : ∃ e27, e27 = e26.alloc (.cells #[.slice none 0 0, .slice none 0 0] 25) := ⟨_, rfl⟩
            obtain ⟨bx, hbn⟩ : ∃ bx, bx = e26.heap.size := ⟨_, rfl⟩
            rw [← hwn, ← hbn]
            have hE : Ext e26 e27 := by rw [hwn]; exact (Mod.refl _ _).alloc _
            have nbrbx : br < bx := by rw [hbn]; exact (Array.getElem?_eq_some_iff.1 Kbr).1
            replace Kbr := hE.blk Kbr id
            replace HN3 := newM_mod HN3 hE (fun _ _ => id) (fun _ _ => id)
            have Kbx : e27.heap[bx]? = some (.cells #[.slice none 0 0, .slice none 0 0] 25 (0, 0)) := by rw [hwn, hbn]; exact heap_alloc_new _ _
            have hX := Mod.ext hS hE
            have gbx : wA.heap.size ≤ bx := by rw [hbn]; exact hS.size
            clear hwn hE hS hbn
            refine hK.out _ _ hX (fun hS => ?_)
            clear hK K hX
            try simp only [pL]
            refine wpAnyH_ready (rs := [11]) (by kernel_rfl) (by simp) ?_
            refine AllReadyH.cons rfl (fun K hK => ?_) AllReadyH.nil
            have fz0 := blk_free 0 Kbx
            have cz0 : e27.cell? ⟨bx, 0, none⟩ = some _ := blk_cell Kbx rfl
            have fz1 := blk_free 1 Kbx
            have cz1 : e27.cell? ⟨bx, 1, none⟩ = some _ := blk_cell Kbx rfl
            obtain ⟨e28, hwn⟩ : ∃ e28, ((e27.setCell ⟨bx, 0, none⟩ (.slice A3 MN.pairs.length c3)).setCell ⟨bx, 1, none⟩ (.slice B3 MN.sess.length d3)) = e28 := ⟨_, rfl⟩
            have hKn : e28.heap[bx]? = some (.cells #[.slice A3 MN.pairs.length c3, .slice B3 MN.sess.length d3] 25 (0, 0)) := by rw [← hwn]; simp [World.setCell, Array.getElem?_modify, Kbx]
            have hM : Mod (fun k => k = bx) e27 e28 := by rw [← hwn]; exact mod_same (mod_same (Mod.refl _ _) _ _) _ _
            replace Kbr := hM.blk Kbr (by omega)
            replace HN3 := newM_box HN3 Kbx hM (by decide) (by decide)
            have hX : Ext wA e28 := Mod.toExt ((Ext.mod hS (Since wA.heap.size)).trans hM (fun k _ e => by rw [e]; exact gbx))
            clear hS
            go_simp
            try rw [hwn]
            refine hK.out _ _ hX (fun hS => ?_)
            clear hK K hX hwn hM Kbx fz0 cz0 fz1 cz1
            have Kbx := hKn
            clear hKn
            try simp only [pL]
            refine wpAnyH_ready (rs := [12]) (by kernel_rfl) (by simp) ?_
            refine AllReadyH.cons rfl (fun K hK => ?_) AllReadyH.nil
            have fz0 := blk_free 0 Kbr
            have cz0 : e28.cell? ⟨br, 0, none⟩ = some _ := blk_cell Kbr rfl
            have fz1 := blk_free 1 Kbr
            have cz1 : e28.cell? ⟨br, 1, none⟩ = some _ := blk_cell Kbr rfl
            have fz2 := blk_free 2 Kbr
            have cz2 : e28.cell? ⟨br, 2, none⟩ = some _ := blk_cell Kbr rfl
            have fz3 := blk_free 3 Kbr
            have cz3 : e28.cell? ⟨br, 3, none⟩ = some _ := blk_cell Kbr rfl
            obtain ⟨e29, hwn⟩ : ∃ e29, ((((e28.setCell ⟨br, 0, none⟩ (.int .i64 r.code)).setCell ⟨br, 1, none⟩ (.int .i64 r.val.kind)).setCell ⟨br, 2, none⟩ (.float .f64 r.val.num)).setCell ⟨br, 3, none⟩ (.string r.val.text)) = e29 := ⟨_, rfl⟩
            have hKn : e29.heap[br]? = some (.cells #[.int .i64 r.code, .int .i64 r.val.kind, .float .f64 r.val.num, .string r.val.text] 38 (0, 0)) := by rw [← hwn]; simp [World.setCell, Array.getElem?_modify, Kbr]
            have hM : Mod (fun k => k = br) e28 e29 := by rw [← hwn]; exact mod_same (mod_same (mod_same (mod_same (Mod.refl _ _) _ _) _ _) _ _) _ _
            replace Kbx := hM.blk Kbx (by omega)
            replace HN3 := newM_box HN3 Kbr hM (by decide) (by decide)
            have hX : Ext wA e29 := Mod.toExt ((Ext.mod hS (Since wA.heap.size)).trans hM (fun k _ e => by rw [e]; exact gbr))
            clear hS
            go_simp
            try rw [hwn]
            refine hK.out _ _ hX (fun hS => ?_)
            clear hK K hX hwn hM Kbr fz0 cz0 fz1 cz1 fz2 cz2 fz3 cz3
            have Kbr := hKn
            clear hKn
            try simp only [pL]
            refine wpAnyH_done (by kernel_rfl) ?_ _
            go_wp2_with fail
            go_meet
            exact ⟨bx, br, A3, B3, c3, d3, rfl, rfl, gbx, gbr, by omega, Kbx, Kbr, HN3, hS⟩
        · go_simp
          obtain ⟨e30, hwn⟩ : ∃ e30, e30 = e0.alloc (.cells #[.slice none 0 0, .slice none 0 0] 25) := ⟨_, rfl⟩
          obtain ⟨bx, hbn⟩ : ∃ bx, bx = e0.heap.size := ⟨_, rfl⟩
          rw [← hwn, ← hbn]
          have hE : Ext e0 e30 := by rw [hwn]; exact (Mod.refl _ _).alloc _
          have Kbx : e30.heap[bx]? = some (.cells #[.slice none 0 0, .slice none 0 0] 25 (0, 0)) := by rw [hwn, hbn]; exact heap_alloc_new _ _
          have hX := Mod.ext hS hE
          have gbx : wA.heap.size ≤ bx := by rw [hbn]; exact hS.size
          clear hwn hE hS hbn
          refine hK.out _ _ hX (fun hS => ?_)
          clear hK K hX
          try simp only [pL]
          refine wpAnyH_ready (rs := [5, 10]) (by kernel_rfl) (by simp) ?_
          refine AllReadyH.cons rfl (fun K hK => ?_) (AllReadyH.cons rfl (fun K hK => ?_) AllReadyH.nil)
          · go_simp
            go_wp2_with fail
            refine (s_do_at _ _ _ _ _ N x (HNi.out.prs.ext hS) (HNi.out.ses.ext hS) (mach_small HRN.out) Hxok.out.2.2.2.2.2 Hon.out).mono ?_
            rintro e e31 ⟨p3, v3, rfl, hN, hE⟩
            obtain ⟨A3, c3, rfl⟩ := own_form hN.1.1
            obtain ⟨B3, d3, rfl⟩ := own_form hN.2.1.1
            have HN3 := newM_up hN (show w.heap.size ≤ _ by have := HX.out.size; have := hS.size; omega)
            clear hN
            replace Kbx := hE.blk Kbx id
            have hX := Mod.ext hS hE
            clear hE hS
            go_simp
            refine hK.out _ _ hX (fun hS => ?_)
            clear hK K hX
            try simp only [pL]
            refine takeH (i := 6) (v := ?_) (some 41) rfl rfl (by kernel_rfl) (by kernel_rfl) (by kernel_rfl) (fun _ _ _ h => h) (Or.inl ⟨by kernel_rfl, ?_⟩) hS ?_
            rotate_left
            · rintro W' hW'
              obtain ⟨hbc, hbf⟩ := bcell hW'
              go_simp
              try with_reducible rfl
            try simp only [pL]
            refine takeH (i := 7) (v := ?_) (some 48) rfl rfl (by kernel_rfl) (by kernel_rfl) (by kernel_rfl) (fun _ _ _ h => h) (Or.inl ⟨by kernel_rfl, ?_⟩) hS ?_
            rotate_left
            · rintro W' hW'
              obtain ⟨hbc, hbf⟩ := bcell hW'
              go_simp
              try with_reducible rfl
            try simp only [pL]
            refine takeH (i := 8) (v := ?_) (some 49) rfl rfl (by kernel_rfl) (by kernel_rfl) (by kernel_rfl) (fun _ _ _ h => h) (Or.inl ⟨by kernel_rfl, ?_⟩) hS ?_
            rotate_left
            · rintro W' hW'
              obtain ⟨hbc, hbf⟩ := bcell hW'
              go_simp
              try with_reducible rfl
            try simp only [pL]
            refine wpAnyH_ready (rs := [10]) (by kernel_rfl) (by simp) ?_
            refine AllReadyH.cons rfl (fun K hK => ?_) AllReadyH.nil
            go_simp
            obtain ⟨e32, hwn⟩ : ∃ e32, e32 = e31.alloc (.cells #[.int .i64 0, .int .i64 0, .float .f64 0, .string ⟨#[]⟩] 38) := ⟨_, rfl⟩
            obtain ⟨br, hbn⟩ : ∃ br, br = e31.heap.size := ⟨_, rfl⟩
            rw [← hwn, ← hbn]
            have hE : Ext e31 e32 := by rw [hwn]; exact (Mod.refl _ _).alloc _
            have nbxbr : bx < br := by rw [hbn]; exact (Array.getElem?_eq_some_iff.1 Kbx).1
            replace Kbx := hE.blk Kbx id
            replace HN3 := newM_mod HN3 hE (fun _ _ => id) (fun _ _ => id)
            have Kbr : e32.heap[br]? = some (.cells #[.int .i64 0, .int .i64 0, .float .f64 0, .string ⟨#[]⟩] 38 (0, 0)) := by rw [hwn, hbn]; exact heap_alloc_new _ _
            have hX := Mod.ext hS hE
            have gbr : wA.heap.size ≤ br := by rw [hbn]; exact hS.size
            clear hwn hE hS hbn
            refine hK.out _ _ hX (fun hS => ?_)
            clear hK K hX
            try simp only [pL]
            refine wpAnyH_ready (rs := [11]) (by kernel_rfl) (by simp) ?_
            refine AllReadyH.cons rfl (fun K hK => ?_) AllReadyH.nil
            have fz0 := blk_free 0 Kbx
            have cz0 : e32.cell? ⟨bx, 0, none⟩ = some _ := blk_cell Kbx rfl
            have fz1 := blk_free 1 Kbx
            have cz1 : e32.cell? ⟨bx, 1, none⟩ = some _ := blk_cell Kbx rfl
            obtain ⟨e33, hwn⟩ : ∃ e33, ((e32.setCell ⟨bx, 0, none⟩ (.slice A3 MN.pairs.length c3)).setCell ⟨bx, 1, none⟩ (.slice B3 MN.sess.length d3)) = e33 := ⟨_, rfl⟩
            have hKn : e33.heap[bx]? = some (.cells #[.slice A3 MN.pairs.length c3, .slice B3 MN.sess.length d3] 25 (0, 0)) := by rw [← hwn]; simp [World.setCell, Array.getElem?_modify, Kbx]
            have hM : Mod (fun k => k = bx) e32 e33 := by rw [← hwn]; exact mod_same (mod_same (Mod.refl _ _) _ _) _ _
            replace Kbr := hM.blk Kbr (by omega)
            replace HN3 := newM_box HN3 Kbx hM (by decide) (by decide)
            have hX : Ext wA e33 := Mod.toExt ((Ext.mod hS (Since wA.heap.size)).trans hM (fun k _ e => by rw [e]; exact gbx))
            clear hS
            go_simp
            try rw [hwn]
            refine hK.out _ _ hX (fun hS => ?_)
            clear hK K hX hwn hM Kbx fz0 cz0 fz1 cz1
            have Kbx := hKn
            clear hKn
            try simp only [pL]
            refine wpAnyH_ready (rs := [12]) (by kernel_rfl) (by simp) ?_
            refine AllReadyH.cons rfl (fun K hK => ?_) AllReadyH.nil
            have fz0 := blk_free 0 Kbr
            have cz0 : e33.cell? ⟨br, 0, none⟩ = some _ := blk_cell Kbr rfl
            have fz1 := blk_free 1 Kbr
            have cz1 : e33.cell? ⟨br, 1, none⟩ = some _ := blk_cell Kbr rfl
            have fz2 := blk_free 2 Kbr
            have cz2 : e33.cell? ⟨br, 2, none⟩ = some _ := blk_cell Kbr rfl
            have fz3 := blk_free 3 Kbr
            have cz3 : e33.cell? ⟨br, 3, none⟩ = some _ := blk_cell Kbr rfl
            obtain ⟨e34, hwn⟩ : ∃ e34, ((((e33.setCell ⟨br, 0, none⟩ (.int .i64 r.code)).setCell ⟨br, 1, none⟩ (.int .i64 r.val.kind)).setCell ⟨br, 2, none⟩ (.float .f64 r.val.num)).setCell ⟨br, 3, none⟩ (.string r.val.text)) = e34 := ⟨_, rfl⟩
            have hKn : e34.heap[br]? = some (.cells #[.int .i64 r.code, .int .i64 r.val.kind, .float .f64 r.val.num, .string r.val.text] 38 (0, 0)) := by rw [← hwn]; simp [World.setCell, Array.getElem?_modify, Kbr]
            have hM : Mod (fun k => k = br) e33 e34 := by rw [← hwn]; exact mod_same (mod_same (mod_same (mod_same (Mod.refl _ _) _ _) _ _) _ _) _ _
            replace Kbx := hM.blk Kbx (by omega)
            replace HN3 := newM_box HN3 Kbr hM (by decide) (by decide)
            have hX : Ext wA e34 := Mod.toExt ((Ext.mod hS (Since wA.heap.size)).trans hM (fun k _ e => by rw [e]; exact gbr))
            clear hS
            go_simp
            try rw [hwn]
            refine hK.out _ _ hX (fun hS => ?_)
            clear hK K hX hwn hM Kbr fz0 cz0 fz1 cz1 fz2 cz2 fz3 cz3
            have Kbr := hKn
            clear hKn
            try simp only [pL]
            refine wpAnyH_done (by kernel_rfl) ?_ _
            go_wp2_with fail
            go_meet
            exact ⟨bx, br, A3, B3, c3, d3, rfl, rfl, gbx, gbr, by omega, Kbx, Kbr, HN3, hS⟩
          · go_simp
            obtain ⟨e35, hwn⟩ : ∃ e35, e35 = e30.alloc (.cells #[.int .i64 0, .int .i64 0, .float .f64 0, .string ⟨#[]⟩] 38) := ⟨_, rfl⟩
            obtain ⟨br, hbn⟩ : ∃ br, br = e30.heap.size := ⟨_, rfl⟩
            rw [← hwn, ← hbn]
            have hE : Ext e30 e35 := by rw [hwn]; exact (Mod.refl _ _).alloc _
            have nbxbr : bx < br := by rw [hbn]; exact (Array.getElem?_eq_some_iff.1 Kbx).1
            replace Kbx := hE.blk Kbx id
            have Kbr : e35.heap[br]? = some (.cells #[.int .i64 0, .int .i64 0, .float .f64 0, .string ⟨#[]⟩] 38 (0, 0)) := by rw [hwn, hbn]; exact heap_alloc_new _ _
            have hX := Mod.ext hS hE
            have gbr : wA.heap.size ≤ br := by rw [hbn]; exact hS.size
            clear hwn hE hS hbn
            refine hK.out _ _ hX (fun hS => ?_)
            clear hK K hX
            try simp only [pL]
            refine wpAnyH_ready (rs := [5]) (by kernel_rfl) (by simp) ?_
            refine AllReadyH.cons rfl (fun K hK => ?_) AllReadyH.nil
            go_simp
            go_wp2_with fail
            refine (s_do_at _ _ _ _ _ N x (HNi.out.prs.ext hS) (HNi.out.ses.ext hS) (mach_small HRN.out) Hxok.out.2.2.2.2.2 Hon.out).mono ?_
            rintro e e36 ⟨p3, v3, rfl, hN, hE⟩
            obtain ⟨A3, c3, rfl⟩ := own_form hN.1.1
            obtain ⟨B3, d3, rfl⟩ := own_form hN.2.1.1
            have HN3 := newM_up hN (show w.heap.size ≤ _ by have := HX.out.size; have := hS.size; omega)
            clear hN
            replace Kbx := hE.blk Kbx id
            replace Kbr := hE.blk Kbr id
            have hX := Mod.ext hS hE
            clear hE hS
            go_simp
            refine hK.out _ _ hX (fun hS => ?_)
            clear hK K hX
            try simp only [pL]
            refine takeH (i := 6) (v := ?_) (some 41) rfl rfl (by kernel_rfl) (by kernel_rfl) (by kernel_rfl) (fun _ _ _ h => h) (Or.inl ⟨by kernel_rfl, ?_⟩) hS ?_
            rotate_left
            · rintro W' hW'
              obtain ⟨hbc, hbf⟩ := bcell hW'
              go_simp
              try with_reducible rfl
            try simp only [pL]
            refine takeH (i := 7) (v := ?_) (some 48) rfl rfl (by kernel_rfl) (by kernel_rfl) (by kernel_rfl) (fun _ _ _ h => h) (Or.inl ⟨by kernel_rfl, ?_⟩) hS ?_
            rotate_left
            · rintro W' hW'
              obtain ⟨hbc, hbf⟩ := bcell hW'
              go_simp
              try with_reducible rfl
            try simp only [pL]
            refine takeH (i := 8) (v := ?_) (some 49) rfl rfl (by kernel_rfl) (by kernel_rfl) (by kernel_rfl) (fun _ _ _ h => h) (Or.inl ⟨by kernel_rfl, ?_⟩) hS ?_
            rotate_left
            · rintro W' hW'
              obtain ⟨hbc, hbf⟩ := bcell hW'
              go_simp
              try with_reducible rfl
            try simp only [pL]
            refine wpAnyH_ready (rs := [11]) (by kernel_rfl) (by simp) ?_
            refine AllReadyH.cons rfl (fun K hK => ?_) AllReadyH.nil
            have fz0 := blk_free 0 Kbx
            have cz0 : e36.cell? ⟨bx, 0, none⟩ = some _ := blk_cell Kbx rfl
            have fz1 := blk_free 1 Kbx
            have cz1 : e36.cell? ⟨bx, 1, none⟩ = some _ := blk_cell Kbx rfl
            obtain ⟨e37, hwn⟩ : ∃ e37, ((e36.setCell ⟨bx, 0, none⟩ (.slice A3 MN.pairs.length c3)).setCell ⟨bx, 1, none⟩ (.slice B3 MN.sess.length d3)) = e37 := ⟨_, rfl⟩
            have hKn : e37.heap[bx]? = some (.cells #[.slice A3 MN.pairs.length c3, .slice B3 MN.sess.length d3] 25 (0, 0)) := by rw [← hwn]; simp [World.setCell, Array.getElem?_modify, Kbx]
            have hM : Mod (fun k => k = bx) e36 e37 := by rw [← hwn]; exact mod_same (mod_same (Mod.refl _ _) _ _) _ _
            replace Kbr := hM.blk Kbr (by omega)
            replace HN3 := newM_box HN3 Kbx hM (by decide) (by decide)
            have hX : Ext wA e37 := Mod.toExt ((Ext.mod hS (Since wA.heap.size)).trans hM (fun k _ e => by rw [e]; exact gbx))
            clear hS
            go_simp
            try rw [hwn]
            refine hK.out _ _ hX (fun hS => ?_)
            clear hK K hX hwn hM Kbx fz0 cz0 fz1 cz1
            have Kbx := hKn
            clear hKn
            try simp only [pL]
            refine wpAnyH_ready (rs := [12]) (by kernel_rfl) (by simp) ?_
            refine AllReadyH.cons rfl (fun K hK => ?_) AllReadyH.nil
            have fz0 := blk_free 0 Kbr
            have cz0 : e37.cell? ⟨br, 0, none⟩ = some _ := blk_cell Kbr rfl
            have fz1 := blk_free 1 Kbr
            have cz1 : e37.cell? ⟨br, 1, none⟩ = some _ := blk_cell Kbr rfl
            have fz2 := blk_free 2 Kbr
            have cz2 : e37.cell? ⟨br, 2, none⟩ = some _ := blk_cell Kbr rfl
            have fz3 := blk_free 3 Kbr
            have cz3 : e37.cell? ⟨br, 3, none⟩ = some _ := blk_cell Kbr rfl
            obtain ⟨e38, hwn⟩ : ∃ e38, ((((e37.setCell ⟨br, 0, none⟩ (.int .i64 r.code)).setCell ⟨br, 1, none⟩ (.int .i64 r.val.kind)).setCell ⟨br, 2, none⟩ (.float .f64 r.val.num)).setCell ⟨br, 3, none⟩ (.string r.val.text)) = e38 := ⟨_, rfl⟩
            have hKn : e38.heap[br]? = some (.cells #[.int .i64 r.code, .int .i64 r.val.kind, .float .f64 r.val.num, .string r.val.text] 38 (0, 0)) := by rw [← hwn]; simp [World.setCell, Array.getElem?_modify, Kbr]
            have hM : Mod (fun k => k = br) e37 e38 := by rw [← hwn]; exact mod_same (mod_same (mod_same (mod_same (Mod.refl _ _) _ _) _ _) _ _) _ _
            replace Kbx := hM.blk Kbx (by omega)
            replace HN3 := newM_box HN3 Kbr hM (by decide) (by decide)
            have hX : Ext wA e38 := Mod.toExt ((Ext.mod hS (Since wA.heap.size)).trans hM (fun k _ e => by rw [e]; exact gbr))
            clear hS
            go_simp
            try rw [hwn]
            refine hK.out _ _ hX (fun hS => ?_)
            clear hK K hX hwn hM Kbr fz0 cz0 fz1 cz1 fz2 cz2 fz3 cz3
            have Kbr := hKn
            clear hKn
            try simp only [pL]
            refine wpAnyH_done (by kernel_rfl) ?_ _
            go_wp2_with fail
            go_meet
            exact ⟨bx, br, A3, B3, c3, d3, rfl, rfl, gbx, gbr, by omega, Kbx, Kbr, HN3, hS⟩
        · go_simp
          obtain ⟨e39, hwn⟩ : ∃ e39, e39 = e0.alloc (.cells #[.int .i64 0, .int .i64 0, .float .f64 0, .string ⟨#[]⟩] 38) := ⟨_, rfl⟩
          obtain ⟨br, hbn⟩ : ∃ br, br = e0.heap.size := ⟨_, rfl⟩
          rw [← hwn, ← hbn]
          have hE : Ext e0 e39 := by rw [hwn]; exact (Mod.refl _ _).alloc _
          have Kbr : e39.heap[br]? = some (.cells #[.int .i64 0, .int .i64 0, .float .f64 0, .string ⟨#[]⟩] 38 (0, 0)) := by rw [hwn, hbn]; exact heap_alloc_new _ _
          have hX := Mod.ext hS hE
          have gbr : wA.heap.size ≤ br := by rw [hbn]; exact hS.size
          clear hwn hE hS hbn
          refine hK.out _ _ hX (fun hS => ?_)
          clear hK K hX
          try simp only [pL]
          refine wpAnyH_ready (rs := [5, 9]) (by kernel_rfl) (by simp) ?_
          refine AllReadyH.cons rfl (fun K hK => ?_) (AllReadyH.cons rfl (fun K hK => ?_) AllReadyH.nil)
          · go_simp
            go_wp2_with fail
            refine (s_do_at _ _ _ _ _ N x (HNi.out.prs.ext hS) (HNi.out.ses.ext hS) (mach_small HRN.out) Hxok.out.2.2.2.2.2 Hon.out).mono ?_
            rintro e e40 ⟨p3, v3, rfl, hN, hE⟩
            obtain ⟨A3, c3, rfl⟩ := own_form hN.1.1
            obtain ⟨B3, d3, rfl⟩ := own_form hN.2.1.1
            have HN3 := newM_up hN (show w.heap.size ≤ _ by have := HX.out.size; have := hS.size; omega)
            clear hN
            replace Kbr := hE.blk Kbr id
            have hX := Mod.ext hS hE
            clear hE hS
            go_simp
            refine hK.out _ _ hX (fun hS => ?_)
            clear hK K hX
            try simp only [pL]
            refine takeH (i := 6) (v := ?_) (some 41) rfl rfl (by kernel_rfl) (by kernel_rfl) (by kernel_rfl) (fun _ _ _ h => h) (Or.inl ⟨by kernel_rfl, ?_⟩) hS ?_
            rotate_left
            · rintro W' hW'
              obtain ⟨hbc, hbf⟩ := bcell hW'
              go_simp
              try with_reducible rfl
            try simp only [pL]
            refine takeH (i := 7) (v := ?_) (some 48) rfl rfl (by kernel_rfl) (by kernel_rfl) (by kernel_rfl) (fun _ _ _ h => h) (Or.inl ⟨by kernel_rfl, ?_⟩) hS ?_
            rotate_left
            · rintro W' hW'
              obtain ⟨hbc, hbf⟩ := bcell hW'
              go_simp
              try with_reducible rfl
            try simp only [pL]
            refine takeH (i := 8) (v := ?_) (some 49) rfl rfl (by kernel_rfl) (by kernel_rfl) (by kernel_rfl) (fun _ _ _ h => h) (Or.inl ⟨by kernel_rfl, ?_⟩) hS ?_
            rotate_left
            · rintro W' hW'
              obtain ⟨hbc, hbf⟩ := bcell hW'
              go_simp
              try with_reducible rfl
            try simp only [pL]
            refine wpAnyH_ready (rs := [9]) (by kernel_rfl) (by simp) ?_
            refine AllReadyH.cons rfl (fun K hK => ?_) AllReadyH.nil
            go_simp
            obtain ⟨e41, hwn⟩ : ∃ e41, e41 = e40.alloc (.cells #[.slice none 0 0, .slice none 0 0] 25) := ⟨_, rfl⟩
            obtain ⟨bx, hbn⟩ : ∃ bx, bx = e40.heap.size := ⟨_, rfl⟩
            rw [← hwn, ← hbn]
            have hE : Ext e40 e41 := by rw [hwn]; exact (Mod.refl _ _).alloc _
            have nbrbx : br < bx := by rw [hbn]; exact (Array.getElem?_eq_some_iff.1 Kbr).1
            replace Kbr := hE.blk Kbr id
            replace HN3 := newM_mod HN3 hE (fun _ _ => id) (fun _ _ => id)
            have Kbx : e41.heap[bx]? = some (.cells #[.slice none 0 0, .slice none 0 0] 25 (0, 0)) := by rw [hwn, hbn]; exact heap_alloc_new _ _
            have hX := Mod.ext hS hE
            have gbx : wA.heap.size ≤ bx := by rw [hbn]; exact hS.size
            clear hwn hE hS hbn
            refine hK.out _ _ hX (fun hS => ?_)
            clear hK K hX
            try simp only [pL]
            refine wpAnyH_ready (rs := [11]) (by kernel_rfl) (by simp) ?_
            refine AllReadyH.cons rfl (fun K hK => ?_) AllReadyH.nil
            have fz0 := blk_free 0 Kbx
            have cz0 : e41.cell? ⟨bx, 0, none⟩ = some _ := blk_cell Kbx rfl
            have fz1 := blk_free 1 Kbx
            have cz1 : e41.cell? ⟨bx, 1, none⟩ = some _ := blk_cell Kbx rfl
            obtain ⟨e42, hwn⟩ : ∃ e42, ((e41.setCell ⟨bx, 0, none⟩ (.slice A3 MN.pairs.length c3)).setCell ⟨bx, 1, none⟩ (.slice B3 MN.sess.length d3)) = e42 := ⟨_, rfl⟩
            have hKn : e42.heap[bx]? = some (.cells #[.slice A3 MN.pairs.length c3, .slice B3 MN.sess.length d3] 25 (0, 0)) := by rw [← hwn]; simp [World.setCell, Array.getElem?_modify, Kbx]
            have hM : Mod (fun k => k = bx) e41 e42 := by rw [← hwn]; exact mod_same (mod_same (Mod.refl _ _) _ _) _ _
            replace Kbr := hM.blk Kbr (by omega)
            replace HN3 := newM_box HN3 Kbx hM (by decide) (by decide)
            have hX : Ext wA e42 := Mod.toExt ((Ext.mod hS (Since wA.heap.size)).trans hM (fun k _ e => by rw [e]; exact gbx))
            clear hS
            go_simp
            try rw [hwn]
            refine hK.out _ _ hX (fun hS => ?_)
            clear hK K hX hwn hM Kbx fz0 cz0 fz1 cz1
            have Kbx := hKn
            clear hKn
            try simp only [pL]
            refine wpAnyH_ready (rs := [12]) (by kernel_rfl) (by simp) ?_
            refine AllReadyH.cons rfl (fun K hK => ?_) AllReadyH.nil
            have fz0 := blk_free 0 Kbr
            have cz0 : e42.cell? ⟨br, 0, none⟩ = some _ := blk_cell Kbr rfl
            have fz1 := blk_free 1 Kbr
            have cz1 : e42.cell? ⟨br, 1, none⟩ = some _ := blk_cell Kbr rfl
            have fz2 := blk_free 2 Kbr
            have cz2 : e42.cell? ⟨br, 2, none⟩ = some _ := blk_cell Kbr rfl
            have fz3 := blk_free 3 Kbr
            have cz3 : e42.cell? ⟨br, 3, none⟩ = some _ := blk_cell Kbr rfl
            obtain ⟨e43, hwn⟩ : ∃ e43, ((((e42.setCell ⟨br, 0, none⟩ (.int .i64 r.code)).setCell ⟨br, 1, none⟩ (.int .i64 r.val.kind)).setCell ⟨br, 2, none⟩ (.float .f64 r.val.num)).setCell ⟨br, 3, none⟩ (.string r.val.text)) = e43 := ⟨_, rfl⟩
            have hKn : e43.heap[br]? = some (.cells #[.int .i64 r.code, .int .i64 r.val.kind, .float .f64 r.val.num, .string r.val.text] 38 (0, 0)) := by rw [← hwn]; simp [World.setCell, Array.getElem?_modify, Kbr]
            have hM : Mod (fun k => k = br) e42 e43 := by rw [← hwn]; exact mod_same (mod_same (mod_same (mod_same (Mod.refl _ _) _ _) _ _) _ _) _ _
            replace Kbx := hM.blk Kbx (by omega)
            replace HN3 := newM_box HN3 Kbr hM (by decide) (by decide)
            have hX : Ext wA e43 := Mod.toExt ((Ext.mod hS (Since wA.heap.size)).trans hM (fun k _ e => by rw [e]; exact gbr))
            clear hS
            go_simp
            try rw [hwn]
            refine hK.out _ _ hX (fun hS => ?_)
            clear hK K hX hwn hM Kbr fz0 cz0 fz1 cz1 fz2 cz2 fz3 cz3
            have Kbr := hKn
            clear hKn
            try simp only [pL]
            refine wpAnyH_done (by kernel_rfl) ?_ _
            go_wp2_with fail
            go_meet
            exact ⟨bx, br, A3, B3, c3, d3, rfl, rfl, gbx, gbr, by omega, Kbx, Kbr, HN3, hS⟩
          · go_simp
            obtain ⟨e44, hwn⟩ : ∃ e44, e44 = e39.alloc (.cells #[.slice none 0 0, .slice none 0 0] 25) := ⟨_, rfl⟩
            obtain ⟨bx, hbn⟩ : ∃ bx, bx = e39.heap.size := ⟨_, rfl⟩
            rw [← hwn, ← hbn]
            have hE : Ext e39 e44 := by rw [hwn]; exact (Mod.refl _ _).alloc _
            have nbrbx : br < bx := by rw [hbn]; exact (Array.getElem?_eq_some_iff.1 Kbr).1
            replace Kbr := hE.blk Kbr id
            have Kbx : e44.heap[bx]? = some (.cells #[.slice none 0 0, .slice none 0 0] 25 (0, 0)) := by rw [hwn, hbn]; exact heap_alloc_new _ _
            have hX := Mod.ext hS hE
            have gbx : wA.heap.size ≤ bx := by rw [hbn]; exact hS.size
            clear hwn hE hS hbn
            refine hK.out _ _ hX (fun hS => ?_)
            clear hK K hX
            try simp only [pL]
            refine wpAnyH_ready (rs := [5]) (by kernel_rfl) (by simp) ?_
            refine AllReadyH.cons rfl (fun K hK => ?_) AllReadyH.nil
            go_simp
            go_wp2_with fail
            refine (s_do_at _ _ _ _ _ N x (HNi.out.prs.ext hS) (HNi.out.ses.ext hS) (mach_small HRN.out) Hxok.out.2.2.2.2.2 Hon.out).mono ?_
            rintro e e45 ⟨p3, v3, rfl, hN, hE⟩
            obtain ⟨A3, c3, rfl⟩ := own_form hN.1.1
            obtain ⟨B3, d3, rfl⟩ := own_form hN.2.1.1
            have HN3 := newM_up hN (show w.heap.size ≤ _ by have := HX.out.size; have := hS.size; omega)
            clear hN
            replace Kbr := hE.blk Kbr id
            replace Kbx := hE.blk Kbx id
            have hX := Mod.ext hS hE
            clear hE hS
            go_simp
            refine hK.out _ _ hX (fun hS => ?_)
            clear hK K hX
            try simp only [pL]
            refine takeH (i := 6) (v := ?_) (some 41) rfl rfl (by kernel_rfl) (by kernel_rfl) (by kernel_rfl) (fun _ _ _ h => h) (Or.inl ⟨by kernel_rfl, ?_⟩) hS ?_
            rotate_left
            · rintro W' hW'
              obtain ⟨hbc, hbf⟩ := bcell hW'
              go_simp
              try with_reducible rfl
            try simp only [pL]
            refine takeH (i := 7) (v := ?_) (some 48) rfl rfl (by kernel_rfl) (by kernel_rfl) (by kernel_rfl) (fun _ _ _ h => h) (Or.inl ⟨by kernel_rfl, ?_⟩) hS ?_
            rotate_left
            · rintro W' hW'
              obtain ⟨hbc, hbf⟩ := bcell hW'
              go_simp
              try with_reducible rfl
            try simp only [pL]
            refine takeH (i := 8) (v := ?_) (some 49) rfl rfl (by kernel_rfl) (by kernel_rfl) (by kernel_rfl) (fun _ _ _ h => h) (Or.inl ⟨by kernel_rfl, ?_⟩) hS ?_
            rotate_left
            · rintro W' hW'
              obtain ⟨hbc, hbf⟩ := bcell hW'
              go_simp
              try with_reducible rfl
            try simp only [pL]
            refine wpAnyH_ready (rs := [11]) (by kernel_rfl) (by simp) ?_
            refine AllReadyH.cons rfl (fun K hK => ?_) AllReadyH.nil
            have fz0 := blk_free 0 Kbx
            have cz0 : e45.cell? ⟨bx, 0, none⟩ = some _ := blk_cell Kbx rfl
            have fz1 := blk_free 1 Kbx
            have cz1 : e45.cell? ⟨bx, 1, none⟩ = some _ := blk_cell Kbx rfl
            obtain ⟨e46, hwn⟩ : ∃ e46, ((e45.setCell ⟨bx, 0, none⟩ (.slice A3 MN.pairs.length c3)).setCell ⟨bx, 1, none⟩ (.slice B3 MN.sess.length d3)) = e46 := ⟨_, rfl⟩
            have hKn : e46.heap[bx]? = some (.cells #[.slice A3 MN.pairs.length c3, .slice B3 MN.sess.length d3] 25 (0, 0)) := by rw [← hwn]; simp [World.setCell, Array.getElem?_modify, Kbx]
            have hM : Mod (fun k => k = bx) e45 e46 := by rw [← hwn]; exact mod_same (mod_same (Mod.refl _ _) _ _) _ _
            replace Kbr := hM.blk Kbr (by omega)
            replace HN3 := newM_box HN3 Kbx hM (by decide) (by decide)
            have hX : Ext wA e46 := Mod.toExt ((Ext.mod hS (Since wA.heap.size)).trans hM (fun k _ e => by rw [e]; exact gbx))
            clear hS
            go_simp
            try rw [hwn]
            refine hK.out _ _ hX (fun hS => ?_)
            clear hK K hX hwn hM Kbx fz0 cz0 fz1 cz1
            have Kbx := hKn
            clear hKn
            try simp only [pL]
            refine wpAnyH_ready (rs := [12]) (by kernel_rfl) (by simp) ?_
            refine AllReadyH.cons rfl (fun K hK => ?_) AllReadyH.nil
            have fz0 := blk_free 0 Kbr
            have cz0 : e46.cell? ⟨br, 0, none⟩ = some _ := blk_cell Kbr rfl
            have fz1 := blk_free 1 Kbr
            have cz1 : e46.cell? ⟨br, 1, none⟩ = some _ := blk_cell Kbr rfl
            have fz2 := blk_free 2 Kbr
            have cz2 : e46.cell? ⟨br, 2, none⟩ = some _ := blk_cell Kbr rfl
            have fz3 := blk_free 3 Kbr
            have cz3 : e46.cell? ⟨br, 3, none⟩ = some _ := blk_cell Kbr rfl
            obtain ⟨e47, hwn⟩ : ∃ e47, ((((e46.setCell ⟨br, 0, none⟩ (.int .i64 r.code)).setCell ⟨br, 1, none⟩ (.int .i64 r.val.kind)).setCell ⟨br, 2, none⟩ (.float .f64 r.val.num)).setCell ⟨br, 3, none⟩ (.string r.val.text)) = e47 := ⟨_, rfl⟩
            have hKn : e47.heap[br]? = some (.cells #[.int .i64 r.code, .int .i64 r.val.kind, .float .f64 r.val.num, .string r.val.text] 38 (0, 0)) := by rw [← hwn]; simp [World.setCell, Array.getElem?_modify, Kbr]
            have hM : Mod (fun k => k = br) e46 e47 := by rw [← hwn]; exact mod_same (mod_same (mod_same (mod_same (Mod.refl _ _) _ _) _ _) _ _) _ _
            replace Kbx := hM.blk Kbx (by omega)
            replace HN3 := newM_box HN3 Kbr hM (by decide) (by decide)
            have hX : Ext wA e47 := Mod.toExt ((Ext.mod hS (Since wA.heap.size)).trans hM (fun k _ e => by rw [e]; exact gbr))
            clear hS
            go_simp
            try rw [hwn]
            refine hK.out _ _ hX (fun hS => ?_)
            clear hK K hX hwn hM Kbr fz0 cz0 fz1 cz1 fz2 cz2 fz3 cz3
            have Kbr := hKn
            clear hKn
            try simp only [pL]
            refine wpAnyH_done (by kernel_rfl) ?_ _
            go_wp2_with fail
            go_meet
            exact ⟨bx, br, A3, B3, c3, d3, rfl, rfl, gbx, gbr, by omega, Kbx, Kbr, HN3, hS⟩
      case rest =>
        obtain ⟨bx, br, A3, B3, c3, d3, rfl, rfl, gx, gr, hxr, Kx, Kr, hN3, hE⟩ := hcut
        clear m_0 m_1 m_l q_0 q_1 q_2 q_3 q_l
        obtain ⟨wB, hnw⟩ : ∃ wB, wB = wc := ⟨_, rfl⟩
        rw [← hnw] at hE ⊢
        rw [← hnw] at Kx
        rw [← hnw] at Kr
        rw [← hnw] at hN3
        clear hnw
        have hbx : w.heap.size ≤ bx := by have := HX.out.size; omega
        have hbr : w.heap.size ≤ br := by have := HX.out.size; omega
        have hltmx : bm < bx := by have := (Array.getElem?_eq_some_iff.1 KmwA.out).1; omega
        have hltmr : bm < br := by have := (Array.getElem?_eq_some_iff.1 KmwA.out).1; omega
        have hltqx : bq < bx := by have := (Array.getElem?_eq_some_iff.1 KqwA.out).1; omega
        have hltqr : bq < br := by have := (Array.getElem?_eq_some_iff.1 KqwA.out).1; omega
        have KmwB := Lib.hid (hE.blk KmwA.out id)
        have KqwB := Lib.hid (hE.blk KqwA.out id)
        replace HNi := Lib.hid (newM_mod HNi.out hE (fun _ _ => id) (fun _ _ => id))
        replace Hm := Lib.hid (Hm.out.ext hE)
        replace x0 := hE.cell x0 id
        replace x1 := hE.cell x1 id
        replace x2 := hE.cell x2 id
        replace x3 := hE.cell x3 id
        replace x4 := hE.cell x4 id
        replace x5 := hE.cell x5 id
        replace x6 := hE.cell x6 id
        replace x7 := hE.cell x7 id
        replace x8 := hE.cell x8 id
        replace x9 := hE.cell x9 id
        replace z3 := hE.cell z3 id
        replace z4 := hE.cell z4 id
        replace z5 := hE.cell z5 id
        replace z6 := hE.cell z6 id
        replace z7 := hE.cell z7 id
        replace z8 := hE.cell z8 id
        replace z9 := hE.cell z9 id
        replace HX := Lib.hid (HX.out.ext hE)
        clear KmwA
        clear KqwA
        have KxwB := Lib.hid Kx
        clear Kx gx
        have KrwB := Lib.hid Kr
        clear Kr gr
        clear hE
        have m_0 : wB.cell? ⟨bm, 0, none⟩ = some _ := blk_cell KmwB.out rfl
        have m_1 : wB.cell? ⟨bm, 1, none⟩ = some _ := blk_cell KmwB.out rfl
        have m_l : bm < wB.heap.size := (Array.getElem?_eq_some_iff.1 KmwB.out).1
        have q_0 : wB.cell? ⟨bq, 0, none⟩ = some _ := blk_cell KqwB.out rfl
        have q_1 : wB.cell? ⟨bq, 1, none⟩ = some _ := blk_cell KqwB.out rfl
        have q_2 : wB.cell? ⟨bq, 2, none⟩ = some _ := blk_cell KqwB.out rfl
        have q_3 : wB.cell? ⟨bq, 3, none⟩ = some _ := blk_cell KqwB.out rfl
        have q_l : bq < wB.heap.size := (Array.getElem?_eq_some_iff.1 KqwB.out).1
        have x_0 : wB.cell? ⟨bx, 0, none⟩ = some _ := blk_cell KxwB.out rfl
        have x_1 : wB.cell? ⟨bx, 1, none⟩ = some _ := blk_cell KxwB.out rfl
        have x_l : bx < wB.heap.size := (Array.getElem?_eq_some_iff.1 KxwB.out).1
        have r_0 : wB.cell? ⟨br, 0, none⟩ = some _ := blk_cell KrwB.out rfl
        have r_1 : wB.cell? ⟨br, 1, none⟩ = some _ := blk_cell KrwB.out rfl
        have r_2 : wB.cell? ⟨br, 2, none⟩ = some _ := blk_cell KrwB.out rfl
        have r_3 : wB.cell? ⟨br, 3, none⟩ = some _ := blk_cell KrwB.out rfl
        have r_l : br < wB.heap.size := (Array.getElem?_eq_some_iff.1 KrwB.out).1
        have hgl_wB : g < wB.heap.size := World.block_lt_of_cell? _ _ x0
        have HN3 := Lib.hid hN3
        clear hN3
        rcases hla2 : lastS MN.sess x.client with ⟨k2, z2⟩
        have Hla2 := Lib.hid hla2
        clear hla2
        go_upto_region 11 with fail
        go_cut [9, 10] (fun s9 s10 wx => ∃ q : Nat, s9 = .int .i64 k2 ∧ s10 = .pointer (some ⟨q, 0, none⟩) ∧ wB.heap.size ≤ q ∧ wx.heap[q]? = some (.cells #[.int .i64 z2.code, .int .i64 z2.val.kind, .float .f64 z2.val.num, .string z2.val.text] 38 (0, 0)) ∧ Ext wB wx)
        case first =>
          refine wp_region_held_drew (S := fun W' => Ext wB W') (by kernel_rfl) (Mod.refl _ wB).drew (fun hS => ?_)
          obtain ⟨e0, he0⟩ : ∃ e0, e0 = wB.drew := ⟨_, rfl⟩
          rw [← he0] at hS ⊢
          clear he0
          refine takeH (i := 0) (v := ?_) (some 51) rfl rfl (by kernel_rfl) (by kernel_rfl) (by kernel_rfl) (fun _ _ _ h => h) (Or.inl ⟨by kernel_rfl, ?_⟩) hS ?_
          rotate_left
          · rintro W' hW'
            obtain ⟨hbc, hbf⟩ := bcell hW'
            go_simp
            try with_reducible rfl
          try simp only [pL]
          refine takeH (i := 1) (v := ?_) (some 52) rfl rfl (by kernel_rfl) (by kernel_rfl) (by kernel_rfl) (fun _ _ _ h => h) (Or.inl ⟨by kernel_rfl, ?_⟩) hS ?_
          rotate_left
          · rintro W' hW'
            obtain ⟨hbc, hbf⟩ := bcell hW'
            go_simp
            try with_reducible rfl
          try simp only [pL]
          refine takeH (i := 2) (v := ?_) (some 53) rfl rfl (by kernel_rfl) (by kernel_rfl) (by kernel_rfl) (fun _ _ _ h => h) (Or.inl ⟨by kernel_rfl, ?_⟩) hS ?_
          rotate_left
          · rintro W' hW'
            obtain ⟨hbc, hbf⟩ := bcell hW'
            go_simp
            try with_reducible rfl
          try simp only [pL]
          refine takeH (i := 3) (v := ?_) (some 54) rfl rfl (by kernel_rfl) (by kernel_rfl) (by kernel_rfl) (fun _ _ _ h => h) (Or.inl ⟨by kernel_rfl, ?_⟩) hS ?_
          rotate_left
          · rintro W' hW'
            obtain ⟨hbc, hbf⟩ := bcell hW'
            go_simp
            try with_reducible rfl
          try simp only [pL]
          refine takeH (i := 4) (v := ?_) (some 55) rfl rfl (by kernel_rfl) (by kernel_rfl) (by kernel_rfl) (fun _ _ _ h => h) (Or.inl ⟨by kernel_rfl, ?_⟩) hS ?_
          rotate_left
          · rintro W' hW'
            obtain ⟨hbc, hbf⟩ := bcell hW'
            go_simp
            try with_reducible rfl
          try simp only [pL]
          refine takeH (i := 5) (v := ?_) (some 56) rfl rfl (by kernel_rfl) (by kernel_rfl) (by kernel_rfl) (fun _ _ _ h => h) (Or.inl ⟨by kernel_rfl, ?_⟩) hS ?_
          rotate_left
          · rintro W' hW'
            obtain ⟨hbc, hbf⟩ := bcell hW'
            go_simp
            try with_reducible rfl
          try simp only [pL]
          refine wpAnyH_ready (rs := [6, 10]) (by kernel_rfl) (by simp) ?_
          refine AllReadyH.cons rfl (fun K hK => ?_) (AllReadyH.cons rfl (fun K hK => ?_) AllReadyH.nil)
          · go_simp
            go_wp2_with fail
            refine (s_last _ _ _ _ MN.sess x.client (HN3.out.ses.ext hS)).mono ?_
            rintro e e41 ⟨rfl, hE⟩
            rw [Hla2.out]
            have hX := Mod.ext hS hE
            clear hE hS
            go_simp
            refine hK.out _ _ hX (fun hS => ?_)
            clear hK K hX
            try simp only [pL]
            refine takeH (i := 7) (v := ?_) (some 50) rfl rfl (by kernel_rfl) (by kernel_rfl) (by kernel_rfl) (fun _ _ _ h => h) (Or.inl ⟨by kernel_rfl, ?_⟩) hS ?_
            rotate_left
            · rintro W' hW'
              obtain ⟨hbc, hbf⟩ := bcell hW'
              go_simp
              try with_reducible rfl
            try simp only [pL]
            refine takeH (i := 8) (v := ?_) (some 58) rfl rfl (by kernel_rfl) (by kernel_rfl) (by kernel_rfl) (fun _ _ _ h => h) (Or.inl ⟨by kernel_rfl, ?_⟩) hS ?_
            rotate_left
            · rintro W' hW'
              obtain ⟨hbc, hbf⟩ := bcell hW'
              go_simp
              try with_reducible rfl
            try simp only [pL]
            refine takeH (i := 9) (v := ?_) (some 59) rfl rfl (by kernel_rfl) (by kernel_rfl) (by kernel_rfl) (fun _ _ _ h => h) (Or.inl ⟨by kernel_rfl, ?_⟩) hS ?_
            rotate_left
            · rintro W' hW'
              obtain ⟨hbc, hbf⟩ := bcell hW'
              go_simp
              try with_reducible rfl
            try simp only [pL]
            refine wpAnyH_ready (rs := [10]) (by kernel_rfl) (by simp) ?_
            refine AllReadyH.cons rfl (fun K hK => ?_) AllReadyH.nil
            go_simp
            obtain ⟨e42, hwn⟩ : ∃ e42, e42 = e41.alloc (.cells #[.int .i64 0, .int .i64 0, .float .f64 0, .string ⟨#[]⟩] 38) := ⟨_, rfl⟩
            obtain ⟨bp, hbn⟩ : ∃ bp, bp = e41.heap.size := ⟨_, rfl⟩
            rw [← hwn, ← hbn]
            have hE : Ext e41 e42 := by rw [hwn]; exact (Mod.refl _ _).alloc _
            have Kbp : e42.heap[bp]? = some (.cells #[.int .i64 0, .int .i64 0, .float .f64 0, .string ⟨#[]⟩] 38 (0, 0)) := by rw [hwn, hbn]; exact heap_alloc_new _ _
            have hX := Mod.ext hS hE
            have gbp : wB.heap.size ≤ bp := by rw [hbn]; exact hS.size
            clear hwn hE hS hbn
            refine hK.out _ _ hX (fun hS => ?_)
            clear hK K hX
            try simp only [pL]
            refine takeH (i := 11) (v := ?_) (some 9) rfl rfl (by kernel_rfl) (by kernel_rfl) (by kernel_rfl) (fun _ _ _ h => h) (Or.inl ⟨by kernel_rfl, ?_⟩) hS ?_
            rotate_left
            · rintro W' hW'
              obtain ⟨hbc, hbf⟩ := bcell hW'
              go_simp
              try with_reducible rfl
            try simp only [pL]
            refine wpAnyH_ready (rs := [12]) (by kernel_rfl) (by simp) ?_
            refine AllReadyH.cons rfl (fun K hK => ?_) AllReadyH.nil
            have fz0 := blk_free 0 Kbp
            have cz0 : e42.cell? ⟨bp, 0, none⟩ = some _ := blk_cell Kbp rfl
            have fz1 := blk_free 1 Kbp
            have cz1 : e42.cell? ⟨bp, 1, none⟩ = some _ := blk_cell Kbp rfl
            have fz2 := blk_free 2 Kbp
            have cz2 : e42.cell? ⟨bp, 2, none⟩ = some _ := blk_cell Kbp rfl
            have fz3 := blk_free 3 Kbp
            have cz3 : e42.cell? ⟨bp, 3, none⟩ = some _ := blk_cell Kbp rfl
            obtain ⟨e43, hwn⟩ : ∃ e43, ((((e42.setCell ⟨bp, 0, none⟩ (.int .i64 z2.code)).setCell ⟨bp, 1, none⟩ (.int .i64 z2.val.kind)).setCell ⟨bp, 2, none⟩ (.float .f64 z2.val.num)).setCell ⟨bp, 3, none⟩ (.string z2.val.text)) = e43 := ⟨_, rfl⟩
            have hKn : e43.heap[bp]? = some (.cells #[.int .i64 z2.code, .int .i64 z2.val.kind, .float .f64 z2.val.num, .string z2.val.text] 38 (0, 0)) := by rw [← hwn]; simp [World.setCell, Array.getElem?_modify, Kbp]
            have hM : Mod (fun k => k = bp) e42 e43 := by rw [← hwn]; exact mod_same (mod_same (mod_same (mod_same (Mod.refl _ _) _ _) _ _) _ _) _ _
            
            have hX : Ext wB e43 := Mod.toExt ((Ext.mod hS (Since wB.heap.size)).trans hM (fun k _ e => by rw [e]; exact gbp))
            clear hS
            go_simp
            try rw [hwn]
            refine hK.out _ _ hX (fun hS => ?_)
            clear hK K hX hwn hM Kbp fz0 cz0 fz1 cz1 fz2 cz2 fz3 cz3
            have Kbp := hKn
            clear hKn
            try simp only [pL]
            refine wpAnyH_done (by kernel_rfl) ?_ _
            go_wp2_with fail
            go_meet
            exact ⟨bp, rfl, rfl, gbp, Kbp, hS⟩
          · go_simp
            obtain ⟨e44, hwn⟩ : ∃ e44, e44 = e0.alloc (.cells #[.int .i64 0, .int .i64 0, .float .f64 0, .string ⟨#[]⟩] 38) := ⟨_, rfl⟩
            obtain ⟨bp, hbn⟩ : ∃ bp, bp = e0.heap.size := ⟨_, rfl⟩
            rw [← hwn, ← hbn]
            have hE : Ext e0 e44 := by rw [hwn]; exact (Mod.refl _ _).alloc _
            have Kbp : e44.heap[bp]? = some (.cells #[.int .i64 0, .int .i64 0, .float .f64 0, .string ⟨#[]⟩] 38 (0, 0)) := by rw [hwn, hbn]; exact heap_alloc_new _ _
            have hX := Mod.ext hS hE
            have gbp : wB.heap.size ≤ bp := by rw [hbn]; exact hS.size
            clear hwn hE hS hbn
            refine hK.out _ _ hX (fun hS => ?_)
            clear hK K hX
            try simp only [pL]
            refine wpAnyH_ready (rs := [6]) (by kernel_rfl) (by simp) ?_
            refine AllReadyH.cons rfl (fun K hK => ?_) AllReadyH.nil
            go_simp
            go_wp2_with fail
            refine (s_last _ _ _ _ MN.sess x.client (HN3.out.ses.ext hS)).mono ?_
            rintro e e45 ⟨rfl, hE⟩
            rw [Hla2.out]
            replace Kbp := hE.blk Kbp id
            have hX := Mod.ext hS hE
            clear hE hS
            go_simp
            refine hK.out _ _ hX (fun hS => ?_)
            clear hK K hX
            try simp only [pL]
            refine takeH (i := 7) (v := ?_) (some 50) rfl rfl (by kernel_rfl) (by kernel_rfl) (by kernel_rfl) (fun _ _ _ h => h) (Or.inl ⟨by kernel_rfl, ?_⟩) hS ?_
            rotate_left
            · rintro W' hW'
              obtain ⟨hbc, hbf⟩ := bcell hW'
              go_simp
              try with_reducible rfl
            try simp only [pL]
            refine takeH (i := 8) (v := ?_) (some 58) rfl rfl (by kernel_rfl) (by kernel_rfl) (by kernel_rfl) (fun _ _ _ h => h) (Or.inl ⟨by kernel_rfl, ?_⟩) hS ?_
            rotate_left
            · rintro W' hW'
              obtain ⟨hbc, hbf⟩ := bcell hW'
              go_simp
              try with_reducible rfl
            try simp only [pL]
            refine takeH (i := 9) (v := ?_) (some 59) rfl rfl (by kernel_rfl) (by kernel_rfl) (by kernel_rfl) (fun _ _ _ h => h) (Or.inl ⟨by kernel_rfl, ?_⟩) hS ?_
            rotate_left
            · rintro W' hW'
              obtain ⟨hbc, hbf⟩ := bcell hW'
              go_simp
              try with_reducible rfl
            try simp only [pL]
            refine takeH (i := 11) (v := ?_) (some 9) rfl rfl (by kernel_rfl) (by kernel_rfl) (by kernel_rfl) (fun _ _ _ h => h) (Or.inl ⟨by kernel_rfl, ?_⟩) hS ?_
            rotate_left
            · rintro W' hW'
              obtain ⟨hbc, hbf⟩ := bcell hW'
              go_simp
              try with_reducible rfl
            try simp only [pL]
            refine wpAnyH_ready (rs := [12]) (by kernel_rfl) (by simp) ?_
            refine AllReadyH.cons rfl (fun K hK => ?_) AllReadyH.nil
            have fz0 := blk_free 0 Kbp
            have cz0 : e45.cell? ⟨bp, 0, none⟩ = some _ := blk_cell Kbp rfl
            have fz1 := blk_free 1 Kbp
            have cz1 : e45.cell? ⟨bp, 1, none⟩ = some _ := blk_cell Kbp rfl
            have fz2 := blk_free 2 Kbp
            have cz2 : e45.cell? ⟨bp, 2, none⟩ = some _ := blk_cell Kbp rfl
            have fz3 := blk_free 3 Kbp
            have cz3 : e45.cell? ⟨bp, 3, none⟩ = some _ := blk_cell Kbp rfl
            obtain ⟨e46, hwn⟩ : ∃ e46, ((((e45.setCell ⟨bp, 0, none⟩ (.int .i64 z2.code)).setCell ⟨bp, 1, none⟩ (.int .i64 z2.val.kind)).setCell ⟨bp, 2, none⟩ (.float .f64 z2.val.num)).setCell ⟨bp, 3, none⟩ (.string z2.val.text)) = e46 := ⟨_, rfl⟩
            have hKn : e46.heap[bp]? = some (.cells #[.int .i64 z2.code, .int .i64 z2.val.kind, .float .f64 z2.val.num, .string z2.val.text] 38 (0, 0)) := by rw [← hwn]; simp [World.setCell, Array.getElem?_modify, Kbp]
            have hM : Mod (fun k => k = bp) e45 e46 := by rw [← hwn]; exact mod_same (mod_same (mod_same (mod_same (Mod.refl _ _) _ _) _ _) _ _) _ _
            
            have hX : Ext wB e46 := Mod.toExt ((Ext.mod hS (Since wB.heap.size)).trans hM (fun k _ e => by rw [e]; exact gbp))
            clear hS
            go_simp
            try rw [hwn]
            refine hK.out _ _ hX (fun hS => ?_)
            clear hK K hX hwn hM Kbp fz0 cz0 fz1 cz1 fz2 cz2 fz3 cz3
            have Kbp := hKn
            clear hKn
            try simp only [pL]
            refine wpAnyH_done (by kernel_rfl) ?_ _
            go_wp2_with fail
            go_meet
            exact ⟨bp, rfl, rfl, gbp, Kbp, hS⟩
        case rest =>
          obtain ⟨bp, rfl, rfl, gp, Kp, hE⟩ := hcut
          clear m_0 m_1 m_l q_0 q_1 q_2 q_3 q_l x_0 x_1 x_l r_0 r_1 r_2 r_3 r_l
          obtain ⟨wC, hnw⟩ : ∃ wC, wC = wc := ⟨_, rfl⟩
          rw [← hnw] at hE ⊢
          rw [← hnw] at Kp
          clear hnw
          have hbp : w.heap.size ≤ bp := by have := HX.out.size; omega
          have hltmp : bm < bp := by have := (Array.getElem?_eq_some_iff.1 KmwB.out).1; omega
          have hltqp : bq < bp := by have := (Array.getElem?_eq_some_iff.1 KqwB.out).1; omega
          have hltxp : bx < bp := by have := (Array.getElem?_eq_some_iff.1 KxwB.out).1; omega
          have hltrp : br < bp := by have := (Array.getElem?_eq_some_iff.1 KrwB.out).1; omega
          have KmwC := Lib.hid (hE.blk KmwB.out id)
          have KqwC := Lib.hid (hE.blk KqwB.out id)
          have KxwC := Lib.hid (hE.blk KxwB.out id)
          have KrwC := Lib.hid (hE.blk KrwB.out id)
          replace HNi := Lib.hid (newM_mod HNi.out hE (fun _ _ => id) (fun _ _ => id))
          replace Hm := Lib.hid (Hm.out.ext hE)
          replace HN3 := Lib.hid (newM_mod HN3.out hE (fun _ _ => id) (fun _ _ => id))
          replace x0 := hE.cell x0 id
          replace x1 := hE.cell x1 id
          replace x2 := hE.cell x2 id
          replace x3 := hE.cell x3 id
          replace x4 := hE.cell x4 id
          replace x5 := hE.cell x5 id
          replace x6 := hE.cell x6 id
          replace x7 := hE.cell x7 id
          replace x8 := hE.cell x8 id
          replace x9 := hE.cell x9 id
          replace z3 := hE.cell z3 id
          replace z4 := hE.cell z4 id
          replace z5 := hE.cell z5 id
          replace z6 := hE.cell z6 id
          replace z7 := hE.cell z7 id
          replace z8 := hE.cell z8 id
          replace z9 := hE.cell z9 id
          replace HX := Lib.hid (HX.out.ext hE)
          clear KmwB
          clear KqwB
          clear KxwB
          clear KrwB
          have KpwC := Lib.hid Kp
          clear Kp gp
          clear hE
          have m_0 : wC.cell? ⟨bm, 0, none⟩ = some _ := blk_cell KmwC.out rfl
          have m_1 : wC.cell? ⟨bm, 1, none⟩ = some _ := blk_cell KmwC.out rfl
          have m_l : bm < wC.heap.size := (Array.getElem?_eq_some_iff.1 KmwC.out).1
          have q_0 : wC.cell? ⟨bq, 0, none⟩ = some _ := blk_cell KqwC.out rfl
          have q_1 : wC.cell? ⟨bq, 1, none⟩ = some _ := blk_cell KqwC.out rfl
          have q_2 : wC.cell? ⟨bq, 2, none⟩ = some _ := blk_cell KqwC.out rfl
          have q_3 : wC.cell? ⟨bq, 3, none⟩ = some _ := blk_cell KqwC.out rfl
          have q_l : bq < wC.heap.size := (Array.getElem?_eq_some_iff.1 KqwC.out).1
          have x_0 : wC.cell? ⟨bx, 0, none⟩ = some _ := blk_cell KxwC.out rfl
          have x_1 : wC.cell? ⟨bx, 1, none⟩ = some _ := blk_cell KxwC.out rfl
          have x_l : bx < wC.heap.size := (Array.getElem?_eq_some_iff.1 KxwC.out).1
          have r_0 : wC.cell? ⟨br, 0, none⟩ = some _ := blk_cell KrwC.out rfl
          have r_1 : wC.cell? ⟨br, 1, none⟩ = some _ := blk_cell KrwC.out rfl
          have r_2 : wC.cell? ⟨br, 2, none⟩ = some _ := blk_cell KrwC.out rfl
          have r_3 : wC.cell? ⟨br, 3, none⟩ = some _ := blk_cell KrwC.out rfl
          have r_l : br < wC.heap.size := (Array.getElem?_eq_some_iff.1 KrwC.out).1
          have p_0 : wC.cell? ⟨bp, 0, none⟩ = some _ := blk_cell KpwC.out rfl
          have p_1 : wC.cell? ⟨bp, 1, none⟩ = some _ := blk_cell KpwC.out rfl
          have p_2 : wC.cell? ⟨bp, 2, none⟩ = some _ := blk_cell KpwC.out rfl
          have p_3 : wC.cell? ⟨bp, 3, none⟩ = some _ := blk_cell KpwC.out rfl
          have p_l : bp < wC.heap.size := (Array.getElem?_eq_some_iff.1 KpwC.out).1
          have hgl_wC : g < wC.heap.size := World.block_lt_of_cell? _ _ x0
          have hRM : machB MN = true := by have := once_right x HRN.out; rw [Hon.out] at this; exact this
          have HRM := Lib.hid hRM
          clear hRM
          rcases once_rises x HRN.out with hs | ⟨hs1, hs2⟩
          · have hMN : MN = N := by rw [Hon.out] at hs; exact hs
            have hkk : k2 = k := by
              have h1 := Hla.out
              have h2 := Hla2.out
              rw [hMN, h1] at h2
              exact ((Prod.mk.inj h2).1).symm
            have HMN := Lib.hid hMN
            clear hs hMN
            subst hkk
            have e1 : decide (k2 < k2) = false := by simp
            have e2 : (k2 == k2) = true := by simp
            go_wp2_with fail
            refine (s_check wC _ _ _ _ MN.pairs MN.sess HN3.out.prs HN3.out.ses).mono ?_
            rintro e w2 ⟨rfl, hE⟩
            clear m_0 m_1 m_l q_0 q_1 q_2 q_3 q_l x_0 x_1 x_l r_0 r_1 r_2 r_3 r_l p_0 p_1 p_2 p_3 p_l
            have Kmw2 := Lib.hid (hE.blk KmwC.out id)
            have Kqw2 := Lib.hid (hE.blk KqwC.out id)
            have Kxw2 := Lib.hid (hE.blk KxwC.out id)
            have Krw2 := Lib.hid (hE.blk KrwC.out id)
            have Kpw2 := Lib.hid (hE.blk KpwC.out id)
            replace HNi := Lib.hid (newM_mod HNi.out hE (fun _ _ => id) (fun _ _ => id))
            replace Hm := Lib.hid (Hm.out.ext hE)
            replace HN3 := Lib.hid (newM_mod HN3.out hE (fun _ _ => id) (fun _ _ => id))
            replace x0 := hE.cell x0 id
            replace x1 := hE.cell x1 id
            replace x2 := hE.cell x2 id
            replace x3 := hE.cell x3 id
            replace x4 := hE.cell x4 id
            replace x5 := hE.cell x5 id
            replace x6 := hE.cell x6 id
            replace x7 := hE.cell x7 id
            replace x8 := hE.cell x8 id
            replace x9 := hE.cell x9 id
            replace z3 := hE.cell z3 id
            replace z4 := hE.cell z4 id
            replace z5 := hE.cell z5 id
            replace z6 := hE.cell z6 id
            replace z7 := hE.cell z7 id
            replace z8 := hE.cell z8 id
            replace z9 := hE.cell z9 id
            replace HX := Lib.hid (HX.out.ext hE)
            clear KmwC
            clear KqwC
            clear KxwC
            clear KrwC
            clear KpwC
            rw [show chkM ⟨MN.pairs, MN.sess⟩ = 0 from chkM_ok HRM.out]
            clear hE
            have m_0 : w2.cell? ⟨bm, 0, none⟩ = some _ := blk_cell Kmw2.out rfl
            have m_1 : w2.cell? ⟨bm, 1, none⟩ = some _ := blk_cell Kmw2.out rfl
            have m_l : bm < w2.heap.size := (Array.getElem?_eq_some_iff.1 Kmw2.out).1
            have q_0 : w2.cell? ⟨bq, 0, none⟩ = some _ := blk_cell Kqw2.out rfl
            have q_1 : w2.cell? ⟨bq, 1, none⟩ = some _ := blk_cell Kqw2.out rfl
            have q_2 : w2.cell? ⟨bq, 2, none⟩ = some _ := blk_cell Kqw2.out rfl
            have q_3 : w2.cell? ⟨bq, 3, none⟩ = some _ := blk_cell Kqw2.out rfl
            have q_l : bq < w2.heap.size := (Array.getElem?_eq_some_iff.1 Kqw2.out).1
            have x_0 : w2.cell? ⟨bx, 0, none⟩ = some _ := blk_cell Kxw2.out rfl
            have x_1 : w2.cell? ⟨bx, 1, none⟩ = some _ := blk_cell Kxw2.out rfl
            have x_l : bx < w2.heap.size := (Array.getElem?_eq_some_iff.1 Kxw2.out).1
            have r_0 : w2.cell? ⟨br, 0, none⟩ = some _ := blk_cell Krw2.out rfl
            have r_1 : w2.cell? ⟨br, 1, none⟩ = some _ := blk_cell Krw2.out rfl
            have r_2 : w2.cell? ⟨br, 2, none⟩ = some _ := blk_cell Krw2.out rfl
            have r_3 : w2.cell? ⟨br, 3, none⟩ = some _ := blk_cell Krw2.out rfl
            have r_l : br < w2.heap.size := (Array.getElem?_eq_some_iff.1 Krw2.out).1
            have p_0 : w2.cell? ⟨bp, 0, none⟩ = some _ := blk_cell Kpw2.out rfl
            have p_1 : w2.cell? ⟨bp, 1, none⟩ = some _ := blk_cell Kpw2.out rfl
            have p_2 : w2.cell? ⟨bp, 2, none⟩ = some _ := blk_cell Kpw2.out rfl
            have p_3 : w2.cell? ⟨bp, 3, none⟩ = some _ := blk_cell Kpw2.out rfl
            have p_l : bp < w2.heap.size := (Array.getElem?_eq_some_iff.1 Kpw2.out).1
            go_wp2_with fail
            refine (k_machine w2 _ _ _ _ _ _ _ _ MN.pairs N.pairs MN.sess N.sess HN3.out.prs HNi.out.prs HN3.out.ses HNi.out.ses).mono ?_
            rintro e w3 ⟨rfl, hE⟩
            clear m_0 m_1 m_l q_0 q_1 q_2 q_3 q_l x_0 x_1 x_l r_0 r_1 r_2 r_3 r_l p_0 p_1 p_2 p_3 p_l
            have Kmw3 := Lib.hid (hE.blk Kmw2.out id)
            have Kqw3 := Lib.hid (hE.blk Kqw2.out id)
            have Kxw3 := Lib.hid (hE.blk Kxw2.out id)
            have Krw3 := Lib.hid (hE.blk Krw2.out id)
            have Kpw3 := Lib.hid (hE.blk Kpw2.out id)
            replace HNi := Lib.hid (newM_mod HNi.out hE (fun _ _ => id) (fun _ _ => id))
            replace Hm := Lib.hid (Hm.out.ext hE)
            replace HN3 := Lib.hid (newM_mod HN3.out hE (fun _ _ => id) (fun _ _ => id))
            replace x0 := hE.cell x0 id
            replace x1 := hE.cell x1 id
            replace x2 := hE.cell x2 id
            replace x3 := hE.cell x3 id
            replace x4 := hE.cell x4 id
            replace x5 := hE.cell x5 id
            replace x6 := hE.cell x6 id
            replace x7 := hE.cell x7 id
            replace x8 := hE.cell x8 id
            replace x9 := hE.cell x9 id
            replace z3 := hE.cell z3 id
            replace z4 := hE.cell z4 id
            replace z5 := hE.cell z5 id
            replace z6 := hE.cell z6 id
            replace z7 := hE.cell z7 id
            replace z8 := hE.cell z8 id
            replace z9 := hE.cell z9 id
            replace HX := Lib.hid (HX.out.ext hE)
            clear Kmw2
            clear Kqw2
            clear Kxw2
            clear Krw2
            clear Kpw2
            rw [show eqM ⟨MN.pairs, MN.sess⟩ ⟨N.pairs, N.sess⟩ = true by rw [HMN.out]; exact eqM_refl _]
            clear hE
            have m_0 : w3.cell? ⟨bm, 0, none⟩ = some _ := blk_cell Kmw3.out rfl
            have m_1 : w3.cell? ⟨bm, 1, none⟩ = some _ := blk_cell Kmw3.out rfl
            have m_l : bm < w3.heap.size := (Array.getElem?_eq_some_iff.1 Kmw3.out).1
            have q_0 : w3.cell? ⟨bq, 0, none⟩ = some _ := blk_cell Kqw3.out rfl
            have q_1 : w3.cell? ⟨bq, 1, none⟩ = some _ := blk_cell Kqw3.out rfl
            have q_2 : w3.cell? ⟨bq, 2, none⟩ = some _ := blk_cell Kqw3.out rfl
            have q_3 : w3.cell? ⟨bq, 3, none⟩ = some _ := blk_cell Kqw3.out rfl
            have q_l : bq < w3.heap.size := (Array.getElem?_eq_some_iff.1 Kqw3.out).1
            have x_0 : w3.cell? ⟨bx, 0, none⟩ = some _ := blk_cell Kxw3.out rfl
            have x_1 : w3.cell? ⟨bx, 1, none⟩ = some _ := blk_cell Kxw3.out rfl
            have x_l : bx < w3.heap.size := (Array.getElem?_eq_some_iff.1 Kxw3.out).1
            have r_0 : w3.cell? ⟨br, 0, none⟩ = some _ := blk_cell Krw3.out rfl
            have r_1 : w3.cell? ⟨br, 1, none⟩ = some _ := blk_cell Krw3.out rfl
            have r_2 : w3.cell? ⟨br, 2, none⟩ = some _ := blk_cell Krw3.out rfl
            have r_3 : w3.cell? ⟨br, 3, none⟩ = some _ := blk_cell Krw3.out rfl
            have r_l : br < w3.heap.size := (Array.getElem?_eq_some_iff.1 Krw3.out).1
            have p_0 : w3.cell? ⟨bp, 0, none⟩ = some _ := blk_cell Kpw3.out rfl
            have p_1 : w3.cell? ⟨bp, 1, none⟩ = some _ := blk_cell Kpw3.out rfl
            have p_2 : w3.cell? ⟨bp, 2, none⟩ = some _ := blk_cell Kpw3.out rfl
            have p_3 : w3.cell? ⟨bp, 3, none⟩ = some _ := blk_cell Kpw3.out rfl
            have p_l : bp < w3.heap.size := (Array.getElem?_eq_some_iff.1 Kpw3.out).1
            have fz0 := blk_free 0 Kmw3.out
            have fz1 := blk_free 1 Kmw3.out
            have hM : Hid (Mod (fun k => k = bm) w3 ((w3.setCell ⟨bm, 0, none⟩ (.slice A3 MN.pairs.length c3)).setCell ⟨bm, 1, none⟩ (.slice B3 MN.sess.length d3))) := Lib.hid (mod_same (mod_same (Mod.refl _ _) _ _) _ _)
            have hKn : Hid (((w3.setCell ⟨bm, 0, none⟩ (.slice A3 MN.pairs.length c3)).setCell ⟨bm, 1, none⟩ (.slice B3 MN.sess.length d3)).heap[bm]? = some (.cells #[.slice A3 MN.pairs.length c3, .slice B3 MN.sess.length d3] 25 (0, 0))) := Lib.hid (by have := Kmw3.out; simp [World.setCell, Array.getElem?_modify, this])
            have hN9 := Lib.hid (newM_box HN3.out Kmw3.out hM.out (by decide) (by decide))
            have hm9 : Hid (Mod (fun k => k = bm) W0 ((w3.setCell ⟨bm, 0, none⟩ (.slice A3 MN.pairs.length c3)).setCell ⟨bm, 1, none⟩ (.slice B3 MN.sess.length d3))) := Lib.hid (Hm.out.trans hM.out (fun _ _ e => e))
            have hin' : i < n := hi
            go_wp2
            clear m_0 m_1 m_l q_0 q_1 q_2 q_3 q_l x_0 x_1 x_l r_0 r_1 r_2 r_3 r_l p_0 p_1 p_2 p_3 p_l
            go_roundw
            case rel => exact ⟨i + 1, MN, A3, B3, c3, d3, by omega, by omega, by go_num, hKn.out, hN9.out, HRM.out, hm9.out⟩
            case measure => simp [intOf]; omega
          · have hk2 : k2 = x.seq ∧ z2 = r := by
              have h2 := Hla2.out
              rw [Hon.out] at hs2
              rw [hs2] at h2
              exact ⟨((Prod.mk.inj h2).1).symm, ((Prod.mk.inj h2).2).symm⟩
            obtain ⟨rfl, rfl⟩ := hk2
            have hlt : k < x.seq := by rw [Hla.out] at hs1; exact hs1
            have e1 : decide (x.seq < k) = false := by simp; omega
            have e2 : (x.seq == k) = false := by simp; omega
            have e3 : decide (k < x.seq) = true := by simp; omega
            have e4 : decide (x.seq > k) = true := e3
            have Hlt := Lib.hid hlt
            clear hlt hs1 hs2
            go_wp2_with fail
            refine (s_check wC _ _ _ _ MN.pairs MN.sess HN3.out.prs HN3.out.ses).mono ?_
            rintro e w2 ⟨rfl, hE⟩
            clear m_0 m_1 m_l q_0 q_1 q_2 q_3 q_l x_0 x_1 x_l r_0 r_1 r_2 r_3 r_l p_0 p_1 p_2 p_3 p_l
            have Kmw2 := Lib.hid (hE.blk KmwC.out id)
            have Kqw2 := Lib.hid (hE.blk KqwC.out id)
            have Kxw2 := Lib.hid (hE.blk KxwC.out id)
            have Krw2 := Lib.hid (hE.blk KrwC.out id)
            have Kpw2 := Lib.hid (hE.blk KpwC.out id)
            replace HNi := Lib.hid (newM_mod HNi.out hE (fun _ _ => id) (fun _ _ => id))
            replace Hm := Lib.hid (Hm.out.ext hE)
            replace HN3 := Lib.hid (newM_mod HN3.out hE (fun _ _ => id) (fun _ _ => id))
            replace x0 := hE.cell x0 id
            replace x1 := hE.cell x1 id
            replace x2 := hE.cell x2 id
            replace x3 := hE.cell x3 id
            replace x4 := hE.cell x4 id
            replace x5 := hE.cell x5 id
            replace x6 := hE.cell x6 id
            replace x7 := hE.cell x7 id
            replace x8 := hE.cell x8 id
            replace x9 := hE.cell x9 id
            replace z3 := hE.cell z3 id
            replace z4 := hE.cell z4 id
            replace z5 := hE.cell z5 id
            replace z6 := hE.cell z6 id
            replace z7 := hE.cell z7 id
            replace z8 := hE.cell z8 id
            replace z9 := hE.cell z9 id
            replace HX := Lib.hid (HX.out.ext hE)
            clear KmwC
            clear KqwC
            clear KxwC
            clear KrwC
            clear KpwC
            rw [show chkM ⟨MN.pairs, MN.sess⟩ = 0 from chkM_ok HRM.out]
            clear hE
            have m_0 : w2.cell? ⟨bm, 0, none⟩ = some _ := blk_cell Kmw2.out rfl
            have m_1 : w2.cell? ⟨bm, 1, none⟩ = some _ := blk_cell Kmw2.out rfl
            have m_l : bm < w2.heap.size := (Array.getElem?_eq_some_iff.1 Kmw2.out).1
            have q_0 : w2.cell? ⟨bq, 0, none⟩ = some _ := blk_cell Kqw2.out rfl
            have q_1 : w2.cell? ⟨bq, 1, none⟩ = some _ := blk_cell Kqw2.out rfl
            have q_2 : w2.cell? ⟨bq, 2, none⟩ = some _ := blk_cell Kqw2.out rfl
            have q_3 : w2.cell? ⟨bq, 3, none⟩ = some _ := blk_cell Kqw2.out rfl
            have q_l : bq < w2.heap.size := (Array.getElem?_eq_some_iff.1 Kqw2.out).1
            have x_0 : w2.cell? ⟨bx, 0, none⟩ = some _ := blk_cell Kxw2.out rfl
            have x_1 : w2.cell? ⟨bx, 1, none⟩ = some _ := blk_cell Kxw2.out rfl
            have x_l : bx < w2.heap.size := (Array.getElem?_eq_some_iff.1 Kxw2.out).1
            have r_0 : w2.cell? ⟨br, 0, none⟩ = some _ := blk_cell Krw2.out rfl
            have r_1 : w2.cell? ⟨br, 1, none⟩ = some _ := blk_cell Krw2.out rfl
            have r_2 : w2.cell? ⟨br, 2, none⟩ = some _ := blk_cell Krw2.out rfl
            have r_3 : w2.cell? ⟨br, 3, none⟩ = some _ := blk_cell Krw2.out rfl
            have r_l : br < w2.heap.size := (Array.getElem?_eq_some_iff.1 Krw2.out).1
            have p_0 : w2.cell? ⟨bp, 0, none⟩ = some _ := blk_cell Kpw2.out rfl
            have p_1 : w2.cell? ⟨bp, 1, none⟩ = some _ := blk_cell Kpw2.out rfl
            have p_2 : w2.cell? ⟨bp, 2, none⟩ = some _ := blk_cell Kpw2.out rfl
            have p_3 : w2.cell? ⟨bp, 3, none⟩ = some _ := blk_cell Kpw2.out rfl
            have p_l : bp < w2.heap.size := (Array.getElem?_eq_some_iff.1 Kpw2.out).1
            go_wp2_with fail
            refine (k_reply z2 z2 w2).mono ?_
            rintro e w3 ⟨rfl, hE⟩
            clear m_0 m_1 m_l q_0 q_1 q_2 q_3 q_l x_0 x_1 x_l r_0 r_1 r_2 r_3 r_l p_0 p_1 p_2 p_3 p_l
            have Kmw3 := Lib.hid (hE.blk Kmw2.out id)
            have Kqw3 := Lib.hid (hE.blk Kqw2.out id)
            have Kxw3 := Lib.hid (hE.blk Kxw2.out id)
            have Krw3 := Lib.hid (hE.blk Krw2.out id)
            have Kpw3 := Lib.hid (hE.blk Kpw2.out id)
            replace HNi := Lib.hid (newM_mod HNi.out hE (fun _ _ => id) (fun _ _ => id))
            replace Hm := Lib.hid (Hm.out.ext hE)
            replace HN3 := Lib.hid (newM_mod HN3.out hE (fun _ _ => id) (fun _ _ => id))
            replace x0 := hE.cell x0 id
            replace x1 := hE.cell x1 id
            replace x2 := hE.cell x2 id
            replace x3 := hE.cell x3 id
            replace x4 := hE.cell x4 id
            replace x5 := hE.cell x5 id
            replace x6 := hE.cell x6 id
            replace x7 := hE.cell x7 id
            replace x8 := hE.cell x8 id
            replace x9 := hE.cell x9 id
            replace z3 := hE.cell z3 id
            replace z4 := hE.cell z4 id
            replace z5 := hE.cell z5 id
            replace z6 := hE.cell z6 id
            replace z7 := hE.cell z7 id
            replace z8 := hE.cell z8 id
            replace z9 := hE.cell z9 id
            replace HX := Lib.hid (HX.out.ext hE)
            clear Kmw2
            clear Kqw2
            clear Kxw2
            clear Krw2
            clear Kpw2
            rw [eqReply_refl]
            clear hE
            have m_0 : w3.cell? ⟨bm, 0, none⟩ = some _ := blk_cell Kmw3.out rfl
            have m_1 : w3.cell? ⟨bm, 1, none⟩ = some _ := blk_cell Kmw3.out rfl
            have m_l : bm < w3.heap.size := (Array.getElem?_eq_some_iff.1 Kmw3.out).1
            have q_0 : w3.cell? ⟨bq, 0, none⟩ = some _ := blk_cell Kqw3.out rfl
            have q_1 : w3.cell? ⟨bq, 1, none⟩ = some _ := blk_cell Kqw3.out rfl
            have q_2 : w3.cell? ⟨bq, 2, none⟩ = some _ := blk_cell Kqw3.out rfl
            have q_3 : w3.cell? ⟨bq, 3, none⟩ = some _ := blk_cell Kqw3.out rfl
            have q_l : bq < w3.heap.size := (Array.getElem?_eq_some_iff.1 Kqw3.out).1
            have x_0 : w3.cell? ⟨bx, 0, none⟩ = some _ := blk_cell Kxw3.out rfl
            have x_1 : w3.cell? ⟨bx, 1, none⟩ = some _ := blk_cell Kxw3.out rfl
            have x_l : bx < w3.heap.size := (Array.getElem?_eq_some_iff.1 Kxw3.out).1
            have r_0 : w3.cell? ⟨br, 0, none⟩ = some _ := blk_cell Krw3.out rfl
            have r_1 : w3.cell? ⟨br, 1, none⟩ = some _ := blk_cell Krw3.out rfl
            have r_2 : w3.cell? ⟨br, 2, none⟩ = some _ := blk_cell Krw3.out rfl
            have r_3 : w3.cell? ⟨br, 3, none⟩ = some _ := blk_cell Krw3.out rfl
            have r_l : br < w3.heap.size := (Array.getElem?_eq_some_iff.1 Krw3.out).1
            have p_0 : w3.cell? ⟨bp, 0, none⟩ = some _ := blk_cell Kpw3.out rfl
            have p_1 : w3.cell? ⟨bp, 1, none⟩ = some _ := blk_cell Kpw3.out rfl
            have p_2 : w3.cell? ⟨bp, 2, none⟩ = some _ := blk_cell Kpw3.out rfl
            have p_3 : w3.cell? ⟨bp, 3, none⟩ = some _ := blk_cell Kpw3.out rfl
            have p_l : bp < w3.heap.size := (Array.getElem?_eq_some_iff.1 Kpw3.out).1
            have fz0 := blk_free 0 Kmw3.out
            have fz1 := blk_free 1 Kmw3.out
            have hM : Hid (Mod (fun k => k = bm) w3 ((w3.setCell ⟨bm, 0, none⟩ (.slice A3 MN.pairs.length c3)).setCell ⟨bm, 1, none⟩ (.slice B3 MN.sess.length d3))) := Lib.hid (mod_same (mod_same (Mod.refl _ _) _ _) _ _)
            have hKn : Hid (((w3.setCell ⟨bm, 0, none⟩ (.slice A3 MN.pairs.length c3)).setCell ⟨bm, 1, none⟩ (.slice B3 MN.sess.length d3)).heap[bm]? = some (.cells #[.slice A3 MN.pairs.length c3, .slice B3 MN.sess.length d3] 25 (0, 0))) := Lib.hid (by have := Kmw3.out; simp [World.setCell, Array.getElem?_modify, this])
            have hN9 := Lib.hid (newM_box HN3.out Kmw3.out hM.out (by decide) (by decide))
            have hm9 : Hid (Mod (fun k => k = bm) W0 ((w3.setCell ⟨bm, 0, none⟩ (.slice A3 MN.pairs.length c3)).setCell ⟨bm, 1, none⟩ (.slice B3 MN.sess.length d3))) := Lib.hid (Hm.out.trans hM.out (fun _ _ e => e))
            have hin' : i < n := hi
            go_wp2
            clear m_0 m_1 m_l q_0 q_1 q_2 q_3 q_l x_0 x_1 x_l r_0 r_1 r_2 r_3 r_l p_0 p_1 p_2 p_3 p_l
            go_roundw
            case rel => exact ⟨i + 1, MN, A3, B3, c3, d3, by omega, by omega, by go_num, hKn.out, hN9.out, HRM.out, hm9.out⟩
            case measure => simp [intOf]; omega
theorem sesRises_a (w : World) (v0 : Value) (l : List ACall) (hC : Cas w (fun g => g < w.heap.size) v0 l) :
    Calls Try.prog 6 #[v0] w fun e w' => e = .returned (.bool true) ∧ Below w.heap.size w w' := by
  obtain ⟨A, cc, rfl⟩ := hC.form
  exact sesRises_walk w A _ cc l hC rfl
end Go.Proofs.Ytplpegjnmlabkaa
