/-
  The walk of SessCuts. Conditions: as the theorem names them.
-/
import Derived.Test.YtplpegjnmlabkaaSesDec
import Derived.Test.YtplpegjnmlabkaaGOpen
namespace Go.Proofs.Ytplpegjnmlabkaa
set_option linter.unusedSimpArgs false
open Go.RowKit

set_option maxRecDepth 100000 in
set_option maxHeartbeats 2000000 in
theorem sesCuts_walk (w : World) (T : Nat → Prop) (A : Option Addr) (n cc : Nat) (l : List ACall) (hC : Cas w T (.slice A n cc) l) (hn : l.length = n) (A2 : Option Addr) (k ck : Nat) (l2 : List ACall) (hC2 : Cas w T (.slice A2 k ck) l2) (hk : l2.length = k) (k0 : Int) (c : UInt8) :
    Calls Try.prog 9 #[.slice A n cc, .slice A2 k ck, .int .i64 k0, .int .u8 (c.toNat : Int)] w fun e w' => e = .returned (.bool true) ∧ Below w.heap.size w w' := by
  obtain ⟨i0, hi0, hz0, hz1, hz2⟩ := info_parts info_u8
  have hl := hC.1.le
  rw [hn] at hl
  have hl2 := hC2.1.le
  rw [hk] at hl2
  unfold maxLen at hl hl2
  by_cases h1 : 1000 < n
  · have d1 : decide ((n : Int) > 1000) = true := by simp; omega
    go_enter Try.func9, Try.ntmps9
    go_wp2
    go_ret
    exact ⟨rfl, Ext.below (Mod.refl _ w)⟩
  have d1 : decide ((n : Int) > 1000) = false := by simp; omega
  by_cases h2 : 1000 < k
  · have d2 : decide ((k : Int) > 1000) = true := by simp; omega
    go_enter Try.func9, Try.ntmps9
    go_wp2
    go_ret
    exact ⟨rfl, Ext.below (Mod.refl _ w)⟩
  have d2 : decide ((k : Int) > 1000) = false := by simp; omega
  have HX : Hid (Ext w w) := Lib.hid (Mod.refl _ w)
  have HC := Lib.hid hC
  have HC2 := Lib.hid hC2
  clear hC hC2
  go_enter Try.func9, Try.ntmps9
  go_wp2_with fail
  refine (l_grown7 w T _ l HC.out (by omega)).mono ?_
  rintro e w1 ⟨p7, v7, m, rfl, hN, hr, hE⟩
  replace HC := Lib.hid (HC.out.ext hE)
  replace HC2 := Lib.hid (HC2.out.ext hE)
  replace HX := Lib.hid (HX.out.ext hE)
  obtain ⟨A7, c7, rfl⟩ := own_form hN.1.1
  obtain ⟨B7, d7, rfl⟩ := own_form hN.2.1.1
  have HN7 := Lib.hid hN
  have Hr := Lib.hid hr
  clear hN hr
  clear hE
  clear HC
  go_wp2_with fail
  have hso := HX.out.size
  refine (l_grown7 w1 T _ l2 HC2.out (by omega)).mono ?_
  rintro e w2 ⟨p8, v8, m2, rfl, hN, hr, hE⟩
  replace HC2 := Lib.hid (HC2.out.ext hE)
  replace HN7 := Lib.hid (newM_mod HN7.out hE (fun _ _ => id) (fun _ _ => id))
  replace HX := Lib.hid (HX.out.ext hE)
  obtain ⟨A8, c8, rfl⟩ := own_form hN.1.1
  obtain ⟨B8, d8, rfl⟩ := own_form hN.2.1.1
  have HN8 := Lib.hid (newM_up hN hso)
  have Hr2 := Lib.hid hr
  clear hN hr hso
  clear hE
  clear HC2
  go_wp2_with fail
  obtain ⟨w3, hw3⟩ : ∃ w3, w3 = w2.alloc (.cells #[.slice A7 m.pairs.length c7, .slice B7 m.sess.length d7] 25) := ⟨_, rfl⟩
  obtain ⟨bm, hbm⟩ : ∃ bm, bm = w2.heap.size := ⟨_, rfl⟩
  have hzz : w2.heap.size = bm := hbm.symm
  have hE : Ext w2 w3 := by rw [hw3]; exact (Mod.refl _ w2).alloc _
  have hKn : w3.heap[bm]? = some (.cells #[.slice A7 m.pairs.length c7, .slice B7 m.sess.length d7] 25 (0, 0)) := by rw [hw3, ← hzz]; exact heap_alloc_new w2 _
  have hzn : w3.heap.size = bm + 1 := by rw [hw3, ← hzz]; simp
  rw [← hw3, ← hbm]
  have HXo := HX
  replace HN7 := Lib.hid (newM_mod HN7.out hE (fun _ _ => id) (fun _ _ => id))
  replace HN8 := Lib.hid (newM_mod HN8.out hE (fun _ _ => id) (fun _ _ => id))
  replace HX := Lib.hid (HX.out.ext hE)
  have Kmw3 := Lib.hid hKn
  have hbz : w.heap.size ≤ bm := by have := HXo.out.size; omega
  clear hKn hE hw3 hbm HXo hzz
  have hbm := hbz
  clear hbz
  obtain ⟨w4, hw4⟩ : ∃ w4, w4 = w3.alloc (.cells #[.slice A8 m2.pairs.length c8, .slice B8 m2.sess.length d8] 25) := ⟨_, rfl⟩
  obtain ⟨bn, hbn⟩ : ∃ bn, bn = bm + 1 := ⟨_, rfl⟩
  have hzz : w3.heap.size = bn := hzn.trans hbn.symm
  clear hzn
  have hE : Ext w3 w4 := by rw [hw4]; exact (Mod.refl _ w3).alloc _
  have hKn : w4.heap[bn]? = some (.cells #[.slice A8 m2.pairs.length c8, .slice B8 m2.sess.length d8] 25 (0, 0)) := by rw [hw4, ← hzz]; exact heap_alloc_new w3 _
  have hzn : w4.heap.size = bn + 1 := by rw [hw4, ← hzz]; simp
  rw [← hw4, ← hbn]
  have hltmn : bm < bn := by have := (Array.getElem?_eq_some_iff.1 Kmw3.out).1; omega
  have HXo := HX
  have Kmw4 := Lib.hid (hE.blk Kmw3.out id)
  replace HN7 := Lib.hid (newM_mod HN7.out hE (fun _ _ => id) (fun _ _ => id))
  replace HN8 := Lib.hid (newM_mod HN8.out hE (fun _ _ => id) (fun _ _ => id))
  replace HX := Lib.hid (HX.out.ext hE)
  clear Kmw3
  have Knw4 := Lib.hid hKn
  have hbz : w.heap.size ≤ bn := by have := HXo.out.size; omega
  clear hKn hE hw4 hbn HXo hzz
  have hbn := hbz
  clear hbz
  clear hzn
  have hso := HX.out.size
  refine (s_enc_ok w4 _ _ _ _ m.pairs m.sess HN7.out.prs HN7.out.ses (Hr.out)).mono ?_
  rintro e w5 ⟨bx, rfl, hN, hE⟩
  have Kmw5 := Lib.hid (hE.blk Kmw4.out id)
  have Knw5 := Lib.hid (hE.blk Knw4.out id)
  replace HN7 := Lib.hid (newM_mod HN7.out hE (fun _ _ => id) (fun _ _ => id))
  replace HN8 := Lib.hid (newM_mod HN8.out hE (fun _ _ => id) (fun _ _ => id))
  replace HX := Lib.hid (HX.out.ext hE)
  clear Kmw4
  clear Knw4
  obtain ⟨Px, ex, rfl⟩ := own_form hN.1
  have HBx := Lib.hid (newB_up hN hso)
  clear hN hso
  clear hE
  have m_0 : w5.cell? ⟨bm, 0, none⟩ = some _ := blk_cell Kmw5.out rfl
  have m_1 : w5.cell? ⟨bm, 1, none⟩ = some _ := blk_cell Kmw5.out rfl
  have m_l : bm < w5.heap.size := (Array.getElem?_eq_some_iff.1 Kmw5.out).1
  have n_0 : w5.cell? ⟨bn, 0, none⟩ = some _ := blk_cell Knw5.out rfl
  have n_1 : w5.cell? ⟨bn, 1, none⟩ = some _ := blk_cell Knw5.out rfl
  have n_l : bn < w5.heap.size := (Array.getElem?_eq_some_iff.1 Knw5.out).1
  go_wp2_with fail
  have hso := HX.out.size
  refine (s_enc_ok w5 _ _ _ _ m2.pairs m2.sess HN8.out.prs HN8.out.ses (Hr2.out)).mono ?_
  rintro e w6 ⟨bz, rfl, hN, hE⟩
  clear m_0 m_1 m_l n_0 n_1 n_l
  have Kmw6 := Lib.hid (hE.blk Kmw5.out id)
  have Knw6 := Lib.hid (hE.blk Knw5.out id)
  replace HN7 := Lib.hid (newM_mod HN7.out hE (fun _ _ => id) (fun _ _ => id))
  replace HN8 := Lib.hid (newM_mod HN8.out hE (fun _ _ => id) (fun _ _ => id))
  replace HBx := Lib.hid (newB_mod HBx.out hE)
  replace HX := Lib.hid (HX.out.ext hE)
  clear Kmw5
  clear Knw5
  obtain ⟨Pz, ez, rfl⟩ := own_form hN.1
  have HBz := Lib.hid (newB_up hN hso)
  clear hN hso
  clear hE
  have m_0 : w6.cell? ⟨bm, 0, none⟩ = some _ := blk_cell Kmw6.out rfl
  have m_1 : w6.cell? ⟨bm, 1, none⟩ = some _ := blk_cell Kmw6.out rfl
  have m_l : bm < w6.heap.size := (Array.getElem?_eq_some_iff.1 Kmw6.out).1
  have n_0 : w6.cell? ⟨bn, 0, none⟩ = some _ := blk_cell Knw6.out rfl
  have n_1 : w6.cell? ⟨bn, 1, none⟩ = some _ := blk_cell Knw6.out rfl
  have n_l : bn < w6.heap.size := (Array.getElem?_eq_some_iff.1 Knw6.out).1
  obtain ⟨X, hX⟩ : ∃ X, encM ⟨m.pairs, m.sess⟩ = X := ⟨_, rfl⟩
  obtain ⟨Y, hY⟩ : ∃ Y, encM ⟨m2.pairs, m2.sess⟩ = Y := ⟨_, rfl⟩
  have hXl : X.length ≤ 10000 := by rw [← hX]; exact encM_len Hr.out
  have hXp : 0 < X.length := by rw [← hX]; exact encM_pos _
  have hcut : ∀ q, q < X.length → decE (X.take q) = 6 := fun q hq => decE_pre (d := X.drop q) Hr.out (newM_ok HN7.out) (hX.trans (List.take_append_drop q X).symm) (fun e => by have := congrArg List.length e; simp at this; omega)
  have hmore : decE (X ++ [c]) = 6 := by rw [← hX]; exact decE_more Hr.out (newM_ok HN7.out) (by simp)
  have hsame : (X == Y) = eqM m m2 := by rw [← hX, ← hY]; exact enc_eqM Hr.out Hr2.out (newM_ok HN7.out) (newM_ok HN8.out)
  rw [hX] at HBx
  rw [hY] at HBz
  rw [hX, hY]
  have Hcut := Lib.hid hcut
  have Hmore := Lib.hid hmore
  have Hsame := Lib.hid hsame
  clear hX hY hcut hmore hsame
  have hd0 : ((X.length : Int) == 0) = false := by simp; intro e; subst e; simp at hXp
  have hcap := byt_cap HBx.out.sl
  obtain ⟨q, hq⟩ : ∃ q : Nat, (IntKind.u64.wrap k0) % (X.length : Int) = (q : Int) := ⟨((IntKind.u64.wrap k0) % (X.length : Int)).toNat, by have := Int.emod_nonneg (IntKind.u64.wrap k0) (show (X.length : Int) ≠ 0 by omega); omega⟩
  have hqm : q < X.length := by have := Int.emod_lt_of_pos (IntKind.u64.wrap k0) (show 0 < (X.length : Int) by omega); omega
  have hwm : IntKind.u64.wrap (X.length : Int) = (X.length : Int) := by rw [wrap_u64]; omega
  have hq2 : (IntKind.u64.wrap k0).tmod (X.length : Int) = (q : Int) := by rw [Int.tmod_eq_emod_of_nonneg (by rw [wrap_u64]; omega)]; exact hq
  have hqk : (q : Int) ≤ (ex : Int) := by omega
  go_wp2_with fail
  clear m_0 m_1 m_l n_0 n_1 n_l
  have m_0 : w6.cell? ⟨bm, 0, none⟩ = some _ := blk_cell Kmw6.out rfl
  have m_1 : w6.cell? ⟨bm, 1, none⟩ = some _ := blk_cell Kmw6.out rfl
  have m_l : bm < w6.heap.size := (Array.getElem?_eq_some_iff.1 Kmw6.out).1
  have n_0 : w6.cell? ⟨bn, 0, none⟩ = some _ := blk_cell Knw6.out rfl
  have n_1 : w6.cell? ⟨bn, 1, none⟩ = some _ := blk_cell Knw6.out rfl
  have n_l : bn < w6.heap.size := (Array.getElem?_eq_some_iff.1 Knw6.out).1
  refine wp_region_held_drew (S := fun W' => Ext w6 W') (by kernel_rfl) (Mod.refl _ w6).drew (fun hS => ?_)
  refine takeH (i := 0) (v := ?_) (some 37) rfl rfl (by kernel_rfl) (by kernel_rfl) (by kernel_rfl) (fun _ _ _ h => h) (Or.inl ⟨by kernel_rfl, ?_⟩) hS ?_
  rotate_left
  · rintro W' hW'
    obtain ⟨hbc, hbf⟩ := bcell hW'
    go_simp
    try with_reducible rfl
  try simp only [pL]
  refine takeH (i := 1) (v := ?_) (some 38) rfl rfl (by kernel_rfl) (by kernel_rfl) (by kernel_rfl) (fun _ _ _ h => h) (Or.inl ⟨by kernel_rfl, ?_⟩) hS ?_
  rotate_left
  · rintro W' hW'
    obtain ⟨hbc, hbf⟩ := bcell hW'
    go_simp
    try with_reducible rfl
  try simp only [pL]
  refine takeH (i := 2) (v := ?_) (some 39) rfl rfl (by kernel_rfl) (by kernel_rfl) (by kernel_rfl) (fun _ _ _ h => h) (Or.inl ⟨by kernel_rfl, ?_⟩) hS ?_
  rotate_left
  · rintro W' hW'
    obtain ⟨hbc, hbf⟩ := bcell hW'
    go_simp
    try with_reducible rfl
  try simp only [pL]
  refine takeH (i := 3) (v := ?_) (some 40) rfl rfl (by kernel_rfl) (by kernel_rfl) (by kernel_rfl) (fun _ _ _ h => h) (Or.inl ⟨by kernel_rfl, ?_⟩) hS ?_
  rotate_left
  · rintro W' hW'
    obtain ⟨hbc, hbf⟩ := bcell hW'
    go_simp
    try with_reducible rfl
  try simp only [pL]
  refine takeH (i := 4) (v := ?_) (some 41) rfl rfl (by kernel_rfl) (by kernel_rfl) (by kernel_rfl) (fun _ _ _ h => h) (Or.inl ⟨by kernel_rfl, ?_⟩) hS ?_
  rotate_left
  · rintro W' hW'
    obtain ⟨hbc, hbf⟩ := bcell hW'
    go_simp
    try with_reducible rfl
  try simp only [pL]
  refine takeH (i := 5) (v := ?_) (some 42) rfl rfl (by kernel_rfl) (by kernel_rfl) (by kernel_rfl) (fun _ _ _ h => h) (Or.inl ⟨by kernel_rfl, ?_⟩) hS ?_
  rotate_left
  · rintro W' hW'
    obtain ⟨hbc, hbf⟩ := bcell hW'
    go_simp
    try with_reducible rfl
  try simp only [pL]
  refine takeH (i := 6) (v := ?_) (some 43) rfl rfl (by kernel_rfl) (by kernel_rfl) (by kernel_rfl) (fun _ _ _ h => h) (Or.inl ⟨by kernel_rfl, ?_⟩) hS ?_
  rotate_left
  · rintro W' hW'
    obtain ⟨hbc, hbf⟩ := bcell hW'
    go_simp
    try with_reducible rfl
  try simp only [pL]
  refine takeH (i := 7) (v := ?_) (some 44) rfl rfl (by kernel_rfl) (by kernel_rfl) (by kernel_rfl) (fun _ _ _ h => h) (Or.inl ⟨by kernel_rfl, ?_⟩) hS ?_
  rotate_left
  · rintro W' hW'
    obtain ⟨hbc, hbf⟩ := bcell hW'
    go_simp
    try with_reducible rfl
  try simp only [pL]
  refine takeH (i := 8) (v := ?_) (some 45) rfl rfl (by kernel_rfl) (by kernel_rfl) (by kernel_rfl) (fun _ _ _ h => h) (Or.inl ⟨by kernel_rfl, ?_⟩) hS ?_
  rotate_left
  · rintro W' hW'
    obtain ⟨hbc, hbf⟩ := bcell hW'
    go_simp
    try with_reducible rfl
  try simp only [pL]
  refine takeH (i := 9) (v := ?_) (some 46) rfl rfl (by kernel_rfl) (by kernel_rfl) (by kernel_rfl) (fun _ _ _ h => h) (Or.inl ⟨by kernel_rfl, ?_⟩) hS ?_
  rotate_left
  · rintro W' hW'
    obtain ⟨hbc, hbf⟩ := bcell hW'
    go_simp
    try with_reducible rfl
  try simp only [pL]
  refine takeH (i := 10) (v := ?_) (some 47) rfl rfl (by kernel_rfl) (by kernel_rfl) (by kernel_rfl) (fun _ _ _ h => h) (Or.inl ⟨by kernel_rfl, ?_⟩) hS ?_
  rotate_left
  · rintro W' hW'
    obtain ⟨hbc, hbf⟩ := bcell hW'
    go_simp
    try with_reducible rfl
  try simp only [pL]
  refine takeH (i := 11) (v := ?_) (some 48) rfl rfl (by kernel_rfl) (by kernel_rfl) (by kernel_rfl) (fun _ _ _ h => h) (Or.inl ⟨by kernel_rfl, ?_⟩) hS ?_
  rotate_left
  · rintro W' hW'
    obtain ⟨hbc, hbf⟩ := bcell hW'
    go_simp
    try with_reducible rfl
  try simp only [pL]
  refine takeH (i := 12) (v := ?_) (some 49) rfl rfl (by kernel_rfl) (by kernel_rfl) (by kernel_rfl) (fun _ _ _ h => h) (Or.inl ⟨by kernel_rfl, ?_⟩) hS ?_
  rotate_left
  · rintro W' hW'
    obtain ⟨hbc, hbf⟩ := bcell hW'
    go_simp
    try with_reducible rfl
  try simp only [pL]
  refine takeH (i := 13) (v := ?_) (some 50) rfl rfl (by kernel_rfl) (by kernel_rfl) (by kernel_rfl) (fun _ _ _ h => h) (Or.inl ⟨by kernel_rfl, ?_⟩) hS ?_
  rotate_left
  · rintro W' hW'
    obtain ⟨hbc, hbf⟩ := bcell hW'
    go_simp
    try with_reducible rfl
  try simp only [pL]
  refine takeH (i := 15) (v := ?_) (some 52) rfl rfl (by kernel_rfl) (by kernel_rfl) (by kernel_rfl) (fun _ _ _ h => h) (Or.inl ⟨by kernel_rfl, ?_⟩) hS ?_
  rotate_left
  · rintro W' hW'
    obtain ⟨hbc, hbf⟩ := bcell hW'
    go_simp
    try with_reducible rfl
  try simp only [pL]
  refine takeH (i := 16) (v := ?_) (some 53) rfl rfl (by kernel_rfl) (by kernel_rfl) (by kernel_rfl) (fun _ _ _ h => h) (Or.inl ⟨by kernel_rfl, ?_⟩) hS ?_
  rotate_left
  · rintro W' hW'
    obtain ⟨hbc, hbf⟩ := bcell hW'
    go_simp
    try with_reducible rfl
  try simp only [pL]
  refine wpAnyH_ready (rs := [14]) (by kernel_rfl) (by simp) ?_
  refine AllReadyH.cons rfl (fun K hK => ?_) AllReadyH.nil
  go_simp
  go_wp2_with fail
  refine (k_bytes _ _ _ _ _ X Y (HBx.out.sl.ext hS) (HBz.out.sl.ext hS)).mono ?_
  rintro e w7 ⟨rfl, hE⟩
  have hX := Mod.ext hS hE
  clear hE hS
  go_simp
  refine hK.out _ _ hX (fun hS => ?_)
  clear hK K hX
  refine wpAnyH_ready (rs := [17]) (by kernel_rfl) (by simp) ?_
  refine AllReadyH.cons rfl (fun K hK => ?_) AllReadyH.nil
  go_simp
  go_wp2_with fail
  refine (k_machine _ _ _ _ _ _ _ _ _ m.pairs m2.pairs m.sess m2.sess (HN7.out.prs.ext hS) (HN8.out.prs.ext hS) (HN7.out.ses.ext hS) (HN8.out.ses.ext hS)).mono ?_
  rintro e w8 ⟨rfl, hE⟩
  rw [show eqM ⟨m.pairs, m.sess⟩ ⟨m2.pairs, m2.sess⟩ = (X == Y) from Hsame.out.symm]
  have hX := Mod.ext hS hE
  clear hE hS
  go_simp
  refine hK.out _ _ hX (fun hS => ?_)
  clear hK K hX
  refine takeH (i := 18) (v := ?_) (some 55) rfl rfl (by kernel_rfl) (by kernel_rfl) (by kernel_rfl) (fun _ _ _ h => h) (Or.inl ⟨by kernel_rfl, ?_⟩) hS ?_
  rotate_left
  · rintro W' hW'
    obtain ⟨hbc, hbf⟩ := bcell hW'
    go_simp
    try with_reducible rfl
  try simp only [pL]
  refine takeH (i := 19) (v := ?_) (some 56) rfl rfl (by kernel_rfl) (by kernel_rfl) (by kernel_rfl) (fun _ _ _ h => h) (Or.inl ⟨by kernel_rfl, ?_⟩) hS ?_
  rotate_left
  · rintro W' hW'
    obtain ⟨hbc, hbf⟩ := bcell hW'
    go_simp
    try with_reducible rfl
  try simp only [pL]
  refine wpAnyH_done (by kernel_rfl) ?_ _
  have hE := hS
  clear hS
  clear m_0 m_1 m_l n_0 n_1 n_l
  have Kmw8 := Lib.hid (hE.blk Kmw6.out id)
  have Knw8 := Lib.hid (hE.blk Knw6.out id)
  replace HN7 := Lib.hid (newM_mod HN7.out hE (fun _ _ => id) (fun _ _ => id))
  replace HN8 := Lib.hid (newM_mod HN8.out hE (fun _ _ => id) (fun _ _ => id))
  replace HBx := Lib.hid (newB_mod HBx.out hE)
  replace HBz := Lib.hid (newB_mod HBz.out hE)
  replace HX := Lib.hid (HX.out.ext hE)
  clear Kmw6
  clear Knw6
  clear hE
  have m_0 : w8.cell? ⟨bm, 0, none⟩ = some _ := blk_cell Kmw8.out rfl
  have m_1 : w8.cell? ⟨bm, 1, none⟩ = some _ := blk_cell Kmw8.out rfl
  have m_l : bm < w8.heap.size := (Array.getElem?_eq_some_iff.1 Kmw8.out).1
  have n_0 : w8.cell? ⟨bn, 0, none⟩ = some _ := blk_cell Knw8.out rfl
  have n_1 : w8.cell? ⟨bn, 1, none⟩ = some _ := blk_cell Knw8.out rfl
  have n_l : bn < w8.heap.size := (Array.getElem?_eq_some_iff.1 Knw8.out).1
  go_wp2_with fail
  refine (s_dec w8 _ _ _ (byt_take HBx.out.sl (by omega)) (by rw [List.length_take]; omega)).mono ?_
  rintro e w9 ⟨p1, v1, rfl, hN, hE⟩
  clear m_0 m_1 m_l n_0 n_1 n_l
  have Kmw9 := Lib.hid (hE.blk Kmw8.out id)
  have Knw9 := Lib.hid (hE.blk Knw8.out id)
  replace HN7 := Lib.hid (newM_mod HN7.out hE (fun _ _ => id) (fun _ _ => id))
  replace HN8 := Lib.hid (newM_mod HN8.out hE (fun _ _ => id) (fun _ _ => id))
  replace HBx := Lib.hid (newB_mod HBx.out hE)
  replace HBz := Lib.hid (newB_mod HBz.out hE)
  replace HX := Lib.hid (HX.out.ext hE)
  clear Kmw8
  clear Knw8
  rw [Hcut.out q hqm]
  clear hN
  clear hE
  have m_0 : w9.cell? ⟨bm, 0, none⟩ = some _ := blk_cell Kmw9.out rfl
  have m_1 : w9.cell? ⟨bm, 1, none⟩ = some _ := blk_cell Kmw9.out rfl
  have m_l : bm < w9.heap.size := (Array.getElem?_eq_some_iff.1 Kmw9.out).1
  have n_0 : w9.cell? ⟨bn, 0, none⟩ = some _ := blk_cell Knw9.out rfl
  have n_1 : w9.cell? ⟨bn, 1, none⟩ = some _ := blk_cell Knw9.out rfl
  have n_l : bn < w9.heap.size := (Array.getElem?_eq_some_iff.1 Knw9.out).1
  go_wp2_with fail
  refine (k_twin w9 _ _ X HBx.out.sl (by omega)).mono ?_
  rintro e wt ⟨v9, rfl, hN9, hE9⟩
  obtain ⟨A9, c9, rfl⟩ := own_form hN9.1
  go_wp2_with (at_builtin; refine wpList_app _ rfl _ _ 55 rfl 5 i0 _ 1 1 Try.underlying55 hi0 hz0 hz1 hz2 rfl (by omega) _ X.length (X.map B) rfl (hN9.1.alloc _) _ _ 1 _ rfl (Sl.one wt _ _) (by simp [Value.oneCell']) (by simp only [maxLen]; omega) (by omega) ?_)
  intro v3 wapp ho hgr hat
  have hE : Ext w9 wapp := (hE9.alloc _).grown hgr (fun k hk => .inl (hN9.2 k hk))
  have hB3 : Byt wapp (Since 0) v3 (X ++ [c]) := by
    have := Sl.of_own (T := Since 0) ho (fun g _ => Nat.zero_le g)
    unfold Byt
    rw [List.length_append, List.map_append]
    exact this
  have HB3 := Lib.hid hB3
  clear ho hgr hat hN9 hE9 hB3
  clear m_0 m_1 m_l n_0 n_1 n_l
  have Kmwapp := Lib.hid (hE.blk Kmw9.out id)
  have Knwapp := Lib.hid (hE.blk Knw9.out id)
  replace HN7 := Lib.hid (newM_mod HN7.out hE (fun _ _ => id) (fun _ _ => id))
  replace HN8 := Lib.hid (newM_mod HN8.out hE (fun _ _ => id) (fun _ _ => id))
  replace HBx := Lib.hid (newB_mod HBx.out hE)
  replace HBz := Lib.hid (newB_mod HBz.out hE)
  replace HX := Lib.hid (HX.out.ext hE)
  clear Kmw9
  clear Knw9
  clear hE
  have m_0 : wapp.cell? ⟨bm, 0, none⟩ = some _ := blk_cell Kmwapp.out rfl
  have m_1 : wapp.cell? ⟨bm, 1, none⟩ = some _ := blk_cell Kmwapp.out rfl
  have m_l : bm < wapp.heap.size := (Array.getElem?_eq_some_iff.1 Kmwapp.out).1
  have n_0 : wapp.cell? ⟨bn, 0, none⟩ = some _ := blk_cell Knwapp.out rfl
  have n_1 : wapp.cell? ⟨bn, 1, none⟩ = some _ := blk_cell Knwapp.out rfl
  have n_l : bn < wapp.heap.size := (Array.getElem?_eq_some_iff.1 Knwapp.out).1
  go_wp2_with fail
  refine (s_dec wapp _ _ _ HB3.out (by rw [List.length_append]; simp; omega)).mono ?_
  rintro e w10 ⟨p2, v2, rfl, hN, hE⟩
  clear m_0 m_1 m_l n_0 n_1 n_l
  have Kmw10 := Lib.hid (hE.blk Kmwapp.out id)
  have Knw10 := Lib.hid (hE.blk Knwapp.out id)
  replace HN7 := Lib.hid (newM_mod HN7.out hE (fun _ _ => id) (fun _ _ => id))
  replace HN8 := Lib.hid (newM_mod HN8.out hE (fun _ _ => id) (fun _ _ => id))
  replace HBx := Lib.hid (newB_mod HBx.out hE)
  replace HBz := Lib.hid (newB_mod HBz.out hE)
  replace HB3 := Lib.hid (HB3.out.ext hE)
  replace HX := Lib.hid (HX.out.ext hE)
  clear Kmwapp
  clear Knwapp
  rw [Hmore.out]
  clear hN
  clear hE
  have m_0 : w10.cell? ⟨bm, 0, none⟩ = some _ := blk_cell Kmw10.out rfl
  have m_1 : w10.cell? ⟨bm, 1, none⟩ = some _ := blk_cell Kmw10.out rfl
  have m_l : bm < w10.heap.size := (Array.getElem?_eq_some_iff.1 Kmw10.out).1
  have n_0 : w10.cell? ⟨bn, 0, none⟩ = some _ := blk_cell Knw10.out rfl
  have n_1 : w10.cell? ⟨bn, 1, none⟩ = some _ := blk_cell Knw10.out rfl
  have n_l : bn < w10.heap.size := (Array.getElem?_eq_some_iff.1 Knw10.out).1
  go_wp2_with fail
  refine (l_wakes7 w10).mono ?_
  rintro e w11 ⟨rfl, hE⟩
  clear m_0 m_1 m_l n_0 n_1 n_l
  have Kmw11 := Lib.hid (hE.blk Kmw10.out id)
  have Knw11 := Lib.hid (hE.blk Knw10.out id)
  replace HN7 := Lib.hid (newM_mod HN7.out hE (fun _ _ => id) (fun _ _ => id))
  replace HN8 := Lib.hid (newM_mod HN8.out hE (fun _ _ => id) (fun _ _ => id))
  replace HBx := Lib.hid (newB_mod HBx.out hE)
  replace HBz := Lib.hid (newB_mod HBz.out hE)
  replace HB3 := Lib.hid (HB3.out.ext hE)
  replace HX := Lib.hid (HX.out.ext hE)
  clear Kmw10
  clear Knw10
  clear hE
  have m_0 : w11.cell? ⟨bm, 0, none⟩ = some _ := blk_cell Kmw11.out rfl
  have m_1 : w11.cell? ⟨bm, 1, none⟩ = some _ := blk_cell Kmw11.out rfl
  have m_l : bm < w11.heap.size := (Array.getElem?_eq_some_iff.1 Kmw11.out).1
  have n_0 : w11.cell? ⟨bn, 0, none⟩ = some _ := blk_cell Knw11.out rfl
  have n_1 : w11.cell? ⟨bn, 1, none⟩ = some _ := blk_cell Knw11.out rfl
  have n_l : bn < w11.heap.size := (Array.getElem?_eq_some_iff.1 Knw11.out).1
  go_wp2
  go_ret
  exact ⟨rfl, Ext.below HX.out⟩
theorem sesCuts_a (w : World) (v0 v1 : Value) (l l2 : List ACall) (k0 c : Int) (hC : Cas w (fun g => g < w.heap.size) v0 l) (hC2 : Cas w (fun g => g < w.heap.size) v1 l2) (hc : 0 ≤ c ∧ c ≤ 255) :
    Calls Try.prog 9 #[v0, v1, .int .i64 k0, .int .u8 c] w fun e w' => e = .returned (.bool true) ∧ Below w.heap.size w w' := by
  obtain ⟨A, cc, rfl⟩ := hC.form
  obtain ⟨A2, ck, rfl⟩ := hC2.form
  have e : c = ((UInt8.ofNat c.toNat).toNat : Int) := by simp; omega
  rw [e]
  exact sesCuts_walk w _ A _ cc l hC rfl A2 _ ck l2 hC2 rfl k0 _
end Go.Proofs.Ytplpegjnmlabkaa
