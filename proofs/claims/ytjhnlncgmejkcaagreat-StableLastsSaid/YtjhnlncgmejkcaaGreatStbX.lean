/-
 The contract of stable.begun (printed by stbx.py). Conditions: as each theorem names them.
-/
import Derived.Test.YtjhnlncgmejkcaaGreatS21
namespace Go.Proofs.YtjhnlncgmejkcaaGreat
set_option linter.unusedSimpArgs false
open Go.RowKit

/-- A hard state of one's own is told, or that there is none. -/
def HrdO (w w' : World) (o : Option AHard) (e : Ending) : Prop := match o with
 | none => ∃ cs : List Value, cs.length = 10 ∧ (∀ v ∈ cs, v.oneCell' = true) ∧ e = .returned (.tuple #[.agg cs.toArray, .bool false])
 | some h => ∃ sv lv, e = .returned (.tuple #[.agg (h.cells sv lv).toArray, .bool true]) ∧ NewH w w' sv lv h
theorem HrdO.no {w w' : World} {o : Option AHard} {e : Ending} (h : o = none) (cs : List Value) (hc : cs.length = 10) (h1 : ∀ v ∈ cs, v.oneCell' = true) (he : e = .returned (.tuple #[.agg cs.toArray, .bool false])) : HrdO w w' o e := by
 rw [h]; exact ⟨cs, hc, h1, he⟩
theorem HrdO.yes {w w' : World} {o : Option AHard} {e : Ending} {h : AHard} (ho : o = some h) (sv lv : Value) (he : e = .returned (.tuple #[.agg (h.cells sv lv).toArray, .bool true])) (hN : NewH w w' sv lv h) : HrdO w w' o e := by
 rw [ho]; exact ⟨sv, lv, he, hN⟩
theorem begun_cons (c : UInt8) (b : List UInt8) : begunP (c :: b) = if c.toNat = 1 then rightO (wReadHard b) else none := rfl
theorem zh_one : ∀ v ∈ ([.int .i64 0, .int .i64 0, .int .i64 0, .int .i64 0, .int .i64 0, .int .i64 0, .int .i64 0, .int .i64 0, .slice none 0 0, .slice none 0 0] : List Value), v.oneCell' = true := by
 intro u hu; simp only [List.mem_cons, List.not_mem_nil, or_false] at hu; rcases hu with rfl | rfl | rfl | rfl | rfl | rfl | rfl | rfl | rfl | rfl <;> rfl
theorem cells_one {W w : World} {y : AHard} {sv lv : Value} (h : NewH W w sv lv y) : ∀ v ∈ y.cells sv lv, v.oneCell' = true := by
 obtain ⟨As, cs, Al, cl, rfl, rfl⟩ := h.forms
 intro u hu; simp only [List.mem_cons, List.not_mem_nil, or_false] at hu; rcases hu with rfl | rfl | rfl | rfl | rfl | rfl | rfl | rfl | rfl | rfl <;> rfl
set_option maxRecDepth 100000 in
set_option maxHeartbeats 2000000 in
theorem st_begun (w : World) (T : Nat → Prop) (A : Option Addr) (n c : Nat) (p : List UInt8) (h : Byt w T (.slice A n c) p) (hn : p.length = n) (hnl : n ≤ 100000) :
  Calls Tryz.prog 72 #[.slice A n c] w fun e w' => Ext w w' ∧ HrdO w w' (begunP p) e := by
 obtain ⟨W, hW⟩ : ∃ W, w.alloc (.cells #[.int .i64 0, .int .i64 0, .int .i64 0, .int .i64 0, .int .i64 0, .int .i64 0, .int .i64 0, .int .i64 0, .slice none 0 0, .slice none 0 0] 34) = W := ⟨_, rfl⟩
 have hE : Ext w W := by rw [← hW]; exact (Mod.refl _ w).alloc _
 have hA : W.heap[w.heap.size]? = some (.cells #[.int .i64 0, .int .i64 0, .int .i64 0, .int .i64 0, .int .i64 0, .int .i64 0, .int .i64 0, .int .i64 0, .slice none 0 0, .slice none 0 0] 34 (0, 0)) := by rw [← hW]; exact heap_alloc_new w _
 have HW := Lib.hid hW
 have HE := Lib.hid hE
 have HA := Lib.hid hA
 have H := Lib.hid h
 clear hW hE hA
 by_cases h0 : n = 0
 ·
  subst h0
  have Hp : Hid (begunP p = none) := Lib.hid (by rw [List.eq_nil_of_length_eq_zero hn]; rfl)
  clear h hn
  skip
  go_enter Tryz.func72, Tryz.ntmps72
  go_wp2_with (rw [HW.out]; refine wpList_stR rfl 34 _ _ rfl 10 w.heap.size 0 [.int .i64 0, .int .i64 0, .int .i64 0, .int .i64 0, .int .i64 0, .int .i64 0, .int .i64 0, .int .i64 0, .slice none 0 0, .slice none 0 0] rfl rfl str_hard _ [.int .i64 0, .int .i64 0, .int .i64 0, .int .i64 0, .int .i64 0, .int .i64 0, .int .i64 0, .int .i64 0, .slice none 0 0, .slice none 0 0] [.int .i64 0, .int .i64 0, .int .i64 0, .int .i64 0, .int .i64 0, .int .i64 0, .int .i64 0, .int .i64 0, .slice none 0 0, .slice none 0 0] HA.out rfl (by simp) zh_one rfl ?_)
  intro w1 hb1 hm1 hs1
  have HE1 := Lib.hid (Mod.toExt ((Ext.mod HE.out (Since w.heap.size)).trans hm1 (fun k _ e => by unfold Since; omega)))
  clear hm1 hs1
  go_wp2_with fail
  exact bodyPost_ret (results_row2 rfl _ w1 w.heap.size _ _ str_hard rfl hb1 rfl) rfl ⟨HE1.out, HrdO.no Hp.out _ rfl zh_one rfl⟩
 obtain ⟨hln, hnc, hcm, hAA⟩ := byt_cap' h
 obtain ⟨g, off, rfl, _⟩ := hAA (by omega)
 have hs : Sl w T 1 (.slice (some ⟨g, off, none⟩) n c) n (p.map B) := by unfold Byt at h; rw [hn] at h; exact h
 obtain ⟨_, _, x, e1, hx, x0⟩ := cellB hs (i := 0) (by omega)
 injection e1 with e1
 injection e1 with e1 e2
 subst e1; subst e2
 rw [Nat.add_zero] at x0
 obtain ⟨r, hpr⟩ : ∃ r, p = x :: r := by
  cases p with
  | nil => simp at hn; omega
  | cons y r => simp at hx; exact ⟨r, by rw [hx]⟩
 have hnz : ((n : Int) == 0) = false := by simp; omega
 have hnz2 : (n == 0) = false := by simp; omega
 have hx0 : W.cell? ⟨g, off, none⟩ = some (.int .u8 (x.toNat : Int)) := HE.out.cell x0 id
 rw [← HW.out] at hx0
 by_cases hx1 : x.toNat = 1
 rotate_left
 ·
  have Hp : Hid (begunP p = none) := Lib.hid (by rw [hpr, begun_cons, if_neg hx1])
  have hxb : ((x.toNat : Int) == 1) = false := by simp; omega
  clear h hn hs hx
  skip
  go_enter Tryz.func72, Tryz.ntmps72
  go_wp2_with (rw [HW.out]; refine wpList_stR rfl 34 _ _ rfl 10 w.heap.size 0 [.int .i64 0, .int .i64 0, .int .i64 0, .int .i64 0, .int .i64 0, .int .i64 0, .int .i64 0, .int .i64 0, .slice none 0 0, .slice none 0 0] rfl rfl str_hard _ [.int .i64 0, .int .i64 0, .int .i64 0, .int .i64 0, .int .i64 0, .int .i64 0, .int .i64 0, .int .i64 0, .slice none 0 0, .slice none 0 0] [.int .i64 0, .int .i64 0, .int .i64 0, .int .i64 0, .int .i64 0, .int .i64 0, .int .i64 0, .int .i64 0, .slice none 0 0, .slice none 0 0] HA.out rfl (by simp) zh_one rfl ?_)
  intro w1 hb1 hm1 hs1
  have HE1 := Lib.hid (Mod.toExt ((Ext.mod HE.out (Since w.heap.size)).trans hm1 (fun k _ e => by unfold Since; omega)))
  clear hm1 hs1
  go_wp2_with fail
  exact bodyPost_ret (results_row2 rfl _ w1 w.heap.size _ _ str_hard rfl hb1 rfl) rfl ⟨HE1.out, HrdO.no Hp.out _ rfl zh_one rfl⟩
 have hb0 : begunP p = rightO (wReadHard r) := by rw [hpr, begun_cons, if_pos hx1]
 rw [hx1] at hx0
 have hrl : r.length = n - 1 := by rw [← hn, hpr]; simp
 have hbr : Byt W T (.slice (cutA (some ⟨g, off, none⟩) 1 c 1) (n - 1) (c - 1)) r := by
  have h1 := Sl.cutA (hs.ext HE.out) (m := 1) (by omega)
  have e : (p.map B).drop (1 * 1) = r.map B := by rw [hpr]; rfl
  rw [e] at h1
  unfold Byt
  rw [hrl]
  exact h1
 have Hb0 := Lib.hid hb0
 have Hbr := Lib.hid hbr
 have Hrl := Lib.hid hrl
 have hn1 : 1 ≤ n := by omega
 clear h hn hs hx hb0 hbr hrl hpr x0
 go_enter Tryz.func72, Tryz.ntmps72
 go_wp2_with fail
 rw [HW.out]
 refine (wo_readHard W T _ r Hbr.out (by rw [Hrl.out]; omega)).mono ?_
 rintro e w1 ⟨y, cd, sv, lv, hy, hcd, rfl, hB1, hE1, hX1⟩
 have hN1 : NewH w w1 sv lv y := ⟨hB1.up HE.out, newE_up hE1 HE.out.size⟩
 have hA1 := hX1.blk HA.out id
 have HX1 := Lib.hid (HE.out.ext hX1)
 have hz : (w1.alloc (.cells #[.int .i64 0, .int .i64 0, .int .i64 0, .int .i64 0, .int .i64 0, .int .i64 0, .int .i64 0, .int .i64 0, .slice none 0 0, .slice none 0 0] 34)).heap[w1.heap.size]? = some (.cells #[.int .i64 0, .int .i64 0, .int .i64 0, .int .i64 0, .int .i64 0, .int .i64 0, .int .i64 0, .int .i64 0, .slice none 0 0, .slice none 0 0] 34 (0, 0)) := heap_alloc_new w1 _
 have hone := cells_one hN1
 have hbs : w.heap.size < w1.heap.size := (Array.getElem?_eq_some_iff.1 hA1).1
 have HN1 := Lib.hid hN1
 have HA1 := Lib.hid hA1
 have Hy := Lib.hid hy
 have Hcd := Lib.hid hcd
 clear hB1 hE1 hX1 hN1 hA1 hy hcd
 go_wp2_with (refine wpList_stR rfl 34 _ _ rfl 10 w1.heap.size 0 (y.cells sv lv) rfl rfl str_hard _ [.int .i64 0, .int .i64 0, .int .i64 0, .int .i64 0, .int .i64 0, .int .i64 0, .int .i64 0, .int .i64 0, .slice none 0 0, .slice none 0 0] (y.cells sv lv) hz rfl (by simp) hone rfl ?_)
 intro w2 hb2 hm2 hs2
 have hE2 : Ext w1 w2 := ((Mod.refl _ w1).alloc _).trans hm2 (fun k hk e => by omega)
 have hld := fun (W' : World) (hW' : Mod (fun k => k = w.heap.size) w2 W') => load_row (P := Tryz.prog) (o := 0) (cs := y.cells sv lv) str_hard (hW'.blk hb2 (by omega)) rfl (fun j u hu => by rw [Nat.zero_add]; exact hu)
 have HA2 := Lib.hid (hE2.blk HA1.out id)
 have HX2 := Lib.hid (HX1.out.ext hE2)
 have HN2 := Lib.hid (HN1.out.ext hE2)
 clear hz hm2 hs2 hE2
 rcases hq : wReadHard r with _ | h
 ·
  rw [hq] at Hy Hcd
  have hc3 : cd = 3 := Hcd.out
  subst hc3
  have Hp : Hid (begunP p = none) := Lib.hid (by rw [Hb0.out, hq]; rfl)
  clear hq
  go_wp2_with fail
  refine wp_region_held_drew (S := fun W' => Mod (fun k => k = w.heap.size) w2 W') (by kernel_rfl) (Mod.refl _ w2).drew (fun hS => ?_)
  refine takeH (i := 0) (v := .agg (y.cells sv lv).toArray) (some 22) rfl rfl (by kernel_rfl) (by kernel_rfl) (by kernel_rfl) (fun _ _ _ h => h) (Or.inl ⟨by kernel_rfl, ?_⟩) hS ?_
  ·
   rintro W' hW'
   exact exec_ld _ _ rfl (.pointer (some ⟨w1.heap.size, 0, none⟩)) _ rfl (hld W' hW')
  try simp only [pL]
  refine tkH 1 (some 23) rfl rfl ?_ hS ?_ ?_; rotate_left; · rintro W' hW'; go_simp; try with_reducible rfl
  try simp only [pL]
  refine tkH 2 (some 24) rfl rfl ?_ hS ?_ ?_; rotate_left; · rintro W' hW'; go_simp; try with_reducible rfl
  try simp only [pL]
  refine tkH 3 (some 25) rfl rfl ?_ hS ?_ ?_; rotate_left; · rintro W' hW'; go_simp; try with_reducible rfl
  try simp only [pL]
  refine tuH 4 (some 26) rfl rfl hS ?_
  try simp only [pL]
  refine tuH 5 (some 27) rfl rfl hS ?_
  try simp only [pL]
  refine tuH 6 (some 28) rfl rfl hS ?_
  try simp only [pL]
  refine tkH 7 (some 29) rfl rfl ?_ hS ?_ ?_; rotate_left; · rintro W' hW'; go_simp; try with_reducible rfl
  try simp only [pL]
  refine wpAnyH_ready (rs := [8]) (by kernel_rfl) (by simp) ?_
  refine AllReadyH.cons rfl (fun K hK => ?_) AllReadyH.nil
  have HA3 := Lib.hid (HA2.out)
  refine step_stR rfl 34 _ _ rfl 10 w.heap.size 0 (y.cells sv lv) rfl rfl str_hard _ [.int .i64 0, .int .i64 0, .int .i64 0, .int .i64 0, .int .i64 0, .int .i64 0, .int .i64 0, .int .i64 0, .slice none 0 0, .slice none 0 0] (y.cells sv lv) (HA3.out) rfl (by simp) hone rfl ?_
  intro w4 hb4 hm4 hs4
  refine hK.out _ _ (hS.self hm4) (fun hS => ?_)
  clear hK K
  try simp only [pL]
  refine tkH 9 (some 3) rfl rfl ?_ hS ?_ ?_; rotate_left; · rintro W' hW'; go_simp; try with_reducible rfl
  try simp only [pL]
  refine wpAnyH_done (by kernel_rfl) ?_ _
  have HX4 := Lib.hid (Mod.toExt ((Ext.mod HX2.out (Since w.heap.size)).trans hS (fun k _ e => by unfold Since; omega)))
  go_wp2_with fail
  exact bodyPost_ret (results_row2 rfl _ w4 w.heap.size _ _ str_hard rfl hb4 rfl) rfl ⟨HX4.out, HrdO.no Hp.out _ rfl hone rfl⟩
 rw [hq] at Hy Hcd
 have hc0 : cd = 0 := Hcd.out
 have hyh : y = h := Hy.out
 subst hc0; subst hyh
 have hlen := readHard_len hq
 have hyl : y.log.length ≤ 1000000 := by have := hlen.1; rw [Hrl.out] at this; omega
 have Hb1 : Hid (begunP p = rightO (some y)) := Lib.hid (by rw [Hb0.out, hq])
 clear hq hlen
 rcases hck : checkH y with _ | _
 ·
  have Hp : Hid (begunP p = none) := Lib.hid (by rw [Hb1.out]; unfold rightO; simp only; rw [hck]; rfl)
  go_wp2_with fail
  refine wp_region_held_drew (S := fun W' => Mod (fun k => k = w.heap.size) w2 W') (by kernel_rfl) (Mod.refl _ w2).drew (fun hS => ?_)
  refine takeH (i := 0) (v := .agg (y.cells sv lv).toArray) (some 22) rfl rfl (by kernel_rfl) (by kernel_rfl) (by kernel_rfl) (fun _ _ _ h => h) (Or.inl ⟨by kernel_rfl, ?_⟩) hS ?_
  ·
   rintro W' hW'
   exact exec_ld _ _ rfl (.pointer (some ⟨w1.heap.size, 0, none⟩)) _ rfl (hld W' hW')
  try simp only [pL]
  refine tkH 1 (some 23) rfl rfl ?_ hS ?_ ?_; rotate_left; · rintro W' hW'; go_simp; try with_reducible rfl
  try simp only [pL]
  refine tkH 2 (some 24) rfl rfl ?_ hS ?_ ?_; rotate_left; · rintro W' hW'; go_simp; try with_reducible rfl
  try simp only [pL]
  refine tkH 3 (some 25) rfl rfl ?_ hS ?_ ?_; rotate_left; · rintro W' hW'; go_simp; try with_reducible rfl
  try simp only [pL]
  refine takeH (i := 4) (v := .agg (y.cells sv lv).toArray) (some 26) rfl rfl (by kernel_rfl) (by kernel_rfl) (by kernel_rfl) (fun _ _ _ h => h) (Or.inl ⟨by kernel_rfl, ?_⟩) hS ?_
  ·
   rintro W' hW'
   exact exec_ld _ _ rfl (.pointer (some ⟨w1.heap.size, 0, none⟩)) _ rfl (hld W' hW')
  try simp only [pL]
  refine wpAnyH_ready (rs := [5]) (by kernel_rfl) (by simp) ?_
  refine AllReadyH.cons rfl (fun K hK => ?_) AllReadyH.nil
  go_simp
  go_wp2_with fail
  refine (l_check w2.drew _ y sv lv (HN2.out.mem) hyl).mono ?_
  rintro e w3 ⟨rfl, hE3⟩
  rw [hck, if_neg (by simp)]
  have HA3 := Lib.hid (hE3.blk HA2.out id)
  have HN3 := Lib.hid (HN2.out.ext (Mod.ext (Mod.refl _ w2).drew hE3))
  have hX := (hS.ext hE3)
  go_simp
  refine hK.out _ _ hX (fun hS => ?_)
  clear hK K hX
  try simp only [pL]
  refine tkH 6 (some 28) rfl rfl ?_ hS ?_ ?_; rotate_left; · rintro W' hW'; go_simp; try with_reducible rfl
  try simp only [pL]
  refine tkH 7 (some 29) rfl rfl ?_ hS ?_ ?_; rotate_left; · rintro W' hW'; go_simp; try with_reducible rfl
  try simp only [pL]
  refine wpAnyH_ready (rs := [8]) (by kernel_rfl) (by simp) ?_
  refine AllReadyH.cons rfl (fun K hK => ?_) AllReadyH.nil
  refine step_stR rfl 34 _ _ rfl 10 w.heap.size 0 (y.cells sv lv) rfl rfl str_hard _ [.int .i64 0, .int .i64 0, .int .i64 0, .int .i64 0, .int .i64 0, .int .i64 0, .int .i64 0, .int .i64 0, .slice none 0 0, .slice none 0 0] (y.cells sv lv) (HA3.out) rfl (by simp) hone rfl ?_
  intro w4 hb4 hm4 hs4
  refine hK.out _ _ (hS.self hm4) (fun hS => ?_)
  clear hK K
  try simp only [pL]
  refine tkH 9 (some 3) rfl rfl ?_ hS ?_ ?_; rotate_left; · rintro W' hW'; go_simp; try with_reducible rfl
  try simp only [pL]
  refine wpAnyH_done (by kernel_rfl) ?_ _
  have HX4 := Lib.hid (Mod.toExt ((Ext.mod HX2.out (Since w.heap.size)).trans hS (fun k _ e => by unfold Since; omega)))
  go_wp2_with fail
  exact bodyPost_ret (results_row2 rfl _ w4 w.heap.size _ _ str_hard rfl hb4 rfl) rfl ⟨HX4.out, HrdO.no Hp.out _ rfl hone rfl⟩
 ·
  have Hp : Hid (begunP p = some y) := Lib.hid (by rw [Hb1.out]; unfold rightO; simp only; rw [hck]; rfl)
  go_wp2_with fail
  refine wp_region_held_drew (S := fun W' => Mod (fun k => k = w.heap.size) w2 W') (by kernel_rfl) (Mod.refl _ w2).drew (fun hS => ?_)
  refine takeH (i := 0) (v := .agg (y.cells sv lv).toArray) (some 22) rfl rfl (by kernel_rfl) (by kernel_rfl) (by kernel_rfl) (fun _ _ _ h => h) (Or.inl ⟨by kernel_rfl, ?_⟩) hS ?_
  ·
   rintro W' hW'
   exact exec_ld _ _ rfl (.pointer (some ⟨w1.heap.size, 0, none⟩)) _ rfl (hld W' hW')
  try simp only [pL]
  refine tkH 1 (some 23) rfl rfl ?_ hS ?_ ?_; rotate_left; · rintro W' hW'; go_simp; try with_reducible rfl
  try simp only [pL]
  refine tkH 2 (some 24) rfl rfl ?_ hS ?_ ?_; rotate_left; · rintro W' hW'; go_simp; try with_reducible rfl
  try simp only [pL]
  refine tkH 3 (some 25) rfl rfl ?_ hS ?_ ?_; rotate_left; · rintro W' hW'; go_simp; try with_reducible rfl
  try simp only [pL]
  refine takeH (i := 4) (v := .agg (y.cells sv lv).toArray) (some 26) rfl rfl (by kernel_rfl) (by kernel_rfl) (by kernel_rfl) (fun _ _ _ h => h) (Or.inl ⟨by kernel_rfl, ?_⟩) hS ?_
  ·
   rintro W' hW'
   exact exec_ld _ _ rfl (.pointer (some ⟨w1.heap.size, 0, none⟩)) _ rfl (hld W' hW')
  try simp only [pL]
  refine wpAnyH_ready (rs := [5]) (by kernel_rfl) (by simp) ?_
  refine AllReadyH.cons rfl (fun K hK => ?_) AllReadyH.nil
  go_simp
  go_wp2_with fail
  refine (l_check w2.drew _ y sv lv (HN2.out.mem) hyl).mono ?_
  rintro e w3 ⟨rfl, hE3⟩
  rw [hck, if_pos rfl]
  have HA3 := Lib.hid (hE3.blk HA2.out id)
  have HN3 := Lib.hid (HN2.out.ext (Mod.ext (Mod.refl _ w2).drew hE3))
  have hX := (hS.ext hE3)
  go_simp
  refine hK.out _ _ hX (fun hS => ?_)
  clear hK K hX
  try simp only [pL]
  refine tkH 6 (some 28) rfl rfl ?_ hS ?_ ?_; rotate_left; · rintro W' hW'; go_simp; try with_reducible rfl
  try simp only [pL]
  refine tkH 7 (some 29) rfl rfl ?_ hS ?_ ?_; rotate_left; · rintro W' hW'; go_simp; try with_reducible rfl
  try simp only [pL]
  refine wpAnyH_ready (rs := [8]) (by kernel_rfl) (by simp) ?_
  refine AllReadyH.cons rfl (fun K hK => ?_) AllReadyH.nil
  refine step_stR rfl 34 _ _ rfl 10 w.heap.size 0 (y.cells sv lv) rfl rfl str_hard _ [.int .i64 0, .int .i64 0, .int .i64 0, .int .i64 0, .int .i64 0, .int .i64 0, .int .i64 0, .int .i64 0, .slice none 0 0, .slice none 0 0] (y.cells sv lv) (HA3.out) rfl (by simp) hone rfl ?_
  intro w4 hb4 hm4 hs4
  refine hK.out _ _ (hS.self hm4) (fun hS => ?_)
  clear hK K
  try simp only [pL]
  refine tkH 9 (some 3) rfl rfl ?_ hS ?_ ?_; rotate_left; · rintro W' hW'; go_simp; try with_reducible rfl
  try simp only [pL]
  refine wpAnyH_done (by kernel_rfl) ?_ _
  have HX4 := Lib.hid (Mod.toExt ((Ext.mod HX2.out (Since w.heap.size)).trans hS (fun k _ e => by unfold Since; omega)))
  have HN4 := Lib.hid (HN3.out.box HA3.out hm4 (by decide) (by decide))
  go_wp2_with fail
  exact bodyPost_ret (results_row2 rfl _ w4 w.heap.size _ _ str_hard rfl hb4 rfl) rfl ⟨HX4.out, HrdO.yes Hp.out sv lv rfl HN4.out⟩
end Go.Proofs.YtjhnlncgmejkcaaGreat
