/-
 The contracts of hist.point, hist.Told. Conditions: as each theorem names them.
-/
import Derived.Test.YtbclnghbgoblcaaGreatHisAt
import Derived.Test.YtbclnghbgoblcaaGreatHisLaw
import Derived.Test.YtbclnghbgoblcaaGreatHisSame
import Derived.Test.YtbclnghbgoblcaaGreatGOpen
import Derived.Test.YtbclnghbgoblcaaGreatGNum
namespace Go.Proofs.YtbclnghbgoblcaaGreat
set_option linter.unusedSimpArgs false
open Go.RowKit

@[local go_sem] theorem run_field0 (A B : Option Addr) (n c m d : Nat) (w : World) : (Instr.field 33 (.agg #[.slice A n c, .slice B m d]) 0).run Tryz.prog w = .ok (.slice A n c) w := by kernel_rfl
set_option maxRecDepth 100000 in
set_option maxHeartbeats 4000000 in
theorem h_point (w : World) (T : Nat → Prop) (A : Option Addr) (n cc : Nat) (l : List AEntry) (x : ATold) (hC : Ents w T (.slice A n cc) l) (hn : l.length = n) :
  Calls Tryz.prog 39 #[.slice A n cc, .agg #[.int .i64 x.call.client, .int .i64 x.call.seq, .int .i64 x.call.cmd.kind, .string x.call.cmd.key, .int .i64 x.call.cmd.old.kind, .float .f64 x.call.cmd.old.num, .string x.call.cmd.old.text, .int .i64 x.call.cmd.val.kind, .float .f64 x.call.cmd.val.num, .string x.call.cmd.val.text, .int .i64 x.reply.code, .int .i64 x.reply.val.kind, .float .f64 x.reply.val.num, .string x.reply.val.text, .int .i64 x.index]] w fun e w' => e = .returned (.int .i64 (pointP l x)) ∧ Ext w w' := by
 rcases hk : (x.call.cmd.kind == 1) with _ | _
 ·
  have Hf : Hid (pointP l x = (placeH l x.call : Nat)) := Lib.hid (by unfold pointP; rw [if_neg (by simpa using hk)])
  rw [Hf.out]
  subst hn
  have HX : Hid (Ext w w) := Lib.hid (Mod.refl _ w)
  have HC := Lib.hid hC
  clear hC
  go_enter Tryz.func39, Tryz.ntmps39
  go_wp2_with fail
  obtain ⟨w1, hw1⟩ : ∃ w1, w1 = w.alloc (.cells #[.int .i64 x.call.client, .int .i64 x.call.seq, .int .i64 x.call.cmd.kind, .string x.call.cmd.key, .int .i64 x.call.cmd.old.kind, .float .f64 x.call.cmd.old.num, .string x.call.cmd.old.text, .int .i64 x.call.cmd.val.kind, .float .f64 x.call.cmd.val.num, .string x.call.cmd.val.text, .int .i64 x.reply.code, .int .i64 x.reply.val.kind, .float .f64 x.reply.val.num, .string x.reply.val.text, .int .i64 x.index] 48) := ⟨_, rfl⟩
  obtain ⟨bx, hbx⟩ : ∃ bx, bx = w.heap.size := ⟨_, rfl⟩
  have hzz : w.heap.size = bx := hbx.symm
  have hE : Ext w w1 := by rw [hw1]; exact (Mod.refl _ w).alloc _
  have hKn : w1.heap[bx]? = some (.cells #[.int .i64 x.call.client, .int .i64 x.call.seq, .int .i64 x.call.cmd.kind, .string x.call.cmd.key, .int .i64 x.call.cmd.old.kind, .float .f64 x.call.cmd.old.num, .string x.call.cmd.old.text, .int .i64 x.call.cmd.val.kind, .float .f64 x.call.cmd.val.num, .string x.call.cmd.val.text, .int .i64 x.reply.code, .int .i64 x.reply.val.kind, .float .f64 x.reply.val.num, .string x.reply.val.text, .int .i64 x.index] 48 (0, 0)) := by rw [hw1, ← hzz]; exact heap_alloc_new w _
  have hzn : w1.heap.size = bx + 1 := by rw [hw1, ← hzz]; simp
  rw [← hw1, ← hbx]
  have HXo := HX
  replace HC := Lib.hid (HC.out.ext hE)
  replace HX := Lib.hid (HX.out.ext hE)
  have Kxw1 := Lib.hid hKn
  have hbz : w.heap.size ≤ bx := by have := HXo.out.size; omega
  clear hKn hE hw1 hbx HXo hzz
  have hbx := hbz
  clear hbz
  clear hzn
  refine (h_place w1 T _ l x.call HC.out).mono ?_
  rintro e w2 ⟨rfl, hE⟩
  have Kxw2 := Lib.hid (hE.blk Kxw1.out id)
  replace HC := Lib.hid (HC.out.ext hE)
  replace HX := Lib.hid (HX.out.ext hE)
  clear Kxw1
  clear hE
  obtain ⟨x_0, x_1, x_2, x_3, x_4, x_5, x_6, x_7, x_8, x_9, x_10, x_11, x_12, x_13, x_14⟩ := cq15 Kxw2.out
  have x_l : bx < w2.heap.size := (Array.getElem?_eq_some_iff.1 Kxw2.out).1
  go_wp2
  go_ret
  exact ⟨rfl, HX.out⟩
 ·
  have Hf : Hid (pointP l x = x.index) := Lib.hid (by unfold pointP; rw [if_pos (by simpa using hk)])
  rw [Hf.out]
  have HX : Hid (Ext w w) := Lib.hid (Mod.refl _ w)
  have HC := Lib.hid hC
  clear hC
  go_enter Tryz.func39, Tryz.ntmps39
  go_wp2_with fail
  obtain ⟨w1, hw1⟩ : ∃ w1, w1 = w.alloc (.cells #[.int .i64 x.call.client, .int .i64 x.call.seq, .int .i64 x.call.cmd.kind, .string x.call.cmd.key, .int .i64 x.call.cmd.old.kind, .float .f64 x.call.cmd.old.num, .string x.call.cmd.old.text, .int .i64 x.call.cmd.val.kind, .float .f64 x.call.cmd.val.num, .string x.call.cmd.val.text, .int .i64 x.reply.code, .int .i64 x.reply.val.kind, .float .f64 x.reply.val.num, .string x.reply.val.text, .int .i64 x.index] 48) := ⟨_, rfl⟩
  obtain ⟨bx, hbx⟩ : ∃ bx, bx = w.heap.size := ⟨_, rfl⟩
  have hzz : w.heap.size = bx := hbx.symm
  have hE : Ext w w1 := by rw [hw1]; exact (Mod.refl _ w).alloc _
  have hKn : w1.heap[bx]? = some (.cells #[.int .i64 x.call.client, .int .i64 x.call.seq, .int .i64 x.call.cmd.kind, .string x.call.cmd.key, .int .i64 x.call.cmd.old.kind, .float .f64 x.call.cmd.old.num, .string x.call.cmd.old.text, .int .i64 x.call.cmd.val.kind, .float .f64 x.call.cmd.val.num, .string x.call.cmd.val.text, .int .i64 x.reply.code, .int .i64 x.reply.val.kind, .float .f64 x.reply.val.num, .string x.reply.val.text, .int .i64 x.index] 48 (0, 0)) := by rw [hw1, ← hzz]; exact heap_alloc_new w _
  have hzn : w1.heap.size = bx + 1 := by rw [hw1, ← hzz]; simp
  rw [← hw1, ← hbx]
  have HXo := HX
  replace HC := Lib.hid (HC.out.ext hE)
  replace HX := Lib.hid (HX.out.ext hE)
  have Kxw1 := Lib.hid hKn
  have hbz : w.heap.size ≤ bx := by have := HXo.out.size; omega
  clear hKn hE hw1 hbx HXo hzz
  have hbx := hbz
  clear hbz
  clear hzn
  obtain ⟨x_0, x_1, x_2, x_3, x_4, x_5, x_6, x_7, x_8, x_9, x_10, x_11, x_12, x_13, x_14⟩ := cq15 Kxw1.out
  have x_l : bx < w1.heap.size := (Array.getElem?_eq_some_iff.1 Kxw1.out).1
  go_wp2
  go_ret
  exact ⟨rfl, HX.out⟩
set_option maxRecDepth 100000 in
set_option maxHeartbeats 4000000 in
theorem h_told_get (w : World) (T : Nat → Prop) (A : Option Addr) (n cc : Nat) (l : List AEntry) (x : ATold) (hC : Ents w T (.slice A n cc) l) (hn : l.length = n) (hx : x.ok) (hk : x.call.cmd.kind = 1) :
  Calls Tryz.prog 15 #[.slice A n cc, .agg #[.int .i64 x.call.client, .int .i64 x.call.seq, .int .i64 x.call.cmd.kind, .string x.call.cmd.key, .int .i64 x.call.cmd.old.kind, .float .f64 x.call.cmd.old.num, .string x.call.cmd.old.text, .int .i64 x.call.cmd.val.kind, .float .f64 x.call.cmd.val.num, .string x.call.cmd.val.text, .int .i64 x.reply.code, .int .i64 x.reply.val.kind, .float .f64 x.reply.val.num, .string x.reply.val.text, .int .i64 x.index]] w fun e w' => e = .returned (.bool (toldP l x)) ∧ Ext w w' := by
 have hl := hC.1.le
 rw [hn] at hl
 unfold maxLen at hl
 have d1 : (x.call.cmd.kind == 1) = true := by simp [hk]
 obtain ⟨R, hR⟩ : ∃ R, (doP (atP l x.index).pairs x.call.cmd).2 = R := ⟨_, rfl⟩
 obtain ⟨Q, hQ⟩ : ∃ Q, (doP (atP l x.index).pairs x.call.cmd).1 = Q := ⟨_, rfl⟩
 have HD : Hid (doP (atP l x.index).pairs x.call.cmd = (Q, R)) := Lib.hid (by rw [← hR, ← hQ])
 have Hf : Hid (toldP l x = (decide (x.index ≤ (n : Int)) && eqReply R x.reply)) := Lib.hid (by unfold toldP; rw [if_pos hk, hR, hn])
 rw [Hf.out]
 have hm := mach_small (atP_right l x.index)
 have Hx := Lib.hid hx
 clear hk hR hQ hx
 have HX : Hid (Ext w w) := Lib.hid (Mod.refl _ w)
 have HC := Lib.hid hC
 clear hC
 go_enter Tryz.func15, Tryz.ntmps15
 go_wp2_with fail
 obtain ⟨w1, hw1⟩ : ∃ w1, w1 = w.alloc (.cells #[.int .i64 x.call.client, .int .i64 x.call.seq, .int .i64 x.call.cmd.kind, .string x.call.cmd.key, .int .i64 x.call.cmd.old.kind, .float .f64 x.call.cmd.old.num, .string x.call.cmd.old.text, .int .i64 x.call.cmd.val.kind, .float .f64 x.call.cmd.val.num, .string x.call.cmd.val.text, .int .i64 x.reply.code, .int .i64 x.reply.val.kind, .float .f64 x.reply.val.num, .string x.reply.val.text, .int .i64 x.index] 48) := ⟨_, rfl⟩
 obtain ⟨bx, hbx⟩ : ∃ bx, bx = w.heap.size := ⟨_, rfl⟩
 have hzz : w.heap.size = bx := hbx.symm
 have hE : Ext w w1 := by rw [hw1]; exact (Mod.refl _ w).alloc _
 have hKn : w1.heap[bx]? = some (.cells #[.int .i64 x.call.client, .int .i64 x.call.seq, .int .i64 x.call.cmd.kind, .string x.call.cmd.key, .int .i64 x.call.cmd.old.kind, .float .f64 x.call.cmd.old.num, .string x.call.cmd.old.text, .int .i64 x.call.cmd.val.kind, .float .f64 x.call.cmd.val.num, .string x.call.cmd.val.text, .int .i64 x.reply.code, .int .i64 x.reply.val.kind, .float .f64 x.reply.val.num, .string x.reply.val.text, .int .i64 x.index] 48 (0, 0)) := by rw [hw1, ← hzz]; exact heap_alloc_new w _
 have hzn : w1.heap.size = bx + 1 := by rw [hw1, ← hzz]; simp
 rw [← hw1, ← hbx]
 have HXo := HX
 replace HC := Lib.hid (HC.out.ext hE)
 replace HX := Lib.hid (HX.out.ext hE)
 have Kxw1 := Lib.hid hKn
 have hbz : w.heap.size ≤ bx := by have := HXo.out.size; omega
 clear hKn hE hw1 hbx HXo hzz
 have hbx := hbz
 clear hbz
 clear hzn
 obtain ⟨x_0, x_1, x_2, x_3, x_4, x_5, x_6, x_7, x_8, x_9, x_10, x_11, x_12, x_13, x_14⟩ := cq15 Kxw1.out
 have x_l : bx < w1.heap.size := (Array.getElem?_eq_some_iff.1 Kxw1.out).1
 refine wp_region_held_drew (S := fun W' => Ext w1 W') (by kernel_rfl) (Mod.refl _ w1).drew (fun hS => ?_)
 refine tkE 0 (some 16) rfl rfl ?_ hS ?_ ?_; rotate_left; · rintro W' _ _; go_simp; try with_reducible rfl
 try simp only [pL]
 refine tkE 1 (some 17) rfl rfl ?_ hS ?_ ?_; rotate_left; · rintro W' _ _; go_simp; try with_reducible rfl
 try simp only [pL]
 refine tkE 2 (some 18) rfl rfl ?_ hS ?_ ?_; rotate_left; · rintro W' _ _; go_simp; try with_reducible rfl
 try simp only [pL]
 refine tkE 5 (some 21) rfl rfl ?_ hS ?_ ?_; rotate_left; · rintro W' _ _; go_simp; try with_reducible rfl
 try simp only [pL]
 refine tkE 6 (some 22) rfl rfl ?_ hS ?_ ?_; rotate_left; · rintro W' _ _; go_simp; try with_reducible rfl
 try simp only [pL]
 refine tkE 7 (some 23) rfl rfl ?_ hS ?_ ?_; rotate_left; · rintro W' _ _; go_simp; try with_reducible rfl
 try simp only [pL]
 obtain ⟨w2, hnw⟩ : ∃ w2, w2 = w1.drew := ⟨_, rfl⟩
 rw [← hnw] at hS ⊢
 clear hnw
 refine wpAnyH_ready (rs := [3, 12]) (by kernel_rfl) (by simp) ?_
 refine AllReadyH.cons rfl (fun K hK => ?_) (AllReadyH.cons rfl (fun K hK => ?_) AllReadyH.nil)
 ·
  go_simp
  go_wp2_with fail
  refine (h_at w2 T _ l x.index (HC.out.ext hS) Hx.out.2.2).mono ?_
  rintro e w3 ⟨p1, v1, rfl, hN, hE⟩
  obtain ⟨A1, c1, rfl⟩ := own_form hN.1.1
  obtain ⟨B1, d1, rfl⟩ := own_form hN.2.1.1
  have HP := Lib.hid hN.1.prs
  clear hN
  have hX := Mod.ext hS hE
  clear hE hS
  go_simp
  refine hK.out _ _ hX (fun hS => ?_)
  clear hK K hX
  try simp only [pL]
  refine tkE 4 (some 20) rfl rfl ?_ hS ?_ ?_; rotate_left; · rintro W' _ _; go_simp; try with_reducible rfl
  try simp only [pL]
  refine wpAnyH_ready (rs := [8, 12]) (by kernel_rfl) (by simp) ?_
  refine AllReadyH.cons rfl (fun K hK => ?_) (AllReadyH.cons rfl (fun K hK => ?_) AllReadyH.nil)
  ·
   go_simp
   go_wp2_with fail
   refine (kv_Do_at w3 _ _ _ x.call.cmd HP.out hm.1 Hx.out.1.2.2.2.2.2 HD.out).mono ?_
   rintro e w4 ⟨v2, rfl, hN, hE⟩
   replace HP := Lib.hid (HP.out.ext hE)
   clear HP hN
   have hX := Mod.ext hS hE
   clear hE hS
   go_simp
   refine hK.out _ _ hX (fun hS => ?_)
   clear hK K hX
   try simp only [pL]
   refine tkE 9 (some 15) rfl rfl ?_ hS ?_ ?_; rotate_left; · rintro W' _ _; go_simp; try with_reducible rfl
   try simp only [pL]
   refine tkE 10 (some 25) rfl rfl ?_ hS ?_ ?_; rotate_left; · rintro W' _ _; go_simp; try with_reducible rfl
   try simp only [pL]
   refine tkE 11 (some 26) rfl rfl ?_ hS ?_ ?_; rotate_left; · rintro W' _ _; go_simp; try with_reducible rfl
   try simp only [pL]
   refine wpAnyH_ready (rs := [12]) (by kernel_rfl) (by simp) ?_
   refine AllReadyH.cons rfl (fun K hK => ?_) AllReadyH.nil
   go_simp
   obtain ⟨br, hbn⟩ : ∃ br, w4.heap.size = br := ⟨_, rfl⟩
   obtain ⟨w5, hnw⟩ : ∃ w5, w5 = w4.alloc (.cells #[.int .i64 0, .int .i64 0, .float .f64 0, .string ⟨#[]⟩] 46) := ⟨_, rfl⟩
   have hE : Ext w4 w5 := by rw [hnw]; exact (Mod.refl _ _).alloc _
   have KKr : w5.heap[br]? = some (.cells #[.int .i64 0, .int .i64 0, .float .f64 0, .string ⟨#[]⟩] 46 (0, 0)) := by rw [hnw, ← hbn]; exact heap_alloc_new _ _
   have hbr : w.heap.size ≤ br := by have := (Mod.ext HX.out hS).size; omega
   have hcr : w1.heap.size ≤ br := by have := hS.size; omega
   rw [← hnw, hbn]
   clear hnw hbn
   have hX := Mod.ext hS hE
   clear hE hS
   refine hK.out _ _ hX (fun hS => ?_)
   clear hK K hX
   try simp only [pL]
   refine tkE 13 (some 5) rfl rfl ?_ hS ?_ ?_; rotate_left; · rintro W' _ _; go_simp; try with_reducible rfl
   try simp only [pL]
   refine wpAnyH_ready (rs := [14]) (by kernel_rfl) (by simp) ?_
   refine AllReadyH.cons rfl (fun K hK => ?_) AllReadyH.nil
   have fz0 := blk_free 0 KKr
   have cz0 : w5.cell? ⟨br, 0, none⟩ = some _ := blk_cell KKr rfl
   have fz1 := blk_free 1 KKr
   have cz1 : w5.cell? ⟨br, 1, none⟩ = some _ := blk_cell KKr rfl
   have fz2 := blk_free 2 KKr
   have cz2 : w5.cell? ⟨br, 2, none⟩ = some _ := blk_cell KKr rfl
   have fz3 := blk_free 3 KKr
   have cz3 : w5.cell? ⟨br, 3, none⟩ = some _ := blk_cell KKr rfl
   obtain ⟨w6, hwn⟩ : ∃ w6, ((((w5.setCell ⟨br, 0, none⟩ (.int .i64 R.code)).setCell ⟨br, 1, none⟩ (.int .i64 R.val.kind)).setCell ⟨br, 2, none⟩ (.float .f64 R.val.num)).setCell ⟨br, 3, none⟩ (.string R.val.text)) = w6 := ⟨_, rfl⟩
   have hKn : w6.heap[br]? = some (.cells #[.int .i64 R.code, .int .i64 R.val.kind, .float .f64 R.val.num, .string R.val.text] 46 (0, 0)) := by rw [← hwn]; simp [World.setCell, Array.getElem?_modify, KKr]
   have hM : Mod (fun k => k = br) w5 w6 := by rw [← hwn]; exact mod_same (mod_same (mod_same (mod_same (Mod.refl _ _) _ _) _ _) _ _) _ _
   have hX : Ext w1 w6 := Mod.toExt ((Ext.mod hS (Since w1.heap.size)).trans hM (fun k _ e => by rw [e]; exact hcr))
   clear hS
   go_simp
   try rw [hwn]
   refine hK.out _ _ hX (fun hS => ?_)
   clear hK K hX hwn hM KKr fz0 cz0 fz1 cz1 fz2 cz2 fz3 cz3
   have KKr := hKn
   clear hKn
   try simp only [pL]
   refine wpAnyH_done (by kernel_rfl) ?_ _
   have hE := hS
   clear hS
   clear x_0 x_1 x_2 x_3 x_4 x_5 x_6 x_7 x_8 x_9 x_10 x_11 x_12 x_13 x_14 x_l
   have Kxw6 := Lib.hid (hE.blk Kxw1.out id)
   replace HC := Lib.hid (HC.out.ext hE)
   replace HX := Lib.hid (HX.out.ext hE)
   clear Kxw1
   clear hE
   have Krw6 := Lib.hid KKr
   clear KKr
   obtain ⟨x_0, x_1, x_2, x_3, x_4, x_5, x_6, x_7, x_8, x_9, x_10, x_11, x_12, x_13, x_14⟩ := cq15 Kxw6.out
   have x_l : bx < w6.heap.size := (Array.getElem?_eq_some_iff.1 Kxw6.out).1
   obtain ⟨r_0, r_1, r_2, r_3⟩ := cq4 Krw6.out
   have r_l : br < w6.heap.size := (Array.getElem?_eq_some_iff.1 Krw6.out).1
   rcases dn : decide (x.index ≤ (n : Int)) with _ | _
   ·
    go_wp2
    go_ret
    exact ⟨ret_bool (by rw [dn]; rfl), HX.out⟩
   ·
    go_wp2_with fail
    refine (h_sameReply R x.reply w6).mono ?_
    rintro e w7 ⟨rfl, hE⟩
    clear x_0 x_1 x_2 x_3 x_4 x_5 x_6 x_7 x_8 x_9 x_10 x_11 x_12 x_13 x_14 x_l r_0 r_1 r_2 r_3 r_l
    have Kxw7 := Lib.hid (hE.blk Kxw6.out id)
    have Krw7 := Lib.hid (hE.blk Krw6.out id)
    replace HC := Lib.hid (HC.out.ext hE)
    replace HX := Lib.hid (HX.out.ext hE)
    clear Kxw6
    clear Krw6
    clear hE
    obtain ⟨x_0, x_1, x_2, x_3, x_4, x_5, x_6, x_7, x_8, x_9, x_10, x_11, x_12, x_13, x_14⟩ := cq15 Kxw7.out
    have x_l : bx < w7.heap.size := (Array.getElem?_eq_some_iff.1 Kxw7.out).1
    obtain ⟨r_0, r_1, r_2, r_3⟩ := cq4 Krw7.out
    have r_l : br < w7.heap.size := (Array.getElem?_eq_some_iff.1 Krw7.out).1
    go_wp2
    go_ret
    exact ⟨ret_bool (by rw [dn]; rfl), HX.out⟩
  ·
   go_simp
   obtain ⟨br, hbn⟩ : ∃ br, w3.heap.size = br := ⟨_, rfl⟩
   obtain ⟨w4, hnw⟩ : ∃ w4, w4 = w3.alloc (.cells #[.int .i64 0, .int .i64 0, .float .f64 0, .string ⟨#[]⟩] 46) := ⟨_, rfl⟩
   have hE : Ext w3 w4 := by rw [hnw]; exact (Mod.refl _ _).alloc _
   have KKr : w4.heap[br]? = some (.cells #[.int .i64 0, .int .i64 0, .float .f64 0, .string ⟨#[]⟩] 46 (0, 0)) := by rw [hnw, ← hbn]; exact heap_alloc_new _ _
   have hbr : w.heap.size ≤ br := by have := (Mod.ext HX.out hS).size; omega
   have hcr : w1.heap.size ≤ br := by have := hS.size; omega
   rw [← hnw, hbn]
   clear hnw hbn
   replace HP := Lib.hid (HP.out.ext hE)
   have hX := Mod.ext hS hE
   clear hE hS
   refine hK.out _ _ hX (fun hS => ?_)
   clear hK K hX
   try simp only [pL]
   refine wpAnyH_ready (rs := [8]) (by kernel_rfl) (by simp) ?_
   refine AllReadyH.cons rfl (fun K hK => ?_) AllReadyH.nil
   go_simp
   go_wp2_with fail
   refine (kv_Do_at w4 _ _ _ x.call.cmd HP.out hm.1 Hx.out.1.2.2.2.2.2 HD.out).mono ?_
   rintro e w5 ⟨v2, rfl, hN, hE⟩
   replace HP := Lib.hid (HP.out.ext hE)
   replace KKr := hE.blk KKr id
   clear HP hN
   have hX := Mod.ext hS hE
   clear hE hS
   go_simp
   refine hK.out _ _ hX (fun hS => ?_)
   clear hK K hX
   try simp only [pL]
   refine tkE 9 (some 15) rfl rfl ?_ hS ?_ ?_; rotate_left; · rintro W' _ _; go_simp; try with_reducible rfl
   try simp only [pL]
   refine tkE 10 (some 25) rfl rfl ?_ hS ?_ ?_; rotate_left; · rintro W' _ _; go_simp; try with_reducible rfl
   try simp only [pL]
   refine tkE 11 (some 26) rfl rfl ?_ hS ?_ ?_; rotate_left; · rintro W' _ _; go_simp; try with_reducible rfl
   try simp only [pL]
   refine tkE 13 (some 5) rfl rfl ?_ hS ?_ ?_; rotate_left; · rintro W' _ _; go_simp; try with_reducible rfl
   try simp only [pL]
   refine wpAnyH_ready (rs := [14]) (by kernel_rfl) (by simp) ?_
   refine AllReadyH.cons rfl (fun K hK => ?_) AllReadyH.nil
   have fz0 := blk_free 0 KKr
   have cz0 : w5.cell? ⟨br, 0, none⟩ = some _ := blk_cell KKr rfl
   have fz1 := blk_free 1 KKr
   have cz1 : w5.cell? ⟨br, 1, none⟩ = some _ := blk_cell KKr rfl
   have fz2 := blk_free 2 KKr
   have cz2 : w5.cell? ⟨br, 2, none⟩ = some _ := blk_cell KKr rfl
   have fz3 := blk_free 3 KKr
   have cz3 : w5.cell? ⟨br, 3, none⟩ = some _ := blk_cell KKr rfl
   obtain ⟨w6, hwn⟩ : ∃ w6, ((((w5.setCell ⟨br, 0, none⟩ (.int .i64 R.code)).setCell ⟨br, 1, none⟩ (.int .i64 R.val.kind)).setCell ⟨br, 2, none⟩ (.float .f64 R.val.num)).setCell ⟨br, 3, none⟩ (.string R.val.text)) = w6 := ⟨_, rfl⟩
   have hKn : w6.heap[br]? = some (.cells #[.int .i64 R.code, .int .i64 R.val.kind, .float .f64 R.val.num, .string R.val.text] 46 (0, 0)) := by rw [← hwn]; simp [World.setCell, Array.getElem?_modify, KKr]
   have hM : Mod (fun k => k = br) w5 w6 := by rw [← hwn]; exact mod_same (mod_same (mod_same (mod_same (Mod.refl _ _) _ _) _ _) _ _) _ _
   have hX : Ext w1 w6 := Mod.toExt ((Ext.mod hS (Since w1.heap.size)).trans hM (fun k _ e => by rw [e]; exact hcr))
   clear hS
   go_simp
   try rw [hwn]
   refine hK.out _ _ hX (fun hS => ?_)
   clear hK K hX hwn hM KKr fz0 cz0 fz1 cz1 fz2 cz2 fz3 cz3
   have KKr := hKn
   clear hKn
   try simp only [pL]
   refine wpAnyH_done (by kernel_rfl) ?_ _
   have hE := hS
   clear hS
   clear x_0 x_1 x_2 x_3 x_4 x_5 x_6 x_7 x_8 x_9 x_10 x_11 x_12 x_13 x_14 x_l
   have Kxw6 := Lib.hid (hE.blk Kxw1.out id)
   replace HC := Lib.hid (HC.out.ext hE)
   replace HX := Lib.hid (HX.out.ext hE)
   clear Kxw1
   clear hE
   have Krw6 := Lib.hid KKr
   clear KKr
   obtain ⟨x_0, x_1, x_2, x_3, x_4, x_5, x_6, x_7, x_8, x_9, x_10, x_11, x_12, x_13, x_14⟩ := cq15 Kxw6.out
   have x_l : bx < w6.heap.size := (Array.getElem?_eq_some_iff.1 Kxw6.out).1
   obtain ⟨r_0, r_1, r_2, r_3⟩ := cq4 Krw6.out
   have r_l : br < w6.heap.size := (Array.getElem?_eq_some_iff.1 Krw6.out).1
   rcases dn : decide (x.index ≤ (n : Int)) with _ | _
   ·
    go_wp2
    go_ret
    exact ⟨ret_bool (by rw [dn]; rfl), HX.out⟩
   ·
    go_wp2_with fail
    refine (h_sameReply R x.reply w6).mono ?_
    rintro e w7 ⟨rfl, hE⟩
    clear x_0 x_1 x_2 x_3 x_4 x_5 x_6 x_7 x_8 x_9 x_10 x_11 x_12 x_13 x_14 x_l r_0 r_1 r_2 r_3 r_l
    have Kxw7 := Lib.hid (hE.blk Kxw6.out id)
    have Krw7 := Lib.hid (hE.blk Krw6.out id)
    replace HC := Lib.hid (HC.out.ext hE)
    replace HX := Lib.hid (HX.out.ext hE)
    clear Kxw6
    clear Krw6
    clear hE
    obtain ⟨x_0, x_1, x_2, x_3, x_4, x_5, x_6, x_7, x_8, x_9, x_10, x_11, x_12, x_13, x_14⟩ := cq15 Kxw7.out
    have x_l : bx < w7.heap.size := (Array.getElem?_eq_some_iff.1 Kxw7.out).1
    obtain ⟨r_0, r_1, r_2, r_3⟩ := cq4 Krw7.out
    have r_l : br < w7.heap.size := (Array.getElem?_eq_some_iff.1 Krw7.out).1
    go_wp2
    go_ret
    exact ⟨ret_bool (by rw [dn]; rfl), HX.out⟩
 ·
  go_simp
  obtain ⟨br, hbn⟩ : ∃ br, w2.heap.size = br := ⟨_, rfl⟩
  obtain ⟨w3, hnw⟩ : ∃ w3, w3 = w2.alloc (.cells #[.int .i64 0, .int .i64 0, .float .f64 0, .string ⟨#[]⟩] 46) := ⟨_, rfl⟩
  have hE : Ext w2 w3 := by rw [hnw]; exact (Mod.refl _ _).alloc _
  have KKr : w3.heap[br]? = some (.cells #[.int .i64 0, .int .i64 0, .float .f64 0, .string ⟨#[]⟩] 46 (0, 0)) := by rw [hnw, ← hbn]; exact heap_alloc_new _ _
  have hbr : w.heap.size ≤ br := by have := (Mod.ext HX.out hS).size; omega
  have hcr : w1.heap.size ≤ br := by have := hS.size; omega
  rw [← hnw, hbn]
  clear hnw hbn
  have hX := Mod.ext hS hE
  clear hE hS
  refine hK.out _ _ hX (fun hS => ?_)
  clear hK K hX
  try simp only [pL]
  refine wpAnyH_ready (rs := [3]) (by kernel_rfl) (by simp) ?_
  refine AllReadyH.cons rfl (fun K hK => ?_) AllReadyH.nil
  go_simp
  go_wp2_with fail
  refine (h_at w3 T _ l x.index (HC.out.ext hS) Hx.out.2.2).mono ?_
  rintro e w4 ⟨p1, v1, rfl, hN, hE⟩
  replace KKr := hE.blk KKr id
  obtain ⟨A1, c1, rfl⟩ := own_form hN.1.1
  obtain ⟨B1, d1, rfl⟩ := own_form hN.2.1.1
  have HP := Lib.hid hN.1.prs
  clear hN
  have hX := Mod.ext hS hE
  clear hE hS
  go_simp
  refine hK.out _ _ hX (fun hS => ?_)
  clear hK K hX
  try simp only [pL]
  refine tkE 4 (some 20) rfl rfl ?_ hS ?_ ?_; rotate_left; · rintro W' _ _; go_simp; try with_reducible rfl
  try simp only [pL]
  refine wpAnyH_ready (rs := [8]) (by kernel_rfl) (by simp) ?_
  refine AllReadyH.cons rfl (fun K hK => ?_) AllReadyH.nil
  go_simp
  go_wp2_with fail
  refine (kv_Do_at w4 _ _ _ x.call.cmd HP.out hm.1 Hx.out.1.2.2.2.2.2 HD.out).mono ?_
  rintro e w5 ⟨v2, rfl, hN, hE⟩
  replace HP := Lib.hid (HP.out.ext hE)
  replace KKr := hE.blk KKr id
  clear HP hN
  have hX := Mod.ext hS hE
  clear hE hS
  go_simp
  refine hK.out _ _ hX (fun hS => ?_)
  clear hK K hX
  try simp only [pL]
  refine tkE 9 (some 15) rfl rfl ?_ hS ?_ ?_; rotate_left; · rintro W' _ _; go_simp; try with_reducible rfl
  try simp only [pL]
  refine tkE 10 (some 25) rfl rfl ?_ hS ?_ ?_; rotate_left; · rintro W' _ _; go_simp; try with_reducible rfl
  try simp only [pL]
  refine tkE 11 (some 26) rfl rfl ?_ hS ?_ ?_; rotate_left; · rintro W' _ _; go_simp; try with_reducible rfl
  try simp only [pL]
  refine tkE 13 (some 5) rfl rfl ?_ hS ?_ ?_; rotate_left; · rintro W' _ _; go_simp; try with_reducible rfl
  try simp only [pL]
  refine wpAnyH_ready (rs := [14]) (by kernel_rfl) (by simp) ?_
  refine AllReadyH.cons rfl (fun K hK => ?_) AllReadyH.nil
  have fz0 := blk_free 0 KKr
  have cz0 : w5.cell? ⟨br, 0, none⟩ = some _ := blk_cell KKr rfl
  have fz1 := blk_free 1 KKr
  have cz1 : w5.cell? ⟨br, 1, none⟩ = some _ := blk_cell KKr rfl
  have fz2 := blk_free 2 KKr
  have cz2 : w5.cell? ⟨br, 2, none⟩ = some _ := blk_cell KKr rfl
  have fz3 := blk_free 3 KKr
  have cz3 : w5.cell? ⟨br, 3, none⟩ = some _ := blk_cell KKr rfl
  obtain ⟨w6, hwn⟩ : ∃ w6, ((((w5.setCell ⟨br, 0, none⟩ (.int .i64 R.code)).setCell ⟨br, 1, none⟩ (.int .i64 R.val.kind)).setCell ⟨br, 2, none⟩ (.float .f64 R.val.num)).setCell ⟨br, 3, none⟩ (.string R.val.text)) = w6 := ⟨_, rfl⟩
  have hKn : w6.heap[br]? = some (.cells #[.int .i64 R.code, .int .i64 R.val.kind, .float .f64 R.val.num, .string R.val.text] 46 (0, 0)) := by rw [← hwn]; simp [World.setCell, Array.getElem?_modify, KKr]
  have hM : Mod (fun k => k = br) w5 w6 := by rw [← hwn]; exact mod_same (mod_same (mod_same (mod_same (Mod.refl _ _) _ _) _ _) _ _) _ _
  have hX : Ext w1 w6 := Mod.toExt ((Ext.mod hS (Since w1.heap.size)).trans hM (fun k _ e => by rw [e]; exact hcr))
  clear hS
  go_simp
  try rw [hwn]
  refine hK.out _ _ hX (fun hS => ?_)
  clear hK K hX hwn hM KKr fz0 cz0 fz1 cz1 fz2 cz2 fz3 cz3
  have KKr := hKn
  clear hKn
  try simp only [pL]
  refine wpAnyH_done (by kernel_rfl) ?_ _
  have hE := hS
  clear hS
  clear x_0 x_1 x_2 x_3 x_4 x_5 x_6 x_7 x_8 x_9 x_10 x_11 x_12 x_13 x_14 x_l
  have Kxw6 := Lib.hid (hE.blk Kxw1.out id)
  replace HC := Lib.hid (HC.out.ext hE)
  replace HX := Lib.hid (HX.out.ext hE)
  clear Kxw1
  clear hE
  have Krw6 := Lib.hid KKr
  clear KKr
  obtain ⟨x_0, x_1, x_2, x_3, x_4, x_5, x_6, x_7, x_8, x_9, x_10, x_11, x_12, x_13, x_14⟩ := cq15 Kxw6.out
  have x_l : bx < w6.heap.size := (Array.getElem?_eq_some_iff.1 Kxw6.out).1
  obtain ⟨r_0, r_1, r_2, r_3⟩ := cq4 Krw6.out
  have r_l : br < w6.heap.size := (Array.getElem?_eq_some_iff.1 Krw6.out).1
  rcases dn : decide (x.index ≤ (n : Int)) with _ | _
  ·
   go_wp2
   go_ret
   exact ⟨ret_bool (by rw [dn]; rfl), HX.out⟩
  ·
   go_wp2_with fail
   refine (h_sameReply R x.reply w6).mono ?_
   rintro e w7 ⟨rfl, hE⟩
   clear x_0 x_1 x_2 x_3 x_4 x_5 x_6 x_7 x_8 x_9 x_10 x_11 x_12 x_13 x_14 x_l r_0 r_1 r_2 r_3 r_l
   have Kxw7 := Lib.hid (hE.blk Kxw6.out id)
   have Krw7 := Lib.hid (hE.blk Krw6.out id)
   replace HC := Lib.hid (HC.out.ext hE)
   replace HX := Lib.hid (HX.out.ext hE)
   clear Kxw6
   clear Krw6
   clear hE
   obtain ⟨x_0, x_1, x_2, x_3, x_4, x_5, x_6, x_7, x_8, x_9, x_10, x_11, x_12, x_13, x_14⟩ := cq15 Kxw7.out
   have x_l : bx < w7.heap.size := (Array.getElem?_eq_some_iff.1 Kxw7.out).1
   obtain ⟨r_0, r_1, r_2, r_3⟩ := cq4 Krw7.out
   have r_l : br < w7.heap.size := (Array.getElem?_eq_some_iff.1 Krw7.out).1
   go_wp2
   go_ret
   exact ⟨ret_bool (by rw [dn]; rfl), HX.out⟩
set_option maxRecDepth 100000 in
set_option maxHeartbeats 4000000 in
theorem h_told_other (w : World) (T : Nat → Prop) (A : Option Addr) (n cc : Nat) (l : List AEntry) (x : ATold) (hC : Ents w T (.slice A n cc) l) (hn : l.length = n) (hx : x.ok) (hk : x.call.cmd.kind ≠ 1) :
  Calls Tryz.prog 15 #[.slice A n cc, .agg #[.int .i64 x.call.client, .int .i64 x.call.seq, .int .i64 x.call.cmd.kind, .string x.call.cmd.key, .int .i64 x.call.cmd.old.kind, .float .f64 x.call.cmd.old.num, .string x.call.cmd.old.text, .int .i64 x.call.cmd.val.kind, .float .f64 x.call.cmd.val.num, .string x.call.cmd.val.text, .int .i64 x.reply.code, .int .i64 x.reply.val.kind, .float .f64 x.reply.val.num, .string x.reply.val.text, .int .i64 x.index]] w fun e w' => e = .returned (.bool (toldP l x)) ∧ Ext w w' := by
 have hl := hC.1.le
 rw [hn] at hl
 unfold maxLen at hl
 have d1 : (x.call.cmd.kind == 1) = false := by simp [hk]
 obtain ⟨p, hp⟩ : ∃ p, placeH l x.call = p := ⟨_, rfl⟩
 have Hx := Lib.hid hx
 have Hp := Lib.hid hp
 have Hk := Lib.hid hk
 have hpl : p ≤ n := by
  rcases Nat.eq_zero_or_pos p with h | h
  ·
   omega
  ·
   have := placeH_le (l := l) (c := x.call) (by omega); omega
 clear hk hx hp
 by_cases h1 : p = 0
 ·
  have d2 : decide ((p : Int) < 1) = true := by simp; omega
  have d3 : decide (p < 1) = true := by simp; omega
  have Hf : Hid (toldP l x = false) := Lib.hid (by
   unfold toldP
   rw [if_neg Hk.out, Hp.out, h1]
   split
   ·
    rfl
   ·
    simp)
  clear h1
  have HX : Hid (Ext w w) := Lib.hid (Mod.refl _ w)
  have HC := Lib.hid hC
  clear hC
  go_enter Tryz.func15, Tryz.ntmps15
  go_wp2_with fail
  obtain ⟨w1, hw1⟩ : ∃ w1, w1 = w.alloc (.cells #[.int .i64 x.call.client, .int .i64 x.call.seq, .int .i64 x.call.cmd.kind, .string x.call.cmd.key, .int .i64 x.call.cmd.old.kind, .float .f64 x.call.cmd.old.num, .string x.call.cmd.old.text, .int .i64 x.call.cmd.val.kind, .float .f64 x.call.cmd.val.num, .string x.call.cmd.val.text, .int .i64 x.reply.code, .int .i64 x.reply.val.kind, .float .f64 x.reply.val.num, .string x.reply.val.text, .int .i64 x.index] 48) := ⟨_, rfl⟩
  obtain ⟨bx, hbx⟩ : ∃ bx, bx = w.heap.size := ⟨_, rfl⟩
  have hzz : w.heap.size = bx := hbx.symm
  have hE : Ext w w1 := by rw [hw1]; exact (Mod.refl _ w).alloc _
  have hKn : w1.heap[bx]? = some (.cells #[.int .i64 x.call.client, .int .i64 x.call.seq, .int .i64 x.call.cmd.kind, .string x.call.cmd.key, .int .i64 x.call.cmd.old.kind, .float .f64 x.call.cmd.old.num, .string x.call.cmd.old.text, .int .i64 x.call.cmd.val.kind, .float .f64 x.call.cmd.val.num, .string x.call.cmd.val.text, .int .i64 x.reply.code, .int .i64 x.reply.val.kind, .float .f64 x.reply.val.num, .string x.reply.val.text, .int .i64 x.index] 48 (0, 0)) := by rw [hw1, ← hzz]; exact heap_alloc_new w _
  have hzn : w1.heap.size = bx + 1 := by rw [hw1, ← hzz]; simp
  rw [← hw1, ← hbx]
  have HXo := HX
  replace HC := Lib.hid (HC.out.ext hE)
  replace HX := Lib.hid (HX.out.ext hE)
  have Kxw1 := Lib.hid hKn
  have hbz : w.heap.size ≤ bx := by have := HXo.out.size; omega
  clear hKn hE hw1 hbx HXo hzz
  have hbx := hbz
  clear hbz
  clear hzn
  refine (h_place w1 T _ l x.call HC.out).mono ?_
  rintro e w2 ⟨rfl, hE⟩
  have Kxw2 := Lib.hid (hE.blk Kxw1.out id)
  replace HC := Lib.hid (HC.out.ext hE)
  replace HX := Lib.hid (HX.out.ext hE)
  clear Kxw1
  rw [Hp.out]
  clear hE
  obtain ⟨x_0, x_1, x_2, x_3, x_4, x_5, x_6, x_7, x_8, x_9, x_10, x_11, x_12, x_13, x_14⟩ := cq15 Kxw2.out
  have x_l : bx < w2.heap.size := (Array.getElem?_eq_some_iff.1 Kxw2.out).1
  go_wp2_with fail
  clear x_0 x_1 x_2 x_3 x_4 x_5 x_6 x_7 x_8 x_9 x_10 x_11 x_12 x_13 x_14 x_l
  obtain ⟨x_0, x_1, x_2, x_3, x_4, x_5, x_6, x_7, x_8, x_9, x_10, x_11, x_12, x_13, x_14⟩ := cq15 Kxw2.out
  have x_l : bx < w2.heap.size := (Array.getElem?_eq_some_iff.1 Kxw2.out).1
  refine wp_region_held_drew (S := fun W' => Ext w2 W') (by kernel_rfl) (Mod.refl _ w2).drew (fun hS => ?_)
  refine tkE 0 (some 42) rfl rfl ?_ hS ?_ ?_; rotate_left; · rintro W' _ _; go_simp; try with_reducible rfl
  try simp only [pL]
  refine tkE 1 (some 43) rfl rfl ?_ hS ?_ ?_; rotate_left; · rintro W' _ _; go_simp; try with_reducible rfl
  try simp only [pL]
  refine tkE 2 (some 44) rfl rfl ?_ hS ?_ ?_; rotate_left; · rintro W' _ _; go_simp; try with_reducible rfl
  try simp only [pL]
  refine tuH 3 (some 45) rfl rfl hS ?_
  try simp only [pL]
  refine tuH 4 (some 46) rfl rfl hS ?_
  try simp only [pL]
  refine tuH 5 (some 47) rfl rfl hS ?_
  try simp only [pL]
  refine tuH 6 (some 48) rfl rfl hS ?_
  try simp only [pL]
  refine tkE 7 (some 49) rfl rfl ?_ hS ?_ ?_; rotate_left; · rintro W' _ _; go_simp; try with_reducible rfl
  try simp only [pL]
  refine tkE 8 (some 50) rfl rfl ?_ hS ?_ ?_; rotate_left; · rintro W' _ _; go_simp; try with_reducible rfl
  try simp only [pL]
  refine tuH 9 (some 51) rfl rfl hS ?_
  try simp only [pL]
  refine tuH 10 (some 52) rfl rfl hS ?_
  try simp only [pL]
  refine tuH 11 (some 53) rfl rfl hS ?_
  try simp only [pL]
  refine tuH 12 (some 54) rfl rfl hS ?_
  try simp only [pL]
  refine tuH 13 (some 55) rfl rfl hS ?_
  try simp only [pL]
  refine tuH 14 (some 56) rfl rfl hS ?_
  try simp only [pL]
  refine tuH 15 (some 57) rfl rfl hS ?_
  try simp only [pL]
  refine tuH 16 (some 58) rfl rfl hS ?_
  try simp only [pL]
  refine tuH 17 (some 59) rfl rfl hS ?_
  try simp only [pL]
  refine tuH 18 (some 60) rfl rfl hS ?_
  try simp only [pL]
  refine tuH 19 (some 61) rfl rfl hS ?_
  try simp only [pL]
  refine tuH 20 (some 62) rfl rfl hS ?_
  try simp only [pL]
  refine tkE 21 (some 63) rfl rfl ?_ hS ?_ ?_; rotate_left; · rintro W' _ _; go_simp; try with_reducible rfl
  try simp only [pL]
  refine wpAnyH_done (by kernel_rfl) ?_ _
  obtain ⟨w3, hnw⟩ : ∃ w3, w3 = w2.drew := ⟨_, rfl⟩
  rw [← hnw]
  replace hS : Ext w2 w3 := by rw [hnw]; exact (Mod.refl _ _).drew
  clear hnw
  have hE := hS
  clear hS
  clear x_0 x_1 x_2 x_3 x_4 x_5 x_6 x_7 x_8 x_9 x_10 x_11 x_12 x_13 x_14 x_l
  have Kxw3 := Lib.hid (hE.blk Kxw2.out id)
  replace HC := Lib.hid (HC.out.ext hE)
  replace HX := Lib.hid (HX.out.ext hE)
  clear Kxw2
  clear hE
  obtain ⟨x_0, x_1, x_2, x_3, x_4, x_5, x_6, x_7, x_8, x_9, x_10, x_11, x_12, x_13, x_14⟩ := cq15 Kxw3.out
  have x_l : bx < w3.heap.size := (Array.getElem?_eq_some_iff.1 Kxw3.out).1
  go_wp2
  go_ret
  exact ⟨ret_bool Hf.out.symm, HX.out⟩
 have d2 : decide ((p : Int) < 1) = false := by simp; omega
 have d3 : decide (p < 1) = false := by simp; omega
 by_cases h2 : x.index < (p : Int)
 ·
  have d4 : decide ((p : Int) > x.index) = true := by simp; omega
  have d5 : decide (x.index < (p : Int)) = true := by simp; omega
  have Hf : Hid (toldP l x = false) := Lib.hid (by
   unfold toldP
   rw [if_neg Hk.out, Hp.out]
   split
   ·
    rfl
   ·
    rw [show decide ((p : Int) ≤ x.index) = false by simp; omega]
    simp)
  clear h2
  have HX : Hid (Ext w w) := Lib.hid (Mod.refl _ w)
  have HC := Lib.hid hC
  clear hC
  go_enter Tryz.func15, Tryz.ntmps15
  go_wp2_with fail
  obtain ⟨w1, hw1⟩ : ∃ w1, w1 = w.alloc (.cells #[.int .i64 x.call.client, .int .i64 x.call.seq, .int .i64 x.call.cmd.kind, .string x.call.cmd.key, .int .i64 x.call.cmd.old.kind, .float .f64 x.call.cmd.old.num, .string x.call.cmd.old.text, .int .i64 x.call.cmd.val.kind, .float .f64 x.call.cmd.val.num, .string x.call.cmd.val.text, .int .i64 x.reply.code, .int .i64 x.reply.val.kind, .float .f64 x.reply.val.num, .string x.reply.val.text, .int .i64 x.index] 48) := ⟨_, rfl⟩
  obtain ⟨bx, hbx⟩ : ∃ bx, bx = w.heap.size := ⟨_, rfl⟩
  have hzz : w.heap.size = bx := hbx.symm
  have hE : Ext w w1 := by rw [hw1]; exact (Mod.refl _ w).alloc _
  have hKn : w1.heap[bx]? = some (.cells #[.int .i64 x.call.client, .int .i64 x.call.seq, .int .i64 x.call.cmd.kind, .string x.call.cmd.key, .int .i64 x.call.cmd.old.kind, .float .f64 x.call.cmd.old.num, .string x.call.cmd.old.text, .int .i64 x.call.cmd.val.kind, .float .f64 x.call.cmd.val.num, .string x.call.cmd.val.text, .int .i64 x.reply.code, .int .i64 x.reply.val.kind, .float .f64 x.reply.val.num, .string x.reply.val.text, .int .i64 x.index] 48 (0, 0)) := by rw [hw1, ← hzz]; exact heap_alloc_new w _
  have hzn : w1.heap.size = bx + 1 := by rw [hw1, ← hzz]; simp
  rw [← hw1, ← hbx]
  have HXo := HX
  replace HC := Lib.hid (HC.out.ext hE)
  replace HX := Lib.hid (HX.out.ext hE)
  have Kxw1 := Lib.hid hKn
  have hbz : w.heap.size ≤ bx := by have := HXo.out.size; omega
  clear hKn hE hw1 hbx HXo hzz
  have hbx := hbz
  clear hbz
  clear hzn
  refine (h_place w1 T _ l x.call HC.out).mono ?_
  rintro e w2 ⟨rfl, hE⟩
  have Kxw2 := Lib.hid (hE.blk Kxw1.out id)
  replace HC := Lib.hid (HC.out.ext hE)
  replace HX := Lib.hid (HX.out.ext hE)
  clear Kxw1
  rw [Hp.out]
  clear hE
  obtain ⟨x_0, x_1, x_2, x_3, x_4, x_5, x_6, x_7, x_8, x_9, x_10, x_11, x_12, x_13, x_14⟩ := cq15 Kxw2.out
  have x_l : bx < w2.heap.size := (Array.getElem?_eq_some_iff.1 Kxw2.out).1
  go_wp2_with fail
  clear x_0 x_1 x_2 x_3 x_4 x_5 x_6 x_7 x_8 x_9 x_10 x_11 x_12 x_13 x_14 x_l
  obtain ⟨x_0, x_1, x_2, x_3, x_4, x_5, x_6, x_7, x_8, x_9, x_10, x_11, x_12, x_13, x_14⟩ := cq15 Kxw2.out
  have x_l : bx < w2.heap.size := (Array.getElem?_eq_some_iff.1 Kxw2.out).1
  refine wp_region_held_drew (S := fun W' => Ext w2 W') (by kernel_rfl) (Mod.refl _ w2).drew (fun hS => ?_)
  refine tkE 0 (some 42) rfl rfl ?_ hS ?_ ?_; rotate_left; · rintro W' _ _; go_simp; try with_reducible rfl
  try simp only [pL]
  refine tkE 1 (some 43) rfl rfl ?_ hS ?_ ?_; rotate_left; · rintro W' _ _; go_simp; try with_reducible rfl
  try simp only [pL]
  refine tkE 2 (some 44) rfl rfl ?_ hS ?_ ?_; rotate_left; · rintro W' _ _; go_simp; try with_reducible rfl
  try simp only [pL]
  refine tkE 3 (some 45) rfl rfl ?_ hS ?_ ?_; rotate_left; · rintro W' _ _; go_simp; try with_reducible rfl
  try simp only [pL]
  refine tkE 4 (some 46) rfl rfl ?_ hS ?_ ?_; rotate_left; · rintro W' _ _; go_simp; try with_reducible rfl
  try simp only [pL]
  refine tkE 5 (some 47) rfl rfl ?_ hS ?_ ?_; rotate_left; · rintro W' _ _; go_simp; try with_reducible rfl
  try simp only [pL]
  refine tkE 6 (some 48) rfl rfl ?_ hS ?_ ?_; rotate_left; · rintro W' _ _; go_simp; try with_reducible rfl
  try simp only [pL]
  refine tkE 7 (some 49) rfl rfl ?_ hS ?_ ?_; rotate_left; · rintro W' _ _; go_simp; try with_reducible rfl
  try simp only [pL]
  refine tkE 8 (some 50) rfl rfl ?_ hS ?_ ?_; rotate_left; · rintro W' _ _; go_simp; try with_reducible rfl
  try simp only [pL]
  refine tuH 9 (some 51) rfl rfl hS ?_
  try simp only [pL]
  refine tuH 10 (some 52) rfl rfl hS ?_
  try simp only [pL]
  refine tuH 11 (some 53) rfl rfl hS ?_
  try simp only [pL]
  refine tuH 12 (some 54) rfl rfl hS ?_
  try simp only [pL]
  refine tuH 13 (some 55) rfl rfl hS ?_
  try simp only [pL]
  refine tuH 14 (some 56) rfl rfl hS ?_
  try simp only [pL]
  refine tuH 15 (some 57) rfl rfl hS ?_
  try simp only [pL]
  refine tuH 16 (some 58) rfl rfl hS ?_
  try simp only [pL]
  refine tuH 17 (some 59) rfl rfl hS ?_
  try simp only [pL]
  refine tuH 18 (some 60) rfl rfl hS ?_
  try simp only [pL]
  refine tuH 19 (some 61) rfl rfl hS ?_
  try simp only [pL]
  refine tuH 20 (some 62) rfl rfl hS ?_
  try simp only [pL]
  refine tkE 21 (some 63) rfl rfl ?_ hS ?_ ?_; rotate_left; · rintro W' _ _; go_simp; try with_reducible rfl
  try simp only [pL]
  refine wpAnyH_done (by kernel_rfl) ?_ _
  obtain ⟨w3, hnw⟩ : ∃ w3, w3 = w2.drew := ⟨_, rfl⟩
  rw [← hnw]
  replace hS : Ext w2 w3 := by rw [hnw]; exact (Mod.refl _ _).drew
  clear hnw
  have hE := hS
  clear hS
  clear x_0 x_1 x_2 x_3 x_4 x_5 x_6 x_7 x_8 x_9 x_10 x_11 x_12 x_13 x_14 x_l
  have Kxw3 := Lib.hid (hE.blk Kxw2.out id)
  replace HC := Lib.hid (HC.out.ext hE)
  replace HX := Lib.hid (HX.out.ext hE)
  clear Kxw2
  clear hE
  obtain ⟨x_0, x_1, x_2, x_3, x_4, x_5, x_6, x_7, x_8, x_9, x_10, x_11, x_12, x_13, x_14⟩ := cq15 Kxw3.out
  have x_l : bx < w3.heap.size := (Array.getElem?_eq_some_iff.1 Kxw3.out).1
  go_wp2
  go_ret
  exact ⟨ret_bool Hf.out.symm, HX.out⟩
 have d4 : decide ((p : Int) > x.index) = false := by simp; omega
 have d5 : decide (x.index < (p : Int)) = false := by simp; omega
 obtain ⟨j, hj⟩ : ∃ j, p - 1 = j := ⟨_, rfl⟩
 have hw1 : IntKind.i64.wrap ((p : Int) - 1) = (j : Int) := by rw [IntWalk.i64_in _ (by omega)]; omega
 have j0 : (0 : Int) ≤ (j : Int) := by omega
 have j1 : (j : Int) < (n : Int) := by omega
 obtain ⟨g, off, y, rfl, hgT, hy, hyok, hcells⟩ := hC.at (i := j) (by omega)
 have z4 := hcells 4 _ rfl
 have z5 := hcells 5 _ rfl
 have z6 := hcells 6 _ rfl
 have z7 := hcells 7 _ rfl
 have z8 := hcells 8 _ rfl
 have z9 := hcells 9 _ rfl
 have z10 := hcells 10 _ rfl
 have z11 := hcells 11 _ rfl
 have gl : g < w.heap.size := World.block_lt_of_cell? _ _ z4
 obtain ⟨sq, hsq⟩ : ∃ sq, (lastS (atP l (p : Int)).sess x.call.client).1 = sq := ⟨_, rfl⟩
 obtain ⟨R, hR⟩ : ∃ R, (lastS (atP l (p : Int)).sess x.call.client).2 = R := ⟨_, rfl⟩
 have Hq : Hid (toldP l x = (eqCmd y.call.cmd x.call.cmd && (sq == x.call.seq && eqReply R x.reply))) := Lib.hid (by
  unfold toldP
  rw [if_neg Hk.out, Hp.out, hj, hy]
  simp only
  rw [hsq, hR, show decide (1 ≤ p) = true by simp; omega, show decide ((p : Int) ≤ x.index) = true by simp; omega]
  rfl)
 have Hsq := Lib.hid hsq
 have HR := Lib.hid hR
 have hp64 : I64 (p : Int) := by unfold I64; omega
 have Hp64 := Lib.hid hp64
 clear h1 h2 hj hsq hR hgT hy hyok hcells hp64
 have HX : Hid (Ext w w) := Lib.hid (Mod.refl _ w)
 have HC := Lib.hid hC
 clear hC
 go_enter Tryz.func15, Tryz.ntmps15
 have zz := gl
 clear zz
 go_wp2_with fail
 obtain ⟨w1, hw1⟩ : ∃ w1, w1 = w.alloc (.cells #[.int .i64 x.call.client, .int .i64 x.call.seq, .int .i64 x.call.cmd.kind, .string x.call.cmd.key, .int .i64 x.call.cmd.old.kind, .float .f64 x.call.cmd.old.num, .string x.call.cmd.old.text, .int .i64 x.call.cmd.val.kind, .float .f64 x.call.cmd.val.num, .string x.call.cmd.val.text, .int .i64 x.reply.code, .int .i64 x.reply.val.kind, .float .f64 x.reply.val.num, .string x.reply.val.text, .int .i64 x.index] 48) := ⟨_, rfl⟩
 obtain ⟨bx, hbx⟩ : ∃ bx, bx = w.heap.size := ⟨_, rfl⟩
 have hzz : w.heap.size = bx := hbx.symm
 have hE : Ext w w1 := by rw [hw1]; exact (Mod.refl _ w).alloc _
 have hKn : w1.heap[bx]? = some (.cells #[.int .i64 x.call.client, .int .i64 x.call.seq, .int .i64 x.call.cmd.kind, .string x.call.cmd.key, .int .i64 x.call.cmd.old.kind, .float .f64 x.call.cmd.old.num, .string x.call.cmd.old.text, .int .i64 x.call.cmd.val.kind, .float .f64 x.call.cmd.val.num, .string x.call.cmd.val.text, .int .i64 x.reply.code, .int .i64 x.reply.val.kind, .float .f64 x.reply.val.num, .string x.reply.val.text, .int .i64 x.index] 48 (0, 0)) := by rw [hw1, ← hzz]; exact heap_alloc_new w _
 have hzn : w1.heap.size = bx + 1 := by rw [hw1, ← hzz]; simp
 rw [← hw1, ← hbx]
 have HXo := HX
 replace HC := Lib.hid (HC.out.ext hE)
 replace z4 := hE.cell z4 id
 replace z5 := hE.cell z5 id
 replace z6 := hE.cell z6 id
 replace z7 := hE.cell z7 id
 replace z8 := hE.cell z8 id
 replace z9 := hE.cell z9 id
 replace z10 := hE.cell z10 id
 replace z11 := hE.cell z11 id
 replace HX := Lib.hid (HX.out.ext hE)
 have Kxw1 := Lib.hid hKn
 have hbz : w.heap.size ≤ bx := by have := HXo.out.size; omega
 clear hKn hE hw1 hbx HXo hzz
 have hbx := hbz
 clear hbz
 clear hzn
 refine (h_place w1 T _ l x.call HC.out).mono ?_
 rintro e w2 ⟨rfl, hE⟩
 have Kxw2 := Lib.hid (hE.blk Kxw1.out id)
 replace HC := Lib.hid (HC.out.ext hE)
 replace z4 := hE.cell z4 id
 replace z5 := hE.cell z5 id
 replace z6 := hE.cell z6 id
 replace z7 := hE.cell z7 id
 replace z8 := hE.cell z8 id
 replace z9 := hE.cell z9 id
 replace z10 := hE.cell z10 id
 replace z11 := hE.cell z11 id
 replace HX := Lib.hid (HX.out.ext hE)
 clear Kxw1
 rw [Hp.out]
 clear hE
 obtain ⟨x_0, x_1, x_2, x_3, x_4, x_5, x_6, x_7, x_8, x_9, x_10, x_11, x_12, x_13, x_14⟩ := cq15 Kxw2.out
 have x_l : bx < w2.heap.size := (Array.getElem?_eq_some_iff.1 Kxw2.out).1
 have gl2 : g < w2.heap.size := World.block_lt_of_cell? _ _ z4
 clear gl
 rcases hc : eqCmd y.call.cmd x.call.cmd with _ | _
 ·
  have Hf : Hid (toldP l x = false) := Lib.hid (by rw [Hq.out, hc]; rfl)
  go_wp2_with fail
  clear x_0 x_1 x_2 x_3 x_4 x_5 x_6 x_7 x_8 x_9 x_10 x_11 x_12 x_13 x_14 x_l
  obtain ⟨x_0, x_1, x_2, x_3, x_4, x_5, x_6, x_7, x_8, x_9, x_10, x_11, x_12, x_13, x_14⟩ := cq15 Kxw2.out
  have x_l : bx < w2.heap.size := (Array.getElem?_eq_some_iff.1 Kxw2.out).1
  refine wp_region_held_drew (S := fun W' => Ext w2 W') (by kernel_rfl) (Mod.refl _ w2).drew (fun hS => ?_)
  refine tkE 0 (some 42) rfl rfl ?_ hS ?_ ?_; rotate_left; · rintro W' _ _; go_simp; try with_reducible rfl
  try simp only [pL]
  refine tkE 1 (some 43) rfl rfl ?_ hS ?_ ?_; rotate_left; · rintro W' _ _; go_simp; try with_reducible rfl
  try simp only [pL]
  refine tkE 2 (some 44) rfl rfl ?_ hS ?_ ?_; rotate_left; · rintro W' _ _; go_simp; try with_reducible rfl
  try simp only [pL]
  refine tkE 3 (some 45) rfl rfl ?_ hS ?_ ?_; rotate_left; · rintro W' _ _; go_simp; try with_reducible rfl
  try simp only [pL]
  refine tkE 4 (some 46) rfl rfl ?_ hS ?_ ?_; rotate_left; · rintro W' _ _; go_simp; try with_reducible rfl
  try simp only [pL]
  refine tkE 5 (some 47) rfl rfl ?_ hS ?_ ?_; rotate_left; · rintro W' _ _; go_simp; try with_reducible rfl
  try simp only [pL]
  refine tkE 6 (some 48) rfl rfl ?_ hS ?_ ?_; rotate_left; · rintro W' _ _; go_simp; try with_reducible rfl
  try simp only [pL]
  refine tkE 7 (some 49) rfl rfl ?_ hS ?_ ?_; rotate_left; · rintro W' _ _; go_simp; try with_reducible rfl
  try simp only [pL]
  refine tkE 8 (some 50) rfl rfl ?_ hS ?_ ?_; rotate_left; · rintro W' _ _; go_simp; try with_reducible rfl
  try simp only [pL]
  refine tkE 9 (some 51) rfl rfl ?_ hS ?_ ?_; rotate_left; · rintro W' _ _; go_simp; try with_reducible rfl
  try simp only [pL]
  refine tkE 10 (some 52) rfl rfl ?_ hS ?_ ?_; rotate_left; · rintro W' _ _; go_simp; try with_reducible rfl
  try simp only [pL]
  refine tkE 11 (some 53) rfl rfl ?_ hS ?_ ?_; rotate_left; · rintro W' _ _; go_simp; try with_reducible rfl
  try simp only [pL]
  refine tkE 12 (some 54) rfl rfl ?_ hS ?_ ?_; rotate_left; · rintro W' _ _; go_simp; try with_reducible rfl
  try simp only [pL]
  refine tkE 13 (some 55) rfl rfl ?_ hS ?_ ?_; rotate_left; · rintro W' _ _; go_simp; try with_reducible rfl
  try simp only [pL]
  refine tkE 14 (some 56) rfl rfl ?_ hS ?_ ?_; rotate_left; · rintro W' _ _; go_simp; try with_reducible rfl
  try simp only [pL]
  refine tkE 15 (some 57) rfl rfl ?_ hS ?_ ?_; rotate_left; · rintro W' _ _; go_simp; try with_reducible rfl
  try simp only [pL]
  refine tkE 16 (some 58) rfl rfl ?_ hS ?_ ?_; rotate_left; · rintro W' _ _; go_simp; try with_reducible rfl
  try simp only [pL]
  refine tkE 17 (some 59) rfl rfl ?_ hS ?_ ?_; rotate_left; · rintro W' _ _; go_simp; try with_reducible rfl
  try simp only [pL]
  refine tkE 18 (some 60) rfl rfl ?_ hS ?_ ?_; rotate_left; · rintro W' _ _; go_simp; try with_reducible rfl
  try simp only [pL]
  refine wpAnyH_ready (rs := [19]) (by kernel_rfl) (by simp) ?_
  refine AllReadyH.cons rfl (fun K hK => ?_) AllReadyH.nil
  go_simp
  go_wp2_with fail
  refine (h_sameCmd y.call.cmd x.call.cmd _).mono ?_
  rintro e w3 ⟨rfl, hE⟩
  rw [hc]
  have hX := Mod.ext hS hE
  clear hE hS
  go_simp
  refine hK.out _ _ hX (fun hS => ?_)
  clear hK K hX
  refine tkE 20 (some 62) rfl rfl ?_ hS ?_ ?_; rotate_left; · rintro W' _ _; go_simp; try with_reducible rfl
  try simp only [pL]
  refine tkE 21 (some 63) rfl rfl ?_ hS ?_ ?_; rotate_left; · rintro W' _ _; go_simp; try with_reducible rfl
  try simp only [pL]
  refine wpAnyH_done (by kernel_rfl) ?_ _
  have hE := hS
  clear hS
  clear x_0 x_1 x_2 x_3 x_4 x_5 x_6 x_7 x_8 x_9 x_10 x_11 x_12 x_13 x_14 x_l
  have Kxw3 := Lib.hid (hE.blk Kxw2.out id)
  replace HC := Lib.hid (HC.out.ext hE)
  replace z4 := hE.cell z4 id
  replace z5 := hE.cell z5 id
  replace z6 := hE.cell z6 id
  replace z7 := hE.cell z7 id
  replace z8 := hE.cell z8 id
  replace z9 := hE.cell z9 id
  replace z10 := hE.cell z10 id
  replace z11 := hE.cell z11 id
  replace HX := Lib.hid (HX.out.ext hE)
  clear Kxw2
  clear hE
  obtain ⟨x_0, x_1, x_2, x_3, x_4, x_5, x_6, x_7, x_8, x_9, x_10, x_11, x_12, x_13, x_14⟩ := cq15 Kxw3.out
  have x_l : bx < w3.heap.size := (Array.getElem?_eq_some_iff.1 Kxw3.out).1
  go_wp2
  go_ret
  exact ⟨ret_bool Hf.out.symm, HX.out⟩
 ·
  have Hf : Hid (toldP l x = (sq == x.call.seq && eqReply R x.reply)) := Lib.hid (by rw [Hq.out, hc]; rfl)
  go_wp2_with fail
  clear x_0 x_1 x_2 x_3 x_4 x_5 x_6 x_7 x_8 x_9 x_10 x_11 x_12 x_13 x_14 x_l
  obtain ⟨x_0, x_1, x_2, x_3, x_4, x_5, x_6, x_7, x_8, x_9, x_10, x_11, x_12, x_13, x_14⟩ := cq15 Kxw2.out
  have x_l : bx < w2.heap.size := (Array.getElem?_eq_some_iff.1 Kxw2.out).1
  refine wp_region_held_drew (S := fun W' => Ext w2 W') (by kernel_rfl) (Mod.refl _ w2).drew (fun hS => ?_)
  refine tkE 0 (some 42) rfl rfl ?_ hS ?_ ?_; rotate_left; · rintro W' _ _; go_simp; try with_reducible rfl
  try simp only [pL]
  refine tkE 1 (some 43) rfl rfl ?_ hS ?_ ?_; rotate_left; · rintro W' _ _; go_simp; try with_reducible rfl
  try simp only [pL]
  refine tkE 2 (some 44) rfl rfl ?_ hS ?_ ?_; rotate_left; · rintro W' _ _; go_simp; try with_reducible rfl
  try simp only [pL]
  refine tkE 3 (some 45) rfl rfl ?_ hS ?_ ?_; rotate_left; · rintro W' _ _; go_simp; try with_reducible rfl
  try simp only [pL]
  refine tkE 4 (some 46) rfl rfl ?_ hS ?_ ?_; rotate_left; · rintro W' _ _; go_simp; try with_reducible rfl
  try simp only [pL]
  refine tkE 5 (some 47) rfl rfl ?_ hS ?_ ?_; rotate_left; · rintro W' _ _; go_simp; try with_reducible rfl
  try simp only [pL]
  refine tkE 6 (some 48) rfl rfl ?_ hS ?_ ?_; rotate_left; · rintro W' _ _; go_simp; try with_reducible rfl
  try simp only [pL]
  refine tkE 7 (some 49) rfl rfl ?_ hS ?_ ?_; rotate_left; · rintro W' _ _; go_simp; try with_reducible rfl
  try simp only [pL]
  refine tkE 8 (some 50) rfl rfl ?_ hS ?_ ?_; rotate_left; · rintro W' _ _; go_simp; try with_reducible rfl
  try simp only [pL]
  refine tkE 9 (some 51) rfl rfl ?_ hS ?_ ?_; rotate_left; · rintro W' _ _; go_simp; try with_reducible rfl
  try simp only [pL]
  refine tkE 10 (some 52) rfl rfl ?_ hS ?_ ?_; rotate_left; · rintro W' _ _; go_simp; try with_reducible rfl
  try simp only [pL]
  refine tkE 11 (some 53) rfl rfl ?_ hS ?_ ?_; rotate_left; · rintro W' _ _; go_simp; try with_reducible rfl
  try simp only [pL]
  refine tkE 12 (some 54) rfl rfl ?_ hS ?_ ?_; rotate_left; · rintro W' _ _; go_simp; try with_reducible rfl
  try simp only [pL]
  refine tkE 13 (some 55) rfl rfl ?_ hS ?_ ?_; rotate_left; · rintro W' _ _; go_simp; try with_reducible rfl
  try simp only [pL]
  refine tkE 14 (some 56) rfl rfl ?_ hS ?_ ?_; rotate_left; · rintro W' _ _; go_simp; try with_reducible rfl
  try simp only [pL]
  refine tkE 15 (some 57) rfl rfl ?_ hS ?_ ?_; rotate_left; · rintro W' _ _; go_simp; try with_reducible rfl
  try simp only [pL]
  refine tkE 16 (some 58) rfl rfl ?_ hS ?_ ?_; rotate_left; · rintro W' _ _; go_simp; try with_reducible rfl
  try simp only [pL]
  refine tkE 17 (some 59) rfl rfl ?_ hS ?_ ?_; rotate_left; · rintro W' _ _; go_simp; try with_reducible rfl
  try simp only [pL]
  refine tkE 18 (some 60) rfl rfl ?_ hS ?_ ?_; rotate_left; · rintro W' _ _; go_simp; try with_reducible rfl
  try simp only [pL]
  refine wpAnyH_ready (rs := [19]) (by kernel_rfl) (by simp) ?_
  refine AllReadyH.cons rfl (fun K hK => ?_) AllReadyH.nil
  go_simp
  go_wp2_with fail
  refine (h_sameCmd y.call.cmd x.call.cmd _).mono ?_
  rintro e w3 ⟨rfl, hE⟩
  rw [hc]
  have hX := Mod.ext hS hE
  clear hE hS
  go_simp
  refine hK.out _ _ hX (fun hS => ?_)
  clear hK K hX
  refine tkE 20 (some 62) rfl rfl ?_ hS ?_ ?_; rotate_left; · rintro W' _ _; go_simp; try with_reducible rfl
  try simp only [pL]
  refine tkE 21 (some 63) rfl rfl ?_ hS ?_ ?_; rotate_left; · rintro W' _ _; go_simp; try with_reducible rfl
  try simp only [pL]
  refine wpAnyH_done (by kernel_rfl) ?_ _
  have hE := hS
  clear hS
  clear x_0 x_1 x_2 x_3 x_4 x_5 x_6 x_7 x_8 x_9 x_10 x_11 x_12 x_13 x_14 x_l
  have Kxw3 := Lib.hid (hE.blk Kxw2.out id)
  replace HC := Lib.hid (HC.out.ext hE)
  replace z4 := hE.cell z4 id
  replace z5 := hE.cell z5 id
  replace z6 := hE.cell z6 id
  replace z7 := hE.cell z7 id
  replace z8 := hE.cell z8 id
  replace z9 := hE.cell z9 id
  replace z10 := hE.cell z10 id
  replace z11 := hE.cell z11 id
  replace HX := Lib.hid (HX.out.ext hE)
  clear Kxw2
  clear hE
  obtain ⟨x_0, x_1, x_2, x_3, x_4, x_5, x_6, x_7, x_8, x_9, x_10, x_11, x_12, x_13, x_14⟩ := cq15 Kxw3.out
  have x_l : bx < w3.heap.size := (Array.getElem?_eq_some_iff.1 Kxw3.out).1
  clear hw1 gl2 z4 z5 z6 z7 z8 z9 z10 z11
  go_wp2_with fail
  clear x_0 x_1 x_2 x_3 x_4 x_5 x_6 x_7 x_8 x_9 x_10 x_11 x_12 x_13 x_14 x_l
  obtain ⟨x_0, x_1, x_2, x_3, x_4, x_5, x_6, x_7, x_8, x_9, x_10, x_11, x_12, x_13, x_14⟩ := cq15 Kxw3.out
  have x_l : bx < w3.heap.size := (Array.getElem?_eq_some_iff.1 Kxw3.out).1
  refine wp_region_held_drew (S := fun W' => Ext w3 W') (by kernel_rfl) (Mod.refl _ w3).drew (fun hS => ?_)
  refine tkE 0 (some 65) rfl rfl ?_ hS ?_ ?_; rotate_left; · rintro W' _ _; go_simp; try with_reducible rfl
  try simp only [pL]
  refine tkE 1 (some 66) rfl rfl ?_ hS ?_ ?_; rotate_left; · rintro W' _ _; go_simp; try with_reducible rfl
  try simp only [pL]
  refine tkE 3 (some 68) rfl rfl ?_ hS ?_ ?_; rotate_left; · rintro W' _ _; go_simp; try with_reducible rfl
  try simp only [pL]
  refine tkE 4 (some 69) rfl rfl ?_ hS ?_ ?_; rotate_left; · rintro W' _ _; go_simp; try with_reducible rfl
  try simp only [pL]
  refine tkE 5 (some 70) rfl rfl ?_ hS ?_ ?_; rotate_left; · rintro W' _ _; go_simp; try with_reducible rfl
  try simp only [pL]
  obtain ⟨w4, hnw⟩ : ∃ w4, w4 = w3.drew := ⟨_, rfl⟩
  rw [← hnw] at hS ⊢
  clear hnw
  refine wpAnyH_ready (rs := [2, 10]) (by kernel_rfl) (by simp) ?_
  refine AllReadyH.cons rfl (fun K hK => ?_) (AllReadyH.cons rfl (fun K hK => ?_) AllReadyH.nil)
  ·
   go_simp
   go_wp2_with fail
   refine (h_at w4 T _ l (p : Int) (HC.out.ext hS) Hp64.out).mono ?_
   rintro e w5 ⟨p1, v1, rfl, hN, hE⟩
   obtain ⟨A1, c1, rfl⟩ := own_form hN.1.1
   obtain ⟨B1, d1, rfl⟩ := own_form hN.2.1.1
   have HS := Lib.hid hN.2.1.ses
   clear hN
   have hX := Mod.ext hS hE
   clear hE hS
   go_simp
   refine hK.out _ _ hX (fun hS => ?_)
   clear hK K hX
   try simp only [pL]
   refine wpAnyH_ready (rs := [6, 10]) (by kernel_rfl) (by simp) ?_
   refine AllReadyH.cons rfl (fun K hK => ?_) (AllReadyH.cons rfl (fun K hK => ?_) AllReadyH.nil)
   ·
    go_simp
    go_wp2_with fail
    refine (s_last w5 _ _ _ _ x.call.client HS.out).mono ?_
    rintro e w6 ⟨rfl, hE⟩
    replace HS := Lib.hid (HS.out.ext hE)
    rw [Hsq.out, HR.out]
    clear HS
    have hX := Mod.ext hS hE
    clear hE hS
    go_simp
    refine hK.out _ _ hX (fun hS => ?_)
    clear hK K hX
    try simp only [pL]
    refine tkE 7 (some 64) rfl rfl ?_ hS ?_ ?_; rotate_left; · rintro W' _ _; go_simp; try with_reducible rfl
    try simp only [pL]
    refine tkE 8 (some 72) rfl rfl ?_ hS ?_ ?_; rotate_left; · rintro W' _ _; go_simp; try with_reducible rfl
    try simp only [pL]
    refine tkE 9 (some 73) rfl rfl ?_ hS ?_ ?_; rotate_left; · rintro W' _ _; go_simp; try with_reducible rfl
    try simp only [pL]
    refine wpAnyH_ready (rs := [10]) (by kernel_rfl) (by simp) ?_
    refine AllReadyH.cons rfl (fun K hK => ?_) AllReadyH.nil
    go_simp
    obtain ⟨br, hbn⟩ : ∃ br, w6.heap.size = br := ⟨_, rfl⟩
    obtain ⟨w7, hnw⟩ : ∃ w7, w7 = w6.alloc (.cells #[.int .i64 0, .int .i64 0, .float .f64 0, .string ⟨#[]⟩] 46) := ⟨_, rfl⟩
    have hE : Ext w6 w7 := by rw [hnw]; exact (Mod.refl _ _).alloc _
    have KKr : w7.heap[br]? = some (.cells #[.int .i64 0, .int .i64 0, .float .f64 0, .string ⟨#[]⟩] 46 (0, 0)) := by rw [hnw, ← hbn]; exact heap_alloc_new _ _
    have hbr : w.heap.size ≤ br := by have := (Mod.ext HX.out hS).size; omega
    have hcr : w3.heap.size ≤ br := by have := hS.size; omega
    rw [← hnw, hbn]
    clear hnw hbn
    have hX := Mod.ext hS hE
    clear hE hS
    refine hK.out _ _ hX (fun hS => ?_)
    clear hK K hX
    try simp only [pL]
    refine tkE 11 (some 8) rfl rfl ?_ hS ?_ ?_; rotate_left; · rintro W' _ _; go_simp; try with_reducible rfl
    try simp only [pL]
    refine wpAnyH_ready (rs := [12]) (by kernel_rfl) (by simp) ?_
    refine AllReadyH.cons rfl (fun K hK => ?_) AllReadyH.nil
    have fz0 := blk_free 0 KKr
    have cz0 : w7.cell? ⟨br, 0, none⟩ = some _ := blk_cell KKr rfl
    have fz1 := blk_free 1 KKr
    have cz1 : w7.cell? ⟨br, 1, none⟩ = some _ := blk_cell KKr rfl
    have fz2 := blk_free 2 KKr
    have cz2 : w7.cell? ⟨br, 2, none⟩ = some _ := blk_cell KKr rfl
    have fz3 := blk_free 3 KKr
    have cz3 : w7.cell? ⟨br, 3, none⟩ = some _ := blk_cell KKr rfl
    obtain ⟨w8, hwn⟩ : ∃ w8, ((((w7.setCell ⟨br, 0, none⟩ (.int .i64 R.code)).setCell ⟨br, 1, none⟩ (.int .i64 R.val.kind)).setCell ⟨br, 2, none⟩ (.float .f64 R.val.num)).setCell ⟨br, 3, none⟩ (.string R.val.text)) = w8 := ⟨_, rfl⟩
    have hKn : w8.heap[br]? = some (.cells #[.int .i64 R.code, .int .i64 R.val.kind, .float .f64 R.val.num, .string R.val.text] 46 (0, 0)) := by rw [← hwn]; simp [World.setCell, Array.getElem?_modify, KKr]
    have hM : Mod (fun k => k = br) w7 w8 := by rw [← hwn]; exact mod_same (mod_same (mod_same (mod_same (Mod.refl _ _) _ _) _ _) _ _) _ _
    have hX : Ext w3 w8 := Mod.toExt ((Ext.mod hS (Since w3.heap.size)).trans hM (fun k _ e => by rw [e]; exact hcr))
    clear hS
    go_simp
    try rw [hwn]
    refine hK.out _ _ hX (fun hS => ?_)
    clear hK K hX hwn hM KKr fz0 cz0 fz1 cz1 fz2 cz2 fz3 cz3
    have KKr := hKn
    clear hKn
    try simp only [pL]
    refine wpAnyH_done (by kernel_rfl) ?_ _
    have hE := hS
    clear hS
    clear x_0 x_1 x_2 x_3 x_4 x_5 x_6 x_7 x_8 x_9 x_10 x_11 x_12 x_13 x_14 x_l
    have Kxw8 := Lib.hid (hE.blk Kxw3.out id)
    replace HC := Lib.hid (HC.out.ext hE)
    replace HX := Lib.hid (HX.out.ext hE)
    clear Kxw3
    clear hE
    have Krw8 := Lib.hid KKr
    clear KKr
    obtain ⟨x_0, x_1, x_2, x_3, x_4, x_5, x_6, x_7, x_8, x_9, x_10, x_11, x_12, x_13, x_14⟩ := cq15 Kxw8.out
    have x_l : bx < w8.heap.size := (Array.getElem?_eq_some_iff.1 Kxw8.out).1
    obtain ⟨r_0, r_1, r_2, r_3⟩ := cq4 Krw8.out
    have r_l : br < w8.heap.size := (Array.getElem?_eq_some_iff.1 Krw8.out).1
    rcases dn : (sq == x.call.seq) with _ | _
    ·
     go_wp2
     go_ret
     exact ⟨ret_bool (by rw [Hf.out]; first | (rw [dn]; rfl) | rfl), HX.out⟩
    ·
     go_wp2_with fail
     refine (h_sameReply R x.reply w8).mono ?_
     rintro e w9 ⟨rfl, hE⟩
     clear x_0 x_1 x_2 x_3 x_4 x_5 x_6 x_7 x_8 x_9 x_10 x_11 x_12 x_13 x_14 x_l r_0 r_1 r_2 r_3 r_l
     have Kxw9 := Lib.hid (hE.blk Kxw8.out id)
     have Krw9 := Lib.hid (hE.blk Krw8.out id)
     replace HC := Lib.hid (HC.out.ext hE)
     replace HX := Lib.hid (HX.out.ext hE)
     clear Kxw8
     clear Krw8
     clear hE
     obtain ⟨x_0, x_1, x_2, x_3, x_4, x_5, x_6, x_7, x_8, x_9, x_10, x_11, x_12, x_13, x_14⟩ := cq15 Kxw9.out
     have x_l : bx < w9.heap.size := (Array.getElem?_eq_some_iff.1 Kxw9.out).1
     obtain ⟨r_0, r_1, r_2, r_3⟩ := cq4 Krw9.out
     have r_l : br < w9.heap.size := (Array.getElem?_eq_some_iff.1 Krw9.out).1
     go_wp2
     go_ret
     exact ⟨ret_bool (by rw [Hf.out]; first | (rw [dn]; rfl) | rfl), HX.out⟩
   ·
    go_simp
    obtain ⟨br, hbn⟩ : ∃ br, w5.heap.size = br := ⟨_, rfl⟩
    obtain ⟨w6, hnw⟩ : ∃ w6, w6 = w5.alloc (.cells #[.int .i64 0, .int .i64 0, .float .f64 0, .string ⟨#[]⟩] 46) := ⟨_, rfl⟩
    have hE : Ext w5 w6 := by rw [hnw]; exact (Mod.refl _ _).alloc _
    have KKr : w6.heap[br]? = some (.cells #[.int .i64 0, .int .i64 0, .float .f64 0, .string ⟨#[]⟩] 46 (0, 0)) := by rw [hnw, ← hbn]; exact heap_alloc_new _ _
    have hbr : w.heap.size ≤ br := by have := (Mod.ext HX.out hS).size; omega
    have hcr : w3.heap.size ≤ br := by have := hS.size; omega
    rw [← hnw, hbn]
    clear hnw hbn
    replace HS := Lib.hid (HS.out.ext hE)
    have hX := Mod.ext hS hE
    clear hE hS
    refine hK.out _ _ hX (fun hS => ?_)
    clear hK K hX
    try simp only [pL]
    refine wpAnyH_ready (rs := [6]) (by kernel_rfl) (by simp) ?_
    refine AllReadyH.cons rfl (fun K hK => ?_) AllReadyH.nil
    go_simp
    go_wp2_with fail
    refine (s_last w6 _ _ _ _ x.call.client HS.out).mono ?_
    rintro e w7 ⟨rfl, hE⟩
    replace HS := Lib.hid (HS.out.ext hE)
    replace KKr := hE.blk KKr id
    rw [Hsq.out, HR.out]
    clear HS
    have hX := Mod.ext hS hE
    clear hE hS
    go_simp
    refine hK.out _ _ hX (fun hS => ?_)
    clear hK K hX
    try simp only [pL]
    refine tkE 7 (some 64) rfl rfl ?_ hS ?_ ?_; rotate_left; · rintro W' _ _; go_simp; try with_reducible rfl
    try simp only [pL]
    refine tkE 8 (some 72) rfl rfl ?_ hS ?_ ?_; rotate_left; · rintro W' _ _; go_simp; try with_reducible rfl
    try simp only [pL]
    refine tkE 9 (some 73) rfl rfl ?_ hS ?_ ?_; rotate_left; · rintro W' _ _; go_simp; try with_reducible rfl
    try simp only [pL]
    refine tkE 11 (some 8) rfl rfl ?_ hS ?_ ?_; rotate_left; · rintro W' _ _; go_simp; try with_reducible rfl
    try simp only [pL]
    refine wpAnyH_ready (rs := [12]) (by kernel_rfl) (by simp) ?_
    refine AllReadyH.cons rfl (fun K hK => ?_) AllReadyH.nil
    have fz0 := blk_free 0 KKr
    have cz0 : w7.cell? ⟨br, 0, none⟩ = some _ := blk_cell KKr rfl
    have fz1 := blk_free 1 KKr
    have cz1 : w7.cell? ⟨br, 1, none⟩ = some _ := blk_cell KKr rfl
    have fz2 := blk_free 2 KKr
    have cz2 : w7.cell? ⟨br, 2, none⟩ = some _ := blk_cell KKr rfl
    have fz3 := blk_free 3 KKr
    have cz3 : w7.cell? ⟨br, 3, none⟩ = some _ := blk_cell KKr rfl
    obtain ⟨w8, hwn⟩ : ∃ w8, ((((w7.setCell ⟨br, 0, none⟩ (.int .i64 R.code)).setCell ⟨br, 1, none⟩ (.int .i64 R.val.kind)).setCell ⟨br, 2, none⟩ (.float .f64 R.val.num)).setCell ⟨br, 3, none⟩ (.string R.val.text)) = w8 := ⟨_, rfl⟩
    have hKn : w8.heap[br]? = some (.cells #[.int .i64 R.code, .int .i64 R.val.kind, .float .f64 R.val.num, .string R.val.text] 46 (0, 0)) := by rw [← hwn]; simp [World.setCell, Array.getElem?_modify, KKr]
    have hM : Mod (fun k => k = br) w7 w8 := by rw [← hwn]; exact mod_same (mod_same (mod_same (mod_same (Mod.refl _ _) _ _) _ _) _ _) _ _
    have hX : Ext w3 w8 := Mod.toExt ((Ext.mod hS (Since w3.heap.size)).trans hM (fun k _ e => by rw [e]; exact hcr))
    clear hS
    go_simp
    try rw [hwn]
    refine hK.out _ _ hX (fun hS => ?_)
    clear hK K hX hwn hM KKr fz0 cz0 fz1 cz1 fz2 cz2 fz3 cz3
    have KKr := hKn
    clear hKn
    try simp only [pL]
    refine wpAnyH_done (by kernel_rfl) ?_ _
    have hE := hS
    clear hS
    clear x_0 x_1 x_2 x_3 x_4 x_5 x_6 x_7 x_8 x_9 x_10 x_11 x_12 x_13 x_14 x_l
    have Kxw8 := Lib.hid (hE.blk Kxw3.out id)
    replace HC := Lib.hid (HC.out.ext hE)
    replace HX := Lib.hid (HX.out.ext hE)
    clear Kxw3
    clear hE
    have Krw8 := Lib.hid KKr
    clear KKr
    obtain ⟨x_0, x_1, x_2, x_3, x_4, x_5, x_6, x_7, x_8, x_9, x_10, x_11, x_12, x_13, x_14⟩ := cq15 Kxw8.out
    have x_l : bx < w8.heap.size := (Array.getElem?_eq_some_iff.1 Kxw8.out).1
    obtain ⟨r_0, r_1, r_2, r_3⟩ := cq4 Krw8.out
    have r_l : br < w8.heap.size := (Array.getElem?_eq_some_iff.1 Krw8.out).1
    rcases dn : (sq == x.call.seq) with _ | _
    ·
     go_wp2
     go_ret
     exact ⟨ret_bool (by rw [Hf.out]; first | (rw [dn]; rfl) | rfl), HX.out⟩
    ·
     go_wp2_with fail
     refine (h_sameReply R x.reply w8).mono ?_
     rintro e w9 ⟨rfl, hE⟩
     clear x_0 x_1 x_2 x_3 x_4 x_5 x_6 x_7 x_8 x_9 x_10 x_11 x_12 x_13 x_14 x_l r_0 r_1 r_2 r_3 r_l
     have Kxw9 := Lib.hid (hE.blk Kxw8.out id)
     have Krw9 := Lib.hid (hE.blk Krw8.out id)
     replace HC := Lib.hid (HC.out.ext hE)
     replace HX := Lib.hid (HX.out.ext hE)
     clear Kxw8
     clear Krw8
     clear hE
     obtain ⟨x_0, x_1, x_2, x_3, x_4, x_5, x_6, x_7, x_8, x_9, x_10, x_11, x_12, x_13, x_14⟩ := cq15 Kxw9.out
     have x_l : bx < w9.heap.size := (Array.getElem?_eq_some_iff.1 Kxw9.out).1
     obtain ⟨r_0, r_1, r_2, r_3⟩ := cq4 Krw9.out
     have r_l : br < w9.heap.size := (Array.getElem?_eq_some_iff.1 Krw9.out).1
     go_wp2
     go_ret
     exact ⟨ret_bool (by rw [Hf.out]; first | (rw [dn]; rfl) | rfl), HX.out⟩
  ·
   go_simp
   obtain ⟨br, hbn⟩ : ∃ br, w4.heap.size = br := ⟨_, rfl⟩
   obtain ⟨w5, hnw⟩ : ∃ w5, w5 = w4.alloc (.cells #[.int .i64 0, .int .i64 0, .float .f64 0, .string ⟨#[]⟩] 46) := ⟨_, rfl⟩
   have hE : Ext w4 w5 := by rw [hnw]; exact (Mod.refl _ _).alloc _
   have KKr : w5.heap[br]? = some (.cells #[.int .i64 0, .int .i64 0, .float .f64 0, .string ⟨#[]⟩] 46 (0, 0)) := by rw [hnw, ← hbn]; exact heap_alloc_new _ _
   have hbr : w.heap.size ≤ br := by have := (Mod.ext HX.out hS).size; omega
   have hcr : w3.heap.size ≤ br := by have := hS.size; omega
   rw [← hnw, hbn]
   clear hnw hbn
   have hX := Mod.ext hS hE
   clear hE hS
   refine hK.out _ _ hX (fun hS => ?_)
   clear hK K hX
   try simp only [pL]
   refine wpAnyH_ready (rs := [2]) (by kernel_rfl) (by simp) ?_
   refine AllReadyH.cons rfl (fun K hK => ?_) AllReadyH.nil
   go_simp
   go_wp2_with fail
   refine (h_at w5 T _ l (p : Int) (HC.out.ext hS) Hp64.out).mono ?_
   rintro e w6 ⟨p1, v1, rfl, hN, hE⟩
   replace KKr := hE.blk KKr id
   obtain ⟨A1, c1, rfl⟩ := own_form hN.1.1
   obtain ⟨B1, d1, rfl⟩ := own_form hN.2.1.1
   have HS := Lib.hid hN.2.1.ses
   clear hN
   have hX := Mod.ext hS hE
   clear hE hS
   go_simp
   refine hK.out _ _ hX (fun hS => ?_)
   clear hK K hX
   try simp only [pL]
   refine wpAnyH_ready (rs := [6]) (by kernel_rfl) (by simp) ?_
   refine AllReadyH.cons rfl (fun K hK => ?_) AllReadyH.nil
   go_simp
   go_wp2_with fail
   refine (s_last w6 _ _ _ _ x.call.client HS.out).mono ?_
   rintro e w7 ⟨rfl, hE⟩
   replace HS := Lib.hid (HS.out.ext hE)
   replace KKr := hE.blk KKr id
   rw [Hsq.out, HR.out]
   clear HS
   have hX := Mod.ext hS hE
   clear hE hS
   go_simp
   refine hK.out _ _ hX (fun hS => ?_)
   clear hK K hX
   try simp only [pL]
   refine tkE 7 (some 64) rfl rfl ?_ hS ?_ ?_; rotate_left; · rintro W' _ _; go_simp; try with_reducible rfl
   try simp only [pL]
   refine tkE 8 (some 72) rfl rfl ?_ hS ?_ ?_; rotate_left; · rintro W' _ _; go_simp; try with_reducible rfl
   try simp only [pL]
   refine tkE 9 (some 73) rfl rfl ?_ hS ?_ ?_; rotate_left; · rintro W' _ _; go_simp; try with_reducible rfl
   try simp only [pL]
   refine tkE 11 (some 8) rfl rfl ?_ hS ?_ ?_; rotate_left; · rintro W' _ _; go_simp; try with_reducible rfl
   try simp only [pL]
   refine wpAnyH_ready (rs := [12]) (by kernel_rfl) (by simp) ?_
   refine AllReadyH.cons rfl (fun K hK => ?_) AllReadyH.nil
   have fz0 := blk_free 0 KKr
   have cz0 : w7.cell? ⟨br, 0, none⟩ = some _ := blk_cell KKr rfl
   have fz1 := blk_free 1 KKr
   have cz1 : w7.cell? ⟨br, 1, none⟩ = some _ := blk_cell KKr rfl
   have fz2 := blk_free 2 KKr
   have cz2 : w7.cell? ⟨br, 2, none⟩ = some _ := blk_cell KKr rfl
   have fz3 := blk_free 3 KKr
   have cz3 : w7.cell? ⟨br, 3, none⟩ = some _ := blk_cell KKr rfl
   obtain ⟨w8, hwn⟩ : ∃ w8, ((((w7.setCell ⟨br, 0, none⟩ (.int .i64 R.code)).setCell ⟨br, 1, none⟩ (.int .i64 R.val.kind)).setCell ⟨br, 2, none⟩ (.float .f64 R.val.num)).setCell ⟨br, 3, none⟩ (.string R.val.text)) = w8 := ⟨_, rfl⟩
   have hKn : w8.heap[br]? = some (.cells #[.int .i64 R.code, .int .i64 R.val.kind, .float .f64 R.val.num, .string R.val.text] 46 (0, 0)) := by rw [← hwn]; simp [World.setCell, Array.getElem?_modify, KKr]
   have hM : Mod (fun k => k = br) w7 w8 := by rw [← hwn]; exact mod_same (mod_same (mod_same (mod_same (Mod.refl _ _) _ _) _ _) _ _) _ _
   have hX : Ext w3 w8 := Mod.toExt ((Ext.mod hS (Since w3.heap.size)).trans hM (fun k _ e => by rw [e]; exact hcr))
   clear hS
   go_simp
   try rw [hwn]
   refine hK.out _ _ hX (fun hS => ?_)
   clear hK K hX hwn hM KKr fz0 cz0 fz1 cz1 fz2 cz2 fz3 cz3
   have KKr := hKn
   clear hKn
   try simp only [pL]
   refine wpAnyH_done (by kernel_rfl) ?_ _
   have hE := hS
   clear hS
   clear x_0 x_1 x_2 x_3 x_4 x_5 x_6 x_7 x_8 x_9 x_10 x_11 x_12 x_13 x_14 x_l
   have Kxw8 := Lib.hid (hE.blk Kxw3.out id)
   replace HC := Lib.hid (HC.out.ext hE)
   replace HX := Lib.hid (HX.out.ext hE)
   clear Kxw3
   clear hE
   have Krw8 := Lib.hid KKr
   clear KKr
   obtain ⟨x_0, x_1, x_2, x_3, x_4, x_5, x_6, x_7, x_8, x_9, x_10, x_11, x_12, x_13, x_14⟩ := cq15 Kxw8.out
   have x_l : bx < w8.heap.size := (Array.getElem?_eq_some_iff.1 Kxw8.out).1
   obtain ⟨r_0, r_1, r_2, r_3⟩ := cq4 Krw8.out
   have r_l : br < w8.heap.size := (Array.getElem?_eq_some_iff.1 Krw8.out).1
   rcases dn : (sq == x.call.seq) with _ | _
   ·
    go_wp2
    go_ret
    exact ⟨ret_bool (by rw [Hf.out]; first | (rw [dn]; rfl) | rfl), HX.out⟩
   ·
    go_wp2_with fail
    refine (h_sameReply R x.reply w8).mono ?_
    rintro e w9 ⟨rfl, hE⟩
    clear x_0 x_1 x_2 x_3 x_4 x_5 x_6 x_7 x_8 x_9 x_10 x_11 x_12 x_13 x_14 x_l r_0 r_1 r_2 r_3 r_l
    have Kxw9 := Lib.hid (hE.blk Kxw8.out id)
    have Krw9 := Lib.hid (hE.blk Krw8.out id)
    replace HC := Lib.hid (HC.out.ext hE)
    replace HX := Lib.hid (HX.out.ext hE)
    clear Kxw8
    clear Krw8
    clear hE
    obtain ⟨x_0, x_1, x_2, x_3, x_4, x_5, x_6, x_7, x_8, x_9, x_10, x_11, x_12, x_13, x_14⟩ := cq15 Kxw9.out
    have x_l : bx < w9.heap.size := (Array.getElem?_eq_some_iff.1 Kxw9.out).1
    obtain ⟨r_0, r_1, r_2, r_3⟩ := cq4 Krw9.out
    have r_l : br < w9.heap.size := (Array.getElem?_eq_some_iff.1 Krw9.out).1
    go_wp2
    go_ret
    exact ⟨ret_bool (by rw [Hf.out]; first | (rw [dn]; rfl) | rfl), HX.out⟩
theorem h_told (w : World) (T : Nat → Prop) (v : Value) (l : List AEntry) (x : ATold) (hC : Ents w T v l) (hx : x.ok) :
  Calls Tryz.prog 15 #[v, .agg #[.int .i64 x.call.client, .int .i64 x.call.seq, .int .i64 x.call.cmd.kind, .string x.call.cmd.key, .int .i64 x.call.cmd.old.kind, .float .f64 x.call.cmd.old.num, .string x.call.cmd.old.text, .int .i64 x.call.cmd.val.kind, .float .f64 x.call.cmd.val.num, .string x.call.cmd.val.text, .int .i64 x.reply.code, .int .i64 x.reply.val.kind, .float .f64 x.reply.val.num, .string x.reply.val.text, .int .i64 x.index]] w fun e w' => e = .returned (.bool (toldP l x)) ∧ Ext w w' := by
 obtain ⟨A, cc, rfl⟩ := hC.form
 by_cases hk : x.call.cmd.kind = 1
 ·
  exact h_told_get w T A _ cc l x hC rfl hx hk
 ·
  exact h_told_other w T A _ cc l x hC rfl hx hk
end Go.Proofs.YtbclnghbgoblcaaGreat
