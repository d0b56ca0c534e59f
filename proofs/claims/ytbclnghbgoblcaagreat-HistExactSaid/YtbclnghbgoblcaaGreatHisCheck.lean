/-
 The contract of hist.Check. Conditions: as each theorem names them.
-/
import Derived.Test.YtbclnghbgoblcaaGreatHisOrder
import Derived.Test.YtbclnghbgoblcaaGreatHisArr
namespace Go.Proofs.YtbclnghbgoblcaaGreat
set_option linter.unusedSimpArgs false
open Go.RowKit

/-- What Check keeps: who called what last, and who waits. -/
def Kept (w : World) (q : Nat) (s : List ACall × List Bool) : Prop := Row w q 58 (s.1.flatMap ACall.cells) ∧ Row w (q + 1) 59 (s.2.map Value.bool) ∧ s.1.length = 5 ∧ s.2.length = 5 ∧ (∀ c ∈ s.1, c.seq ≤ 1099511627776 ∧ 0 ≤ c.seq)
theorem Kept.mod {w w' : World} {S : Nat → Prop} {q : Nat} {s : List ACall × List Bool} (h : Kept w q s) (hm : Mod S w w') (h1 : ¬ S q) (h2 : ¬ S (q + 1)) : Kept w' q s := ⟨h.1.mod hm h1, h.2.1.mod hm h2, h.2.2⟩
theorem runH_drop {s : List ACall × List Bool} {l : List AEvent} {x : AEvent} {r : List AEvent} (h : l = x :: r) : runH s l = match stepH s x with
  | none => none
  | some s' => runH s' r := by rw [h]; rfl
/-- What Check tells. -/
def checkE (h : List AEvent) : Int := if histB h then 0 else 6

set_option maxRecDepth 100000 in
set_option maxHeartbeats 4000000 in
theorem h_check_a (w : World) (T : Nat → Prop) (B : Option Addr) (N cb : Nat) (h : List AEvent) (hV : Evs w T (.slice B N cb) h) (hN : h.length = N) :
  Calls Tryz.prog 7 #[.slice B N cb] w fun e w' => e = .returned (.int .i64 (checkE h)) ∧ Ext w w' := by
 replace hV : Evs w (fun g => T g ∧ g < w.heap.size) (.slice B N cb) h := ⟨by rw [hN]; exact (hN ▸ hV.1).cap (by omega), hV.2⟩
 have hl := hV.1.le
 rw [hN] at hl
 unfold maxLen at hl
 obtain ⟨q, hq⟩ : ∃ q, w.heap.size = q := ⟨_, rfl⟩
 obtain ⟨W, hW⟩ : ∃ W, W = (w.alloc (.cells #[.int .i64 0, .int .i64 0, .int .i64 0, .string ⟨#[]⟩, .int .i64 0, .float .f64 0, .string ⟨#[]⟩, .int .i64 0, .float .f64 0, .string ⟨#[]⟩, .int .i64 0, .int .i64 0, .int .i64 0, .string ⟨#[]⟩, .int .i64 0, .float .f64 0, .string ⟨#[]⟩, .int .i64 0, .float .f64 0, .string ⟨#[]⟩, .int .i64 0, .int .i64 0, .int .i64 0, .string ⟨#[]⟩, .int .i64 0, .float .f64 0, .string ⟨#[]⟩, .int .i64 0, .float .f64 0, .string ⟨#[]⟩, .int .i64 0, .int .i64 0, .int .i64 0, .string ⟨#[]⟩, .int .i64 0, .float .f64 0, .string ⟨#[]⟩, .int .i64 0, .float .f64 0, .string ⟨#[]⟩, .int .i64 0, .int .i64 0, .int .i64 0, .string ⟨#[]⟩, .int .i64 0, .float .f64 0, .string ⟨#[]⟩, .int .i64 0, .float .f64 0, .string ⟨#[]⟩] 58)).alloc (.cells #[.bool false, .bool false, .bool false, .bool false, .bool false] 59) := ⟨_, rfl⟩
 have hE : Ext w W := by rw [hW]; exact ((Mod.refl _ w).alloc _).alloc _
 obtain ⟨hA, hB, _⟩ := two_new w (.cells #[.int .i64 0, .int .i64 0, .int .i64 0, .string ⟨#[]⟩, .int .i64 0, .float .f64 0, .string ⟨#[]⟩, .int .i64 0, .float .f64 0, .string ⟨#[]⟩, .int .i64 0, .int .i64 0, .int .i64 0, .string ⟨#[]⟩, .int .i64 0, .float .f64 0, .string ⟨#[]⟩, .int .i64 0, .float .f64 0, .string ⟨#[]⟩, .int .i64 0, .int .i64 0, .int .i64 0, .string ⟨#[]⟩, .int .i64 0, .float .f64 0, .string ⟨#[]⟩, .int .i64 0, .float .f64 0, .string ⟨#[]⟩, .int .i64 0, .int .i64 0, .int .i64 0, .string ⟨#[]⟩, .int .i64 0, .float .f64 0, .string ⟨#[]⟩, .int .i64 0, .float .f64 0, .string ⟨#[]⟩, .int .i64 0, .int .i64 0, .int .i64 0, .string ⟨#[]⟩, .int .i64 0, .float .f64 0, .string ⟨#[]⟩, .int .i64 0, .float .f64 0, .string ⟨#[]⟩] 58) (.cells #[.bool false, .bool false, .bool false, .bool false, .bool false] 59)
 rw [← hW, hq] at hA hB
 have hK : Kept W q hist0 := ⟨hA, hB, rfl, rfl, by
  intro c hc
  have := List.eq_of_mem_replicate hc
  rw [this]
  simp [ACall.zero]⟩
 have HK := Lib.hid hK
 have HE := Lib.hid hE
 have HV := Lib.hid (hV.ext hE)
 have HN := Lib.hid hN
 have HW := Lib.hid hW
 have Hq := Lib.hid hq
 clear hA hB hK hE hV hN hW hq
 go_enter Tryz.func7, Tryz.ntmps7
 go_wp2
 rw [← HW.out, Hq.out]
 go_loopw [11] (fun iv wr => ∃ (i : Nat) (s : List ACall × List Bool), i ≤ N ∧ iv = .int .i64 i ∧ Mod (fun k => k = q ∨ k = q + 1) W wr ∧ Kept wr q s ∧ runH hist0 h = runH s (h.drop i)) (fun iv _ => N - (intOf iv).toNat)
 case atStart => exact ⟨0, hist0, by omega, rfl, Mod.refl _ W, HK.out, rfl⟩
 case round =>
  obtain ⟨i, s, hin, rfl, hm, hk, ho⟩ := hrel
  have Ho := Lib.hid ho
  have Hm := Lib.hid hm
  have Hk := Lib.hid hk
  clear ho hm hk
  by_cases hi : i < N
  case neg =>
   have Hf : Hid (checkE h = 0) := Lib.hid (by unfold checkE histB; rw [Ho.out, List.drop_eq_nil_of_le (by rw [HN.out]; omega)]; rfl)
   go_wp2
   go_ret
   exact ⟨by rw [Hf.out]; rfl, Mod.toExt ((Ext.mod HE.out (Since w.heap.size)).trans Hm.out (fun k _ e => by have := Hq.out; unfold Since; omega))⟩
  obtain ⟨g, off, x, rfl, hgT, hx, hxok, hcells⟩ := (HV.out.mod Hm.out (fun g hg e => by have := hg.2; have := Hq.out; omega)).at hi
  have hi0 : (0 : Int) ≤ (i : Int) := by omega
  have hi1 : (i : Int) < (N : Int) := by omega
  have Hdr := Lib.hid (drop_get hx)
  have Hxok := Lib.hid hxok
  have Hcells : Hid (At wr g (off + i * 16) x.cells) := Lib.hid hcells
  have hqr : q + 1 < wr.heap.size := Hk.out.2.1.lt
  clear hcells hx hxok hgT
  go_upto_region 5 with fail
  go_cut [6] (fun s6 wx => ∃ u : Nat, s6 = .pointer (some ⟨u, 0, none⟩) ∧ wx.heap[u]? = some (.cells #[.bool x.ask, .int .i64 x.told.call.client, .int .i64 x.told.call.seq, .int .i64 x.told.call.cmd.kind, .string x.told.call.cmd.key, .int .i64 x.told.call.cmd.old.kind, .float .f64 x.told.call.cmd.old.num, .string x.told.call.cmd.old.text, .int .i64 x.told.call.cmd.val.kind, .float .f64 x.told.call.cmd.val.num, .string x.told.call.cmd.val.text, .int .i64 x.told.reply.code, .int .i64 x.told.reply.val.kind, .float .f64 x.told.reply.val.num, .string x.told.reply.val.text, .int .i64 x.told.index] 50 (0, 0)) ∧ Ext wr wx ∧ wr.heap.size ≤ u)
  case first =>
   have hld := load_event x Hcells.out
   have hst := store_event_new wr x
   go_wp2_with (first | (refine wpList_load rfl 50 _ rfl _ _ rfl hld ?_) | (refine wpList_store rfl 50 _ _ rfl _ _ rfl rfl hst ?_))
   go_meet
   exact ⟨_, rfl, heap_alloc_new _ _, (Mod.refl _ _).alloc _, Nat.le_refl _⟩
  obtain ⟨u, rfl, hX, hEx, hur⟩ := hcut
  obtain ⟨Wx, rfl⟩ : ∃ Wx : World, Wx = wc := ⟨_, rfl⟩
  go_upto_region 6 with fail
  go_cut [7] (fun s7 wx => ∃ u2 : Nat, s7 = .pointer (some ⟨u2, 0, none⟩) ∧ wx.heap[u2]? = some (.cells #[.int .i64 x.told.call.client, .int .i64 x.told.call.seq, .int .i64 x.told.call.cmd.kind, .string x.told.call.cmd.key, .int .i64 x.told.call.cmd.old.kind, .float .f64 x.told.call.cmd.old.num, .string x.told.call.cmd.old.text, .int .i64 x.told.call.cmd.val.kind, .float .f64 x.told.call.cmd.val.num, .string x.told.call.cmd.val.text] 44 (0, 0)) ∧ Ext Wx wx ∧ Wx.heap.size ≤ u2)
  case first =>
   have hld := load_call x.told.call (event_call hX)
   have hst := store_call_new Wx x.told.call
   go_wp2_with (first | (refine wpList_load rfl 44 _ rfl _ _ rfl hld ?_) | (refine wpList_store rfl 44 _ _ rfl _ _ rfl rfl hst ?_))
   go_meet
   exact ⟨_, rfl, heap_alloc_new _ _, (Mod.refl _ _).alloc _, Nat.le_refl _⟩
  obtain ⟨u2, rfl, hC, hEy, hu2⟩ := hcut
  obtain ⟨Wy, rfl⟩ : ∃ Wy : World, Wy = wc := ⟨_, rfl⟩
  have hMy : Mod (fun k => k = q ∨ k = q + 1) W Wy := Hm.out.ext (hEx.ext hEy)
  have hKy := (Hk.out.mod hEx id id).mod hEy id id
  have hXy := hEy.blk hX id
  have hul : u < Wx.heap.size := (Array.getElem?_eq_some_iff.1 hX).1
  have HX : Hid (Ext w Wy) := Lib.hid (Mod.toExt ((Ext.mod HE.out (Since w.heap.size)).trans hMy (fun k _ e => by have := Hq.out; unfold Since; omega)))
  have HMy := Lib.hid hMy
  have HKy := Lib.hid hKy
  have KxWy := Lib.hid hXy
  have KcWy := Lib.hid hC
  have hbx : w.heap.size ≤ u := by have := Hm.out.size; have := HE.out.size; omega
  have hbc : w.heap.size ≤ u2 := by have := hEx.size; omega
  have hqy : q + 1 < Wy.heap.size := hKy.2.1.lt
  clear hMy hKy hXy hC hX hEx hEy Hcells
  obtain ⟨ce, hce⟩ : ∃ ce, callE x.told.call = ce := ⟨_, rfl⟩
  have Hce := Lib.hid hce
  clear hce
  by_cases hc0 : ce = 0
  case neg =>
   have d1 : (ce != 0) = true := by simp [hc0]
   have d2 : (ce == 0) = false := by simp [hc0]
   have Hs : Hid (stepH s x = none) := Lib.hid (by unfold stepH; rw [if_pos (by rw [Hce.out]; exact hc0)])
   have Hf : Hid (checkE h = 6) := Lib.hid (by unfold checkE histB; rw [Ho.out, runH_drop Hdr.out, Hs.out]; rfl)
   clear hc0
   obtain ⟨x_0, x_1, x_2, x_3, x_4, x_5, x_6, x_7, x_8, x_9, x_10, x_11, x_12, x_13, x_14, x_15⟩ := cq16 KxWy.out
   have x_l : u < Wy.heap.size := (Array.getElem?_eq_some_iff.1 KxWy.out).1
   obtain ⟨c_0, c_1, c_2, c_3, c_4, c_5, c_6, c_7, c_8, c_9⟩ := cq10 KcWy.out
   have c_l : u2 < Wy.heap.size := (Array.getElem?_eq_some_iff.1 KcWy.out).1
   go_wp2_with fail
   clear x_0 x_1 x_2 x_3 x_4 x_5 x_6 x_7 x_8 x_9 x_10 x_11 x_12 x_13 x_14 x_15 x_l c_0 c_1 c_2 c_3 c_4 c_5 c_6 c_7 c_8 c_9 c_l
   obtain ⟨x_0, x_1, x_2, x_3, x_4, x_5, x_6, x_7, x_8, x_9, x_10, x_11, x_12, x_13, x_14, x_15⟩ := cq16 KxWy.out
   have x_l : u < Wy.heap.size := (Array.getElem?_eq_some_iff.1 KxWy.out).1
   obtain ⟨c_0, c_1, c_2, c_3, c_4, c_5, c_6, c_7, c_8, c_9⟩ := cq10 KcWy.out
   have c_l : u2 < Wy.heap.size := (Array.getElem?_eq_some_iff.1 KcWy.out).1
   refine wp_region_held_drew (S := fun W' => Ext Wy W') (by kernel_rfl) (Mod.refl _ Wy).drew (fun hS => ?_)
   refine tkE 0 (some 18) rfl rfl ?_ hS ?_ ?_; rotate_left; · rintro W' _ _; go_simp; try with_reducible rfl
   try simp only [pL]
   refine wpAnyH_ready (rs := [1]) (by kernel_rfl) (by simp) ?_
   refine AllReadyH.cons rfl (fun K hK => ?_) AllReadyH.nil
   go_simp
   go_wp2_with fail
   refine (s_right x.told.call _).mono ?_
   rintro e w1 ⟨rfl, hE⟩
   rw [Hce.out]
   have hX := Mod.ext hS hE
   clear hE hS
   go_simp
   refine hK.out _ _ hX (fun hS => ?_)
   clear hK K hX
   refine tkE 2 (some 20) rfl rfl ?_ hS ?_ ?_; rotate_left; · rintro W' _ _; go_simp; try with_reducible rfl
   try simp only [pL]
   refine tkE 3 (some 21) rfl rfl ?_ hS ?_ ?_; rotate_left; · rintro W' _ _; go_simp; try with_reducible rfl
   try simp only [pL]
   refine tuH 4 (some 22) rfl rfl hS ?_
   try simp only [pL]
   refine tuH 5 (some 23) rfl rfl hS ?_
   try simp only [pL]
   refine tuH 6 (some 24) rfl rfl hS ?_
   try simp only [pL]
   refine tuH 7 (some 25) rfl rfl hS ?_
   try simp only [pL]
   refine tuH 8 (some 26) rfl rfl hS ?_
   try simp only [pL]
   refine tuH 9 (some 27) rfl rfl hS ?_
   try simp only [pL]
   refine tuH 10 (some 28) rfl rfl hS ?_
   try simp only [pL]
   refine tkE 11 (some 29) rfl rfl ?_ hS ?_ ?_; rotate_left; · rintro W' _ _; go_simp; try with_reducible rfl
   try simp only [pL]
   refine wpAnyH_done (by kernel_rfl) ?_ _
   have hE := hS
   clear hS
   clear x_0 x_1 x_2 x_3 x_4 x_5 x_6 x_7 x_8 x_9 x_10 x_11 x_12 x_13 x_14 x_15 x_l c_0 c_1 c_2 c_3 c_4 c_5 c_6 c_7 c_8 c_9 c_l
   have Kxw1 := Lib.hid (hE.blk KxWy.out id)
   have Kcw1 := Lib.hid (hE.blk KcWy.out id)
   replace HKy := Lib.hid (HKy.out.mod hE id id)
   replace HMy := Lib.hid (HMy.out.ext hE)
   replace HX := Lib.hid (HX.out.ext hE)
   clear KxWy
   clear KcWy
   clear hE
   obtain ⟨x_0, x_1, x_2, x_3, x_4, x_5, x_6, x_7, x_8, x_9, x_10, x_11, x_12, x_13, x_14, x_15⟩ := cq16 Kxw1.out
   have x_l : u < w1.heap.size := (Array.getElem?_eq_some_iff.1 Kxw1.out).1
   obtain ⟨c_0, c_1, c_2, c_3, c_4, c_5, c_6, c_7, c_8, c_9⟩ := cq10 Kcw1.out
   have c_l : u2 < w1.heap.size := (Array.getElem?_eq_some_iff.1 Kcw1.out).1
   go_wp2
   go_ret
   exact ⟨by rw [Hf.out]; rfl, HX.out⟩
  subst hc0
  have hcn := call_nums Hce.out
  have hcl0 : (0 : Int) ≤ x.told.call.client := by omega
  have hcl5 : x.told.call.client < (5 : Int) := by omega
  have hk5 : x.told.call.client.toNat < 5 := by omega
  obtain ⟨b, hb⟩ : ∃ b, s.2[x.told.call.client.toNat]? = some b := ⟨_, List.getElem?_eq_getElem (by rw [HKy.out.2.2.2.1]; exact hk5)⟩
  obtain ⟨y, hy⟩ : ∃ y, s.1[x.told.call.client.toNat]? = some y := ⟨_, List.getElem?_eq_getElem (by rw [HKy.out.2.2.1]; exact hk5)⟩
  have Hb := Lib.hid hb
  have Hy := Lib.hid hy
  have wv : Wy.cell? ⟨q + 1, x.told.call.client.toNat, none⟩ = some (.bool b) := HKy.out.2.1.cell (by rw [List.getElem?_map, hb]; rfl)
  clear hb hy hcn
  rcases hab : (x.ask == b) with _ | _
  case true =>
   have Hs : Hid (stepH s x = none) := Lib.hid (by
    unfold stepH
    rw [if_neg (by rw [Hce.out]; simp), if_pos ?_]
    rw [List.getD_eq_getElem?_getD, Hb.out]
    simpa using hab)
   have Hf : Hid (checkE h = 6) := Lib.hid (by unfold checkE histB; rw [Ho.out, runH_drop Hdr.out, Hs.out]; rfl)
   obtain ⟨x_0, x_1, x_2, x_3, x_4, x_5, x_6, x_7, x_8, x_9, x_10, x_11, x_12, x_13, x_14, x_15⟩ := cq16 KxWy.out
   have x_l : u < Wy.heap.size := (Array.getElem?_eq_some_iff.1 KxWy.out).1
   obtain ⟨c_0, c_1, c_2, c_3, c_4, c_5, c_6, c_7, c_8, c_9⟩ := cq10 KcWy.out
   have c_l : u2 < Wy.heap.size := (Array.getElem?_eq_some_iff.1 KcWy.out).1
   go_wp2_with fail
   clear x_0 x_1 x_2 x_3 x_4 x_5 x_6 x_7 x_8 x_9 x_10 x_11 x_12 x_13 x_14 x_15 x_l c_0 c_1 c_2 c_3 c_4 c_5 c_6 c_7 c_8 c_9 c_l
   obtain ⟨x_0, x_1, x_2, x_3, x_4, x_5, x_6, x_7, x_8, x_9, x_10, x_11, x_12, x_13, x_14, x_15⟩ := cq16 KxWy.out
   have x_l : u < Wy.heap.size := (Array.getElem?_eq_some_iff.1 KxWy.out).1
   obtain ⟨c_0, c_1, c_2, c_3, c_4, c_5, c_6, c_7, c_8, c_9⟩ := cq10 KcWy.out
   have c_l : u2 < Wy.heap.size := (Array.getElem?_eq_some_iff.1 KcWy.out).1
   refine wp_region_held_drew (S := fun W' => Ext Wy W') (by kernel_rfl) (Mod.refl _ Wy).drew (fun hS => ?_)
   refine tkE 0 (some 18) rfl rfl ?_ hS ?_ ?_; rotate_left; · rintro W' _ _; go_simp; try with_reducible rfl
   try simp only [pL]
   refine wpAnyH_ready (rs := [1]) (by kernel_rfl) (by simp) ?_
   refine AllReadyH.cons rfl (fun K hK => ?_) AllReadyH.nil
   go_simp
   go_wp2_with fail
   refine (s_right x.told.call _).mono ?_
   rintro e w1 ⟨rfl, hE⟩
   rw [Hce.out]
   have hX := Mod.ext hS hE
   clear hE hS
   go_simp
   refine hK.out _ _ hX (fun hS => ?_)
   clear hK K hX
   refine tkE 2 (some 20) rfl rfl ?_ hS ?_ ?_; rotate_left; · rintro W' _ _; go_simp; try with_reducible rfl
   try simp only [pL]
   refine tkE 3 (some 21) rfl rfl ?_ hS ?_ ?_; rotate_left; · rintro W' _ _; go_simp; try with_reducible rfl
   try simp only [pL]
   refine tkE 4 (some 22) rfl rfl ?_ hS ?_ ?_; rotate_left; · rintro W' _ _; go_simp; try with_reducible rfl
   try simp only [pL]
   refine tkE 5 (some 23) rfl rfl ?_ hS ?_ ?_; rotate_left; · rintro W' _ _; go_simp; try with_reducible rfl
   try simp only [pL]
   refine tkE 6 (some 24) rfl rfl ?_ hS ?_ ?_; rotate_left; · rintro W' _ _; go_simp; try with_reducible rfl
   try simp only [pL]
   refine tkE 7 (some 25) rfl rfl ?_ hS ?_ ?_; rotate_left; · rintro W' _ _; go_simp; try with_reducible rfl
   try simp only [pL]
   refine tkE 8 (some 26) rfl rfl ?_ hS ?_ ?_; rotate_left; · rintro W' _ _; go_simp; try with_reducible rfl
   try simp only [pL]
   refine tkE 9 (some 27) rfl rfl ?_ hS ?_ ?_; rotate_left; · rintro W' _ _; go_simp; try with_reducible rfl
   try simp only [pL]
   refine tkE 10 (some 28) rfl rfl ?_ hS ?_ ?_; rotate_left; · rintro W' _ _; go_simp; try with_reducible rfl
   try simp only [pL]
   refine tkE 11 (some 29) rfl rfl ?_ hS ?_ ?_; rotate_left; · rintro W' _ _; go_simp; try with_reducible rfl
   try simp only [pL]
   refine wpAnyH_done (by kernel_rfl) ?_ _
   have hE := hS
   clear hS
   clear x_0 x_1 x_2 x_3 x_4 x_5 x_6 x_7 x_8 x_9 x_10 x_11 x_12 x_13 x_14 x_15 x_l c_0 c_1 c_2 c_3 c_4 c_5 c_6 c_7 c_8 c_9 c_l
   have Kxw1 := Lib.hid (hE.blk KxWy.out id)
   have Kcw1 := Lib.hid (hE.blk KcWy.out id)
   replace HKy := Lib.hid (HKy.out.mod hE id id)
   replace HMy := Lib.hid (HMy.out.ext hE)
   replace wv := hE.cell wv id
   replace HX := Lib.hid (HX.out.ext hE)
   clear KxWy
   clear KcWy
   clear hE
   obtain ⟨x_0, x_1, x_2, x_3, x_4, x_5, x_6, x_7, x_8, x_9, x_10, x_11, x_12, x_13, x_14, x_15⟩ := cq16 Kxw1.out
   have x_l : u < w1.heap.size := (Array.getElem?_eq_some_iff.1 Kxw1.out).1
   obtain ⟨c_0, c_1, c_2, c_3, c_4, c_5, c_6, c_7, c_8, c_9⟩ := cq10 Kcw1.out
   have c_l : u2 < w1.heap.size := (Array.getElem?_eq_some_iff.1 Kcw1.out).1
   go_wp2
   go_ret
   exact ⟨by rw [Hf.out]; rfl, HX.out⟩
  obtain ⟨x_0, x_1, x_2, x_3, x_4, x_5, x_6, x_7, x_8, x_9, x_10, x_11, x_12, x_13, x_14, x_15⟩ := cq16 KxWy.out
  have x_l : u < Wy.heap.size := (Array.getElem?_eq_some_iff.1 KxWy.out).1
  obtain ⟨c_0, c_1, c_2, c_3, c_4, c_5, c_6, c_7, c_8, c_9⟩ := cq10 KcWy.out
  have c_l : u2 < Wy.heap.size := (Array.getElem?_eq_some_iff.1 KcWy.out).1
  go_wp2_with fail
  clear x_0 x_1 x_2 x_3 x_4 x_5 x_6 x_7 x_8 x_9 x_10 x_11 x_12 x_13 x_14 x_15 x_l c_0 c_1 c_2 c_3 c_4 c_5 c_6 c_7 c_8 c_9 c_l
  obtain ⟨x_0, x_1, x_2, x_3, x_4, x_5, x_6, x_7, x_8, x_9, x_10, x_11, x_12, x_13, x_14, x_15⟩ := cq16 KxWy.out
  have x_l : u < Wy.heap.size := (Array.getElem?_eq_some_iff.1 KxWy.out).1
  obtain ⟨c_0, c_1, c_2, c_3, c_4, c_5, c_6, c_7, c_8, c_9⟩ := cq10 KcWy.out
  have c_l : u2 < Wy.heap.size := (Array.getElem?_eq_some_iff.1 KcWy.out).1
  refine wp_region_held_drew (S := fun W' => Ext Wy W') (by kernel_rfl) (Mod.refl _ Wy).drew (fun hS => ?_)
  refine tkE 0 (some 18) rfl rfl ?_ hS ?_ ?_; rotate_left; · rintro W' _ _; go_simp; try with_reducible rfl
  try simp only [pL]
  refine wpAnyH_ready (rs := [1]) (by kernel_rfl) (by simp) ?_
  refine AllReadyH.cons rfl (fun K hK => ?_) AllReadyH.nil
  go_simp
  go_wp2_with fail
  refine (s_right x.told.call _).mono ?_
  rintro e w1 ⟨rfl, hE⟩
  rw [Hce.out]
  have hX := Mod.ext hS hE
  clear hE hS
  go_simp
  refine hK.out _ _ hX (fun hS => ?_)
  clear hK K hX
  refine tkE 2 (some 20) rfl rfl ?_ hS ?_ ?_; rotate_left; · rintro W' _ _; go_simp; try with_reducible rfl
  try simp only [pL]
  refine tkE 3 (some 21) rfl rfl ?_ hS ?_ ?_; rotate_left; · rintro W' _ _; go_simp; try with_reducible rfl
  try simp only [pL]
  refine tkE 4 (some 22) rfl rfl ?_ hS ?_ ?_; rotate_left; · rintro W' _ _; go_simp; try with_reducible rfl
  try simp only [pL]
  refine tkE 5 (some 23) rfl rfl ?_ hS ?_ ?_; rotate_left; · rintro W' _ _; go_simp; try with_reducible rfl
  try simp only [pL]
  refine tkE 6 (some 24) rfl rfl ?_ hS ?_ ?_; rotate_left; · rintro W' _ _; go_simp; try with_reducible rfl
  try simp only [pL]
  refine tkE 7 (some 25) rfl rfl ?_ hS ?_ ?_; rotate_left; · rintro W' _ _; go_simp; try with_reducible rfl
  try simp only [pL]
  refine tkE 8 (some 26) rfl rfl ?_ hS ?_ ?_; rotate_left; · rintro W' _ _; go_simp; try with_reducible rfl
  try simp only [pL]
  refine tkE 9 (some 27) rfl rfl ?_ hS ?_ ?_; rotate_left; · rintro W' _ _; go_simp; try with_reducible rfl
  try simp only [pL]
  refine tkE 10 (some 28) rfl rfl ?_ hS ?_ ?_; rotate_left; · rintro W' _ _; go_simp; try with_reducible rfl
  try simp only [pL]
  refine tkE 11 (some 29) rfl rfl ?_ hS ?_ ?_; rotate_left; · rintro W' _ _; go_simp; try with_reducible rfl
  try simp only [pL]
  refine wpAnyH_done (by kernel_rfl) ?_ _
  have hE := hS
  clear hS
  clear x_0 x_1 x_2 x_3 x_4 x_5 x_6 x_7 x_8 x_9 x_10 x_11 x_12 x_13 x_14 x_15 x_l c_0 c_1 c_2 c_3 c_4 c_5 c_6 c_7 c_8 c_9 c_l
  have Kxw1 := Lib.hid (hE.blk KxWy.out id)
  have Kcw1 := Lib.hid (hE.blk KcWy.out id)
  replace HKy := Lib.hid (HKy.out.mod hE id id)
  replace HMy := Lib.hid (HMy.out.ext hE)
  replace wv := hE.cell wv id
  replace HX := Lib.hid (HX.out.ext hE)
  clear KxWy
  clear KcWy
  clear hE
  obtain ⟨x_0, x_1, x_2, x_3, x_4, x_5, x_6, x_7, x_8, x_9, x_10, x_11, x_12, x_13, x_14, x_15⟩ := cq16 Kxw1.out
  have x_l : u < w1.heap.size := (Array.getElem?_eq_some_iff.1 Kxw1.out).1
  obtain ⟨c_0, c_1, c_2, c_3, c_4, c_5, c_6, c_7, c_8, c_9⟩ := cq10 Kcw1.out
  have c_l : u2 < w1.heap.size := (Array.getElem?_eq_some_iff.1 Kcw1.out).1
  clear wv
  have hyk := HKy.out.2.2.2.2 y (List.mem_of_getElem? Hy.out)
  have hy0 : 0 ≤ y.seq := hyk.2
  have hy1 : y.seq ≤ 1099511627776 := hyk.1
  go_upto_region 9 with fail
  go_cut [8] (fun s8 wx => ∃ u3 : Nat, s8 = .pointer (some ⟨u3, 0, none⟩) ∧ wx.heap[u3]? = some (.cells #[.int .i64 y.client, .int .i64 y.seq, .int .i64 y.cmd.kind, .string y.cmd.key, .int .i64 y.cmd.old.kind, .float .f64 y.cmd.old.num, .string y.cmd.old.text, .int .i64 y.cmd.val.kind, .float .f64 y.cmd.val.num, .string y.cmd.val.text] 44 (0, 0)) ∧ Ext w1 wx ∧ w1.heap.size ≤ u3)
  case first =>
   have hld := load_call y (calls_at HKy.out.1 Hy.out)
   have hst := store_call_new w1 y
   go_wp2_with (first | (refine wpList_load rfl 44 _ rfl _ _ rfl hld ?_) | (refine wpList_store rfl 44 _ _ rfl _ _ rfl rfl hst ?_))
   go_meet
   exact ⟨_, rfl, heap_alloc_new _ _, (Mod.refl _ _).alloc _, Nat.le_refl _⟩
  obtain ⟨u3, rfl, hY3, hE, hu3⟩ := hcut
  obtain ⟨Wz, rfl⟩ : ∃ Wz : World, Wz = wc := ⟨_, rfl⟩
  have hby : w.heap.size ≤ u3 := by have := HX.out.size; omega
  clear x_0 x_1 x_2 x_3 x_4 x_5 x_6 x_7 x_8 x_9 x_10 x_11 x_12 x_13 x_14 x_15 x_l c_0 c_1 c_2 c_3 c_4 c_5 c_6 c_7 c_8 c_9 c_l
  have KxWz := Lib.hid (hE.blk Kxw1.out id)
  have KcWz := Lib.hid (hE.blk Kcw1.out id)
  replace HKy := Lib.hid (HKy.out.mod hE id id)
  replace HMy := Lib.hid (HMy.out.ext hE)
  replace HX := Lib.hid (HX.out.ext hE)
  clear Kxw1
  clear Kcw1
  have KyWz := Lib.hid hY3
  clear hE hY3
  obtain ⟨x_0, x_1, x_2, x_3, x_4, x_5, x_6, x_7, x_8, x_9, x_10, x_11, x_12, x_13, x_14, x_15⟩ := cq16 KxWz.out
  have x_l : u < Wz.heap.size := (Array.getElem?_eq_some_iff.1 KxWz.out).1
  obtain ⟨c_0, c_1, c_2, c_3, c_4, c_5, c_6, c_7, c_8, c_9⟩ := cq10 KcWz.out
  have c_l : u2 < Wz.heap.size := (Array.getElem?_eq_some_iff.1 KcWz.out).1
  obtain ⟨y_0, y_1, y_2, y_3, y_4, y_5, y_6, y_7, y_8, y_9⟩ := cq10 KyWz.out
  have y_l : u3 < Wz.heap.size := (Array.getElem?_eq_some_iff.1 KyWz.out).1
  have Hst : Hid (stepH s x = if x.ask = true ∧ x.told.call.seq ≠ y.seq + 1 then none
   else if x.ask = false ∧ (x.told.call.seq ≠ y.seq ∨ eqCmd x.told.call.cmd y.cmd = false ∨ x.told.index < 0) then none
   else some (s.1.set x.told.call.client.toNat x.told.call, s.2.set x.told.call.client.toNat x.ask)) := Lib.hid (by
   unfold stepH
   rw [if_neg (by rw [Hce.out]; simp), List.getD_eq_getElem?_getD, Hb.out, if_neg (by simpa using hab), List.getD_eq_getElem?_getD, Hy.out]
   rfl)
  rcases ha : x.ask with _ | _
  case true =>
   rcases h1 : (x.told.call.seq != y.seq + 1) with _ | _
   ·
    obtain ⟨s', hs'⟩ : ∃ s', (s.1.set x.told.call.client.toNat x.told.call, s.2.set x.told.call.client.toNat true) = s' := ⟨_, rfl⟩
    have Hs : Hid (stepH s x = some s') := Lib.hid (by rw [Hst.out, if_neg (by rw [ha]; simpa using h1), if_neg (by rw [ha]; simp), ha, hs'])
    have Hs2 := Lib.hid hs'
    have hKw := HKy.out
    have hq1 : q < Wz.heap.size := hKw.1.lt
    clear hs'
    go_wp2_with fail
    refine wp_region_held_drew (S := fun W' => Mod (fun k => k = q ∨ k = q + 1) Wz W') (by kernel_rfl) (Mod.refl _ Wz).drew (fun hS => ?_)
    refine tkH 0 (some 70) rfl rfl ?_ hS ?_ ?_; rotate_left; · rintro W' hm'; go_simp; try with_reducible rfl
    try simp only [pL]
    refine tkH 1 (some 71) rfl rfl ?_ hS ?_ ?_
    rotate_left
    ·
     rintro W' hm'
     have m0 := hm'.cell c_0 (fun e => by rcases e with e | e <;> (simp at e; omega))
     go_simp
     try with_reducible rfl
    try simp only [pL]
    refine tkH 2 (some 72) rfl rfl ?_ hS ?_ ?_; rotate_left; · rintro W' hm'; go_simp; try with_reducible rfl
    try simp only [pL]
    refine tkH 3 (some 73) rfl rfl ?_ hS ?_ ?_
    rotate_left
    ·
     rintro W' hm'
     have m0 := hm'.cell c_0 (fun e => by rcases e with e | e <;> (simp at e; omega))
     go_simp
     try with_reducible rfl
    try simp only [pL]
    refine tkH 4 (some 74) rfl rfl ?_ hS ?_ ?_
    rotate_left
    ·
     rintro W' hm'
     have m0 := hm'.cell c_0 (fun e => by rcases e with e | e <;> (simp at e; omega))
     have m1 := hm'.cell c_1 (fun e => by rcases e with e | e <;> (simp at e; omega))
     have m2 := hm'.cell c_2 (fun e => by rcases e with e | e <;> (simp at e; omega))
     have m3 := hm'.cell c_3 (fun e => by rcases e with e | e <;> (simp at e; omega))
     have m4 := hm'.cell c_4 (fun e => by rcases e with e | e <;> (simp at e; omega))
     have m5 := hm'.cell c_5 (fun e => by rcases e with e | e <;> (simp at e; omega))
     have m6 := hm'.cell c_6 (fun e => by rcases e with e | e <;> (simp at e; omega))
     have m7 := hm'.cell c_7 (fun e => by rcases e with e | e <;> (simp at e; omega))
     have m8 := hm'.cell c_8 (fun e => by rcases e with e | e <;> (simp at e; omega))
     have m9 := hm'.cell c_9 (fun e => by rcases e with e | e <;> (simp at e; omega))
     go_simp
     try with_reducible rfl
    try simp only [pL]
    refine tkH 5 (some 75) rfl rfl ?_ hS ?_ ?_; rotate_left; · rintro W' hm'; go_simp; try with_reducible rfl
    try simp only [pL]
    refine tkH 6 (some 76) rfl rfl ?_ hS ?_ ?_
    rotate_left
    ·
     rintro W' hm'
     have m0 := hm'.cell x_0 (fun e => by rcases e with e | e <;> (simp at e; omega))
     go_simp
     try with_reducible rfl
    try simp only [pL]
    refine tkH 7 (some 77) rfl rfl ?_ hS ?_ ?_; rotate_left; · rintro W' hm'; go_simp; try with_reducible rfl
    try simp only [pL]
    refine wpAnyH_ready (rs := [8]) (by kernel_rfl) (by simp) ?_
    refine AllReadyH.cons rfl (fun K hK => ?_) AllReadyH.nil
    have hK0 : Kept Wz.drew q s := hKw
    refine step_store rfl 44 (.tmp 77) (.tmp 74) rfl _ _ rfl rfl (store_call_at x.told.call hK0.1 Hy.out) ?_
    obtain ⟨V1, hV1⟩ : ∃ V1, callAt Wz.drew q (x.told.call.client.toNat * 10) x.told.call = V1 := ⟨_, rfl⟩
    have hr1 := callAt_row x.told.call hK0.1 Hy.out
    have hm1 := callAt_mod Wz.drew q (x.told.call.client.toNat * 10) x.told.call
    rw [hV1] at hr1 hm1 ⊢
    have hr2 := hK0.2.1.mod hm1 (by omega)
    have hX1 : Mod (fun k => k = q ∨ k = q + 1) Wz V1 := hS.trans hm1 (fun k _ e => .inl e)
    clear hS
    refine hK.out _ _ hX1 (fun hS => ?_)
    clear hK K
    try simp only [pL]
    refine tkH 9 (some 78) rfl rfl ?_ hS ?_ ?_; rotate_left; · rintro W' hm'; go_simp; try with_reducible rfl
    try simp only [pL]
    refine wpAnyH_ready (rs := [10]) (by kernel_rfl) (by simp) ?_
    refine AllReadyH.cons rfl (fun K hK => ?_) AllReadyH.nil
    have fz := hr2.free x.told.call.client.toNat
    have cz : V1.cell? ⟨q + 1, x.told.call.client.toNat, none⟩ = some (.bool b) := hr2.cell (by rw [List.getElem?_map, Hb.out]; rfl)
    have hr3 := row_set (j := x.told.call.client.toNat) (.bool true) hr2
    have hm3 : Mod (fun k => k = q + 1) V1 (V1.setCell ⟨q + 1, x.told.call.client.toNat, none⟩ (.bool true)) := mod_same (Mod.refl _ _) _ _
    have hr4 := hr1.mod hm3 (by omega)
    have hX2 : Mod (fun k => k = q ∨ k = q + 1) Wz (V1.setCell ⟨q + 1, x.told.call.client.toNat, none⟩ (.bool true)) := hS.trans hm3 (fun k _ e => .inr e)
    have HKn : Hid (Kept (V1.setCell ⟨q + 1, x.told.call.client.toNat, none⟩ (.bool true)) q s') := by
     rw [← Hs2.out]
     refine Lib.hid ⟨hr4, ?_, by simp [hK0.2.2.1], by simp [hK0.2.2.2.1], ?_⟩
     ·
      have := hr3
      rwa [← List.map_set] at this
     ·
      intro c hc
      rcases List.mem_or_eq_of_mem_set hc with h1 | h1
      ·
       exact hK0.2.2.2.2 c h1
      ·
       have := call_nums Hce.out
       subst h1
       omega
    have HMn := Lib.hid (HMy.out.trans hX2 (fun k _ e => e))
    clear hS
    go_simp
    refine hK.out _ _ hX2 (fun hS => ?_)
    clear hK K
    refine wpAnyH_done (by kernel_rfl) ?_ _
    clear hS hX1 hX2 hr1 hr2 hr3 hr4 hm1 hm3 fz cz hK0 hKw
    go_wp2
    exact ⟨⟨i + 1, s', by omega, by go_num, HMn.out, HKn.out, by rw [Ho.out, runH_drop Hdr.out, Hs.out]⟩, by simp [intOf]; omega⟩
   ·
    have Hs : Hid (stepH s x = none) := Lib.hid (by rw [Hst.out, if_pos ⟨ha, by simpa using h1⟩])
    have Hf : Hid (checkE h = 6) := Lib.hid (by unfold checkE histB; rw [Ho.out, runH_drop Hdr.out, Hs.out]; rfl)
    go_wp2
    go_ret
    exact ⟨by rw [Hf.out]; rfl, HX.out⟩
  rcases h1 : (x.told.call.seq != y.seq) with _ | _
  case true =>
   have Hs : Hid (stepH s x = none) := Lib.hid (by rw [Hst.out, if_neg (by rw [ha]; simp), if_pos ⟨ha, .inl (by simpa using h1)⟩])
   have Hf : Hid (checkE h = 6) := Lib.hid (by unfold checkE histB; rw [Ho.out, runH_drop Hdr.out, Hs.out]; rfl)
   go_wp2
   go_ret
   exact ⟨by rw [Hf.out]; rfl, HX.out⟩
  go_wp2_with fail
  refine (h_sameCmd x.told.call.cmd y.cmd Wz).mono ?_
  rintro e w2 ⟨rfl, hE⟩
  clear x_0 x_1 x_2 x_3 x_4 x_5 x_6 x_7 x_8 x_9 x_10 x_11 x_12 x_13 x_14 x_15 x_l c_0 c_1 c_2 c_3 c_4 c_5 c_6 c_7 c_8 c_9 c_l y_0 y_1 y_2 y_3 y_4 y_5 y_6 y_7 y_8 y_9 y_l
  have Kxw2 := Lib.hid (hE.blk KxWz.out id)
  have Kcw2 := Lib.hid (hE.blk KcWz.out id)
  have Kyw2 := Lib.hid (hE.blk KyWz.out id)
  replace HKy := Lib.hid (HKy.out.mod hE id id)
  replace HMy := Lib.hid (HMy.out.ext hE)
  replace HX := Lib.hid (HX.out.ext hE)
  clear KxWz
  clear KcWz
  clear KyWz
  clear hE
  obtain ⟨x_0, x_1, x_2, x_3, x_4, x_5, x_6, x_7, x_8, x_9, x_10, x_11, x_12, x_13, x_14, x_15⟩ := cq16 Kxw2.out
  have x_l : u < w2.heap.size := (Array.getElem?_eq_some_iff.1 Kxw2.out).1
  obtain ⟨c_0, c_1, c_2, c_3, c_4, c_5, c_6, c_7, c_8, c_9⟩ := cq10 Kcw2.out
  have c_l : u2 < w2.heap.size := (Array.getElem?_eq_some_iff.1 Kcw2.out).1
  obtain ⟨y_0, y_1, y_2, y_3, y_4, y_5, y_6, y_7, y_8, y_9⟩ := cq10 Kyw2.out
  have y_l : u3 < w2.heap.size := (Array.getElem?_eq_some_iff.1 Kyw2.out).1
  rcases h2 : eqCmd x.told.call.cmd y.cmd with _ | _
  case false =>
   have Hs : Hid (stepH s x = none) := Lib.hid (by rw [Hst.out, if_neg (by rw [ha]; simp), if_pos ⟨ha, .inr (.inl h2)⟩])
   have Hf : Hid (checkE h = 6) := Lib.hid (by unfold checkE histB; rw [Ho.out, runH_drop Hdr.out, Hs.out]; rfl)
   go_wp2
   go_ret
   exact ⟨by rw [Hf.out]; rfl, HX.out⟩
  by_cases h3 : x.told.index < 0
  case pos =>
   have d7 : decide (x.told.index < 0) = true := by simp [h3]
   have Hs : Hid (stepH s x = none) := Lib.hid (by rw [Hst.out, if_neg (by rw [ha]; simp), if_pos ⟨ha, .inr (.inr h3)⟩])
   have Hf : Hid (checkE h = 6) := Lib.hid (by unfold checkE histB; rw [Ho.out, runH_drop Hdr.out, Hs.out]; rfl)
   go_wp2
   go_ret
   exact ⟨by rw [Hf.out]; rfl, HX.out⟩
  have d7 : decide (x.told.index < 0) = false := by simp; omega
  obtain ⟨s', hs'⟩ : ∃ s', (s.1.set x.told.call.client.toNat x.told.call, s.2.set x.told.call.client.toNat false) = s' := ⟨_, rfl⟩
  have Hs : Hid (stepH s x = some s') := Lib.hid (by rw [Hst.out, if_neg (by rw [ha]; simp), if_neg (by rintro ⟨_, e | e | e⟩; { exact absurd h1 (by simpa using e) }; { rw [h2] at e; cases e }; { exact h3 e }), ha, hs'])
  have Hs2 := Lib.hid hs'
  have hKw := HKy.out
  have hq1 : q < w2.heap.size := hKw.1.lt
  clear hs'
  go_wp2_with fail
  refine wp_region_held_drew (S := fun W' => Mod (fun k => k = q ∨ k = q + 1) w2 W') (by kernel_rfl) (Mod.refl _ w2).drew (fun hS => ?_)
  refine tkH 0 (some 70) rfl rfl ?_ hS ?_ ?_; rotate_left; · rintro W' hm'; go_simp; try with_reducible rfl
  try simp only [pL]
  refine tkH 1 (some 71) rfl rfl ?_ hS ?_ ?_
  rotate_left
  ·
   rintro W' hm'
   have m0 := hm'.cell c_0 (fun e => by rcases e with e | e <;> (simp at e; omega))
   go_simp
   try with_reducible rfl
  try simp only [pL]
  refine tkH 2 (some 72) rfl rfl ?_ hS ?_ ?_; rotate_left; · rintro W' hm'; go_simp; try with_reducible rfl
  try simp only [pL]
  refine tkH 3 (some 73) rfl rfl ?_ hS ?_ ?_
  rotate_left
  ·
   rintro W' hm'
   have m0 := hm'.cell c_0 (fun e => by rcases e with e | e <;> (simp at e; omega))
   go_simp
   try with_reducible rfl
  try simp only [pL]
  refine tkH 4 (some 74) rfl rfl ?_ hS ?_ ?_
  rotate_left
  ·
   rintro W' hm'
   have m0 := hm'.cell c_0 (fun e => by rcases e with e | e <;> (simp at e; omega))
   have m1 := hm'.cell c_1 (fun e => by rcases e with e | e <;> (simp at e; omega))
   have m2 := hm'.cell c_2 (fun e => by rcases e with e | e <;> (simp at e; omega))
   have m3 := hm'.cell c_3 (fun e => by rcases e with e | e <;> (simp at e; omega))
   have m4 := hm'.cell c_4 (fun e => by rcases e with e | e <;> (simp at e; omega))
   have m5 := hm'.cell c_5 (fun e => by rcases e with e | e <;> (simp at e; omega))
   have m6 := hm'.cell c_6 (fun e => by rcases e with e | e <;> (simp at e; omega))
   have m7 := hm'.cell c_7 (fun e => by rcases e with e | e <;> (simp at e; omega))
   have m8 := hm'.cell c_8 (fun e => by rcases e with e | e <;> (simp at e; omega))
   have m9 := hm'.cell c_9 (fun e => by rcases e with e | e <;> (simp at e; omega))
   go_simp
   try with_reducible rfl
  try simp only [pL]
  refine tkH 5 (some 75) rfl rfl ?_ hS ?_ ?_; rotate_left; · rintro W' hm'; go_simp; try with_reducible rfl
  try simp only [pL]
  refine tkH 6 (some 76) rfl rfl ?_ hS ?_ ?_
  rotate_left
  ·
   rintro W' hm'
   have m0 := hm'.cell x_0 (fun e => by rcases e with e | e <;> (simp at e; omega))
   go_simp
   try with_reducible rfl
  try simp only [pL]
  refine tkH 7 (some 77) rfl rfl ?_ hS ?_ ?_; rotate_left; · rintro W' hm'; go_simp; try with_reducible rfl
  try simp only [pL]
  refine wpAnyH_ready (rs := [8]) (by kernel_rfl) (by simp) ?_
  refine AllReadyH.cons rfl (fun K hK => ?_) AllReadyH.nil
  have hK0 : Kept w2.drew q s := hKw
  refine step_store rfl 44 (.tmp 77) (.tmp 74) rfl _ _ rfl rfl (store_call_at x.told.call hK0.1 Hy.out) ?_
  obtain ⟨V1, hV1⟩ : ∃ V1, callAt w2.drew q (x.told.call.client.toNat * 10) x.told.call = V1 := ⟨_, rfl⟩
  have hr1 := callAt_row x.told.call hK0.1 Hy.out
  have hm1 := callAt_mod w2.drew q (x.told.call.client.toNat * 10) x.told.call
  rw [hV1] at hr1 hm1 ⊢
  have hr2 := hK0.2.1.mod hm1 (by omega)
  have hX1 : Mod (fun k => k = q ∨ k = q + 1) w2 V1 := hS.trans hm1 (fun k _ e => .inl e)
  clear hS
  refine hK.out _ _ hX1 (fun hS => ?_)
  clear hK K
  try simp only [pL]
  refine tkH 9 (some 78) rfl rfl ?_ hS ?_ ?_; rotate_left; · rintro W' hm'; go_simp; try with_reducible rfl
  try simp only [pL]
  refine wpAnyH_ready (rs := [10]) (by kernel_rfl) (by simp) ?_
  refine AllReadyH.cons rfl (fun K hK => ?_) AllReadyH.nil
  have fz := hr2.free x.told.call.client.toNat
  have cz : V1.cell? ⟨q + 1, x.told.call.client.toNat, none⟩ = some (.bool b) := hr2.cell (by rw [List.getElem?_map, Hb.out]; rfl)
  have hr3 := row_set (j := x.told.call.client.toNat) (.bool false) hr2
  have hm3 : Mod (fun k => k = q + 1) V1 (V1.setCell ⟨q + 1, x.told.call.client.toNat, none⟩ (.bool false)) := mod_same (Mod.refl _ _) _ _
  have hr4 := hr1.mod hm3 (by omega)
  have hX2 : Mod (fun k => k = q ∨ k = q + 1) w2 (V1.setCell ⟨q + 1, x.told.call.client.toNat, none⟩ (.bool false)) := hS.trans hm3 (fun k _ e => .inr e)
  have HKn : Hid (Kept (V1.setCell ⟨q + 1, x.told.call.client.toNat, none⟩ (.bool false)) q s') := by
   rw [← Hs2.out]
   refine Lib.hid ⟨hr4, ?_, by simp [hK0.2.2.1], by simp [hK0.2.2.2.1], ?_⟩
   ·
    have := hr3
    rwa [← List.map_set] at this
   ·
    intro c hc
    rcases List.mem_or_eq_of_mem_set hc with h1 | h1
    ·
     exact hK0.2.2.2.2 c h1
    ·
     have := call_nums Hce.out
     subst h1
     omega
  have HMn := Lib.hid (HMy.out.trans hX2 (fun k _ e => e))
  clear hS
  go_simp
  refine hK.out _ _ hX2 (fun hS => ?_)
  clear hK K
  refine wpAnyH_done (by kernel_rfl) ?_ _
  clear hS hX1 hX2 hr1 hr2 hr3 hr4 hm1 hm3 fz cz hK0 hKw
  go_wp2
  exact ⟨⟨i + 1, s', by omega, by go_num, HMn.out, HKn.out, by rw [Ho.out, runH_drop Hdr.out, Hs.out]⟩, by simp [intOf]; omega⟩
theorem h_check (w : World) (T : Nat → Prop) (v : Value) (h : List AEvent) (hV : Evs w T v h) :
  Calls Tryz.prog 7 #[v] w fun e w' => e = .returned (.int .i64 (checkE h)) ∧ Ext w w' := by
 obtain ⟨B, cb, rfl⟩ := hV.form
 exact h_check_a w T B _ cb h hV rfl
end Go.Proofs.YtbclnghbgoblcaaGreat
