/-
 Layer 27 (script): the page's call. Conditions: each word is no longer than 100000 bytes; the package variables are as start-up lays them (Glb).
-/
import Derived.Test.YtmebipnljkopgaaGreatDoorScrTb
namespace Go.Proofs.YtmebipnljkopgaaGreatDoor
set_option linter.unusedSimpArgs false
set_option linter.unusedVariables false
open Go.RowKit
theorem c_ops (w : World) : Calls Tryz.prog 37 #[] w fun e w' => ∃ cb, e = .returned (.slice (some ⟨cb, 0, none⟩) 7 7) ∧ CmdsAt w' cb ∧ Ext w w' := by
 have hb := heap_new w (.cells #[.string (bA []), .string (bA [103, 101, 116]), .string (bA [112, 117, 116]), .string (bA [100, 101, 108]), .string (bA [99, 97, 115]), .string (bA [97, 100, 100]), .string (bA [109, 97, 120])] 9)
 have Hb := Lib.hid hb
 clear hb
 go_enter Tryz.func37, Tryz.ntmps37
 go_wp2
 go_ret
 refine ⟨_, rfl, fun j hj => ?_, (Mod.refl _ w).alloc _⟩
 refine blk_cell Hb.out ?_
 rw [Nat.zero_add]
 rcases j with _ | _ | _ | _ | _ | _ | _ | j
 all_goals first | rfl | omega
theorem op_eq (x : ByteArray) (k : Nat) (h1 : 1 ≤ k) (h6 : k ≤ 6) : (x = [bA [], bA [103, 101, 116], bA [112, 117, 116], bA [100, 101, 108], bA [99, 97, 115], bA [97, 100, 100], bA [109, 97, 120]].getD k ByteArray.empty) ↔ opP (bsOf x) = k := by
 obtain ⟨l, hl⟩ : ∃ l, bsOf x = l := ⟨_, rfl⟩
 have e : x = bA l := by rw [← hl, bs_bA]
 subst e
 rw [bA_bs]
 have hk : k = 1 ∨ k = 2 ∨ k = 3 ∨ k = 4 ∨ k = 5 ∨ k = 6 := by omega
 have inj : ∀ m, bA l = bA m ↔ l = m := fun m => ⟨fun h => by have := congrArg bsOf h; rwa [bA_bs, bA_bs] at this, fun h => by rw [h]⟩
 rcases hk with rfl | rfl | rfl | rfl | rfl | rfl
 all_goals
  simp only [List.getD_cons_succ, List.getD_cons_zero, inj]
  refine ⟨fun h => by subst h; decide, fun h => ?_⟩
  unfold opP at h
  repeat' split at h
  all_goals first | assumption | (exfalso; revert h; decide)
theorem vals_cases (op : Int) : valsP op = 0 ∨ valsP op = 1 ∨ valsP op = 2 := by
 unfold valsP; split
 · exact .inl rfl
 split
 · exact .inr (.inr rfl)
 exact .inr (.inl rfl)
theorem call_len {op : Int} {ws : List ByteArray} (h : ws.length ≠ 3 + valsP op) : callP op ws = none := by
 unfold callP
 rcases ws with _ | ⟨c, _ | ⟨i, _ | ⟨k, vs⟩⟩⟩
 · rfl
 · rfl
 · rfl
 simp only
 split
 · rcases hm : vs.mapM valP with _ | l
   · rfl
   have hl := mapM_len _ _ hm
   simp only [List.length_cons] at h
   rcases vals_cases op with e | e | e
   all_goals
    rw [e] at h ⊢
    rcases l with _ | ⟨p, _ | ⟨q, _ | ⟨r, l⟩⟩⟩
    all_goals first | rfl | (simp only [List.length_cons, List.length_nil] at hl; omega)
 · rfl
set_option maxRecDepth 100000 in
set_option maxHeartbeats 1000000 in
theorem r_call (w : World) (hg : Glb w) (x0 : ByteArray) (ws : List ByteArray) (v : Value) (T : Nat → Prop)
  (hv : Sl w T 1 v (ws.length + 1) ((x0 :: ws).map Value.string)) (hT : ∀ g, T g → g < w.heap.size) (hsz : ∀ x ∈ ws, x.size ≤ 100000) (hlen : ws.length ≤ 100001) :
  Calls Tryz.prog 26 #[v] w (ReadOut w (if 0 < opP (bsOf x0) then callP (opP (bsOf x0)) ws else none) (.bool true) (.bool false)) := by
 obtain ⟨n, hn⟩ : ∃ n, ws.length = n := ⟨_, rfl⟩
 obtain ⟨A, cp, rfl⟩ : ∃ A cp, v = .slice A (ws.length + 1) cp := by obtain ⟨_, A, c, e, _⟩ := hv; exact ⟨A, c, e⟩
 rw [hn] at hv hlen ⊢
 obtain ⟨b, hb⟩ : ∃ b, w.heap.size = b := ⟨_, rfl⟩
 obtain ⟨g, off, rfl, hgb, hcell⟩ : ∃ g off, A = some ⟨g, off, none⟩ ∧ g < b ∧ ∀ (j : Nat) (u : Value), ((x0 :: ws).map Value.string)[j]? = some u → w.cell? ⟨g, off + j, none⟩ = some u := by
  obtain ⟨_, A', c', e, _, _, hx'⟩ := hv
  injection e with e1 _ e3; subst e1; subst e3
  obtain ⟨g, off, rfl, hg, hcell⟩ := hx' (by omega)
  exact ⟨g, off, rfl, by have := hT g hg; omega, hcell⟩
 have Hcell := Lib.hid hcell
 have Hn := Lib.hid hn
 have Hg := Lib.hid hg
 have Hsz := Lib.hid hsz
 clear hv hn hsz hT hg hcell
 obtain ⟨op, hop⟩ : ∃ op, opP (bsOf x0) = op := ⟨_, rfl⟩
 have hoc := opP_cases (bsOf x0)
 rw [hop] at hoc ⊢
 have Hop := Lib.hid hop
 clear hop
 obtain ⟨res, hres⟩ : ∃ res, (if 0 < op then callP op ws else none) = res := ⟨_, rfl⟩
 rw [hres]
 have Hres := Lib.hid hres
 clear hres
 go_enter Tryz.func26, Tryz.ntmps26
 go_upto_region 1 with fail
 obtain ⟨W2, hW2⟩ : ∃ W2, w.alloc (.cells #[.int .i64 0, .int .i64 0, .int .i64 0, .int .i64 0, .int .i64 0, .int .i64 0, .string ⟨#[]⟩, .int .i64 0, .float .f64 0, .string ⟨#[]⟩, .int .i64 0, .float .f64 0, .string ⟨#[]⟩, .int .i64 0, .int .i64 0, .int .i64 0, .int .i64 0, .slice none 0 0] 31) = W2 := ⟨_, rfl⟩
 have hE2 : Ext w W2 := hW2 ▸ ((Mod.refl _ w).alloc _)
 have hr2 : W2.heap[b]? = some (.cells (AAct.zero.cells (.slice none 0 0)).toArray 31 (0, 0)) := hb ▸ hW2 ▸ heap_new _ _
 rw [hW2]
 clear hW2
 have hs2 := (Array.getElem?_eq_some_iff.1 hr2).1
 have HE2 := Lib.hid hE2
 have Hr2 := Lib.hid hr2
 clear hE2 hr2
 go_wp2
 go_loopw [4] (fun iv wr => ∃ (k : Nat), iv = .int .i64 k ∧ 1 ≤ k ∧ k ≤ 7 ∧ (op ≤ 0 ∨ (k : Int) ≤ op) ∧ Ext W2 wr) (fun iv _ => 7 - (intOf iv).toNat)
 case atStart => exact ⟨1, rfl, by omega, by omega, by omega, Mod.refl _ _⟩
 case round =>
  obtain ⟨k, rfl, hk1, hk7, hkop, hE⟩ := hrel
  have HE := Lib.hid hE
  clear hE
  by_cases hlt : k < 7
  · go_upto_region 4 with (go_at_call 37; refine (c_ops _).mono ?_; rintro e w3 ⟨cb, rfl, hC, hE3⟩; clear hC)
    have HE3 := Lib.hid (HE.out.ext hE3)
    clear hE3
    have hx0 : w3.cell? ⟨g, off, none⟩ = some (.string x0) := (HE2.out.ext HE3.out).cell (p := ⟨g, off, none⟩) (Hcell.out 0 _ rfl) id
    have hoe := op_eq x0 k hk1 (by omega)
    rw [Hop.out] at hoe
    obtain ⟨z, hz⟩ : ∃ z, [bA [], bA [103, 101, 116], bA [112, 117, 116], bA [100, 101, 108], bA [99, 97, 115], bA [97, 100, 100], bA [109, 97, 120]].getD k ByteArray.empty = z := ⟨_, rfl⟩
    rw [hz] at hoe
    have Hoe := Lib.hid hoe
    have Hz := Lib.hid hz
    clear hoe hz
    go_cut [29] (fun s29 wx => s29 = .bool (!(x0.toList == z.toList)) ∧ Ext w3 wx)
    case first =>
     go_region_with ((go_at_call 37; refine (c_ops _).mono ?_; rintro e w5 ⟨cb2, rfl, hC2, hE5⟩; have hk5 : w5.cell? ⟨g, off, none⟩ = some (.string x0) := hE5.cell (p := ⟨g, off, none⟩) hx0 id; have hck : w5.cell? ⟨cb2, k, none⟩ = some (.string z) := (by have h := hC2 k (by omega); rw [Nat.zero_add] at h; rw [h, Hz.out]); clear hC2))
     all_goals
      go_wp2_with fail
      go_meet
      exact ⟨rfl, ((Mod.refl _ w3).drew).ext hE5⟩
    case rest =>
     obtain ⟨rfl, hX⟩ := hcut
     have HE5 := Lib.hid (HE3.out.ext hX)
     clear hX hx0
     by_cases hxz : x0 = z
     · have hopk : op = k := Hoe.out.1 hxz
       subst hxz
       rw [show (!(x0.toList == x0.toList)) = false by simp]
       have Hres2 : Hid (callP op ws = res) := Lib.hid (by rw [← Hres.out, if_pos (by omega)])
       obtain ⟨q, hq⟩ : ∃ q, valsP op = q := ⟨_, rfl⟩
       have hvl := fun W => r_values op W
       rw [hq, hopk] at hvl
       have hvc := vals_cases op
       rw [hq] at hvc
       have Hq := Lib.hid hq
       have HVC := Lib.hid hvc
       have hq2 : q ≤ 2 := by omega
       clear hq Hoe Hz Hop hvc
       have Hopk := Lib.hid hopk
       clear hopk hoc hkop
       go_upto_region 6 with (go_at_call 39; refine (hvl _).mono ?_; rintro e w6 ⟨rfl, h6⟩; rw [h6]; clear h6)
       clear hvl
       by_cases hnq : n + 1 ≠ 4 + q
       · have Ho : Hid (res = none) := Lib.hid (by rw [← Hres2.out]; exact call_len (by rw [Hn.out, Hq.out]; omega))
         have dn : (((n : Int) + 1) != 4 + (q : Int)) = true := by simp; omega
         have hr5 := HE5.out.blk Hr2.out id
         have HX5 := Lib.hid (Ext.mod (HE2.out.ext HE5.out) (Since w.heap.size))
         clear hnq
         go_wp2_with (refine wpList_stR rfl 31 _ _ rfl 18 b 0 (AAct.cells AAct.zero (.slice none 0 0)) rfl rfl str_act _ _ (AAct.cells AAct.zero (.slice none 0 0)) hr5 rfl (by simp) (by simp [Value.oneCell']) rfl ?_; intro w8 hb8 hm8 hs8)
         exact bodyPost_ret (results_row2 rfl _ _ b 31 (AAct.cells AAct.zero (.slice none 0 0)) str_act rfl hb8 rfl) rfl ⟨none, 0, 0, by rw [Ho.out]; rfl, by rw [Ho.out]; exact Sl.nil _ _ _, Mod.toExt (Mod.trans HX5.out hm8 (fun k hk e => by unfold Since; omega))⟩
       have dn : (((n : Int) + 1) != 4 + (q : Int)) = false := by simp; omega
       have hn3b : 3 ≤ n := by omega
       have Hn3 : Hid (n = 3 + q) := Lib.hid (by omega)
       obtain ⟨cw, iw, nw, vs, hwse⟩ : ∃ cw iw nw vs, ws = cw :: iw :: nw :: vs := by
        have h := Hn.out
        rcases ws with _ | ⟨c, _ | ⟨i, _ | ⟨k, vs⟩⟩⟩
        all_goals simp only [List.length_cons, List.length_nil] at h
        · omega
        · omega
        · omega
        exact ⟨c, i, k, vs, rfl⟩
       have hvs : vs.length = q := by have h := Hn.out; rw [hwse] at h; simp only [List.length_cons] at h; omega
       have hwc : ∀ j u, (cw :: iw :: nw :: vs)[j]? = some u → wc.cell? ⟨g, off + (j + 1), none⟩ = some (.string u) := by
        intro j u hu
        exact (HE2.out.ext HE5.out).cell (p := ⟨g, off + (j + 1), none⟩) (Hcell.out (j + 1) _ (by rw [hwse]; show ((cw :: iw :: nw :: vs).map Value.string)[j]? = _; rw [List.getElem?_map, hu]; rfl)) id
       have hxz : ∀ x ∈ (cw :: iw :: nw :: vs), x.size ≤ 100000 := by rw [← hwse]; exact Hsz.out
       have Hwc := Lib.hid hwc
       have Hxz := Lib.hid hxz
       rw [hwse] at Hres2
       have Hvs := Lib.hid hvs
       have hG5 := Lib.hid (Hg.out.ext (HE2.out.ext HE5.out))
       have hr5 := Lib.hid (HE5.out.blk Hr2.out id)
       have HX5 := Lib.hid (HE2.out.ext HE5.out)
       clear hwc hxz hvs hwse hnq Hsz Hres Hcell HE HE3 HE5 Hr2 HE2
       obtain ⟨W5, hW5⟩ : ∃ W5, W5 = wc := ⟨_, rfl⟩
       subst hW5
       have k1 : W5.cell? ⟨g, off + 1, none⟩ = some (.string cw) := Hwc.out 0 _ rfl
       have n1 := r_num cw W5 hG5.out (Hxz.out cw (by simp))
       go_upto_region 8 with fail
       clear dn
       go_upto_region 9 with (go_at_call 51; refine n1.mono ?_; rintro e w6 ⟨rfl, hE6⟩)
       have k2 : w6.cell? ⟨g, off + 2, none⟩ = some (.string iw) := hE6.cell (p := ⟨g, off + 2, none⟩) (Hwc.out 1 _ rfl) id
       have n2 := r_num iw w6 (hG5.out.ext hE6) (Hxz.out iw (by simp))
       have HE6 := Lib.hid hE6
       clear hE6 n1 k1
       go_upto_region 10 with (go_at_call 51; refine n2.mono ?_; rintro e w7 ⟨rfl, hE7⟩)
       have k3 : w7.cell? ⟨g, off + 3, none⟩ = some (.string nw) := (HE6.out.ext hE7).cell (p := ⟨g, off + 3, none⟩) (Hwc.out 2 _ rfl) id
       have n3 := r_key nw w7 (Hxz.out nw (by simp))
       have HE7 := Lib.hid (HE6.out.ext hE7)
       clear hE7 n2 k2 HE6
       go_upto_region 11 with (go_at_call 52; refine n3.mono ?_; rintro e w9 ⟨rfl, hE9⟩)
       have HX9 := Lib.hid (HX5.out.ext (HE7.out.ext hE9))
       have HE9 := Lib.hid (HE7.out.ext hE9)
       have hr9 := HE9.out.blk hr5.out id
       clear hE9 n3 k3 HE7
       rcases hcn : numW cw with _ | cn
       · have Ho : Hid (res = none) := Lib.hid (by rw [← Hres2.out]; unfold callP; simp only [hcn])
         have HX9m := Lib.hid (Ext.mod HX9.out (Since w.heap.size))
         obtain ⟨u1, hu1⟩ : ∃ u, (numW iw).getD 0 = u := ⟨_, rfl⟩
         obtain ⟨u2, hu2⟩ : ∃ u, (numW iw).isSome = u := ⟨_, rfl⟩
         obtain ⟨u3, hu3⟩ : ∃ u, (keyP nw).getD ⟨#[]⟩ = u := ⟨_, rfl⟩
         obtain ⟨u4, hu4⟩ : ∃ u, (keyP nw).isSome = u := ⟨_, rfl⟩
         rw [hu1, hu2, hu3, hu4]
         simp only [Option.getD_none, Option.isSome_none]
         clear hu1 hu2 hu3 hu4 hcn
         go_wp2_with (refine wpList_stR rfl 31 _ _ rfl 18 b 0 (AAct.cells AAct.zero (.slice none 0 0)) rfl rfl str_act _ _ (AAct.cells AAct.zero (.slice none 0 0)) hr9 rfl (by simp) (by simp [Value.oneCell']) rfl ?_; intro w8 hb8 hm8 hs8)
         exact bodyPost_ret (results_row2 rfl _ _ b 31 (AAct.cells AAct.zero (.slice none 0 0)) str_act rfl hb8 rfl) rfl ⟨none, 0, 0, by rw [Ho.out]; rfl, by rw [Ho.out]; exact Sl.nil _ _ _, Mod.toExt (Mod.trans HX9m.out hm8 (fun k hk e => by unfold Since; omega))⟩
       rcases hin : numW iw with _ | inn
       · have Ho : Hid (res = none) := Lib.hid (by rw [← Hres2.out]; unfold callP; simp only [hcn, hin])
         have HX9m := Lib.hid (Ext.mod HX9.out (Since w.heap.size))
         obtain ⟨u3, hu3⟩ : ∃ u, (keyP nw).getD ⟨#[]⟩ = u := ⟨_, rfl⟩
         obtain ⟨u4, hu4⟩ : ∃ u, (keyP nw).isSome = u := ⟨_, rfl⟩
         rw [hu3, hu4]
         simp only [Option.getD_none, Option.isSome_none, Option.getD_some, Option.isSome_some]
         clear hu3 hu4 hcn hin
         go_wp2_with (refine wpList_stR rfl 31 _ _ rfl 18 b 0 (AAct.cells AAct.zero (.slice none 0 0)) rfl rfl str_act _ _ (AAct.cells AAct.zero (.slice none 0 0)) hr9 rfl (by simp) (by simp [Value.oneCell']) rfl ?_; intro w8 hb8 hm8 hs8)
         exact bodyPost_ret (results_row2 rfl _ _ b 31 (AAct.cells AAct.zero (.slice none 0 0)) str_act rfl hb8 rfl) rfl ⟨none, 0, 0, by rw [Ho.out]; rfl, by rw [Ho.out]; exact Sl.nil _ _ _, Mod.toExt (Mod.trans HX9m.out hm8 (fun k hk e => by unfold Since; omega))⟩
       rcases hkn : keyP nw with _ | ky
       · have Ho : Hid (res = none) := Lib.hid (by rw [← Hres2.out]; unfold callP; simp only [hcn, hin, hkn])
         have HX9m := Lib.hid (Ext.mod HX9.out (Since w.heap.size))
         simp only [Option.getD_none, Option.isSome_none, Option.getD_some, Option.isSome_some]
         clear hcn hin hkn
         go_wp2_with (refine wpList_stR rfl 31 _ _ rfl 18 b 0 (AAct.cells AAct.zero (.slice none 0 0)) rfl rfl str_act _ _ (AAct.cells AAct.zero (.slice none 0 0)) hr9 rfl (by simp) (by simp [Value.oneCell']) rfl ?_; intro w8 hb8 hm8 hs8)
         exact bodyPost_ret (results_row2 rfl _ _ b 31 (AAct.cells AAct.zero (.slice none 0 0)) str_act rfl hb8 rfl) rfl ⟨none, 0, 0, by rw [Ho.out]; rfl, by rw [Ho.out]; exact Sl.nil _ _ _, Mod.toExt (Mod.trans HX9m.out hm8 (fun k hk e => by unfold Since; omega))⟩
       simp only [Option.getD_some, Option.isSome_some]
       have Hres3 : Hid (res = match vs.mapM valP, valsP op with
       | some [], 0 => some { AAct.zero with kind := 10, client := cn, node := inn, cmd := ⟨op, ky, AVal.zero, AVal.zero⟩ }
       | some [v], 1 => some { AAct.zero with kind := 10, client := cn, node := inn, cmd := ⟨op, ky, AVal.zero, v⟩ }
       | some [o, v], 2 => some { AAct.zero with kind := 10, client := cn, node := inn, cmd := ⟨op, ky, o, v⟩ }
       | _, _ => none) := Lib.hid (by rw [← Hres2.out]; unfold callP; simp only [hcn, hin, hkn]; rfl)
       clear hcn hin hkn
       have hr9' := Lib.hid hr9
       clear hr9
       obtain ⟨a0, ha0⟩ : ∃ a0 : AAct, { AAct.zero with kind := 10, client := cn, node := inn, cmd := ⟨(k : Int), ky, AVal.zero, AVal.zero⟩ } = a0 := ⟨_, rfl⟩
       have Ha0 := Lib.hid ha0
       obtain ⟨ab, hab⟩ : ∃ ab, w9.heap.size = ab := ⟨_, rfl⟩
       have hn3 : (w9.alloc (.cells (AAct.zero.cells (.slice none 0 0)).toArray 31)).heap[ab]? = some (.cells (AAct.zero.cells (.slice none 0 0)).toArray 31 (0, 0)) := hab ▸ heap_new w9 _
       go_upto_region 14 with (refine wpList_stR rfl 31 _ _ rfl 18 ab 0 (AAct.cells { AAct.zero with kind := 10, client := cn, node := inn, cmd := ⟨(k : Int), ky, AVal.zero, AVal.zero⟩ } (.slice none 0 0)) rfl rfl str_act _ _ (AAct.cells { AAct.zero with kind := 10, client := cn, node := inn, cmd := ⟨(k : Int), ky, AVal.zero, AVal.zero⟩ } (.slice none 0 0)) hn3 rfl (by simp) (by simp [Value.oneCell']) rfl ?_; intro W4 ha4 hm4 hs4)
       rw [ha0] at ha4
       have hX4 : Ext w9 W4 := Mod.toExt (((Mod.refl (Since w9.heap.size) w9).alloc _).trans hm4 (fun k hk e => by unfold Since; omega))
       have Ha4 := Lib.hid ha4
       have Hr4 := Lib.hid (hX4.blk hr9'.out id)
       have HX4 := Lib.hid (HX9.out.ext hX4)
       have HE4 := Lib.hid (HE9.out.ext hX4)
       have hbab : b < ab := by rw [← hab]; exact (Array.getElem?_eq_some_iff.1 hr9'.out).1
       have hs5 := HX4.out.size
       clear ha4 hX4 hm4 hs4 hn3 ha0 hr9' hr5 HX9
       go_wp2
       have hb9 : 9 ≤ b := by have := Hg.out.size; omega
       rcases HVC.out with e | e | e
       all_goals subst e
       · obtain rfl : vs = [] := List.eq_nil_of_length_eq_zero Hvs.out
         go_loopw [13] (fun iv wr => ∃ (j : Nat) (a' : AAct), iv = .int .i64 j ∧ wr.heap[ab]? = some (.cells (a'.cells (.slice none 0 0)).toArray 31 (0, 0)) ∧ wr.heap[b]? = some (.cells (AAct.zero.cells (.slice none 0 0)).toArray 31 (0, 0)) ∧ Mod (fun k => b ≤ k) W5 wr ∧ (j = 0 ∧ a' = a0)) (fun iv _ => 2 - (intOf iv).toNat)
         case atStart => exact ⟨0, a0, rfl, Ha4.out, Hr4.out, Ext.mod HE4.out _, ⟨rfl, rfl⟩⟩
         case round =>
          obtain ⟨j, a', rfl, ha, hr, hM, hst⟩ := hrel
          have Ha := Lib.hid ha
          have Hr := Lib.hid hr
          have HM := Lib.hid hM
          clear ha hr hM
          obtain ⟨rfl, hae⟩ := hst
          obtain ⟨a1, ha1⟩ : ∃ a1, a' = a1 := ⟨_, rfl⟩
          have Ho : Hid (res = some a1) := Lib.hid (by rw [Hres3.out, Hq.out, Hopk.out, ← ha1, hae, ← Ha0.out]; rfl)
          rw [hae] at ha1 Ha
          clear hae
          have hbb : a1.bytes = [] := by rw [← ha1, ← Ha0.out]; rfl
          have Hbb := Lib.hid hbb
          have HXf := Lib.hid ((Ext.mod HX5.out (Since w.heap.size)).trans HM.out (fun k hk e => by unfold Since; omega))
          rw [ha1] at Ha
          clear hbb ha1
          go_wp2_with (first
            | (refine wpList_ld rfl 31 _ rfl (.pointer (some ⟨ab, 0, none⟩)) (.agg (a1.cells (.slice none 0 0)).toArray) rfl (load_row (o := 0) str_act Ha.out rfl (fun j u hu => by rw [Nat.zero_add]; exact hu)) ?_)
            | (refine wpList_stR rfl 31 _ _ rfl 18 b 0 (a1.cells (.slice none 0 0)) rfl rfl str_act _ _ (a1.cells (.slice none 0 0)) Hr.out rfl (by simp) (by simp [Value.oneCell']) rfl ?_; intro w8 hb8 hm8 hs8))
          exact bodyPost_ret (results_row2 rfl _ _ b 31 (a1.cells (.slice none 0 0)) str_act rfl hb8 rfl) rfl ⟨none, 0, 0, by rw [Ho.out]; rfl, by rw [Ho.out]; show Byt _ _ _ a1.bytes; rw [Hbb.out]; exact Sl.nil _ _ _, Mod.toExt (Mod.trans HXf.out hm8 (fun k hk e => by unfold Since; omega))⟩
       · obtain ⟨v0, rfl⟩ : ∃ v0, vs = [v0] := by
          have h := Hvs.out
          rcases vs with _ | ⟨x, _ | ⟨y, r⟩⟩
          all_goals simp at h
          exact ⟨x, rfl⟩
         have hn4 : 4 ≤ n := by have := Hn3.out; omega
         go_loopw [13] (fun iv wr => ∃ (j : Nat) (a' : AAct), iv = .int .i64 j ∧ wr.heap[ab]? = some (.cells (a'.cells (.slice none 0 0)).toArray 31 (0, 0)) ∧ wr.heap[b]? = some (.cells (AAct.zero.cells (.slice none 0 0)).toArray 31 (0, 0)) ∧ Mod (fun k => b ≤ k) W5 wr ∧ ((j = 0 ∧ a' = a0) ∨ (j = 1 ∧ ∃ v, valP v0 = some v ∧ a' = { a0 with cmd := { a0.cmd with val := v } }))) (fun iv _ => 2 - (intOf iv).toNat)
         case atStart => exact ⟨0, a0, rfl, Ha4.out, Hr4.out, Ext.mod HE4.out _, .inl ⟨rfl, rfl⟩⟩
         case round =>
          obtain ⟨j, a', rfl, ha, hr, hM, hst⟩ := hrel
          have Ha := Lib.hid ha
          have Hr := Lib.hid hr
          have HM := Lib.hid hM
          clear ha hr hM
          rcases hst with ⟨rfl, hae⟩ | ⟨rfl, o2, hv1, hae⟩
          · rw [hae] at Ha
            clear hae
            have kx : wr.cell? ⟨g, off + 4, none⟩ = some (.string v0) := HM.out.cell (p := ⟨g, off + 4, none⟩) (Hwc.out 3 _ rfl) (by show ¬ b ≤ g; omega)
            have hp := r_vparse v0 wr (hG5.out.mod HM.out (by intro k hk e; omega)) (Hxz.out v0 (by simp))
            go_wp2_with fail
            refine hp.mono ?_
            rintro e w6 ⟨he, hE6⟩
            have ha6 := hE6.blk Ha.out id
            have hr6 := hE6.blk Hr.out id
            have HM6 := Lib.hid (HM.out.trans hE6 (fun _ _ h => h.elim))
            clear hE6 hp kx
            rcases hv : valP v0 with _ | vv
            · rw [hv] at he
              subst he
              have Ho : Hid (res = none) := Lib.hid (by rw [Hres3.out, List.mapM_cons, hv]; rfl)
              have HXn : ∀ o, Mod (Since w.heap.size) w (w6.alloc o) := fun o => ((Ext.mod HX5.out (Since w.heap.size)).trans HM6.out (fun k hk e => by unfold Since; omega)).alloc o
              clear hv ha6
              go_wp2_with (refine wpList_stR rfl 31 _ _ rfl 18 b 0 (AAct.cells AAct.zero (.slice none 0 0)) rfl rfl str_act _ _ (AAct.cells AAct.zero (.slice none 0 0)) (((Mod.refl (fun _ => False) w6).alloc _).blk hr6 id) rfl (by simp) (by simp [Value.oneCell']) rfl ?_; intro w8 hb8 hm8 hs8)
              exact bodyPost_ret (results_row2 rfl _ _ b 31 (AAct.cells AAct.zero (.slice none 0 0)) str_act rfl hb8 rfl) rfl ⟨none, 0, 0, by rw [Ho.out]; rfl, by rw [Ho.out]; exact Sl.nil _ _ _, Mod.toExt (Mod.trans (HXn _) hm8 (fun k hk e => by unfold Since; omega))⟩
            rw [hv] at he
            have hvv := Lib.hid hv
            clear hv
            subst he
            obtain ⟨vk, vx, vt⟩ := vv
            simp only
            go_wp2_with (refine wpList_stR rfl 24 _ _ rfl 3 ab 10 [.int .i64 vk, .float .f64 vx, .string vt] rfl rfl str_val _ _ (AAct.cells { a0 with cmd := { a0.cmd with val := ⟨vk, vx, vt⟩ } } (.slice none 0 0)) (((Mod.refl (fun _ => False) w6).alloc _).blk ha6 id) rfl (by simp) (by simp [Value.oneCell']) rfl ?_; intro w8 hb8 hm8 hs8; have HB8 := Lib.hid hb8; have HR8 := Lib.hid (hm8.blk (((Mod.refl (fun _ => False) w6).alloc _).blk hr6 id) (by omega)); have HM8 := Lib.hid ((HM6.out.alloc _).trans hm8 (fun k hk e => by omega)); clear hb8 hm8 hs8 ha6 hr6)
            first
              | exact ⟨⟨1, _, rfl, HB8.out, HR8.out, HM8.out, .inr ⟨rfl, ⟨vk, vx, vt⟩, hvv.out, rfl⟩⟩, by simp [intOf] <;> omega⟩
              | exact ⟨⟨1, rfl, _, HB8.out, HR8.out, HM8.out, .inr ⟨rfl, ⟨vk, vx, vt⟩, hvv.out, rfl⟩⟩, by simp [intOf] <;> omega⟩
          rw [hae] at Ha
          clear hae
          have hv1 := Lib.hid hv1
          obtain ⟨a1, ha1⟩ : ∃ a1, ({ a0 with cmd := { a0.cmd with val := o2 } } : AAct) = a1 := ⟨_, rfl⟩
          have Ho : Hid (res = some a1) := Lib.hid (by rw [Hres3.out, Hq.out, Hopk.out, ← ha1, ← Ha0.out, List.mapM_cons, hv1.out]; rfl)
          have hbb : a1.bytes = [] := by rw [← ha1, ← Ha0.out]; rfl
          have Hbb := Lib.hid hbb
          have HXf := Lib.hid ((Ext.mod HX5.out (Since w.heap.size)).trans HM.out (fun k hk e => by unfold Since; omega))
          rw [ha1] at Ha
          clear hbb ha1
          go_wp2_with (first
            | (refine wpList_ld rfl 31 _ rfl (.pointer (some ⟨ab, 0, none⟩)) (.agg (a1.cells (.slice none 0 0)).toArray) rfl (load_row (o := 0) str_act Ha.out rfl (fun j u hu => by rw [Nat.zero_add]; exact hu)) ?_)
            | (refine wpList_stR rfl 31 _ _ rfl 18 b 0 (a1.cells (.slice none 0 0)) rfl rfl str_act _ _ (a1.cells (.slice none 0 0)) Hr.out rfl (by simp) (by simp [Value.oneCell']) rfl ?_; intro w8 hb8 hm8 hs8))
          exact bodyPost_ret (results_row2 rfl _ _ b 31 (a1.cells (.slice none 0 0)) str_act rfl hb8 rfl) rfl ⟨none, 0, 0, by rw [Ho.out]; rfl, by rw [Ho.out]; show Byt _ _ _ a1.bytes; rw [Hbb.out]; exact Sl.nil _ _ _, Mod.toExt (Mod.trans HXf.out hm8 (fun k hk e => by unfold Since; omega))⟩
       · obtain ⟨v0, v1, rfl⟩ : ∃ v0 v1, vs = [v0, v1] := by
          have h := Hvs.out
          rcases vs with _ | ⟨x, _ | ⟨y, _ | ⟨z, r⟩⟩⟩
          all_goals simp at h
          exact ⟨x, y, rfl⟩
         have hn5 : 5 ≤ n := by have := Hn3.out; omega
         go_loopw [13] (fun iv wr => ∃ (j : Nat) (a' : AAct), iv = .int .i64 j ∧ wr.heap[ab]? = some (.cells (a'.cells (.slice none 0 0)).toArray 31 (0, 0)) ∧ wr.heap[b]? = some (.cells (AAct.zero.cells (.slice none 0 0)).toArray 31 (0, 0)) ∧ Mod (fun k => b ≤ k) W5 wr ∧ ((j = 0 ∧ a' = a0) ∨ (j = 1 ∧ ∃ o, valP v0 = some o ∧ a' = { a0 with cmd := { a0.cmd with old := o } }) ∨ (j = 2 ∧ ∃ o v, valP v0 = some o ∧ valP v1 = some v ∧ a' = { a0 with cmd := { a0.cmd with old := o, val := v } }))) (fun iv _ => 2 - (intOf iv).toNat)
         case atStart => exact ⟨0, a0, rfl, Ha4.out, Hr4.out, Ext.mod HE4.out _, .inl ⟨rfl, rfl⟩⟩
         case round =>
          obtain ⟨j, a', rfl, ha, hr, hM, hst⟩ := hrel
          have Ha := Lib.hid ha
          have Hr := Lib.hid hr
          have HM := Lib.hid hM
          clear ha hr hM
          rcases hst with ⟨rfl, hae⟩ | ⟨rfl, o1, hv0', hae⟩ | ⟨rfl, o1, o2, hv0, hv1, hae⟩
          · rw [hae] at Ha
            clear hae
            have kx : wr.cell? ⟨g, off + 4, none⟩ = some (.string v0) := HM.out.cell (p := ⟨g, off + 4, none⟩) (Hwc.out 3 _ rfl) (by show ¬ b ≤ g; omega)
            have hp := r_vparse v0 wr (hG5.out.mod HM.out (by intro k hk e; omega)) (Hxz.out v0 (by simp))
            go_wp2_with fail
            refine hp.mono ?_
            rintro e w6 ⟨he, hE6⟩
            have ha6 := hE6.blk Ha.out id
            have hr6 := hE6.blk Hr.out id
            have HM6 := Lib.hid (HM.out.trans hE6 (fun _ _ h => h.elim))
            clear hE6 hp kx
            rcases hv : valP v0 with _ | vv
            · rw [hv] at he
              subst he
              have Ho : Hid (res = none) := Lib.hid (by rw [Hres3.out, List.mapM_cons, hv]; rfl)
              have HXn : ∀ o, Mod (Since w.heap.size) w (w6.alloc o) := fun o => ((Ext.mod HX5.out (Since w.heap.size)).trans HM6.out (fun k hk e => by unfold Since; omega)).alloc o
              clear hv ha6
              go_wp2_with (refine wpList_stR rfl 31 _ _ rfl 18 b 0 (AAct.cells AAct.zero (.slice none 0 0)) rfl rfl str_act _ _ (AAct.cells AAct.zero (.slice none 0 0)) (((Mod.refl (fun _ => False) w6).alloc _).blk hr6 id) rfl (by simp) (by simp [Value.oneCell']) rfl ?_; intro w8 hb8 hm8 hs8)
              exact bodyPost_ret (results_row2 rfl _ _ b 31 (AAct.cells AAct.zero (.slice none 0 0)) str_act rfl hb8 rfl) rfl ⟨none, 0, 0, by rw [Ho.out]; rfl, by rw [Ho.out]; exact Sl.nil _ _ _, Mod.toExt (Mod.trans (HXn _) hm8 (fun k hk e => by unfold Since; omega))⟩
            rw [hv] at he
            have hvv := Lib.hid hv
            clear hv
            subst he
            obtain ⟨vk, vx, vt⟩ := vv
            simp only
            go_wp2_with (refine wpList_stR rfl 24 _ _ rfl 3 ab 7 [.int .i64 vk, .float .f64 vx, .string vt] rfl rfl str_val _ _ (AAct.cells { a0 with cmd := { a0.cmd with old := ⟨vk, vx, vt⟩ } } (.slice none 0 0)) (((Mod.refl (fun _ => False) w6).alloc _).blk ha6 id) rfl (by simp) (by simp [Value.oneCell']) rfl ?_; intro w8 hb8 hm8 hs8; have HB8 := Lib.hid hb8; have HR8 := Lib.hid (hm8.blk (((Mod.refl (fun _ => False) w6).alloc _).blk hr6 id) (by omega)); have HM8 := Lib.hid ((HM6.out.alloc _).trans hm8 (fun k hk e => by omega)); clear hb8 hm8 hs8 ha6 hr6)
            first
              | exact ⟨⟨1, _, rfl, HB8.out, HR8.out, HM8.out, .inr (.inl ⟨rfl, ⟨vk, vx, vt⟩, hvv.out, rfl⟩)⟩, by simp [intOf] <;> omega⟩
              | exact ⟨⟨1, rfl, _, HB8.out, HR8.out, HM8.out, .inr (.inl ⟨rfl, ⟨vk, vx, vt⟩, hvv.out, rfl⟩)⟩, by simp [intOf] <;> omega⟩
          · rw [hae] at Ha
            clear hae
            have hv0 := Lib.hid hv0'
            clear hv0'
            have kx : wr.cell? ⟨g, off + 5, none⟩ = some (.string v1) := HM.out.cell (p := ⟨g, off + 5, none⟩) (Hwc.out 4 _ rfl) (by show ¬ b ≤ g; omega)
            have hp := r_vparse v1 wr (hG5.out.mod HM.out (by intro k hk e; omega)) (Hxz.out v1 (by simp))
            go_wp2_with fail
            refine hp.mono ?_
            rintro e w6 ⟨he, hE6⟩
            have ha6 := hE6.blk Ha.out id
            have hr6 := hE6.blk Hr.out id
            have HM6 := Lib.hid (HM.out.trans hE6 (fun _ _ h => h.elim))
            clear hE6 hp kx
            rcases hv : valP v1 with _ | vv
            · rw [hv] at he
              subst he
              have Ho : Hid (res = none) := Lib.hid (by rw [Hres3.out, List.mapM_cons, List.mapM_cons, hv0.out, hv]; rfl)
              have HXn : ∀ o, Mod (Since w.heap.size) w (w6.alloc o) := fun o => ((Ext.mod HX5.out (Since w.heap.size)).trans HM6.out (fun k hk e => by unfold Since; omega)).alloc o
              clear hv ha6
              go_wp2_with (refine wpList_stR rfl 31 _ _ rfl 18 b 0 (AAct.cells AAct.zero (.slice none 0 0)) rfl rfl str_act _ _ (AAct.cells AAct.zero (.slice none 0 0)) (((Mod.refl (fun _ => False) w6).alloc _).blk hr6 id) rfl (by simp) (by simp [Value.oneCell']) rfl ?_; intro w8 hb8 hm8 hs8)
              exact bodyPost_ret (results_row2 rfl _ _ b 31 (AAct.cells AAct.zero (.slice none 0 0)) str_act rfl hb8 rfl) rfl ⟨none, 0, 0, by rw [Ho.out]; rfl, by rw [Ho.out]; exact Sl.nil _ _ _, Mod.toExt (Mod.trans (HXn _) hm8 (fun k hk e => by unfold Since; omega))⟩
            rw [hv] at he
            have hvv := Lib.hid hv
            clear hv
            subst he
            obtain ⟨vk, vx, vt⟩ := vv
            simp only
            go_wp2_with (refine wpList_stR rfl 24 _ _ rfl 3 ab 10 [.int .i64 vk, .float .f64 vx, .string vt] rfl rfl str_val _ _ (AAct.cells { a0 with cmd := { a0.cmd with old := o1, val := ⟨vk, vx, vt⟩ } } (.slice none 0 0)) (((Mod.refl (fun _ => False) w6).alloc _).blk ha6 id) rfl (by simp) (by simp [Value.oneCell']) rfl ?_; intro w8 hb8 hm8 hs8; have HB8 := Lib.hid hb8; have HR8 := Lib.hid (hm8.blk (((Mod.refl (fun _ => False) w6).alloc _).blk hr6 id) (by omega)); have HM8 := Lib.hid ((HM6.out.alloc _).trans hm8 (fun k hk e => by omega)); clear hb8 hm8 hs8 ha6 hr6)
            first
              | exact ⟨⟨2, _, rfl, HB8.out, HR8.out, HM8.out, .inr (.inr ⟨rfl, o1, hv0.out, ⟨vk, vx, vt⟩, hvv.out, rfl⟩)⟩, by simp [intOf] <;> omega⟩
              | exact ⟨⟨2, rfl, _, HB8.out, HR8.out, HM8.out, .inr (.inr ⟨rfl, o1, hv0.out, ⟨vk, vx, vt⟩, hvv.out, rfl⟩)⟩, by simp [intOf] <;> omega⟩
          rw [hae] at Ha
          clear hae
          have hv0 := Lib.hid hv0
          have hv1 := Lib.hid hv1
          obtain ⟨a1, ha1⟩ : ∃ a1, ({ a0 with cmd := { a0.cmd with old := o1, val := o2 } } : AAct) = a1 := ⟨_, rfl⟩
          have Ho : Hid (res = some a1) := Lib.hid (by rw [Hres3.out, Hq.out, Hopk.out, ← ha1, ← Ha0.out, List.mapM_cons, List.mapM_cons, hv0.out, hv1.out]; rfl)
          have hbb : a1.bytes = [] := by rw [← ha1, ← Ha0.out]; rfl
          have Hbb := Lib.hid hbb
          have HXf := Lib.hid ((Ext.mod HX5.out (Since w.heap.size)).trans HM.out (fun k hk e => by unfold Since; omega))
          rw [ha1] at Ha
          clear hbb ha1
          go_wp2_with (first
            | (refine wpList_ld rfl 31 _ rfl (.pointer (some ⟨ab, 0, none⟩)) (.agg (a1.cells (.slice none 0 0)).toArray) rfl (load_row (o := 0) str_act Ha.out rfl (fun j u hu => by rw [Nat.zero_add]; exact hu)) ?_)
            | (refine wpList_stR rfl 31 _ _ rfl 18 b 0 (a1.cells (.slice none 0 0)) rfl rfl str_act _ _ (a1.cells (.slice none 0 0)) Hr.out rfl (by simp) (by simp [Value.oneCell']) rfl ?_; intro w8 hb8 hm8 hs8))
          exact bodyPost_ret (results_row2 rfl _ _ b 31 (a1.cells (.slice none 0 0)) str_act rfl hb8 rfl) rfl ⟨none, 0, 0, by rw [Ho.out]; rfl, by rw [Ho.out]; show Byt _ _ _ a1.bytes; rw [Hbb.out]; exact Sl.nil _ _ _, Mod.toExt (Mod.trans HXf.out hm8 (fun k hk e => by unfold Since; omega))⟩
     have hopk : op ≠ k := fun e => hxz (Hoe.out.2 e)
     have hd := bs_ne hxz
     rw [show (!(x0.toList == z.toList)) = true by rw [hd]; rfl]
     clear hd
     have Hopk := Lib.hid hopk
     have hkop2 : op ≤ 0 ∨ ((k + 1 : Nat) : Int) ≤ op := by omega
     clear hxz Hoe Hz hopk hoc
     go_wp2
     exact ⟨⟨k + 1, by push_cast; rfl, by omega, by omega, hkop2, HE5.out⟩, by simp [intOf] <;> omega⟩
  obtain rfl : k = 7 := by omega
  have Ho : Hid (res = none) := Lib.hid (by rw [← Hres.out, if_neg]; omega)
  clear hoc hkop
  go_upto_region 24 with (go_at_call 37; refine (c_ops _).mono ?_; rintro e w3 ⟨cb, rfl, hC, hE3⟩; clear hC)
  have hr3 := (HE.out.ext hE3).blk Hr2.out id
  have HX3 := Lib.hid (Ext.mod (HE2.out.ext (HE.out.ext hE3)) (Since w.heap.size))
  clear hE3
  go_wp2_with (refine wpList_stR rfl 31 _ _ rfl 18 b 0 (AAct.cells AAct.zero (.slice none 0 0)) rfl rfl str_act _ _ (AAct.cells AAct.zero (.slice none 0 0)) hr3 rfl (by simp) (by simp [Value.oneCell']) rfl ?_; intro w8 hb8 hm8 hs8)
  exact bodyPost_ret (results_row2 rfl _ _ b 31 (AAct.cells AAct.zero (.slice none 0 0)) str_act rfl hb8 rfl) rfl ⟨none, 0, 0, by rw [Ho.out]; rfl, by rw [Ho.out]; exact Sl.nil _ _ _, Mod.toExt (Mod.trans HX3.out hm8 (fun k hk e => by unfold Since; omega))⟩
end Go.Proofs.YtmebipnljkopgaaGreatDoor
