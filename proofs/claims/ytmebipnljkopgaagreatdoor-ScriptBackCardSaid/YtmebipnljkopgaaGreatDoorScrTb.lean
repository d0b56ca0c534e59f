/-
 Layer 27 (script): the page's other: a configuration. Conditions: each word is no longer than 100000 bytes; the package variables are as start-up lays them (Glb).
 Layer 27 (script): the page's other: an act's bytes. Conditions: each word is no longer than 100000 bytes.
-/
import Derived.Test.YtmebipnljkopgaaGreatDoorScrT
import Derived.StillTailTactics
namespace Go.Proofs.YtmebipnljkopgaaGreatDoor
set_option linter.unusedSimpArgs false
set_option linter.unusedVariables false
open Go.RowKit
theorem str_conf : Str Tryz.prog 28 4 := ⟨⟨_, Tryz.underlying28⟩, by kernel_rfl⟩
set_option maxRecDepth 100000 in
set_option maxHeartbeats 1000000 in
theorem r_other_if (w : World) (hg : Glb w) (x0 : ByteArray) (ws : List ByteArray) (v : Value) (T : Nat → Prop)
  (hv : Sl w T 1 v (ws.length + 1) ((x0 :: ws).map Value.string)) (hT : ∀ g, T g → g < w.heap.size) (hsz : ∀ x ∈ ws, x.size ≤ 100000) (hlen : ws.length ≤ 100001) :
  Calls Tryz.prog 25 #[.agg (AAct.cells { AAct.zero with kind := 13 } (.slice none 0 0)).toArray, .string ⟨#[105, 102]⟩, v] w (ReadOut w (otherP 13 ws) (.bool true) (.bool false)) := by
 obtain ⟨i0, hi, hz0, hz1, hz2⟩ := info_parts info_int
 obtain ⟨k, hk⟩ : ∃ k : Int, k = 13 := ⟨_, rfl⟩
 have hk6 : k ≠ 6 := by omega
 have Hpl : Hid ((placesP k).length = 5) := Lib.hid (by rw [hk]; rfl)
 have Hpp : Hid (placesP k = [1, 13, 14, 15, 16]) := Lib.hid (by rw [hk]; rfl)
 rw [← hk]
 clear hk
 obtain ⟨n, hn⟩ : ∃ n, ws.length = n := ⟨_, rfl⟩
 obtain ⟨A, cp, rfl⟩ : ∃ A cp, v = .slice A (ws.length + 1) cp := by obtain ⟨_, A, c, e, _⟩ := hv; exact ⟨A, c, e⟩
 rw [hn] at hv hlen ⊢
 obtain ⟨b, hb⟩ : ∃ b, w.heap.size = b := ⟨_, rfl⟩
 have Hv := Lib.hid hv
 have Hn := Lib.hid hn
 have Hg := Lib.hid hg
 have HT := Lib.hid hT
 have Hsz := Lib.hid hsz
 have Hk6 := Lib.hid hk6
 clear hv hn hg hT hsz hk6
 obtain ⟨a0, ha0⟩ : ∃ a0 : AAct, { AAct.zero with kind := k } = a0 := ⟨_, rfl⟩
 have hab0 : a0.bytes = [] := by rw [← ha0]; rfl
 rw [ha0]
 have Ha0 := Lib.hid ha0
 have Hab0 := Lib.hid hab0
 clear ha0 hab0
 go_enter Tryz.func25, Tryz.ntmps25
 go_upto_region 1 with fail
 obtain ⟨W2, hW2⟩ : ∃ W2, (w.alloc (.cells (a0.cells (.slice none 0 0)).toArray 31)).alloc (.cells #[.int .i64 0, .int .i64 0, .int .i64 0, .int .i64 0, .int .i64 0, .int .i64 0, .string ⟨#[]⟩, .int .i64 0, .float .f64 0, .string ⟨#[]⟩, .int .i64 0, .float .f64 0, .string ⟨#[]⟩, .int .i64 0, .int .i64 0, .int .i64 0, .int .i64 0, .slice none 0 0] 31) = W2 := ⟨_, rfl⟩
 have hE2 : Ext w W2 := hW2 ▸ (((Mod.refl _ w).alloc _).alloc _)
 have ha2 : W2.heap[b]? = some (.cells (a0.cells (.slice none 0 0)).toArray 31 (0, 0)) := hb ▸ hW2 ▸ heap_new2 _ _ _
 have hr2 : W2.heap[b + 1]? = some (.cells (AAct.zero.cells (.slice none 0 0)).toArray 31 (0, 0)) := by
  have h := heap_new (w.alloc (.cells (a0.cells (.slice none 0 0)).toArray 31)) (.cells #[.int .i64 0, .int .i64 0, .int .i64 0, .int .i64 0, .int .i64 0, .int .i64 0, .string ⟨#[]⟩, .int .i64 0, .float .f64 0, .string ⟨#[]⟩, .int .i64 0, .float .f64 0, .string ⟨#[]⟩, .int .i64 0, .int .i64 0, .int .i64 0, .int .i64 0, .slice none 0 0] 31)
  rw [hW2] at h
  rw [← show (w.alloc (.cells (a0.cells (.slice none 0 0)).toArray 31)).heap.size = b + 1 by simp [hb]]
  exact h
 rw [hW2]
 clear hW2
 have hs2 := (Array.getElem?_eq_some_iff.1 hr2).1
 have HE2 := Lib.hid hE2
 have Ha2 := Lib.hid ha2
 have Hr2 := Lib.hid hr2
 clear hE2 ha2 hr2
 go_wp2
 go_loopw [10, 11] (fun lv iv wr => ∃ (j : Nat) (pre : List Int), iv = .int .i64 ((j : Int) + 1) ∧ j ≤ n ∧ pre.length = j ∧ numsP ws = (numsP (ws.drop j)).map (pre ++ ·) ∧ NewR 3 W2 wr lv (pre.map (Value.int .i64)) ∧ Ext W2 wr) (fun _ iv _ => n + 1 - (intOf iv).toNat)
 case atStart => exact ⟨0, [], rfl, by omega, rfl, by simp, NewR.nil _ W2, Mod.refl _ _⟩
 case round =>
  obtain ⟨j, pre, rfl, hj, hpl0, hnp, hB, hE⟩ := hrel
  have Hnp := Lib.hid hnp
  have Hpl0 := Lib.hid hpl0
  have HE := Lib.hid hE
  have hr3 := hE.blk Hr2.out id
  clear hnp hpl0 hE
  by_cases hlt : j < n
  · obtain ⟨x, hx⟩ : ∃ x, ws[j]? = some x := ⟨_, List.getElem?_eq_getElem (by rw [Hn.out]; exact hlt)⟩
    have hxs : x.size ≤ 100000 := Hsz.out x (List.mem_of_getElem? hx)
    obtain ⟨g, off, rfl, hcell⟩ : ∃ g off, A = some ⟨g, off, none⟩ ∧ wr.cell? ⟨g, off + (j + 1), none⟩ = some (.string x) := by
     obtain ⟨_, A', c', e, _, _, hx'⟩ := Hv.out
     injection e with e1 _ e3; subst e1; subst e3
     obtain ⟨g, off, rfl, hg, hcell⟩ := hx' (by omega)
     exact ⟨g, off, rfl, (HE2.out.ext HE.out).cell (hcell (j + 1) _ (by simp [hx])) id⟩
    have hni := r_num x wr (Hg.out.ext (HE2.out.ext HE.out)) hxs
    unfold NumOut at hni
    have hw1 : IntKind.i64.wrap ((j : Int) + 1) = (j : Int) + 1 := by rw [IntKind.wrap_i64]; omega
    have ht1 : ((j : Int) + 1).toNat = j + 1 := by omega
    rcases hnx : numW x with _ | m
    · rw [hnx] at hni
      have Ho := Lib.hid (other_none Hk6.out (nums_bad Hnp.out hx hnx))
      clear hnx hx hw1
      simp only [Option.getD_none, Option.isSome_none] at hni
      clear ht1
      go_wp2_with fail
      refine hni.mono ?_
      rintro e w3 ⟨rfl, hE3⟩
      have hr4 := hE3.blk hr3 id
      have HE3 := Lib.hid ((HE2.out.ext HE.out).ext hE3)
      clear hE3 hr3
      go_wp2_with (refine wpList_stR rfl 31 _ _ rfl 18 (b + 1) 0 (AAct.cells AAct.zero (.slice none 0 0)) rfl rfl str_act _ _ (AAct.cells AAct.zero (.slice none 0 0)) hr4 rfl (by simp) (by simp [Value.oneCell']) rfl ?_; intro w8 hb8 hm8 hs8)
      exact bodyPost_ret (results_row2 rfl _ _ (b + 1) 31 (AAct.cells AAct.zero (.slice none 0 0)) str_act rfl hb8 rfl) rfl ⟨none, 0, 0, by rw [Ho.out]; rfl, by rw [Ho.out]; exact Sl.nil _ _ _, Mod.toExt ((Ext.mod HE3.out (Since w.heap.size)).trans hm8 (fun k hk e => by unfold Since; omega))⟩
    rw [hnx] at hni
    have Hst := Lib.hid (nums_step Hnp.out hx hnx)
    simp only [Option.getD_some, Option.isSome_some] at hni
    clear hnx hx hw1 ht1
    go_wp2_with fail
    refine hni.mono ?_
    rintro e w3 ⟨rfl, hE3⟩
    have HE3 := Lib.hid (HE.out.ext hE3)
    have hB3 := hB.ext hE3
    clear hE3 hr3 hB hni
    have ho := hB3.1
    rw [List.length_map, Hpl0.out] at ho
    obtain ⟨A5, c5, rfl⟩ := own_form ho
    have HB := Lib.hid hB3
    clear hB3
    go_wp2_with (at_builtin; go_must (refine wpList_app _ rfl _ _ 90 rfl 3 i0 _ 1 8 Tryz.underlying90 hi hz0 hz1 hz2 rfl (by omega) _ j (pre.map (Value.int .i64)) rfl (ho.alloc _) _ _ 1 _ rfl (Sl.one w3 _ _) (by simp [Value.oneCell']) (by simp only [maxLen]; omega) (by omega) ?_))
    intro v' w5 ho1 hgr hat
    obtain ⟨hB1, hE1⟩ := NewR.app (cs := (pre ++ [m]).map (Value.int .i64)) HB.out HE3.out ((Mod.refl _ w3).alloc _) (by simp) ho1 hgr hat (by have := HE3.out.size; omega)
    clear ho1 hgr hat ho
    go_wp2
    exact ⟨⟨j + 1, pre ++ [m], by push_cast; rfl, by omega, by simp [Hpl0.out], Hst.out, hB1, hE1⟩, by simp [intOf] <;> omega⟩
  obtain rfl : j = n := by omega
  have hnum : numsP ws = some pre := by rw [Hnp.out, List.drop_eq_nil_of_le (by rw [Hn.out]; exact Nat.le_refl _)]; simp [numsP]
  have hol := other_len Hk6.out hnum
  rw [Hpl0.out, Hpl.out, Ha0.out] at hol
  have hS := hB.sl
  rw [List.length_map, Hpl0.out] at hS
  obtain ⟨A5, c5, rfl⟩ : ∃ A c, u10 = .slice A j c := by obtain ⟨_, A, c, e, _⟩ := hS; exact ⟨A, c, e⟩
  have HS := Lib.hid (hS.mono (U := fun g => W2.heap.size ≤ g) hB.2)
  clear hB hS hnum
  by_cases hjw : j ≠ 5
  · have Ho : Hid (otherP k ws = none) := Lib.hid (by rw [hol, if_neg hjw])
    have dj : ((j : Int) != 5) = true := by simp; omega
    have HE4 := Lib.hid (HE2.out.ext HE.out)
    clear hol hjw
    go_wp2_with (refine wpList_stR rfl 31 _ _ rfl 18 (b + 1) 0 (AAct.cells AAct.zero (.slice none 0 0)) rfl rfl str_act _ _ (AAct.cells AAct.zero (.slice none 0 0)) hr3 rfl (by simp) (by simp [Value.oneCell']) rfl ?_; intro w8 hb8 hm8 hs8)
    exact bodyPost_ret (results_row2 rfl _ _ (b + 1) 31 (AAct.cells AAct.zero (.slice none 0 0)) str_act rfl hb8 rfl) rfl ⟨none, 0, 0, by rw [Ho.out]; rfl, by rw [Ho.out]; exact Sl.nil _ _ _, Mod.toExt ((Ext.mod HE4.out (Since w.heap.size)).trans hm8 (fun k hk e => by unfold Since; omega))⟩
  obtain rfl : j = 5 := by omega
  rw [if_pos rfl] at hol
  have Hol := Lib.hid hol
  have ha3 := HE.out.blk Ha2.out id
  have Ha3 := Lib.hid ha3
  have Hr3 := Lib.hid hr3
  clear hol hjw ha3 hr3
  obtain ⟨W5, hW5⟩ : ∃ W5, W5 = wr := ⟨_, rfl⟩
  subst hW5
  go_wp2
  obtain ⟨p0, p1, p2, p3, p4, rfl⟩ : ∃ p0 p1 p2 p3 p4, pre = [p0, p1, p2, p3, p4] := by
   have h := Hpl0.out
   rcases pre with _ | ⟨p0, _ | ⟨p1, _ | ⟨p2, _ | ⟨p3, _ | ⟨p4, _ | ⟨p5, r⟩⟩⟩⟩⟩⟩
   all_goals simp at h
   exact ⟨p0, p1, p2, p3, p4, rfl⟩
  have hl : ∀ j u, ([.int .i64 p0, .int .i64 p1, .int .i64 p2, .int .i64 p3, .int .i64 p4] : List Value)[j]? = some u → ∃ g off, A5 = some ⟨g, off, none⟩ ∧ W2.heap.size ≤ g ∧ W5.cell? ⟨g, off + j, none⟩ = some u := by
   intro j u hu
   obtain ⟨_, A', c', e, _, _, hx'⟩ := HS.out
   injection e with e1 _ e3; subst e1; subst e3
   obtain ⟨g, off, rfl, hg, hcell⟩ := hx' (by omega)
   exact ⟨g, off, rfl, hg, hcell j u (by simpa using hu)⟩
  obtain ⟨g, off, rfl, hgW, k0⟩ := hl 0 _ rfl
  have k1 : W5.cell? ⟨g, off + 1, none⟩ = some (.int .i64 p1) := by
   obtain ⟨g', off', e, _, h⟩ := hl 1 _ rfl
   injection e with e; injection e with e1 e2; subst e1; subst e2; exact h
  have k2 : W5.cell? ⟨g, off + 2, none⟩ = some (.int .i64 p2) := by
   obtain ⟨g', off', e, _, h⟩ := hl 2 _ rfl
   injection e with e; injection e with e1 e2; subst e1; subst e2; exact h
  have k3 : W5.cell? ⟨g, off + 3, none⟩ = some (.int .i64 p3) := by
   obtain ⟨g', off', e, _, h⟩ := hl 3 _ rfl
   injection e with e; injection e with e1 e2; subst e1; subst e2; exact h
  have k4 : W5.cell? ⟨g, off + 4, none⟩ = some (.int .i64 p4) := by
   obtain ⟨g', off', e, _, h⟩ := hl 4 _ rfl
   injection e with e; injection e with e1 e2; subst e1; subst e2; exact h
  have K : Hid (W5.cell? ⟨g, off + 0, none⟩ = some (.int .i64 p0) ∧ W5.cell? ⟨g, off + 1, none⟩ = some (.int .i64 p1) ∧ W5.cell? ⟨g, off + 2, none⟩ = some (.int .i64 p2) ∧ W5.cell? ⟨g, off + 3, none⟩ = some (.int .i64 p3) ∧ W5.cell? ⟨g, off + 4, none⟩ = some (.int .i64 p4)) := Lib.hid ⟨k0, k1, k2, k3, k4⟩
  clear hl k0 k1 k2 k3 k4
  go_loopw [15] (fun iv wr => ∃ (i : Nat) (a' : AAct), iv = .int .i64 i ∧ wr.heap[b]? = some (.cells (a'.cells (.slice none 0 0)).toArray 31 (0, 0)) ∧ ((i = 0 ∧ a' = a0) ∨ (i = 1 ∧ a' = a0.setO 1 p0) ∨ (i = 2 ∧ a' = { a0.setO 1 p0 with conf := ⟨p1, p2, p3, p4⟩ })) ∧ Mod (fun g => g = b) W5 wr) (fun iv _ => 2 - (intOf iv).toNat)
  case atStart => exact ⟨0, a0, rfl, Ha3.out, .inl ⟨rfl, rfl⟩, Mod.refl _ _⟩
  case round =>
   obtain ⟨i, a', rfl, ha4, hst, hM⟩ := hrel
   have HM := Lib.hid hM
   have Ha4 := Lib.hid ha4
   clear hM ha4
   rcases hst with ⟨rfl, rfl⟩ | ⟨rfl, rfl⟩ | ⟨rfl, rfl⟩
   · have k0 : wr.cell? ⟨g, off, none⟩ = some (.int .i64 p0) := HM.out.cell (p := ⟨g, off, none⟩) K.out.1 (by show ¬ g = b; omega)
     have q1 : wr.cell? ⟨b, 1, none⟩ = some (.int .i64 a'.node) := blk_cell Ha4.out rfl
     have q2 := blk_free 1 Ha4.out
     have h5 := blk_set Ha4.out 1 (.int .i64 p0)
     have hm5 : Mod (fun g => g = b) wr (wr.setCell ⟨b, 1, none⟩ (.int .i64 p0)) := mod_same (Mod.refl _ _) _ _
     have H5 := Lib.hid h5
     have HM5 := Lib.hid (HM.out.self hm5)
     clear h5 hm5
     go_wp2
     exact ⟨⟨1, a'.setO 1 p0, rfl, H5.out, .inr (.inl ⟨rfl, rfl⟩), HM5.out⟩, by simp [intOf] <;> omega⟩
   · have hne : ¬ g = b := by omega
     have k1 : wr.cell? ⟨g, off + 1, none⟩ = some (.int .i64 p1) := HM.out.cell (p := ⟨g, off + 1, none⟩) K.out.2.1 hne
     have k2 : wr.cell? ⟨g, off + 2, none⟩ = some (.int .i64 p2) := HM.out.cell (p := ⟨g, off + 2, none⟩) K.out.2.2.1 hne
     have k3 : wr.cell? ⟨g, off + 3, none⟩ = some (.int .i64 p3) := HM.out.cell (p := ⟨g, off + 3, none⟩) K.out.2.2.2.1 hne
     have k4 : wr.cell? ⟨g, off + 4, none⟩ = some (.int .i64 p4) := HM.out.cell (p := ⟨g, off + 4, none⟩) K.out.2.2.2.2 hne
     go_upto_region 37 with fail
     go_still_tail 13, (by kernel_rfl)
     change wpList _ _ _ _ _ wr.drew
     go_wp2_with (refine wpList_stR rfl 28 _ _ rfl 4 b 13 [.int .i64 p1, .int .i64 p2, .int .i64 p3, .int .i64 p4] rfl rfl str_conf _ _ (AAct.cells { a0.setO 1 p0 with conf := ⟨p1, p2, p3, p4⟩ } (.slice none 0 0)) Ha4.out rfl (by simp) (by simp [Value.oneCell']) rfl ?_; intro w8 hb8 hm8 hs8; have HB8 := Lib.hid hb8; have HM8 := Lib.hid hm8; clear hb8 hm8 hs8)
     exact ⟨⟨2, rfl, _, HB8.out, .inr (.inr ⟨rfl, rfl⟩), HM.out.self ((Mod.refl _ _).drew.self HM8.out)⟩, by simp [intOf] <;> omega⟩
   obtain ⟨a', ha'⟩ : ∃ a' : AAct, { a0.setO 1 p0 with conf := ⟨p1, p2, p3, p4⟩ } = a' := ⟨_, rfl⟩
   have hfin : setAll a0 (placesP k) [p0, p1, p2, p3, p4] = a' := by rw [Hpp.out, ← ha']; rfl
   rw [ha'] at Ha4
   clear ha'
   have Ho : Hid (otherP k ws = some a') := Lib.hid (by rw [Hol.out, hfin])
   have hbb : a'.bytes = [] := by rw [← hfin, setAll_bytes]; exact Hab0.out
   have hr5 := HM.out.blk Hr3.out (by omega)
   have HEM : Hid (Mod (Since w.heap.size) w wr) := Lib.hid ((Ext.mod (HE2.out.ext HE.out) (Since w.heap.size)).trans HM.out (fun k hk e => by unfold Since; omega))
   have Hbb := Lib.hid hbb
   clear hfin hbb
   go_wp2_with (first
     | (refine wpList_ld rfl 31 _ rfl (.pointer (some ⟨b, 0, none⟩)) (.agg (a'.cells (.slice none 0 0)).toArray) rfl (load_row (o := 0) str_act Ha4.out rfl (fun j u hu => by rw [Nat.zero_add]; exact hu)) ?_)
     | (refine wpList_stR rfl 31 _ _ rfl 18 (b + 1) 0 (a'.cells (.slice none 0 0)) rfl rfl str_act _ _ (a'.cells (.slice none 0 0)) hr5 rfl (by simp) (by simp [Value.oneCell']) rfl ?_; intro w8 hb8 hm8 hs8))
   exact bodyPost_ret (results_row2 rfl _ _ (b + 1) 31 (a'.cells (.slice none 0 0)) str_act rfl hb8 rfl) rfl ⟨none, 0, 0, by rw [Ho.out]; rfl, by rw [Ho.out]; show Byt _ _ _ a'.bytes; rw [Hbb.out]; exact Sl.nil _ _ _, Mod.toExt (Mod.trans HEM.out hm8 (fun k hk e => by unfold Since; omega))⟩
theorem raw_len {ws : List ByteArray} (h : ws.length ≠ 1) : otherP 6 ws = none := by
 unfold otherP; rw [if_pos rfl]
 rcases ws with _ | ⟨x, _ | ⟨y, r⟩⟩
 · rfl
 · simp at h
 · rfl
theorem raw_one (x : ByteArray) : otherP 6 [x] = (rawP x).map fun b => { AAct.zero with kind := 6, bytes := b } := by
 unfold otherP; rw [if_pos rfl]
set_option maxRecDepth 100000 in
set_option maxHeartbeats 1000000 in
theorem r_other_b (w : World) (x0 : ByteArray) (ws : List ByteArray) (v : Value) (T : Nat → Prop)
  (hv : Sl w T 1 v (ws.length + 1) ((x0 :: ws).map Value.string)) (hT : ∀ g, T g → g < w.heap.size) (hsz : ∀ x ∈ ws, x.size ≤ 100000) (hlen : ws.length ≤ 100001) :
  Calls Tryz.prog 25 #[.agg (AAct.cells { AAct.zero with kind := 6 } (.slice none 0 0)).toArray, .string ⟨#[98]⟩, v] w (ReadOut w (otherP 6 ws) (.bool true) (.bool false)) := by
 obtain ⟨n, hn⟩ : ∃ n, ws.length = n := ⟨_, rfl⟩
 obtain ⟨A, cp, rfl⟩ : ∃ A cp, v = .slice A (ws.length + 1) cp := by obtain ⟨_, A, c, e, _⟩ := hv; exact ⟨A, c, e⟩
 rw [hn] at hv hlen ⊢
 obtain ⟨b, hb⟩ : ∃ b, w.heap.size = b := ⟨_, rfl⟩
 have Hv := Lib.hid hv
 have Hn := Lib.hid hn
 have Hsz := Lib.hid hsz
 clear hv hn hsz hT
 obtain ⟨a0, ha0⟩ : ∃ a0 : AAct, { AAct.zero with kind := 6 } = a0 := ⟨_, rfl⟩
 rw [ha0]
 have Ha0 := Lib.hid ha0
 clear ha0
 go_enter Tryz.func25, Tryz.ntmps25
 go_upto_region 1 with fail
 obtain ⟨W2, hW2⟩ : ∃ W2, (w.alloc (.cells (a0.cells (.slice none 0 0)).toArray 31)).alloc (.cells #[.int .i64 0, .int .i64 0, .int .i64 0, .int .i64 0, .int .i64 0, .int .i64 0, .string ⟨#[]⟩, .int .i64 0, .float .f64 0, .string ⟨#[]⟩, .int .i64 0, .float .f64 0, .string ⟨#[]⟩, .int .i64 0, .int .i64 0, .int .i64 0, .int .i64 0, .slice none 0 0] 31) = W2 := ⟨_, rfl⟩
 have hE2 : Ext w W2 := hW2 ▸ (((Mod.refl _ w).alloc _).alloc _)
 have ha2 : W2.heap[b]? = some (.cells (a0.cells (.slice none 0 0)).toArray 31 (0, 0)) := hb ▸ hW2 ▸ heap_new2 _ _ _
 have hr2 : W2.heap[b + 1]? = some (.cells (AAct.zero.cells (.slice none 0 0)).toArray 31 (0, 0)) := by
  have h := heap_new (w.alloc (.cells (a0.cells (.slice none 0 0)).toArray 31)) (.cells #[.int .i64 0, .int .i64 0, .int .i64 0, .int .i64 0, .int .i64 0, .int .i64 0, .string ⟨#[]⟩, .int .i64 0, .float .f64 0, .string ⟨#[]⟩, .int .i64 0, .float .f64 0, .string ⟨#[]⟩, .int .i64 0, .int .i64 0, .int .i64 0, .int .i64 0, .slice none 0 0] 31)
  rw [hW2] at h
  rw [← show (w.alloc (.cells (a0.cells (.slice none 0 0)).toArray 31)).heap.size = b + 1 by simp [hb]]
  exact h
 rw [hW2]
 clear hW2
 have hs2 := (Array.getElem?_eq_some_iff.1 hr2).1
 have HE2 := Lib.hid hE2
 have HX2 := Lib.hid (Ext.mod hE2 (Since w.heap.size))
 have Ha2 := Lib.hid ha2
 clear hE2 ha2
 by_cases h1 : n ≠ 1
 · have Ho := Lib.hid (raw_len (ws := ws) (by rw [Hn.out]; exact h1))
   have dn : (((n : Int) + 1) != 2) = true := by simp; omega
   clear h1
   go_wp2_with (refine wpList_stR rfl 31 _ _ rfl 18 (b + 1) 0 (AAct.cells AAct.zero (.slice none 0 0)) rfl rfl str_act _ _ (AAct.cells AAct.zero (.slice none 0 0)) hr2 rfl (by simp) (by simp [Value.oneCell']) rfl ?_; intro w8 hb8 hm8 hs8)
   exact bodyPost_ret (results_row2 rfl _ _ (b + 1) 31 (AAct.cells AAct.zero (.slice none 0 0)) str_act rfl hb8 rfl) rfl ⟨none, 0, 0, by rw [Ho.out]; rfl, by rw [Ho.out]; exact Sl.nil _ _ _, Mod.toExt (Mod.trans HX2.out hm8 (fun k hk e => by unfold Since; omega))⟩
 obtain rfl : n = 1 := by omega
 obtain ⟨x, rfl⟩ : ∃ x, ws = [x] := by
  have h := Hn.out
  rcases ws with _ | ⟨x, _ | ⟨y, r⟩⟩
  all_goals simp at h
  exact ⟨x, rfl⟩
 obtain ⟨g, off, rfl, hcell⟩ : ∃ g off, A = some ⟨g, off, none⟩ ∧ W2.cell? ⟨g, off + 1, none⟩ = some (.string x) := by
  obtain ⟨_, A', c', e, _, _, hx'⟩ := Hv.out
  injection e with e1 _ e3; subst e1; subst e3
  obtain ⟨g, off, rfl, hg, hcell⟩ := hx' (by omega)
  exact ⟨g, off, rfl, HE2.out.cell (hcell 1 _ rfl) id⟩
 have hxs : x.size ≤ 100000 := Hsz.out x (by simp)
 have hol := raw_one x
 have hne : ¬ b = b + 1 := by omega
 clear Hv Hsz h1
 by_cases h45 : x = bA [45]
 · subst h45
   have Ho : Hid (otherP 6 [bA [45]] = some a0) := Lib.hid (by rw [hol, rawP_dash, ← Ha0.out]; rfl)
   have Hb0 : Hid (a0.bytes = []) := Lib.hid (by rw [← Ha0.out]; rfl)
   clear hol
   go_wp2_with (first
     | (refine wpList_ld rfl 31 _ rfl (.pointer (some ⟨b, 0, none⟩)) (.agg (a0.cells (.slice none 0 0)).toArray) rfl (load_row (o := 0) str_act Ha2.out rfl (fun j u hu => by rw [Nat.zero_add]; exact hu)) ?_)
     | (refine wpList_stR rfl 31 _ _ rfl 18 (b + 1) 0 (a0.cells (.slice none 0 0)) rfl rfl str_act _ _ (a0.cells (.slice none 0 0)) hr2 rfl (by simp) (by simp [Value.oneCell']) rfl ?_; intro w8 hb8 hm8 hs8))
   exact bodyPost_ret (results_row2 rfl _ _ (b + 1) 31 (a0.cells (.slice none 0 0)) str_act rfl hb8 rfl) rfl ⟨none, 0, 0, by rw [Ho.out]; rfl, by rw [Ho.out]; show Byt _ _ _ a0.bytes; rw [Hb0.out]; exact Sl.nil _ _ _, Mod.toExt (Mod.trans HX2.out hm8 (fun k hk e => by unfold Since; omega))⟩
 have d45 : (x.toList == [45]) = false := by
  have := bs_ne h45
  rwa [show (bA [45]).toList = [45] by rw [ByteArray.toList_eq]] at this
 rw [rawP_eq h45] at hol
 have hun : ∀ W, Calls Tryz.prog 50 #[.string x] W fun e w' => e = .returned (.tuple #[.string (bA ((unhexL (bsOf x)).getD [])), .bool (unhexL (bsOf x)).isSome]) ∧ Ext W w' := fun W => r_unhex x W hxs
 rcases hul : unhexL (bsOf x) with _ | t
 · rw [hul] at hun hol
   simp only [Option.getD_none, Option.isSome_none] at hun
   have Ho : Hid (otherP 6 [x] = none) := Lib.hid hol
   clear hul hol h45
   go_wp2_with fail
   refine (hun W2).mono ?_
   rintro e w3 ⟨rfl, hE3⟩
   have hr3 := hE3.blk hr2 id
   have HX3 := Lib.hid (HX2.out.ext hE3)
   clear hE3 hr2
   go_wp2_with (refine wpList_stR rfl 31 _ _ rfl 18 (b + 1) 0 (AAct.cells AAct.zero (.slice none 0 0)) rfl rfl str_act _ _ (AAct.cells AAct.zero (.slice none 0 0)) hr3 rfl (by simp) (by simp [Value.oneCell']) rfl ?_; intro w8 hb8 hm8 hs8)
   exact bodyPost_ret (results_row2 rfl _ _ (b + 1) 31 (AAct.cells AAct.zero (.slice none 0 0)) str_act rfl hb8 rfl) rfl ⟨none, 0, 0, by rw [Ho.out]; rfl, by rw [Ho.out]; exact Sl.nil _ _ _, Mod.toExt (Mod.trans HX3.out hm8 (fun k hk e => by unfold Since; omega))⟩
 rw [hul] at hun hol
 simp only [Option.getD_some, Option.isSome_some] at hun
 simp only at hol
 have htl := unhexL_len _ _ hul
 have hbl : (bsOf x).length = x.size := rfl
 have htz : (bA t).size = t.length := by simp [bA, ByteArray.size]
 rcases t with _ | ⟨y, t⟩
 · rw [if_pos rfl] at hol
   have Ho : Hid (otherP 6 [x] = none) := Lib.hid hol
   clear hul hol h45 htl hbl htz
   go_wp2_with fail
   refine (hun W2).mono ?_
   rintro e w3 ⟨rfl, hE3⟩
   have hr3 := hE3.blk hr2 id
   have HX3 := Lib.hid (HX2.out.ext hE3)
   clear hE3 hr2
   go_wp2_with (refine wpList_stR rfl 31 _ _ rfl 18 (b + 1) 0 (AAct.cells AAct.zero (.slice none 0 0)) rfl rfl str_act _ _ (AAct.cells AAct.zero (.slice none 0 0)) hr3 rfl (by simp) (by simp [Value.oneCell']) rfl ?_; intro w8 hb8 hm8 hs8)
   exact bodyPost_ret (results_row2 rfl _ _ (b + 1) 31 (AAct.cells AAct.zero (.slice none 0 0)) str_act rfl hb8 rfl) rfl ⟨none, 0, 0, by rw [Ho.out]; rfl, by rw [Ho.out]; exact Sl.nil _ _ _, Mod.toExt (Mod.trans HX3.out hm8 (fun k hk e => by unfold Since; omega))⟩
 rw [if_neg (by simp)] at hol
 have Ho : Hid (otherP 6 [x] = some { a0 with bytes := y :: t }) := Lib.hid (by rw [hol, ← Ha0.out]; rfl)
 have dem : ((bA (y :: t)).toList == []) = false := by rw [ByteArray.toList_eq]; show (bsOf (bA (y :: t)) == []) = false; rw [bA_bs]; rfl
 obtain ⟨z, hz⟩ : ∃ z, bA (y :: t) = z := ⟨_, rfl⟩
 rw [hz] at dem hun htz
 have dem2 : z.toList.isEmpty = false := by simpa using dem
 have hcv := fun W => conv_sb z W
 have Hbw : Hid (∀ W, Byt (Lib.bytesWorld W 5 z) (fun g => W.heap.size ≤ g) (.slice (some ⟨W.heap.size, 0, none⟩) z.size (grownCap W z.size 0 5)) (y :: t)) := Lib.hid fun W => by
  have h := bw_byt W 5 z (by rw [htz]; simp only [maxLen]; omega)
  have e : bsOf z = y :: t := by rw [← hz, bA_bs]
  rw [e] at h
  exact h
 clear hul hol h45 htl hbl htz hz
 go_wp2_with fail
 refine (hun W2).mono ?_
 rintro e w3 ⟨rfl, hE3⟩
 have ha3 := hE3.blk Ha2.out id
 have hr3 := hE3.blk hr2 id
 have HX3 := Lib.hid (HX2.out.ext hE3)
 have hs3 := hE3.size
 clear hE3 hr2
 obtain ⟨W4, hW4⟩ : ∃ W4, Lib.bytesWorld w3 5 z = W4 := ⟨_, rfl⟩
 have hE4 : Ext w3 W4 := hW4 ▸ bw_ext _ _ _
 have hB4 := Hbw.out w3
 rw [hW4] at hB4
 have hcv3 := hcv w3
 rw [hW4] at hcv3
 obtain ⟨c3, hc3⟩ : ∃ c3, grownCap w3 z.size 0 5 = c3 := ⟨_, rfl⟩
 obtain ⟨g3, hg3⟩ : ∃ g3, w3.heap.size = g3 := ⟨_, rfl⟩
 obtain ⟨m3, hm3⟩ : ∃ m3, z.size = m3 := ⟨_, rfl⟩
 rw [hc3, hg3, hm3] at hB4 hcv3
 have HB4 := Lib.hid hB4
 have ha4 := hE4.blk ha3 id
 have hr4 := hE4.blk hr3 id
 have HX4 := Lib.hid (HX3.out.ext hE4)
 have q1 : W4.cell? ⟨b, 17, none⟩ = some (.slice none 0 0) := blk_cell ha4 rfl
 have q2 := blk_free 17 ha4
 have h5 := blk_set ha4 17 (.slice (some ⟨g3, 0, none⟩) m3 c3)
 have hm5 : Mod (fun g => g = b) W4 (W4.setCell ⟨b, 17, none⟩ (.slice (some ⟨g3, 0, none⟩) m3 c3)) := mod_same (Mod.refl _ _) _ _
 obtain ⟨W5, hW5⟩ : ∃ W5, W4.setCell ⟨b, 17, none⟩ (.slice (some ⟨g3, 0, none⟩) m3 c3) = W5 := ⟨_, rfl⟩
 have Hg3 := Lib.hid hg3
 have hbg : b + 1 < g3 := by omega
 rw [hW5] at h5 hm5
 have h5' : W5.heap[b]? = some (.cells (a0.cells (.slice (some ⟨g3, 0, none⟩) m3 c3)).toArray 31 (0, 0)) := h5
 have hr5 := hm5.blk hr4 (by omega)
 have HX5 := Lib.hid (Mod.trans HX4.out hm5 (fun k hk e => by unfold Since; omega))
 have HB5 : Hid (Byt W5 (fun g => g3 ≤ g) (.slice (some ⟨g3, 0, none⟩) m3 c3) (y :: t)) := Lib.hid (HB4.out.mod hm5 (fun g hg e => by omega))
 have H5 := Lib.hid h5'
 have Hr5 := Lib.hid hr5
 clear hcv hun hE4 hB4 hc3 hg3 hm3 ha4 hr4 h5 h5' hm5 hr5 ha3 hr3
 go_upto_region 10 with fail
 clear hcv3 hW4 hW5 q1 q2
 go_wp2_with (first
   | (refine wpList_ld rfl 31 _ rfl (.pointer (some ⟨b, 0, none⟩)) (.agg (a0.cells (.slice (some ⟨g3, 0, none⟩) m3 c3)).toArray) rfl (load_row (o := 0) str_act H5.out rfl (fun j u hu => by rw [Nat.zero_add]; exact hu)) ?_)
   | (refine wpList_stR rfl 31 _ _ rfl 18 (b + 1) 0 (a0.cells (.slice (some ⟨g3, 0, none⟩) m3 c3)) rfl rfl str_act _ _ (a0.cells (.slice (some ⟨g3, 0, none⟩) m3 c3)) Hr5.out rfl (by simp) (by simp [Value.oneCell']) rfl ?_; intro w8 hb8 hm8 hs8))
 exact bodyPost_ret (results_row2 rfl _ _ (b + 1) 31 (a0.cells (.slice (some ⟨g3, 0, none⟩) m3 c3)) str_act rfl hb8 rfl) rfl ⟨some ⟨g3, 0, none⟩, m3, c3, by rw [Ho.out]; rfl, by rw [Ho.out]; exact (HB5.out.mod hm8 (fun g hg e => by omega)).mono (fun g hg => by omega), Mod.toExt (Mod.trans HX5.out hm8 (fun k hk e => by unfold Since; omega))⟩
end Go.Proofs.YtmebipnljkopgaaGreatDoor
