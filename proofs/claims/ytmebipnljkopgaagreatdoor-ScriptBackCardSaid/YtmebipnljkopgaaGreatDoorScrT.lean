/-
 Layer 27 (script): the page's other: an act's numbers, an act's bytes. Conditions: each word is no longer than 100000 bytes; the package variables are as start-up lays them (Glb).
-/
import Derived.Test.YtmebipnljkopgaaGreatDoorScrS
import Derived.Test.YtmebipnljkopgaaGreatDoorScrR
namespace Go.Proofs.YtmebipnljkopgaaGreatDoor
set_option linter.unusedSimpArgs false
set_option linter.unusedVariables false
open Go.RowKit
theorem info_int : (Tryz.prog.info? 3).map (fun i => (i.zero, i.size, i.bytes)) = some (some (.int .i64 0), 1, 8) := by kernel_rfl
def charP (c : UInt8) : Nat := if c = 105 then 1 else if c = 99 then 2 else if c = 110 then 3 else 4
theorem nums_bad {ws : List ByteArray} {pre : List Int} {j : Nat} {x : ByteArray} (h : numsP ws = (numsP (ws.drop j)).map (pre ++ ·)) (hx : ws[j]? = some x) (hn : numW x = none) : numsP ws = none := by
 obtain ⟨h1, rfl⟩ := List.getElem?_eq_some_iff.1 hx
 rw [h, List.drop_eq_getElem_cons h1, numsP, hn]; rfl
theorem nums_step {ws : List ByteArray} {pre : List Int} {j : Nat} {x : ByteArray} {m : Int} (h : numsP ws = (numsP (ws.drop j)).map (pre ++ ·)) (hx : ws[j]? = some x) (hn : numW x = some m) : numsP ws = (numsP (ws.drop (j + 1))).map (pre ++ [m] ++ ·) := by
 obtain ⟨h1, rfl⟩ := List.getElem?_eq_some_iff.1 hx
 rw [h, List.drop_eq_getElem_cons h1, numsP, hn]
 rcases numsP (ws.drop (j + 1)) with _ | t
 · rfl
 simp
theorem other_len {k : Int} {ws : List ByteArray} {l : List Int} (hk : k ≠ 6) (h : numsP ws = some l) : otherP k ws = if l.length = (placesP k).length then some (setAll { AAct.zero with kind := k } (placesP k) l) else none := by
 unfold otherP; rw [if_neg hk, h]
theorem other_none {k : Int} {ws : List ByteArray} (hk : k ≠ 6) (h : numsP ws = none) : otherP k ws = none := by
 unfold otherP; rw [if_neg hk, h]
theorem setAll_bytes : ∀ (os : List Nat) (xs : List Int) (a : AAct), (setAll a os xs).bytes = a.bytes
  | [], _, a => by simp [setAll]
  | _ :: _, [], a => by simp [setAll]
  | o :: os, x :: xs, a => by
    rw [setAll, setAll_bytes os xs]
    unfold AAct.setO; split <;> rfl
theorem setAll_step {a a' : AAct} {os os' : List Nat} {xs : List Int} {i : Nat} {o : Nat} {x : Int} (h : setAll a os xs = setAll a' (os'.drop i) (xs.drop i)) (ho : os'[i]? = some o) (hx : xs[i]? = some x) : setAll a os xs = setAll (a'.setO o x) (os'.drop (i + 1)) (xs.drop (i + 1)) := by
 obtain ⟨h1, rfl⟩ := List.getElem?_eq_some_iff.1 ho
 obtain ⟨h2, rfl⟩ := List.getElem?_eq_some_iff.1 hx
 rw [h, List.drop_eq_getElem_cons h1, List.drop_eq_getElem_cons h2, setAll]
theorem setAll_end (a : AAct) (os : List Nat) (xs : List Int) (i : Nat) (h : os.length ≤ i) : setAll a (os.drop i) xs = a := by
 rw [List.drop_eq_nil_of_le h]; simp [setAll]
set_option maxRecDepth 100000 in
set_option maxHeartbeats 1000000 in
theorem r_other (k : Int) (f : List UInt8) (hk6 : k ≠ 6) (hf : ∀ c ∈ f, c = 105 ∨ c = 99 ∨ c = 110 ∨ c = 109) (hfp : placesP k = f.map charP) (hf98 : f ≠ [98]) (hf2 : f ≠ [105, 102]) (hfl : f.length ≤ 100) (w : World) (hg : Glb w) (x0 : ByteArray) (ws : List ByteArray) (v : Value) (T : Nat → Prop)
  (hv : Sl w T 1 v (ws.length + 1) ((x0 :: ws).map Value.string)) (hT : ∀ g, T g → g < w.heap.size) (hsz : ∀ x ∈ ws, x.size ≤ 100000) (hlen : ws.length ≤ 100001) :
  Calls Tryz.prog 25 #[.agg (AAct.cells { AAct.zero with kind := k } (.slice none 0 0)).toArray, .string (bA f), v] w (ReadOut w (otherP k ws) (.bool true) (.bool false)) := by
 obtain ⟨i0, hi, hz0, hz1, hz2⟩ := info_parts info_int
 obtain ⟨F, hF⟩ : ∃ F, f.length = F := ⟨_, rfl⟩
 obtain ⟨z, hz⟩ : ∃ z, bA f = z := ⟨_, rfl⟩
 have hzs : z.size = F := by rw [← hz, ← hF]; simp [bA, ByteArray.size]
 have hzl : bsOf z = f := by rw [← hz, bA_bs]
 have d98 : (z.toList == [98]) = false := by
  rw [ByteArray.toList_eq]; show (bsOf z == [98]) = false; rw [hzl]; simpa using hf98
 have dif : (z.toList == [105, 102]) = false := by
  rw [ByteArray.toList_eq]; show (bsOf z == [105, 102]) = false; rw [hzl]; simpa using hf2
 have hpl : (placesP k).length = F := by rw [hfp, List.length_map, hF]
 have Hzl := Lib.hid hzl
 have Hf := Lib.hid hf
 have Hfp := Lib.hid hfp
 have HF := Lib.hid hF
 have Hpl := Lib.hid hpl
 have hFl : F ≤ 100 := by omega
 rw [hz]
 clear hz hzl hf hfp hF hf98 hf2 hpl hfl
 obtain ⟨n, hn⟩ : ∃ n, ws.length = n := ⟨_, rfl⟩
 obtain ⟨A, cp, rfl⟩ : ∃ A cp, v = .slice A (ws.length + 1) cp := by obtain ⟨_, A, c, e, _⟩ := hv; exact ⟨A, c, e⟩
 rw [hn] at hv hlen ⊢
 obtain ⟨b, hb⟩ : ∃ b, w.heap.size = b := ⟨_, rfl⟩
 have Hv := Lib.hid hv
 have Hn := Lib.hid hn
 have Hg := Lib.hid hg
 have HT := Lib.hid hT
 have Hsz := Lib.hid hsz
 have Hk6 := Lib.hid hk6
 clear hv hn hg hT hsz hk6
 obtain ⟨a0, ha0⟩ : ∃ a0 : AAct, { AAct.zero with kind := k } = a0 := ⟨_, rfl⟩
 have hab0 : a0.bytes = [] := by rw [← ha0]; rfl
 rw [ha0]
 have Ha0 := Lib.hid ha0
 have Hab0 := Lib.hid hab0
 clear ha0 hab0
 go_enter Tryz.func25, Tryz.ntmps25
 go_upto_region 1 with fail
 obtain ⟨W2, hW2⟩ : ∃ W2, (w.alloc (.cells (a0.cells (.slice none 0 0)).toArray 31)).alloc (.cells #[.int .i64 0, .int .i64 0, .int .i64 0, .int .i64 0, .int .i64 0, .int .i64 0, .string ⟨#[]⟩, .int .i64 0, .float .f64 0, .string ⟨#[]⟩, .int .i64 0, .float .f64 0, .string ⟨#[]⟩, .int .i64 0, .int .i64 0, .int .i64 0, .int .i64 0, .slice none 0 0] 31) = W2 := ⟨_, rfl⟩
 have hE2 : Ext w W2 := hW2 ▸ (((Mod.refl _ w).alloc _).alloc _)
 have ha2 : W2.heap[b]? = some (.cells (a0.cells (.slice none 0 0)).toArray 31 (0, 0)) := hb ▸ hW2 ▸ heap_new2 _ _ _
 have hr2 : W2.heap[b + 1]? = some (.cells (AAct.zero.cells (.slice none 0 0)).toArray 31 (0, 0)) := by
  have h := heap_new (w.alloc (.cells (a0.cells (.slice none 0 0)).toArray 31)) (.cells #[.int .i64 0, .int .i64 0, .int .i64 0, .int .i64 0, .int .i64 0, .int .i64 0, .string ⟨#[]⟩, .int .i64 0, .float .f64 0, .string ⟨#[]⟩, .int .i64 0, .float .f64 0, .string ⟨#[]⟩, .int .i64 0, .int .i64 0, .int .i64 0, .int .i64 0, .slice none 0 0] 31)
  rw [hW2] at h
  rw [← show (w.alloc (.cells (a0.cells (.slice none 0 0)).toArray 31)).heap.size = b + 1 by simp [hb]]
  exact h
 rw [hW2]
 clear hW2
 have hs2 := (Array.getElem?_eq_some_iff.1 hr2).1
 have HE2 := Lib.hid hE2
 have Ha2 := Lib.hid ha2
 have Hr2 := Lib.hid hr2
 clear hE2 ha2 hr2
 go_wp2
 go_loopw [10, 11] (fun lv iv wr => ∃ (j : Nat) (pre : List Int), iv = .int .i64 ((j : Int) + 1) ∧ j ≤ n ∧ pre.length = j ∧ numsP ws = (numsP (ws.drop j)).map (pre ++ ·) ∧ NewR 3 W2 wr lv (pre.map (Value.int .i64)) ∧ Ext W2 wr) (fun _ iv _ => n + 1 - (intOf iv).toNat)
 case atStart => exact ⟨0, [], rfl, by omega, rfl, by simp, NewR.nil _ W2, Mod.refl _ _⟩
 case round =>
  obtain ⟨j, pre, rfl, hj, hpl0, hnp, hB, hE⟩ := hrel
  have Hnp := Lib.hid hnp
  have Hpl0 := Lib.hid hpl0
  have HE := Lib.hid hE
  have hr3 := hE.blk Hr2.out id
  clear hnp hpl0 hE
  by_cases hlt : j < n
  · obtain ⟨x, hx⟩ : ∃ x, ws[j]? = some x := ⟨_, List.getElem?_eq_getElem (by rw [Hn.out]; exact hlt)⟩
    have hxs : x.size ≤ 100000 := Hsz.out x (List.mem_of_getElem? hx)
    obtain ⟨g, off, rfl, hcell⟩ : ∃ g off, A = some ⟨g, off, none⟩ ∧ wr.cell? ⟨g, off + (j + 1), none⟩ = some (.string x) := by
     obtain ⟨_, A', c', e, _, _, hx'⟩ := Hv.out
     injection e with e1 _ e3; subst e1; subst e3
     obtain ⟨g, off, rfl, hg, hcell⟩ := hx' (by omega)
     exact ⟨g, off, rfl, (HE2.out.ext HE.out).cell (hcell (j + 1) _ (by simp [hx])) id⟩
    have hni := r_num x wr (Hg.out.ext (HE2.out.ext HE.out)) hxs
    unfold NumOut at hni
    have hw1 : IntKind.i64.wrap ((j : Int) + 1) = (j : Int) + 1 := by rw [IntKind.wrap_i64]; omega
    have ht1 : ((j : Int) + 1).toNat = j + 1 := by omega
    rcases hnx : numW x with _ | m
    · rw [hnx] at hni
      have Ho := Lib.hid (other_none Hk6.out (nums_bad Hnp.out hx hnx))
      clear hnx hx hw1
      simp only [Option.getD_none, Option.isSome_none] at hni
      clear ht1
      go_wp2_with fail
      refine hni.mono ?_
      rintro e w3 ⟨rfl, hE3⟩
      have hr4 := hE3.blk hr3 id
      have HE3 := Lib.hid ((HE2.out.ext HE.out).ext hE3)
      clear hE3 hr3
      go_wp2_with (refine wpList_stR rfl 31 _ _ rfl 18 (b + 1) 0 (AAct.cells AAct.zero (.slice none 0 0)) rfl rfl str_act _ _ (AAct.cells AAct.zero (.slice none 0 0)) hr4 rfl (by simp) (by simp [Value.oneCell']) rfl ?_; intro w8 hb8 hm8 hs8)
      exact bodyPost_ret (results_row2 rfl _ _ (b + 1) 31 (AAct.cells AAct.zero (.slice none 0 0)) str_act rfl hb8 rfl) rfl ⟨none, 0, 0, by rw [Ho.out]; rfl, by rw [Ho.out]; exact Sl.nil _ _ _, Mod.toExt ((Ext.mod HE3.out (Since w.heap.size)).trans hm8 (fun k hk e => by unfold Since; omega))⟩
    rw [hnx] at hni
    have Hst := Lib.hid (nums_step Hnp.out hx hnx)
    simp only [Option.getD_some, Option.isSome_some] at hni
    clear hnx hx hw1 ht1
    go_wp2_with fail
    refine hni.mono ?_
    rintro e w3 ⟨rfl, hE3⟩
    have HE3 := Lib.hid (HE.out.ext hE3)
    have hB3 := hB.ext hE3
    clear hE3 hr3 hB hni
    have ho := hB3.1
    rw [List.length_map, Hpl0.out] at ho
    obtain ⟨A5, c5, rfl⟩ := own_form ho
    have HB := Lib.hid hB3
    clear hB3
    go_wp2_with (at_builtin; go_must (refine wpList_app _ rfl _ _ 90 rfl 3 i0 _ 1 8 Tryz.underlying90 hi hz0 hz1 hz2 rfl (by omega) _ j (pre.map (Value.int .i64)) rfl (ho.alloc _) _ _ 1 _ rfl (Sl.one w3 _ _) (by simp [Value.oneCell']) (by simp only [maxLen]; omega) (by omega) ?_))
    intro v' w5 ho1 hgr hat
    obtain ⟨hB1, hE1⟩ := NewR.app (cs := (pre ++ [m]).map (Value.int .i64)) HB.out HE3.out ((Mod.refl _ w3).alloc _) (by simp) ho1 hgr hat (by have := HE3.out.size; omega)
    clear ho1 hgr hat ho
    go_wp2
    exact ⟨⟨j + 1, pre ++ [m], by push_cast; rfl, by omega, by simp [Hpl0.out], Hst.out, hB1, hE1⟩, by simp [intOf] <;> omega⟩
  obtain rfl : j = n := by omega
  have hnum : numsP ws = some pre := by rw [Hnp.out, List.drop_eq_nil_of_le (by rw [Hn.out]; exact Nat.le_refl _)]; simp [numsP]
  have hol := other_len Hk6.out hnum
  rw [Hpl0.out, Hpl.out, Ha0.out] at hol
  have hS := hB.sl
  rw [List.length_map, Hpl0.out] at hS
  obtain ⟨A5, c5, rfl⟩ : ∃ A c, u10 = .slice A j c := by obtain ⟨_, A, c, e, _⟩ := hS; exact ⟨A, c, e⟩
  have HS := Lib.hid (hS.mono (U := fun g => W2.heap.size ≤ g) hB.2)
  clear hB hS hnum
  by_cases hjw : j ≠ F
  · have Ho : Hid (otherP k ws = none) := Lib.hid (by rw [hol, if_neg hjw])
    have dj : ((j : Int) != (F : Int)) = true := by simp; omega
    have HE4 := Lib.hid (HE2.out.ext HE.out)
    clear hol hjw
    go_wp2_with (refine wpList_stR rfl 31 _ _ rfl 18 (b + 1) 0 (AAct.cells AAct.zero (.slice none 0 0)) rfl rfl str_act _ _ (AAct.cells AAct.zero (.slice none 0 0)) hr3 rfl (by simp) (by simp [Value.oneCell']) rfl ?_; intro w8 hb8 hm8 hs8)
    exact bodyPost_ret (results_row2 rfl _ _ (b + 1) 31 (AAct.cells AAct.zero (.slice none 0 0)) str_act rfl hb8 rfl) rfl ⟨none, 0, 0, by rw [Ho.out]; rfl, by rw [Ho.out]; exact Sl.nil _ _ _, Mod.toExt ((Ext.mod HE4.out (Since w.heap.size)).trans hm8 (fun k hk e => by unfold Since; omega))⟩
  obtain rfl : j = F := by omega
  rw [if_pos rfl] at hol
  have Hol := Lib.hid hol
  have ha3 := HE.out.blk Ha2.out id
  have Ha3 := Lib.hid ha3
  have Hr3 := Lib.hid hr3
  clear hol hjw ha3 hr3
  obtain ⟨W5, hW5⟩ : ∃ W5, W5 = wr := ⟨_, rfl⟩
  subst hW5
  go_wp2
  go_loopw [15] (fun iv wr => ∃ (i : Nat) (a' : AAct), iv = .int .i64 i ∧ i ≤ j ∧ wr.heap[b]? = some (.cells (a'.cells (.slice none 0 0)).toArray 31 (0, 0)) ∧ setAll a0 (placesP k) pre = setAll a' ((placesP k).drop i) (pre.drop i) ∧ Mod (fun g => g = b) W5 wr) (fun iv _ => j - (intOf iv).toNat)
  case atStart => exact ⟨0, a0, rfl, by omega, Ha3.out, rfl, Mod.refl _ _⟩
  case round =>
   obtain ⟨i, a', rfl, hi', ha4, hsa, hM⟩ := hrel
   have Hsa := Lib.hid hsa
   have HM := Lib.hid hM
   have Ha4 := Lib.hid ha4
   clear hsa hM ha4
   by_cases hlt : i < j
   · obtain ⟨c, hc⟩ : ∃ c, f[i]? = some c := ⟨_, List.getElem?_eq_getElem (by rw [HF.out]; exact hlt)⟩
     obtain ⟨m, hm⟩ : ∃ m, pre[i]? = some m := ⟨_, List.getElem?_eq_getElem (by rw [Hpl0.out]; exact hlt)⟩
     obtain ⟨g, off, rfl, hcell⟩ : ∃ g off, A5 = some ⟨g, off, none⟩ ∧ wr.cell? ⟨g, off + i, none⟩ = some (.int .i64 m) := by
      obtain ⟨_, A', c', e, _, _, hx'⟩ := HS.out
      injection e with e1 _ e3; subst e1; subst e3
      obtain ⟨g, off, rfl, hg, hcell⟩ := hx' (by omega)
      exact ⟨g, off, rfl, HM.out.cell (hcell i _ (by simp [hm])) (by show ¬ g = b; omega)⟩
     have hpi : (placesP k)[i]? = some (charP c) := by rw [Hfp.out, List.getElem?_map, hc]; rfl
     have hstp := setAll_step Hsa.out hpi hm
     have x1 := run_ix Hzl.out hc .i64
     have hcf := Hf.out c (List.mem_of_getElem? hc)
     have Hstp := Lib.hid hstp
     clear hstp hpi hm hc
     rcases hcf with rfl | rfl | rfl | rfl
     · have x1' : ∀ W, (Instr.index 9 (.string z) (.int .i64 (i : Int))).run Tryz.prog W = .ok (.int .u8 105) W := x1
       have q1 : wr.cell? ⟨b, 1, none⟩ = some (.int .i64 a'.node) := blk_cell Ha4.out rfl
       have q2 := blk_free 1 Ha4.out
       have h5 := blk_set Ha4.out 1 (.int .i64 m)
       have hm5 : Mod (fun g => g = b) wr (wr.setCell ⟨b, 1, none⟩ (.int .i64 m)) := mod_same (Mod.refl _ _) _ _
       have H5 := Lib.hid h5
       have HM5 := Lib.hid (HM.out.self hm5)
       clear x1 h5 hm5
       go_wp2
       exact ⟨⟨i + 1, a'.setO 1 m, by push_cast; rfl, by omega, H5.out, Hstp.out, HM5.out⟩, by simp [intOf] <;> omega⟩
     · have x1' : ∀ W, (Instr.index 9 (.string z) (.int .i64 (i : Int))).run Tryz.prog W = .ok (.int .u8 99) W := x1
       have q1 : wr.cell? ⟨b, 2, none⟩ = some (.int .i64 a'.client) := blk_cell Ha4.out rfl
       have q2 := blk_free 2 Ha4.out
       have h5 := blk_set Ha4.out 2 (.int .i64 m)
       have hm5 : Mod (fun g => g = b) wr (wr.setCell ⟨b, 2, none⟩ (.int .i64 m)) := mod_same (Mod.refl _ _) _ _
       have H5 := Lib.hid h5
       have HM5 := Lib.hid (HM.out.self hm5)
       clear x1 h5 hm5
       go_wp2
       exact ⟨⟨i + 1, a'.setO 2 m, by push_cast; rfl, by omega, H5.out, Hstp.out, HM5.out⟩, by simp [intOf] <;> omega⟩
     · have x1' : ∀ W, (Instr.index 9 (.string z) (.int .i64 (i : Int))).run Tryz.prog W = .ok (.int .u8 110) W := x1
       have q1 : wr.cell? ⟨b, 3, none⟩ = some (.int .i64 a'.n) := blk_cell Ha4.out rfl
       have q2 := blk_free 3 Ha4.out
       have h5 := blk_set Ha4.out 3 (.int .i64 m)
       have hm5 : Mod (fun g => g = b) wr (wr.setCell ⟨b, 3, none⟩ (.int .i64 m)) := mod_same (Mod.refl _ _) _ _
       have H5 := Lib.hid h5
       have HM5 := Lib.hid (HM.out.self hm5)
       clear x1 h5 hm5
       go_wp2
       exact ⟨⟨i + 1, a'.setO 3 m, by push_cast; rfl, by omega, H5.out, Hstp.out, HM5.out⟩, by simp [intOf] <;> omega⟩
     · have x1' : ∀ W, (Instr.index 9 (.string z) (.int .i64 (i : Int))).run Tryz.prog W = .ok (.int .u8 109) W := x1
       have q1 : wr.cell? ⟨b, 4, none⟩ = some (.int .i64 a'.m) := blk_cell Ha4.out rfl
       have q2 := blk_free 4 Ha4.out
       have h5 := blk_set Ha4.out 4 (.int .i64 m)
       have hm5 : Mod (fun g => g = b) wr (wr.setCell ⟨b, 4, none⟩ (.int .i64 m)) := mod_same (Mod.refl _ _) _ _
       have H5 := Lib.hid h5
       have HM5 := Lib.hid (HM.out.self hm5)
       clear x1 h5 hm5
       go_wp2
       exact ⟨⟨i + 1, a'.setO 4 m, by push_cast; rfl, by omega, H5.out, Hstp.out, HM5.out⟩, by simp [intOf] <;> omega⟩
   obtain rfl : i = j := by omega
   have hfin : setAll a0 (placesP k) pre = a' := by rw [Hsa.out]; exact setAll_end _ _ _ _ (by rw [Hpl.out]; exact Nat.le_refl _)
   have Ho : Hid (otherP k ws = some a') := Lib.hid (by rw [Hol.out, hfin])
   have hbb : a'.bytes = [] := by rw [← hfin, setAll_bytes]; exact Hab0.out
   have hr5 := HM.out.blk Hr3.out (by omega)
   have HEM : Hid (Mod (Since w.heap.size) w wr) := Lib.hid ((Ext.mod (HE2.out.ext HE.out) (Since w.heap.size)).trans HM.out (fun k hk e => by unfold Since; omega))
   have Hbb := Lib.hid hbb
   clear hfin hbb
   go_wp2_with (first
     | (refine wpList_ld rfl 31 _ rfl (.pointer (some ⟨b, 0, none⟩)) (.agg (a'.cells (.slice none 0 0)).toArray) rfl (load_row (o := 0) str_act Ha4.out rfl (fun j u hu => by rw [Nat.zero_add]; exact hu)) ?_)
     | (refine wpList_stR rfl 31 _ _ rfl 18 (b + 1) 0 (a'.cells (.slice none 0 0)) rfl rfl str_act _ _ (a'.cells (.slice none 0 0)) hr5 rfl (by simp) (by simp [Value.oneCell']) rfl ?_; intro w8 hb8 hm8 hs8))
   exact bodyPost_ret (results_row2 rfl _ _ (b + 1) 31 (a'.cells (.slice none 0 0)) str_act rfl hb8 rfl) rfl ⟨none, 0, 0, by rw [Ho.out]; rfl, by rw [Ho.out]; show Byt _ _ _ a'.bytes; rw [Hbb.out]; exact Sl.nil _ _ _, Mod.toExt (Mod.trans HEM.out hm8 (fun k hk e => by unfold Since; omega))⟩
end Go.Proofs.YtmebipnljkopgaaGreatDoor
