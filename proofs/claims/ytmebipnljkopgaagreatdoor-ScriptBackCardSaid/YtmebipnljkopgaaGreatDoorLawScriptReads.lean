/-
 Layer 27 (script): the law ScriptReads: any text is the line of just the act that the page says, or of none. Conditions: the package variables are as start-up lays them (Glb).
-/
import Derived.Test.YtmebipnljkopgaaGreatDoorScrE
namespace Go.Proofs.YtmebipnljkopgaaGreatDoor
set_option linter.unusedSimpArgs false
set_option linter.unusedVariables false
open Go.RowKit
def wakeLine : ByteArray := ⟨#[112, 117, 116, 32, 49, 32, 48, 32, 107, 54, 49, 32, 116, 55, 56]⟩
def wakeAct : AAct := { AAct.zero with kind := 10, client := 1, node := 0, cmd := ⟨2, ⟨#[97]⟩, AVal.zero, ⟨2, 0, ⟨#[120]⟩⟩⟩ }
theorem itoa_dig (u : Nat) (h : u < 10) : Lib.itoa (u : Int) = [UInt8.ofNat (48 + u)] := by
 rw [Lib.itoa_nonneg, Lib.decDigits, dif_pos h]
theorem num_dig (u : Nat) (h : u < 10) : numW (bA [UInt8.ofNat (48 + u)]) = some (u : Int) := by
 have e := itoa_dig u h
 have a := atoi_itoa (u : Int) (by omega) (by omega)
 rw [e] at a
 unfold numW
 rw [bA_bs, a]
 simp only
 rw [e, if_pos rfl]
theorem wake_call : callP 2 [bA [49], bA [48], bA [107, 54, 49], bA [116, 55, 56]] = some wakeAct := by
 have h1 : numW (bA [49]) = some 1 := num_dig 1 (by omega)
 have h0 : numW (bA [48]) = some 0 := num_dig 0 (by omega)
 have hk : keyP (bA [107, 54, 49]) = some (bA [97]) := rfl
 have hv : valP (bA [116, 55, 56]) = some ⟨2, 0, bA [120]⟩ := by rw [valP_t (r := [55, 56]) rfl]; rfl
 unfold callP
 simp only [h1, h0, hk, List.mapM_cons, hv, List.mapM_nil]
 rfl
theorem wake_read : readP wakeLine = some wakeAct := by
 have hw : wordsB wakeLine = [bA [112, 117, 116], bA [49], bA [48], bA [107, 54, 49], bA [116, 55, 56]] := rfl
 have hk : kindP (bsOf (bA [112, 117, 116])) = 0 := by rw [bA_bs]; decide
 have ho : opP (bsOf (bA [112, 117, 116])) = 2 := by rw [bA_bs]; decide
 unfold readP
 rw [hw]
 simp only [hk, ho]
 rw [if_neg (by decide), if_pos (by decide)]
 exact wake_call
set_option maxRecDepth 100000 in
set_option maxHeartbeats 1000000 in
theorem l_wakes27 (w : World) (hg : Glb w) : Calls Tryz.prog 9 #[] w fun e w' => e = .returned (.bool true) ∧ Ext w w' := by
 have hi := s_read wakeLine w hg (by decide)
 rw [wake_read] at hi
 clear hg
 go_enter Tryz.func9, Tryz.ntmps9
 go_wp2_with fail
 refine hi.mono ?_
 rintro e w1 ⟨A, n, c, rfl, hB, hE⟩
 have HE := Lib.hid hE
 clear hB hE hi
 simp only [Option.getD_some, Option.isSome_some, if_true]
 obtain ⟨b, hb⟩ : ∃ b, w1.heap.size = b := ⟨_, rfl⟩
 have hn3 : (w1.alloc (.cells (AAct.zero.cells (.slice none 0 0)).toArray 31)).heap[b]? = some (.cells (AAct.zero.cells (.slice none 0 0)).toArray 31 (0, 0)) := hb ▸ heap_new w1 _
 go_upto_region 2 with (refine wpList_stR rfl 31 _ _ rfl 18 b 0 (wakeAct.cells (.slice A n c)) rfl rfl str_act _ _ (wakeAct.cells (.slice A n c)) hn3 rfl (by simp) (by simp [Value.oneCell']) rfl ?_; intro W4 ha4 hm4 hs4)
 have hX4 : Ext w1 W4 := Mod.toExt (((Mod.refl (Since w1.heap.size) w1).alloc _).trans hm4 (fun k hk e => by unfold Since; omega))
 have HX := Lib.hid (HE.out.ext hX4)
 have p0 : W4.cell? ⟨b, 0, none⟩ = some (.int .i64 10) := blk_cell ha4 rfl
 have p2 : W4.cell? ⟨b, 2, none⟩ = some (.int .i64 1) := blk_cell ha4 rfl
 have p6 : W4.cell? ⟨b, 6, none⟩ = some (.string ⟨#[97]⟩) := blk_cell ha4 rfl
 have p12 : W4.cell? ⟨b, 12, none⟩ = some (.string ⟨#[120]⟩) := blk_cell ha4 rfl
 clear ha4 hm4 hs4 hX4 hn3
 go_wp2
 go_ret
 exact ⟨rfl, HX.out⟩
set_option maxRecDepth 100000 in
set_option maxHeartbeats 1000000 in
theorem l_reads (s : ByteArray) (w : World) (hg : Glb w) : Calls Tryz.prog 3 #[.string s] w fun e w' => e = .returned (.bool true) ∧ Ext w w' := by
 by_cases h6 : 6000 < s.size
 · clear hg
   go_enter Tryz.func3, Tryz.ntmps3
   go_wp2
   go_ret
   exact ⟨rfl, Mod.refl _ _⟩
 have hs : s.size ≤ 100000 := by omega
 have hsr := s_read s w hg hs
 have hpr := fun W hW => r_read s W hW hs
 have Hpr := Lib.hid hpr
 have Hg := Lib.hid hg
 obtain ⟨res, hres⟩ : ∃ res, readP s = res := ⟨_, rfl⟩
 rw [hres] at hsr
 have Hres := Lib.hid hres
 clear hpr hg hres
 go_enter Tryz.func3, Tryz.ntmps3
 go_wp2_with fail
 refine hsr.mono ?_
 rintro e w1 ⟨A, n, c, rfl, hB, hE⟩
 obtain ⟨a, ha⟩ : ∃ a, res.getD AAct.zero = a := ⟨_, rfl⟩
 obtain ⟨y1, hy1⟩ : ∃ y1, (if res.isSome = true then Value.int .i64 0 else Value.int .i64 16) = y1 := ⟨_, rfl⟩
 rw [hy1]
 have Hy1 := Lib.hid hy1
 clear hy1
 rw [ha] at hB ⊢
 have Ha := Lib.hid ha
 have HE := Lib.hid hE
 have HB := Lib.hid hB
 clear ha hB hE hsr
 obtain ⟨b, hb⟩ : ∃ b, w1.heap.size = b := ⟨_, rfl⟩
 have hn3 : (w1.alloc (.cells (AAct.zero.cells (.slice none 0 0)).toArray 31)).heap[b]? = some (.cells (AAct.zero.cells (.slice none 0 0)).toArray 31 (0, 0)) := hb ▸ heap_new w1 _
 go_upto_region 4 with (refine wpList_stR rfl 31 _ _ rfl 18 b 0 (a.cells (.slice A n c)) rfl rfl str_act _ _ (a.cells (.slice A n c)) hn3 rfl (by simp) (by simp [Value.oneCell']) rfl ?_; intro W4 ha4 hm4 hs4)
 have hX4 : Ext w1 W4 := Mod.toExt (((Mod.refl (Since w1.heap.size) w1).alloc _).trans hm4 (fun k hk e => by unfold Since; omega))
 have HX4 := Lib.hid (HE.out.ext hX4)
 have HB4 := Lib.hid (HB.out.ext hX4)
 have Ha4 := Lib.hid ha4
 have hpi := Hpr.out W4 (Hg.out.ext HX4.out)
 rw [Hres.out] at hpi
 clear ha4 hm4 hs4 hX4 hn3
 go_wp2_with fail
 refine hpi.mono ?_
 rintro e w5 ⟨A', n', c', rfl, hB5, hE5⟩
 obtain ⟨y2, hy2⟩ : ∃ y2, (if res.isSome = true then Value.bool true else Value.bool false) = y2 := ⟨_, rfl⟩
 rw [hy2]
 have Hy2 := Lib.hid hy2
 clear hy2
 rw [Ha.out] at hB5 ⊢
 have HB5 := Lib.hid hB5
 have HE5 := Lib.hid (HX4.out.ext hE5)
 have HB45 := Lib.hid (HB4.out.ext hE5)
 have Ha5 := Lib.hid (hE5.blk Ha4.out id)
 clear hB5 hE5 hpi
 obtain ⟨d, hd⟩ : ∃ d, w5.heap.size = d := ⟨_, rfl⟩
 have hn5 : (w5.alloc (.cells (AAct.zero.cells (.slice none 0 0)).toArray 31)).heap[d]? = some (.cells (AAct.zero.cells (.slice none 0 0)).toArray 31 (0, 0)) := hd ▸ heap_new w5 _
 go_upto_region 5 with (refine wpList_stR rfl 31 _ _ rfl 18 d 0 (a.cells (.slice A' n' c')) rfl rfl str_act _ _ (a.cells (.slice A' n' c')) hn5 rfl (by simp) (by simp [Value.oneCell']) rfl ?_; intro W6 ha6 hm6 hs6)
 have hX6 : Ext w5 W6 := Mod.toExt (((Mod.refl (Since w5.heap.size) w5).alloc _).trans hm6 (fun k hk e => by unfold Since; omega))
 have HX6 := Lib.hid (HE5.out.ext hX6)
 have hb6 := hX6.blk Ha5.out id
 have hka := k_act a W6 _ _ _ _ (HB45.out.ext hX6) (HB5.out.ext hX6)
 have hwk := fun W hW => l_wakes27 W hW
 have Hwk := Lib.hid hwk
 have Hka := Lib.hid hka
 clear hm6 hs6 hX6 hn5 hwk hka
 have hl1 : (Instr.loadAt 31 (.pointer (some ⟨b, 0, none⟩))).run Tryz.prog W6 = .ok (.agg (a.cells (.slice A n c)).toArray) W6 := load_row str_act hb6 rfl (fun j u hu => by rw [Nat.zero_add]; exact hu)
 have hl2 : (Instr.loadAt 31 (.pointer (some ⟨d, 0, none⟩))).run Tryz.prog W6 = .ok (.agg (a.cells (.slice A' n' c')).toArray) W6 := load_row str_act ha6 rfl (fun j u hu => by rw [Nat.zero_add]; exact hu)
 clear hb6 ha6
 have e1 := Hy1.out
 have e2 := Hy2.out
 clear Hy1 Hy2
 rcases res with _ | y
 · obtain rfl : Value.int .i64 16 = y1 := e1
   obtain rfl : Value.bool false = y2 := e2
   go_wp2_with (first
     | (refine wpList_ld rfl 31 _ rfl (.pointer (some ⟨b, 0, none⟩)) _ rfl hl1 ?_)
     | (refine wpList_ld rfl 31 _ rfl (.pointer (some ⟨d, 0, none⟩)) _ rfl hl2 ?_)
     | (go_at_call 8; refine Hka.out.mono ?_; rintro e w7 ⟨rfl, hE7⟩; clear hl1 hl2)
     | (go_at_call 9; refine (Hwk.out _ (Hg.out.ext (HX6.out.ext hE7))).mono ?_; rintro e w8 ⟨rfl, hE8⟩))
   go_ret
   exact ⟨rfl, (HX6.out.ext hE7).ext hE8⟩
 obtain rfl : Value.int .i64 0 = y1 := e1
 obtain rfl : Value.bool true = y2 := e2
 go_wp2_with (first
   | (refine wpList_ld rfl 31 _ rfl (.pointer (some ⟨b, 0, none⟩)) _ rfl hl1 ?_)
   | (refine wpList_ld rfl 31 _ rfl (.pointer (some ⟨d, 0, none⟩)) _ rfl hl2 ?_)
   | (go_at_call 8; refine Hka.out.mono ?_; rintro e w7 ⟨rfl, hE7⟩; clear hl1 hl2)
   | (go_at_call 9; refine (Hwk.out _ (Hg.out.ext (HX6.out.ext hE7))).mono ?_; rintro e w8 ⟨rfl, hE8⟩))
 go_ret
 exact ⟨rfl, (HX6.out.ext hE7).ext hE8⟩
end Go.Proofs.YtmebipnljkopgaaGreatDoor
