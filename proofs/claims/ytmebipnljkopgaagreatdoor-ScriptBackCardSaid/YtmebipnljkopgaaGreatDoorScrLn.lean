/-
 Layer 27 (script): script.Line: the words of an act's line (the switch), and the whole. Conditions: the act is not heavy (ALt); the package variables are as start-up lays them (Glb).
-/
import Derived.Test.YtmebipnljkopgaaGreatDoorScrZc
import Derived.Test.YtmebipnljkopgaaGreatDoorScrEt
import Derived.Test.YtmebipnljkopgaaGreatDoorScrLq
import Derived.Test.YtmebipnljkopgaaGreatDoorScrR
namespace Go.Proofs.YtmebipnljkopgaaGreatDoor
set_option linter.unusedSimpArgs false
set_option linter.unusedVariables false
open Go.RowKit
theorem ALt.ok {a : AAct} (h : ALt a) : AOk a := ⟨h.node, h.client, h.n, h.m, h.conf, by have := h.key; omega, h.oldn, by have := h.oldt; omega, h.valn, by have := h.valt; omega, by have := h.bytes; omega⟩
def lnCode : Option ByteArray → Int
  | some _ => 0
  | none => 16
theorem callW_len7 (a : AAct) : (callW a).length ≤ 10 := by
 unfold callW
 by_cases h0 : a.cmd.kind < 1 ∨ 6 < a.cmd.kind
 · rw [if_pos h0]; simp
 rw [if_neg h0]
 by_cases h4 : a.cmd.kind = 4
 · rw [if_pos h4, if_pos (by omega)]; simp
 rw [if_neg h4]
 by_cases h5 : a.cmd.kind ≠ 1 ∧ a.cmd.kind ≠ 3
 · rw [if_pos h5]; simp
 · rw [if_neg h5]; simp
theorem wordsA_len (a : AAct) : (wordsA a).length ≤ 10 := by
 unfold wordsA
 by_cases g1 : a.kind = 1
 · rw [if_pos g1]; simp
 rw [if_neg g1]
 by_cases g2 : a.kind = 2
 · rw [if_pos g2]; simp
 rw [if_neg g2]
 by_cases g3 : a.kind = 3
 · rw [if_pos g3]; simp
 rw [if_neg g3]
 by_cases g4 : a.kind = 4
 · rw [if_pos g4]; simp
 rw [if_neg g4]
 by_cases g5 : a.kind = 5
 · rw [if_pos g5]; simp
 rw [if_neg g5]
 by_cases g6 : a.kind = 6
 · rw [if_pos g6]; simp
 rw [if_neg g6]
 by_cases g7 : a.kind = 7
 · rw [if_pos g7]; simp
 rw [if_neg g7]
 by_cases g8 : a.kind = 8
 · rw [if_pos g8]; simp
 rw [if_neg g8]
 by_cases g9 : a.kind = 9
 · rw [if_pos g9]; simp
 rw [if_neg g9]
 by_cases g10 : a.kind = 10
 · rw [if_pos g10]; exact callW_len7 a
 rw [if_neg g10]
 by_cases g11 : a.kind = 11
 · rw [if_pos g11]; simp
 rw [if_neg g11]
 by_cases g12 : a.kind = 12
 · rw [if_pos g12]; simp
 rw [if_neg g12]
 by_cases g13 : a.kind = 13
 · rw [if_pos g13]; simp
 rw [if_neg g13]
 by_cases g14 : a.kind = 14
 · rw [if_pos g14]; simp
 rw [if_neg g14]
 simp
set_option maxRecDepth 100000 in
set_option maxHeartbeats 8000000 in
theorem s_line (a : AAct) (bv : Value) (w : World) (hg : Glb w) (hlt : ALt a) (hB : Byt w (fun g => g < w.heap.size) bv a.bytes) :
  Calls Tryz.prog 12 #[.agg (a.cells bv).toArray] w fun e w' => e = .returned (.tuple #[.string ((lineP a).getD ⟨#[]⟩), .int .i64 (lnCode (lineP a))]) ∧ Ext w w' := by
 obtain ⟨b, hb⟩ : ∃ b, w.heap.size = b := ⟨_, rfl⟩
 have hok := hlt.ok
 have hll := line_len hlt
 have Hwl := Lib.hid (Nat.le_trans (wordsA_len a) (by omega : 10 ≤ 1000))
 have Hg := Lib.hid hg
 have Hok := Lib.hid hok
 have Hll := Lib.hid hll
 have HB := Lib.hid hB
 clear hg hok hll hlt hB
 go_enter Tryz.func12, Tryz.ntmps12
 go_upto_region 1 with fail
 obtain ⟨W1, hW1⟩ : ∃ W1, w.alloc (.cells (a.cells bv).toArray 31) = W1 := ⟨_, rfl⟩
 have hE1 : Ext w W1 := hW1 ▸ ((Mod.refl _ w).alloc _)
 have hb1 : W1.heap[b]? = some (.cells (a.cells bv).toArray 31 (0, 0)) := hb ▸ hW1 ▸ heap_new _ _
 rw [hW1]
 clear hW1
 obtain ⟨wb, hwb⟩ : ∃ wb, W1.heap.size = wb := ⟨_, rfl⟩
 have hbwb : b < wb := by rw [← hwb]; exact (Array.getElem?_eq_some_iff.1 hb1).1
 go_upto_region 2 with fail
 obtain ⟨W2, hW2⟩ : ∃ W2, W1.alloc (.cells #[.slice none 0 0] 67) = W2 := ⟨_, rfl⟩
 have hE2 : Ext W1 W2 := hW2 ▸ ((Mod.refl _ W1).alloc _)
 have hw2 : W2.heap[wb]? = some (.cells [Value.slice none 0 0].toArray 67 (0, 0)) := hwb ▸ hW2 ▸ heap_new _ _
 have hs2 : W2.heap.size = wb + 1 := by rw [← hW2, ← hwb]; simp
 rw [hW2]
 clear hW2
 have hWr : WrE W2 wb (fun g => g < wb) [] := ⟨⟨.slice none 0 0, hw2, ⟨rfl, .inl ⟨rfl, rfl⟩⟩, fun g hg => by cases hg⟩, by omega, fun g hg => by omega, by omega⟩
 have hb2 := hE2.blk hb1 id
 have p0 : W2.cell? ⟨b, 0, none⟩ = some (.int .i64 a.kind) := blk_cell hb2 rfl
 have hgs := Hg.out.size
 have HWr := Lib.hid hWr
 have Hb2 := Lib.hid hb2
 have HE2 := Lib.hid (hE1.ext hE2)
 have HG2 := Lib.hid (Hg.out.ext (hE1.ext hE2))
 have HB2 : Hid (Byt W2 (fun g => g < wb) bv a.bytes) := Lib.hid ((HB.out.ext (hE1.ext hE2)).mono (fun g hg => by have := hE1.size; omega))
 clear hWr hb2 hE2 hE1 hw2 hb1
 obtain ⟨k, hk⟩ : ∃ k, a.kind = k := ⟨_, rfl⟩
 rw [hk] at p0
 have Hk := Lib.hid hk
 clear hk
 go_upto_block 0 with fail
 go_cut [10] from 11 to 125 (fun _ wx => WrE wx wb (fun g => g < wb) (wordsA a) ∧ Mod (fun g => wb ≤ g ∧ ¬ g < wb) W2 wx)
 case first =>
  by_cases h1 : k = 1
  · subst h1
    have hA : Hid (wordsA a = [[116, 105, 99, 107], Lib.itoa a.node]) := Lib.hid (by unfold wordsA; simp [Hk.out])
    have hwd : Calls Tryz.prog 30 #[.pointer (some ⟨wb, 0, none⟩), .string ⟨#[116, 105, 99, 107]⟩] W2 (WeOut W2 wb (fun g => g < wb) [[116, 105, 99, 107]]) := e_word HWr.out [116, 105, 99, 107] (by simp)
    go_upto_region 5 with (go_at_call 30; refine hwd.mono ?_; rintro e w6 ⟨rfl, hW6, hM6⟩)
    have hb6 := hM6.blk Hb2.out (fun e => by omega)
    have HW6 := Lib.hid hW6
    have HM6 := Lib.hid hM6
    have q1 : w6.cell? ⟨b, 1, none⟩ = some (.int .i64 a.node) := blk_cell hb6 rfl
    have hi := e_ints hW6 (HG2.out.mod hM6 (by rintro j hj e; omega)) (by omega) [a.node] 3 (by simp) (by intro i hi; simp only [List.mem_cons, List.not_mem_nil, or_false] at hi; rcases hi with rfl; exact Hok.out.node)
    simp only [List.map_cons, List.map_nil, List.length_cons, List.length_nil] at hi
    clear hW6 hM6 hb6 hwd
    go_wp2_with (go_at_call 31; refine hi.mono ?_; rintro e w7 ⟨rfl, hW7, hM7⟩)
    go_meet
    rw [hA.out]
    exact ⟨hW7, HM6.out.self hM7⟩
  by_cases h2 : k = 2
  · subst h2
    have hA : Hid (wordsA a = [[100, 101, 108, 105, 118, 101, 114], Lib.itoa a.n]) := Lib.hid (by unfold wordsA; simp [Hk.out])
    have hwd : Calls Tryz.prog 30 #[.pointer (some ⟨wb, 0, none⟩), .string ⟨#[100, 101, 108, 105, 118, 101, 114]⟩] W2 (WeOut W2 wb (fun g => g < wb) [[100, 101, 108, 105, 118, 101, 114]]) := e_word HWr.out [100, 101, 108, 105, 118, 101, 114] (by simp)
    go_upto_region 8 with (go_at_call 30; refine hwd.mono ?_; rintro e w6 ⟨rfl, hW6, hM6⟩)
    have hb6 := hM6.blk Hb2.out (fun e => by omega)
    have HW6 := Lib.hid hW6
    have HM6 := Lib.hid hM6
    have q3 : w6.cell? ⟨b, 3, none⟩ = some (.int .i64 a.n) := blk_cell hb6 rfl
    have hi := e_ints hW6 (HG2.out.mod hM6 (by rintro j hj e; omega)) (by omega) [a.n] 3 (by simp) (by intro i hi; simp only [List.mem_cons, List.not_mem_nil, or_false] at hi; rcases hi with rfl; exact Hok.out.n)
    simp only [List.map_cons, List.map_nil, List.length_cons, List.length_nil] at hi
    clear hW6 hM6 hb6 hwd
    go_wp2_with (go_at_call 31; refine hi.mono ?_; rintro e w7 ⟨rfl, hW7, hM7⟩)
    go_meet
    rw [hA.out]
    exact ⟨hW7, HM6.out.self hM7⟩
  by_cases h3 : k = 3
  · subst h3
    have hA : Hid (wordsA a = [[100, 114, 111, 112], Lib.itoa a.n]) := Lib.hid (by unfold wordsA; simp [Hk.out])
    have hwd : Calls Tryz.prog 30 #[.pointer (some ⟨wb, 0, none⟩), .string ⟨#[100, 114, 111, 112]⟩] W2 (WeOut W2 wb (fun g => g < wb) [[100, 114, 111, 112]]) := e_word HWr.out [100, 114, 111, 112] (by simp)
    go_upto_region 11 with (go_at_call 30; refine hwd.mono ?_; rintro e w6 ⟨rfl, hW6, hM6⟩)
    have hb6 := hM6.blk Hb2.out (fun e => by omega)
    have HW6 := Lib.hid hW6
    have HM6 := Lib.hid hM6
    have q3 : w6.cell? ⟨b, 3, none⟩ = some (.int .i64 a.n) := blk_cell hb6 rfl
    have hi := e_ints hW6 (HG2.out.mod hM6 (by rintro j hj e; omega)) (by omega) [a.n] 3 (by simp) (by intro i hi; simp only [List.mem_cons, List.not_mem_nil, or_false] at hi; rcases hi with rfl; exact Hok.out.n)
    simp only [List.map_cons, List.map_nil, List.length_cons, List.length_nil] at hi
    clear hW6 hM6 hb6 hwd
    go_wp2_with (go_at_call 31; refine hi.mono ?_; rintro e w7 ⟨rfl, hW7, hM7⟩)
    go_meet
    rw [hA.out]
    exact ⟨hW7, HM6.out.self hM7⟩
  by_cases h4 : k = 4
  · subst h4
    have hA : Hid (wordsA a = [[116, 119, 105, 99, 101], Lib.itoa a.n]) := Lib.hid (by unfold wordsA; simp [Hk.out])
    have hwd : Calls Tryz.prog 30 #[.pointer (some ⟨wb, 0, none⟩), .string ⟨#[116, 119, 105, 99, 101]⟩] W2 (WeOut W2 wb (fun g => g < wb) [[116, 119, 105, 99, 101]]) := e_word HWr.out [116, 119, 105, 99, 101] (by simp)
    go_upto_region 14 with (go_at_call 30; refine hwd.mono ?_; rintro e w6 ⟨rfl, hW6, hM6⟩)
    have hb6 := hM6.blk Hb2.out (fun e => by omega)
    have HW6 := Lib.hid hW6
    have HM6 := Lib.hid hM6
    have q3 : w6.cell? ⟨b, 3, none⟩ = some (.int .i64 a.n) := blk_cell hb6 rfl
    have hi := e_ints hW6 (HG2.out.mod hM6 (by rintro j hj e; omega)) (by omega) [a.n] 3 (by simp) (by intro i hi; simp only [List.mem_cons, List.not_mem_nil, or_false] at hi; rcases hi with rfl; exact Hok.out.n)
    simp only [List.map_cons, List.map_nil, List.length_cons, List.length_nil] at hi
    clear hW6 hM6 hb6 hwd
    go_wp2_with (go_at_call 31; refine hi.mono ?_; rintro e w7 ⟨rfl, hW7, hM7⟩)
    go_meet
    rw [hA.out]
    exact ⟨hW7, HM6.out.self hM7⟩
  by_cases h5 : k = 5
  · subst h5
    have hA : Hid (wordsA a = [[109, 111, 118, 101], Lib.itoa a.n, Lib.itoa a.m]) := Lib.hid (by unfold wordsA; simp [Hk.out])
    have hwd : Calls Tryz.prog 30 #[.pointer (some ⟨wb, 0, none⟩), .string ⟨#[109, 111, 118, 101]⟩] W2 (WeOut W2 wb (fun g => g < wb) [[109, 111, 118, 101]]) := e_word HWr.out [109, 111, 118, 101] (by simp)
    go_upto_region 17 with (go_at_call 30; refine hwd.mono ?_; rintro e w6 ⟨rfl, hW6, hM6⟩)
    have hb6 := hM6.blk Hb2.out (fun e => by omega)
    have HW6 := Lib.hid hW6
    have HM6 := Lib.hid hM6
    have q3 : w6.cell? ⟨b, 3, none⟩ = some (.int .i64 a.n) := blk_cell hb6 rfl
    have q4 : w6.cell? ⟨b, 4, none⟩ = some (.int .i64 a.m) := blk_cell hb6 rfl
    have hi := e_ints hW6 (HG2.out.mod hM6 (by rintro j hj e; omega)) (by omega) [a.n, a.m] 3 (by simp) (by intro i hi; simp only [List.mem_cons, List.not_mem_nil, or_false] at hi; rcases hi with rfl | rfl; exact Hok.out.n; exact Hok.out.m)
    simp only [List.map_cons, List.map_nil, List.length_cons, List.length_nil] at hi
    clear hW6 hM6 hb6 hwd
    go_wp2_with (go_at_call 31; refine hi.mono ?_; rintro e w7 ⟨rfl, hW7, hM7⟩)
    go_meet
    rw [hA.out]
    exact ⟨hW7, HM6.out.self hM7⟩
  by_cases h6 : k = 6
  · subst h6
    have hA : Hid (wordsA a = [[114, 97, 119], rawW a.bytes]) := Lib.hid (by unfold wordsA; simp [Hk.out])
    have hwd : Calls Tryz.prog 30 #[.pointer (some ⟨wb, 0, none⟩), .string ⟨#[114, 97, 119]⟩] W2 (WeOut W2 wb (fun g => g < wb) [[114, 97, 119]]) := e_word HWr.out [114, 97, 119] (by simp)
    go_upto_region 20 with (go_at_call 30; refine hwd.mono ?_; rintro e w6 ⟨rfl, hW6, hM6⟩)
    have hb6 := hM6.blk Hb2.out (fun e => by omega)
    have HW6 := Lib.hid hW6
    have HM6 := Lib.hid hM6
    have hr := e_raw hW6 bv a.bytes (HB2.out.mod hM6 (fun g hg e => e.2 hg)) Hok.out.bytes (by simp)
    have q17 : w6.cell? ⟨b, 17, none⟩ = some bv := blk_cell hb6 rfl
    clear hW6 hM6 hb6 hwd
    go_wp2_with (go_at_call 32; refine hr.mono ?_; rintro e w7 ⟨rfl, hW7, hM7⟩)
    go_meet
    rw [hA.out]
    exact ⟨hW7, HM6.out.self hM7⟩
  by_cases h7 : k = 7
  · subst h7
    have hA : Hid (wordsA a = [[99, 114, 97, 115, 104], Lib.itoa a.node, Lib.itoa a.n]) := Lib.hid (by unfold wordsA; simp [Hk.out])
    have hwd : Calls Tryz.prog 30 #[.pointer (some ⟨wb, 0, none⟩), .string ⟨#[99, 114, 97, 115, 104]⟩] W2 (WeOut W2 wb (fun g => g < wb) [[99, 114, 97, 115, 104]]) := e_word HWr.out [99, 114, 97, 115, 104] (by simp)
    go_upto_region 23 with (go_at_call 30; refine hwd.mono ?_; rintro e w6 ⟨rfl, hW6, hM6⟩)
    have hb6 := hM6.blk Hb2.out (fun e => by omega)
    have HW6 := Lib.hid hW6
    have HM6 := Lib.hid hM6
    have q1 : w6.cell? ⟨b, 1, none⟩ = some (.int .i64 a.node) := blk_cell hb6 rfl
    have q3 : w6.cell? ⟨b, 3, none⟩ = some (.int .i64 a.n) := blk_cell hb6 rfl
    have hi := e_ints hW6 (HG2.out.mod hM6 (by rintro j hj e; omega)) (by omega) [a.node, a.n] 3 (by simp) (by intro i hi; simp only [List.mem_cons, List.not_mem_nil, or_false] at hi; rcases hi with rfl | rfl; exact Hok.out.node; exact Hok.out.n)
    simp only [List.map_cons, List.map_nil, List.length_cons, List.length_nil] at hi
    clear hW6 hM6 hb6 hwd
    go_wp2_with (go_at_call 31; refine hi.mono ?_; rintro e w7 ⟨rfl, hW7, hM7⟩)
    go_meet
    rw [hA.out]
    exact ⟨hW7, HM6.out.self hM7⟩
  by_cases h8 : k = 8
  · subst h8
    have hA : Hid (wordsA a = [[116, 114, 105, 112], Lib.itoa a.node, Lib.itoa a.n, Lib.itoa a.m]) := Lib.hid (by unfold wordsA; simp [Hk.out])
    have hwd : Calls Tryz.prog 30 #[.pointer (some ⟨wb, 0, none⟩), .string ⟨#[116, 114, 105, 112]⟩] W2 (WeOut W2 wb (fun g => g < wb) [[116, 114, 105, 112]]) := e_word HWr.out [116, 114, 105, 112] (by simp)
    go_upto_region 26 with (go_at_call 30; refine hwd.mono ?_; rintro e w6 ⟨rfl, hW6, hM6⟩)
    have hb6 := hM6.blk Hb2.out (fun e => by omega)
    have HW6 := Lib.hid hW6
    have HM6 := Lib.hid hM6
    have q1 : w6.cell? ⟨b, 1, none⟩ = some (.int .i64 a.node) := blk_cell hb6 rfl
    have q3 : w6.cell? ⟨b, 3, none⟩ = some (.int .i64 a.n) := blk_cell hb6 rfl
    have q4 : w6.cell? ⟨b, 4, none⟩ = some (.int .i64 a.m) := blk_cell hb6 rfl
    have hi := e_ints hW6 (HG2.out.mod hM6 (by rintro j hj e; omega)) (by omega) [a.node, a.n, a.m] 3 (by simp) (by intro i hi; simp only [List.mem_cons, List.not_mem_nil, or_false] at hi; rcases hi with rfl | rfl | rfl; exact Hok.out.node; exact Hok.out.n; exact Hok.out.m)
    simp only [List.map_cons, List.map_nil, List.length_cons, List.length_nil] at hi
    clear hW6 hM6 hb6 hwd
    go_wp2_with (go_at_call 31; refine hi.mono ?_; rintro e w7 ⟨rfl, hW7, hM7⟩)
    go_meet
    rw [hA.out]
    exact ⟨hW7, HM6.out.self hM7⟩
  by_cases h9 : k = 9
  · subst h9
    have hA : Hid (wordsA a = [[115, 116, 97, 114, 116], Lib.itoa a.node]) := Lib.hid (by unfold wordsA; simp [Hk.out])
    have hwd : Calls Tryz.prog 30 #[.pointer (some ⟨wb, 0, none⟩), .string ⟨#[115, 116, 97, 114, 116]⟩] W2 (WeOut W2 wb (fun g => g < wb) [[115, 116, 97, 114, 116]]) := e_word HWr.out [115, 116, 97, 114, 116] (by simp)
    go_upto_region 29 with (go_at_call 30; refine hwd.mono ?_; rintro e w6 ⟨rfl, hW6, hM6⟩)
    have hb6 := hM6.blk Hb2.out (fun e => by omega)
    have HW6 := Lib.hid hW6
    have HM6 := Lib.hid hM6
    have q1 : w6.cell? ⟨b, 1, none⟩ = some (.int .i64 a.node) := blk_cell hb6 rfl
    have hi := e_ints hW6 (HG2.out.mod hM6 (by rintro j hj e; omega)) (by omega) [a.node] 3 (by simp) (by intro i hi; simp only [List.mem_cons, List.not_mem_nil, or_false] at hi; rcases hi with rfl; exact Hok.out.node)
    simp only [List.map_cons, List.map_nil, List.length_cons, List.length_nil] at hi
    clear hW6 hM6 hb6 hwd
    go_wp2_with (go_at_call 31; refine hi.mono ?_; rintro e w7 ⟨rfl, hW7, hM7⟩)
    go_meet
    rw [hA.out]
    exact ⟨hW7, HM6.out.self hM7⟩
  by_cases h10 : k = 10
  · subst h10
    have hcl := s_wcall W2 HG2.out wb (fun g => g < wb) a bv Hok.out HWr.out (by omega)
    have hA : Hid (wordsA a = callW a) := Lib.hid (by unfold wordsA; simp [Hk.out])
    go_wp2_with (first
     | (refine wpList_ld rfl 31 _ rfl (.pointer (some ⟨b, 0, none⟩)) (.agg (a.cells bv).toArray) rfl (load_row (o := 0) str_act Hb2.out rfl (fun j u hu => by rw [Nat.zero_add]; exact hu)) ?_)
     | (go_at_call 33; refine hcl.mono ?_; rintro e w6 ⟨rfl, hW6, hM6⟩))
    go_meet
    rw [hA.out]
    exact ⟨hW6, hM6⟩
  by_cases h11 : k = 11
  · subst h11
    have hA : Hid (wordsA a = [[97, 103, 97, 105, 110], Lib.itoa a.client, Lib.itoa a.node]) := Lib.hid (by unfold wordsA; simp [Hk.out])
    have hwd : Calls Tryz.prog 30 #[.pointer (some ⟨wb, 0, none⟩), .string ⟨#[97, 103, 97, 105, 110]⟩] W2 (WeOut W2 wb (fun g => g < wb) [[97, 103, 97, 105, 110]]) := e_word HWr.out [97, 103, 97, 105, 110] (by simp)
    go_upto_region 34 with (go_at_call 30; refine hwd.mono ?_; rintro e w6 ⟨rfl, hW6, hM6⟩)
    have hb6 := hM6.blk Hb2.out (fun e => by omega)
    have HW6 := Lib.hid hW6
    have HM6 := Lib.hid hM6
    have q2 : w6.cell? ⟨b, 2, none⟩ = some (.int .i64 a.client) := blk_cell hb6 rfl
    have q1 : w6.cell? ⟨b, 1, none⟩ = some (.int .i64 a.node) := blk_cell hb6 rfl
    have hi := e_ints hW6 (HG2.out.mod hM6 (by rintro j hj e; omega)) (by omega) [a.client, a.node] 3 (by simp) (by intro i hi; simp only [List.mem_cons, List.not_mem_nil, or_false] at hi; rcases hi with rfl | rfl; exact Hok.out.client; exact Hok.out.node)
    simp only [List.map_cons, List.map_nil, List.length_cons, List.length_nil] at hi
    clear hW6 hM6 hb6 hwd
    go_wp2_with (go_at_call 31; refine hi.mono ?_; rintro e w7 ⟨rfl, hW7, hM7⟩)
    go_meet
    rw [hA.out]
    exact ⟨hW7, HM6.out.self hM7⟩
  by_cases h12 : k = 12
  · subst h12
    have hA : Hid (wordsA a = [[112, 108, 97, 110], Lib.itoa a.node]) := Lib.hid (by unfold wordsA; simp [Hk.out])
    have hwd : Calls Tryz.prog 30 #[.pointer (some ⟨wb, 0, none⟩), .string ⟨#[112, 108, 97, 110]⟩] W2 (WeOut W2 wb (fun g => g < wb) [[112, 108, 97, 110]]) := e_word HWr.out [112, 108, 97, 110] (by simp)
    go_upto_region 37 with (go_at_call 30; refine hwd.mono ?_; rintro e w6 ⟨rfl, hW6, hM6⟩)
    have hb6 := hM6.blk Hb2.out (fun e => by omega)
    have HW6 := Lib.hid hW6
    have HM6 := Lib.hid hM6
    have q1 : w6.cell? ⟨b, 1, none⟩ = some (.int .i64 a.node) := blk_cell hb6 rfl
    have hi := e_ints hW6 (HG2.out.mod hM6 (by rintro j hj e; omega)) (by omega) [a.node] 3 (by simp) (by intro i hi; simp only [List.mem_cons, List.not_mem_nil, or_false] at hi; rcases hi with rfl; exact Hok.out.node)
    simp only [List.map_cons, List.map_nil, List.length_cons, List.length_nil] at hi
    clear hW6 hM6 hb6 hwd
    go_wp2_with (go_at_call 31; refine hi.mono ?_; rintro e w7 ⟨rfl, hW7, hM7⟩)
    go_meet
    rw [hA.out]
    exact ⟨hW7, HM6.out.self hM7⟩
  by_cases h13 : k = 13
  · subst h13
    have hA : Hid (wordsA a = [[99, 104, 97, 110, 103, 101], Lib.itoa a.node, Lib.itoa a.conf.full, Lib.itoa a.conf.wit, Lib.itoa a.conf.learn, Lib.itoa a.conf.learnWit]) := Lib.hid (by unfold wordsA; simp [Hk.out])
    have hwd : Calls Tryz.prog 30 #[.pointer (some ⟨wb, 0, none⟩), .string ⟨#[99, 104, 97, 110, 103, 101]⟩] W2 (WeOut W2 wb (fun g => g < wb) [[99, 104, 97, 110, 103, 101]]) := e_word HWr.out [99, 104, 97, 110, 103, 101] (by simp)
    go_upto_region 40 with (go_at_call 30; refine hwd.mono ?_; rintro e w6 ⟨rfl, hW6, hM6⟩)
    have hb6 := hM6.blk Hb2.out (fun e => by omega)
    have HW6 := Lib.hid hW6
    have HM6 := Lib.hid hM6
    have q1 : w6.cell? ⟨b, 1, none⟩ = some (.int .i64 a.node) := blk_cell hb6 rfl
    have q13 : w6.cell? ⟨b, 13, none⟩ = some (.int .i64 a.conf.full) := blk_cell hb6 rfl
    have q14 : w6.cell? ⟨b, 14, none⟩ = some (.int .i64 a.conf.wit) := blk_cell hb6 rfl
    have q15 : w6.cell? ⟨b, 15, none⟩ = some (.int .i64 a.conf.learn) := blk_cell hb6 rfl
    have q16 : w6.cell? ⟨b, 16, none⟩ = some (.int .i64 a.conf.learnWit) := blk_cell hb6 rfl
    have hi := e_ints hW6 (HG2.out.mod hM6 (by rintro j hj e; omega)) (by omega) [a.node, a.conf.full, a.conf.wit, a.conf.learn, a.conf.learnWit] 3 (by simp) (by intro i hi; simp only [List.mem_cons, List.not_mem_nil, or_false] at hi; rcases hi with rfl | rfl | rfl | rfl | rfl; exact Hok.out.node; exact Hok.out.conf _ (by simp); exact Hok.out.conf _ (by simp); exact Hok.out.conf _ (by simp); exact Hok.out.conf _ (by simp))
    simp only [List.map_cons, List.map_nil, List.length_cons, List.length_nil] at hi
    clear hW6 hM6 hb6 hwd
    go_wp2_with (go_at_call 31; refine hi.mono ?_; rintro e w7 ⟨rfl, hW7, hM7⟩)
    go_meet
    rw [hA.out]
    exact ⟨hW7, HM6.out.self hM7⟩
  by_cases h14 : k = 14
  · subst h14
    have hA : Hid (wordsA a = [[114, 111, 117, 110, 100], Lib.itoa a.n]) := Lib.hid (by unfold wordsA; simp [Hk.out])
    have hwd : Calls Tryz.prog 30 #[.pointer (some ⟨wb, 0, none⟩), .string ⟨#[114, 111, 117, 110, 100]⟩] W2 (WeOut W2 wb (fun g => g < wb) [[114, 111, 117, 110, 100]]) := e_word HWr.out [114, 111, 117, 110, 100] (by simp)
    go_upto_region 43 with (go_at_call 30; refine hwd.mono ?_; rintro e w6 ⟨rfl, hW6, hM6⟩)
    have hb6 := hM6.blk Hb2.out (fun e => by omega)
    have HW6 := Lib.hid hW6
    have HM6 := Lib.hid hM6
    have q3 : w6.cell? ⟨b, 3, none⟩ = some (.int .i64 a.n) := blk_cell hb6 rfl
    have hi := e_ints hW6 (HG2.out.mod hM6 (by rintro j hj e; omega)) (by omega) [a.n] 3 (by simp) (by intro i hi; simp only [List.mem_cons, List.not_mem_nil, or_false] at hi; rcases hi with rfl; exact Hok.out.n)
    simp only [List.map_cons, List.map_nil, List.length_cons, List.length_nil] at hi
    clear hW6 hM6 hb6 hwd
    go_wp2_with (go_at_call 31; refine hi.mono ?_; rintro e w7 ⟨rfl, hW7, hM7⟩)
    go_meet
    rw [hA.out]
    exact ⟨hW7, HM6.out.self hM7⟩
  have hA : Hid (wordsA a = []) := Lib.hid (by unfold wordsA; rw [if_neg (by rw [Hk.out]; exact h1), if_neg (by rw [Hk.out]; exact h2), if_neg (by rw [Hk.out]; exact h3), if_neg (by rw [Hk.out]; exact h4), if_neg (by rw [Hk.out]; exact h5), if_neg (by rw [Hk.out]; exact h6), if_neg (by rw [Hk.out]; exact h7), if_neg (by rw [Hk.out]; exact h8), if_neg (by rw [Hk.out]; exact h9), if_neg (by rw [Hk.out]; exact h10), if_neg (by rw [Hk.out]; exact h11), if_neg (by rw [Hk.out]; exact h12), if_neg (by rw [Hk.out]; exact h13), if_neg (by rw [Hk.out]; exact h14)])
  go_wp2
  go_meet
  rw [hA.out]
  exact ⟨HWr.out, Mod.refl _ _⟩
 case rest =>
  obtain ⟨hWc, hMc⟩ := hcut
  obtain ⟨wt, hwt⟩ : ∃ wt, wt = wc := ⟨_, rfl⟩
  subst hwt
  obtain ⟨wv, hwv, hwo, hwP⟩ := hWc.1
  have hsl := Sl.of_own (T := fun g => g < wt.heap.size) hwo (fun g hg => own_lt hwo hg)
  have hwl := Hwl.out
  have hstr := s_wstr wt wv (wordsA a) _ hsl hwl (by have := Hll.out; omega)
  obtain ⟨ln, hln⟩ : ∃ ln, bA (joinL (wordsA a)) = ln := ⟨_, rfl⟩
  rw [hln] at hstr
  have hls : ln.size ≤ 100000 := by rw [← hln]; show (joinL (wordsA a)).length ≤ 100000; have := Hll.out; omega
  have Hln := Lib.hid hln
  have hq4 : wt.cell? ⟨wb, 0, none⟩ = some wv := blk_cell hwv rfl
  have hlw : (Instr.loadAt 67 (.pointer (some ⟨wb, 0, none⟩))).run Tryz.prog wt = .ok wv wt := by go_simp
  have Hbc := Lib.hid (hMc.blk Hb2.out (fun e => by omega))
  have HEc := Lib.hid (Mod.toExt ((Ext.mod HE2.out (Since w.heap.size)).trans hMc (fun k hk e => by unfold Since; omega)))
  have HBc := Lib.hid (HB2.out.mod hMc (fun g hg e => e.2 hg))
  clear hsl hln hWc hMc hwo hwP hwl hwv
  go_upto_region 45 with (first
   | (refine wpList_ld rfl 67 _ rfl (.pointer (some ⟨wb, 0, none⟩)) _ rfl hlw ?_)
   | (go_at_call 34; refine hstr.mono ?_; rintro e w9 ⟨rfl, hE9⟩))
  obtain ⟨wt2, hwt2⟩ : ∃ x, x = w9 := ⟨_, rfl⟩
  subst hwt2
  have Hbt := Lib.hid (hE9.blk Hbc.out id)
  have HEt := Lib.hid (HEc.out.ext hE9)
  have HBt := Lib.hid (HBc.out.ext hE9)
  clear hE9 hstr hlw hq4
  have hrd := s_read ln wt2 (Hg.out.ext HEt.out) hls
  obtain ⟨res, hres⟩ : ∃ res, readP ln = res := ⟨_, rfl⟩
  rw [hres] at hrd
  have HlP : Hid (lineP a = lineR a ln res) := Lib.hid (by rw [← hres]; exact lineP_eq Hln.out)
  clear hres
  unfold ReadOut at hrd
  go_wp2_with fail
  refine hrd.mono ?_
  rintro e w5 ⟨A, n, c, rfl, HB5, hE5⟩
  have HB5 := Lib.hid HB5
  have hbt5 := hE5.blk Hbt.out id
  have Hbt5 := Lib.hid hbt5
  have HE5 := Lib.hid hE5
  clear hbt5 hE5 hrd
  obtain ⟨d, hd⟩ : ∃ d, w5.heap.size = d := ⟨_, rfl⟩
  have hn5 : (w5.alloc (.cells (AAct.zero.cells (.slice none 0 0)).toArray 31)).heap[d]? = some (.cells (AAct.zero.cells (.slice none 0 0)).toArray 31 (0, 0)) := hd ▸ heap_new w5 _
  rcases res with _ | y
  · simp only [Option.getD_none, Option.isSome_none]
    have hN : Hid (lineP a = none) := Lib.hid HlP.out
    go_upto_region 46 with (refine wpList_stR rfl 31 _ _ rfl 18 d 0 (AAct.zero.cells (.slice A n c)) rfl rfl str_act _ _ (AAct.zero.cells (.slice A n c)) hn5 rfl (by simp) (by simp [Value.oneCell']) rfl ?_; intro W6 ha6 hm6 hs6)
    have HX := Lib.hid ((HEt.out.ext HE5.out).ext (Mod.toExt (((Mod.refl (Since w5.heap.size) w5).alloc _).trans hm6 (fun k hk e => by unfold Since; omega))))
    clear hn5 ha6 hm6 hs6
    go_wp2
    go_ret2
    exact ⟨by rw [hN.out]; rfl, HX.out⟩
  simp only [Option.getD_some, Option.isSome_some, if_true] at HB5 ⊢
  go_upto_region 46 with (refine wpList_stR rfl 31 _ _ rfl 18 d 0 (y.cells (.slice A n c)) rfl rfl str_act _ _ (y.cells (.slice A n c)) hn5 rfl (by simp) (by simp [Value.oneCell']) rfl ?_; intro W6 ha6 hm6 hs6)
  have hX6 : Ext w5 W6 := Mod.toExt (((Mod.refl (Since w5.heap.size) w5).alloc _).trans hm6 (fun k hk e => by unfold Since; omega))
  have hb6 := hX6.blk Hbt5.out id
  have hl1 : (Instr.loadAt 31 (.pointer (some ⟨b, 0, none⟩))).run Tryz.prog W6 = .ok (.agg (a.cells bv).toArray) W6 := load_row str_act hb6 rfl (fun j u hu => by rw [Nat.zero_add]; exact hu)
  have hl2 : (Instr.loadAt 31 (.pointer (some ⟨d, 0, none⟩))).run Tryz.prog W6 = .ok (.agg (y.cells (.slice A n c)).toArray) W6 := load_row str_act ha6 rfl (fun j u hu => by rw [Nat.zero_add]; exact hu)
  have hka := c_same y a W6 _ _ _ _ (HB5.out.ext hX6) (HBt.out.ext (HE5.out.ext hX6))
  have HX := Lib.hid ((HEt.out.ext HE5.out).ext hX6)
  clear hn5 ha6 hm6 hs6 hX6 hb6
  obtain ⟨q, hq⟩ : ∃ q, eqAct y a = q := ⟨_, rfl⟩
  rw [hq] at hka
  have Hq : Hid (eqAct y a = q) := Lib.hid (by exact hq)
  clear hq
  rcases q with _ | _
  · have hN : Hid (lineP a = none) := Lib.hid (by rw [HlP.out]; unfold lineR; simp only [Hq.out, Bool.false_eq_true, if_false])
    go_wp2_with (first
      | (refine wpList_ldW (by kernel_rfl) 31 _ rfl (.pointer (some ⟨b, 0, none⟩)) _ rfl hl1 ?_)
      | (refine wpList_ldW (by kernel_rfl) 31 _ rfl (.pointer (some ⟨d, 0, none⟩)) _ rfl hl2 ?_)
      | (go_at_call 35; refine hka.mono ?_; rintro e w7 ⟨rfl, hE7⟩; clear hl1 hl2))
    go_ret2
    exact ⟨by rw [hN.out]; rfl, HX.out.ext hE7⟩
  have hN : Hid (lineP a = some ln) := Lib.hid (by rw [HlP.out]; unfold lineR; simp only [Hq.out, if_true])
  go_wp2_with (first
    | (refine wpList_ldW (by kernel_rfl) 31 _ rfl (.pointer (some ⟨b, 0, none⟩)) _ rfl hl1 ?_)
    | (refine wpList_ldW (by kernel_rfl) 31 _ rfl (.pointer (some ⟨d, 0, none⟩)) _ rfl hl2 ?_)
    | (go_at_call 35; refine hka.mono ?_; rintro e w7 ⟨rfl, hE7⟩; clear hl1 hl2))
  go_ret2
  exact ⟨by rw [hN.out]; rfl, HX.out.ext hE7⟩
end Go.Proofs.YtmebipnljkopgaaGreatDoor
