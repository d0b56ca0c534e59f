/-
  The walk of KvOthers. Conditions: as the theorem names them.
-/
import Derived.Test.YthhjaneadbkccaaKvLib
namespace Go.Proofs.Ythhjaneadbkccaa
set_option linter.unusedSimpArgs false
open Go.RowKit

set_option maxRecDepth 100000 in
set_option maxHeartbeats 4000000 in
theorem kvOthers_walk (w : World) (T : Nat → Prop) (A : Option Addr) (n cc : Nat) (l : List ACmd) (hC : Cms w T (.slice A n cc) l) (hn : l.length = n) (c : ACmd) (key : ByteArray) (hc : c.ok) :
    Calls Try.prog 3 #[.slice A n cc, .agg #[.int .i64 c.kind, .string c.key, .int .i64 c.old.kind, .float .f64 c.old.num, .string c.old.text, .int .i64 c.val.kind, .float .f64 c.val.num, .string c.val.text], .string key] w fun e w' => e = .returned (.bool true) ∧ Below w.heap.size w w' := by
  have hl := hC.1.le
  rw [hn] at hl
  unfold maxLen at hl
  by_cases h1 : 1000 < n
  · have d1 : decide ((n : Int) > 1000) = true := by simp; omega
    go_enter Try.func3, Try.ntmps3
    go_wp2
    go_ret
    exact ⟨rfl, Ext.below ((Mod.refl _ w).alloc _)⟩
  have d1 : decide ((n : Int) > 1000) = false := by simp; omega
  rcases h2 : heavyCmd c with _ | _
  case true =>
    have HX : Hid (Ext w w) := Lib.hid (Mod.refl _ w)
    have HC := Lib.hid hC
    clear hC
    go_enter Try.func3, Try.ntmps3
    go_wp2_with fail
    obtain ⟨w1, hw1⟩ : ∃ w1, w1 = w.alloc (.cells #[.int .i64 c.kind, .string c.key, .int .i64 c.old.kind, .float .f64 c.old.num, .string c.old.text, .int .i64 c.val.kind, .float .f64 c.val.num, .string c.val.text] 27) := ⟨_, rfl⟩
    obtain ⟨bc, hbc⟩ : ∃ bc, bc = w.heap.size := ⟨_, rfl⟩
    have hE : Ext w w1 := by rw [hw1]; exact (Mod.refl _ w).alloc _
    have hKn : w1.heap[bc]? = some (.cells #[.int .i64 c.kind, .string c.key, .int .i64 c.old.kind, .float .f64 c.old.num, .string c.old.text, .int .i64 c.val.kind, .float .f64 c.val.num, .string c.val.text] 27 (0, 0)) := by rw [hw1, hbc]; exact heap_alloc_new w _
    rw [← hw1, ← hbc]
    replace HC := Lib.hid (HC.out.ext hE)
    replace HX := Lib.hid (HX.out.ext hE)
    have Kcw1 := Lib.hid hKn
    clear hKn hE hw1 hbc
    refine (hv_cmd c w1).mono ?_
    rintro e w2 ⟨rfl, hE⟩
    have Kcw2 := Lib.hid (hE.blk Kcw1.out id)
    replace HC := Lib.hid (HC.out.ext hE)
    replace HX := Lib.hid (HX.out.ext hE)
    clear Kcw1
    rw [h2]
    clear hE
    have c_0 : w2.cell? ⟨bc, 0, none⟩ = some _ := blk_cell (cs := [.int .i64 c.kind, .string c.key, .int .i64 c.old.kind, .float .f64 c.old.num, .string c.old.text, .int .i64 c.val.kind, .float .f64 c.val.num, .string c.val.text]) Kcw2.out rfl
    have c_1 : w2.cell? ⟨bc, 1, none⟩ = some _ := blk_cell (cs := [.int .i64 c.kind, .string c.key, .int .i64 c.old.kind, .float .f64 c.old.num, .string c.old.text, .int .i64 c.val.kind, .float .f64 c.val.num, .string c.val.text]) Kcw2.out rfl
    have c_2 : w2.cell? ⟨bc, 2, none⟩ = some _ := blk_cell (cs := [.int .i64 c.kind, .string c.key, .int .i64 c.old.kind, .float .f64 c.old.num, .string c.old.text, .int .i64 c.val.kind, .float .f64 c.val.num, .string c.val.text]) Kcw2.out rfl
    have c_3 : w2.cell? ⟨bc, 3, none⟩ = some _ := blk_cell (cs := [.int .i64 c.kind, .string c.key, .int .i64 c.old.kind, .float .f64 c.old.num, .string c.old.text, .int .i64 c.val.kind, .float .f64 c.val.num, .string c.val.text]) Kcw2.out rfl
    have c_4 : w2.cell? ⟨bc, 4, none⟩ = some _ := blk_cell (cs := [.int .i64 c.kind, .string c.key, .int .i64 c.old.kind, .float .f64 c.old.num, .string c.old.text, .int .i64 c.val.kind, .float .f64 c.val.num, .string c.val.text]) Kcw2.out rfl
    have c_5 : w2.cell? ⟨bc, 5, none⟩ = some _ := blk_cell (cs := [.int .i64 c.kind, .string c.key, .int .i64 c.old.kind, .float .f64 c.old.num, .string c.old.text, .int .i64 c.val.kind, .float .f64 c.val.num, .string c.val.text]) Kcw2.out rfl
    have c_6 : w2.cell? ⟨bc, 6, none⟩ = some _ := blk_cell (cs := [.int .i64 c.kind, .string c.key, .int .i64 c.old.kind, .float .f64 c.old.num, .string c.old.text, .int .i64 c.val.kind, .float .f64 c.val.num, .string c.val.text]) Kcw2.out rfl
    have c_7 : w2.cell? ⟨bc, 7, none⟩ = some _ := blk_cell (cs := [.int .i64 c.kind, .string c.key, .int .i64 c.old.kind, .float .f64 c.old.num, .string c.old.text, .int .i64 c.val.kind, .float .f64 c.val.num, .string c.val.text]) Kcw2.out rfl
    have c_l : bc < w2.heap.size := (Array.getElem?_eq_some_iff.1 Kcw2.out).1
    go_wp2
    go_ret
    exact ⟨rfl, Ext.below HX.out⟩
  by_cases h3 : 2000 < key.size
  · have d3 : decide ((key.size : Int) > 2000) = true := by simp; omega
    have HX : Hid (Ext w w) := Lib.hid (Mod.refl _ w)
    have HC := Lib.hid hC
    clear hC
    go_enter Try.func3, Try.ntmps3
    go_wp2_with fail
    obtain ⟨w1, hw1⟩ : ∃ w1, w1 = w.alloc (.cells #[.int .i64 c.kind, .string c.key, .int .i64 c.old.kind, .float .f64 c.old.num, .string c.old.text, .int .i64 c.val.kind, .float .f64 c.val.num, .string c.val.text] 27) := ⟨_, rfl⟩
    obtain ⟨bc, hbc⟩ : ∃ bc, bc = w.heap.size := ⟨_, rfl⟩
    have hE : Ext w w1 := by rw [hw1]; exact (Mod.refl _ w).alloc _
    have hKn : w1.heap[bc]? = some (.cells #[.int .i64 c.kind, .string c.key, .int .i64 c.old.kind, .float .f64 c.old.num, .string c.old.text, .int .i64 c.val.kind, .float .f64 c.val.num, .string c.val.text] 27 (0, 0)) := by rw [hw1, hbc]; exact heap_alloc_new w _
    rw [← hw1, ← hbc]
    replace HC := Lib.hid (HC.out.ext hE)
    replace HX := Lib.hid (HX.out.ext hE)
    have Kcw1 := Lib.hid hKn
    clear hKn hE hw1 hbc
    refine (hv_cmd c w1).mono ?_
    rintro e w2 ⟨rfl, hE⟩
    have Kcw2 := Lib.hid (hE.blk Kcw1.out id)
    replace HC := Lib.hid (HC.out.ext hE)
    replace HX := Lib.hid (HX.out.ext hE)
    clear Kcw1
    rw [h2]
    clear hE
    have c_0 : w2.cell? ⟨bc, 0, none⟩ = some _ := blk_cell (cs := [.int .i64 c.kind, .string c.key, .int .i64 c.old.kind, .float .f64 c.old.num, .string c.old.text, .int .i64 c.val.kind, .float .f64 c.val.num, .string c.val.text]) Kcw2.out rfl
    have c_1 : w2.cell? ⟨bc, 1, none⟩ = some _ := blk_cell (cs := [.int .i64 c.kind, .string c.key, .int .i64 c.old.kind, .float .f64 c.old.num, .string c.old.text, .int .i64 c.val.kind, .float .f64 c.val.num, .string c.val.text]) Kcw2.out rfl
    have c_2 : w2.cell? ⟨bc, 2, none⟩ = some _ := blk_cell (cs := [.int .i64 c.kind, .string c.key, .int .i64 c.old.kind, .float .f64 c.old.num, .string c.old.text, .int .i64 c.val.kind, .float .f64 c.val.num, .string c.val.text]) Kcw2.out rfl
    have c_3 : w2.cell? ⟨bc, 3, none⟩ = some _ := blk_cell (cs := [.int .i64 c.kind, .string c.key, .int .i64 c.old.kind, .float .f64 c.old.num, .string c.old.text, .int .i64 c.val.kind, .float .f64 c.val.num, .string c.val.text]) Kcw2.out rfl
    have c_4 : w2.cell? ⟨bc, 4, none⟩ = some _ := blk_cell (cs := [.int .i64 c.kind, .string c.key, .int .i64 c.old.kind, .float .f64 c.old.num, .string c.old.text, .int .i64 c.val.kind, .float .f64 c.val.num, .string c.val.text]) Kcw2.out rfl
    have c_5 : w2.cell? ⟨bc, 5, none⟩ = some _ := blk_cell (cs := [.int .i64 c.kind, .string c.key, .int .i64 c.old.kind, .float .f64 c.old.num, .string c.old.text, .int .i64 c.val.kind, .float .f64 c.val.num, .string c.val.text]) Kcw2.out rfl
    have c_6 : w2.cell? ⟨bc, 6, none⟩ = some _ := blk_cell (cs := [.int .i64 c.kind, .string c.key, .int .i64 c.old.kind, .float .f64 c.old.num, .string c.old.text, .int .i64 c.val.kind, .float .f64 c.val.num, .string c.val.text]) Kcw2.out rfl
    have c_7 : w2.cell? ⟨bc, 7, none⟩ = some _ := blk_cell (cs := [.int .i64 c.kind, .string c.key, .int .i64 c.old.kind, .float .f64 c.old.num, .string c.old.text, .int .i64 c.val.kind, .float .f64 c.val.num, .string c.val.text]) Kcw2.out rfl
    have c_l : bc < w2.heap.size := (Array.getElem?_eq_some_iff.1 Kcw2.out).1
    go_wp2
    go_ret
    exact ⟨rfl, Ext.below HX.out⟩
  have d3 : decide ((key.size : Int) > 2000) = false := by simp; omega
  rcases h4 : eqT key c.key with _ | _
  case true =>
    have d4 : (key.toList == c.key.toList) = true := h4
    have HX : Hid (Ext w w) := Lib.hid (Mod.refl _ w)
    have HC := Lib.hid hC
    clear hC
    go_enter Try.func3, Try.ntmps3
    go_wp2_with fail
    obtain ⟨w1, hw1⟩ : ∃ w1, w1 = w.alloc (.cells #[.int .i64 c.kind, .string c.key, .int .i64 c.old.kind, .float .f64 c.old.num, .string c.old.text, .int .i64 c.val.kind, .float .f64 c.val.num, .string c.val.text] 27) := ⟨_, rfl⟩
    obtain ⟨bc, hbc⟩ : ∃ bc, bc = w.heap.size := ⟨_, rfl⟩
    have hE : Ext w w1 := by rw [hw1]; exact (Mod.refl _ w).alloc _
    have hKn : w1.heap[bc]? = some (.cells #[.int .i64 c.kind, .string c.key, .int .i64 c.old.kind, .float .f64 c.old.num, .string c.old.text, .int .i64 c.val.kind, .float .f64 c.val.num, .string c.val.text] 27 (0, 0)) := by rw [hw1, hbc]; exact heap_alloc_new w _
    rw [← hw1, ← hbc]
    replace HC := Lib.hid (HC.out.ext hE)
    replace HX := Lib.hid (HX.out.ext hE)
    have Kcw1 := Lib.hid hKn
    clear hKn hE hw1 hbc
    refine (hv_cmd c w1).mono ?_
    rintro e w2 ⟨rfl, hE⟩
    have Kcw2 := Lib.hid (hE.blk Kcw1.out id)
    replace HC := Lib.hid (HC.out.ext hE)
    replace HX := Lib.hid (HX.out.ext hE)
    clear Kcw1
    rw [h2]
    clear hE
    have c_0 : w2.cell? ⟨bc, 0, none⟩ = some _ := blk_cell (cs := [.int .i64 c.kind, .string c.key, .int .i64 c.old.kind, .float .f64 c.old.num, .string c.old.text, .int .i64 c.val.kind, .float .f64 c.val.num, .string c.val.text]) Kcw2.out rfl
    have c_1 : w2.cell? ⟨bc, 1, none⟩ = some _ := blk_cell (cs := [.int .i64 c.kind, .string c.key, .int .i64 c.old.kind, .float .f64 c.old.num, .string c.old.text, .int .i64 c.val.kind, .float .f64 c.val.num, .string c.val.text]) Kcw2.out rfl
    have c_2 : w2.cell? ⟨bc, 2, none⟩ = some _ := blk_cell (cs := [.int .i64 c.kind, .string c.key, .int .i64 c.old.kind, .float .f64 c.old.num, .string c.old.text, .int .i64 c.val.kind, .float .f64 c.val.num, .string c.val.text]) Kcw2.out rfl
    have c_3 : w2.cell? ⟨bc, 3, none⟩ = some _ := blk_cell (cs := [.int .i64 c.kind, .string c.key, .int .i64 c.old.kind, .float .f64 c.old.num, .string c.old.text, .int .i64 c.val.kind, .float .f64 c.val.num, .string c.val.text]) Kcw2.out rfl
    have c_4 : w2.cell? ⟨bc, 4, none⟩ = some _ := blk_cell (cs := [.int .i64 c.kind, .string c.key, .int .i64 c.old.kind, .float .f64 c.old.num, .string c.old.text, .int .i64 c.val.kind, .float .f64 c.val.num, .string c.val.text]) Kcw2.out rfl
    have c_5 : w2.cell? ⟨bc, 5, none⟩ = some _ := blk_cell (cs := [.int .i64 c.kind, .string c.key, .int .i64 c.old.kind, .float .f64 c.old.num, .string c.old.text, .int .i64 c.val.kind, .float .f64 c.val.num, .string c.val.text]) Kcw2.out rfl
    have c_6 : w2.cell? ⟨bc, 6, none⟩ = some _ := blk_cell (cs := [.int .i64 c.kind, .string c.key, .int .i64 c.old.kind, .float .f64 c.old.num, .string c.old.text, .int .i64 c.val.kind, .float .f64 c.val.num, .string c.val.text]) Kcw2.out rfl
    have c_7 : w2.cell? ⟨bc, 7, none⟩ = some _ := blk_cell (cs := [.int .i64 c.kind, .string c.key, .int .i64 c.old.kind, .float .f64 c.old.num, .string c.old.text, .int .i64 c.val.kind, .float .f64 c.val.num, .string c.val.text]) Kcw2.out rfl
    have c_l : bc < w2.heap.size := (Array.getElem?_eq_some_iff.1 Kcw2.out).1
    go_wp2
    go_ret
    exact ⟨rfl, Ext.below HX.out⟩
  have d4 : (key.toList == c.key.toList) = false := h4
  have HX : Hid (Ext w w) := Lib.hid (Mod.refl _ w)
  have HC := Lib.hid hC
  clear hC
  go_enter Try.func3, Try.ntmps3
  go_wp2_with fail
  obtain ⟨w1, hw1⟩ : ∃ w1, w1 = w.alloc (.cells #[.int .i64 c.kind, .string c.key, .int .i64 c.old.kind, .float .f64 c.old.num, .string c.old.text, .int .i64 c.val.kind, .float .f64 c.val.num, .string c.val.text] 27) := ⟨_, rfl⟩
  obtain ⟨bc, hbc⟩ : ∃ bc, bc = w.heap.size := ⟨_, rfl⟩
  have hE : Ext w w1 := by rw [hw1]; exact (Mod.refl _ w).alloc _
  have hKn : w1.heap[bc]? = some (.cells #[.int .i64 c.kind, .string c.key, .int .i64 c.old.kind, .float .f64 c.old.num, .string c.old.text, .int .i64 c.val.kind, .float .f64 c.val.num, .string c.val.text] 27 (0, 0)) := by rw [hw1, hbc]; exact heap_alloc_new w _
  rw [← hw1, ← hbc]
  replace HC := Lib.hid (HC.out.ext hE)
  replace HX := Lib.hid (HX.out.ext hE)
  have Kcw1 := Lib.hid hKn
  clear hKn hE hw1 hbc
  refine (hv_cmd c w1).mono ?_
  rintro e w2 ⟨rfl, hE⟩
  have Kcw2 := Lib.hid (hE.blk Kcw1.out id)
  replace HC := Lib.hid (HC.out.ext hE)
  replace HX := Lib.hid (HX.out.ext hE)
  clear Kcw1
  rw [h2]
  clear hE
  have c_0 : w2.cell? ⟨bc, 0, none⟩ = some _ := blk_cell (cs := [.int .i64 c.kind, .string c.key, .int .i64 c.old.kind, .float .f64 c.old.num, .string c.old.text, .int .i64 c.val.kind, .float .f64 c.val.num, .string c.val.text]) Kcw2.out rfl
  have c_1 : w2.cell? ⟨bc, 1, none⟩ = some _ := blk_cell (cs := [.int .i64 c.kind, .string c.key, .int .i64 c.old.kind, .float .f64 c.old.num, .string c.old.text, .int .i64 c.val.kind, .float .f64 c.val.num, .string c.val.text]) Kcw2.out rfl
  have c_2 : w2.cell? ⟨bc, 2, none⟩ = some _ := blk_cell (cs := [.int .i64 c.kind, .string c.key, .int .i64 c.old.kind, .float .f64 c.old.num, .string c.old.text, .int .i64 c.val.kind, .float .f64 c.val.num, .string c.val.text]) Kcw2.out rfl
  have c_3 : w2.cell? ⟨bc, 3, none⟩ = some _ := blk_cell (cs := [.int .i64 c.kind, .string c.key, .int .i64 c.old.kind, .float .f64 c.old.num, .string c.old.text, .int .i64 c.val.kind, .float .f64 c.val.num, .string c.val.text]) Kcw2.out rfl
  have c_4 : w2.cell? ⟨bc, 4, none⟩ = some _ := blk_cell (cs := [.int .i64 c.kind, .string c.key, .int .i64 c.old.kind, .float .f64 c.old.num, .string c.old.text, .int .i64 c.val.kind, .float .f64 c.val.num, .string c.val.text]) Kcw2.out rfl
  have c_5 : w2.cell? ⟨bc, 5, none⟩ = some _ := blk_cell (cs := [.int .i64 c.kind, .string c.key, .int .i64 c.old.kind, .float .f64 c.old.num, .string c.old.text, .int .i64 c.val.kind, .float .f64 c.val.num, .string c.val.text]) Kcw2.out rfl
  have c_6 : w2.cell? ⟨bc, 6, none⟩ = some _ := blk_cell (cs := [.int .i64 c.kind, .string c.key, .int .i64 c.old.kind, .float .f64 c.old.num, .string c.old.text, .int .i64 c.val.kind, .float .f64 c.val.num, .string c.val.text]) Kcw2.out rfl
  have c_7 : w2.cell? ⟨bc, 7, none⟩ = some _ := blk_cell (cs := [.int .i64 c.kind, .string c.key, .int .i64 c.old.kind, .float .f64 c.old.num, .string c.old.text, .int .i64 c.val.kind, .float .f64 c.val.num, .string c.val.text]) Kcw2.out rfl
  have c_l : bc < w2.heap.size := (Array.getElem?_eq_some_iff.1 Kcw2.out).1
  go_wp2_with fail
  refine (l_grown w2 T _ l HC.out (by omega)).mono ?_
  rintro e w3 ⟨v7, p, rfl, hN, hp, hE⟩
  clear c_0 c_1 c_2 c_3 c_4 c_5 c_6 c_7 c_l
  have Kcw3 := Lib.hid (hE.blk Kcw2.out id)
  replace HC := Lib.hid (HC.out.ext hE)
  replace HX := Lib.hid (HX.out.ext hE)
  clear Kcw2
  have HN7 := Lib.hid hN
  have Hp := Lib.hid hp
  clear hN hp
  clear hE
  have c_0 : w3.cell? ⟨bc, 0, none⟩ = some _ := blk_cell (cs := [.int .i64 c.kind, .string c.key, .int .i64 c.old.kind, .float .f64 c.old.num, .string c.old.text, .int .i64 c.val.kind, .float .f64 c.val.num, .string c.val.text]) Kcw3.out rfl
  have c_1 : w3.cell? ⟨bc, 1, none⟩ = some _ := blk_cell (cs := [.int .i64 c.kind, .string c.key, .int .i64 c.old.kind, .float .f64 c.old.num, .string c.old.text, .int .i64 c.val.kind, .float .f64 c.val.num, .string c.val.text]) Kcw3.out rfl
  have c_2 : w3.cell? ⟨bc, 2, none⟩ = some _ := blk_cell (cs := [.int .i64 c.kind, .string c.key, .int .i64 c.old.kind, .float .f64 c.old.num, .string c.old.text, .int .i64 c.val.kind, .float .f64 c.val.num, .string c.val.text]) Kcw3.out rfl
  have c_3 : w3.cell? ⟨bc, 3, none⟩ = some _ := blk_cell (cs := [.int .i64 c.kind, .string c.key, .int .i64 c.old.kind, .float .f64 c.old.num, .string c.old.text, .int .i64 c.val.kind, .float .f64 c.val.num, .string c.val.text]) Kcw3.out rfl
  have c_4 : w3.cell? ⟨bc, 4, none⟩ = some _ := blk_cell (cs := [.int .i64 c.kind, .string c.key, .int .i64 c.old.kind, .float .f64 c.old.num, .string c.old.text, .int .i64 c.val.kind, .float .f64 c.val.num, .string c.val.text]) Kcw3.out rfl
  have c_5 : w3.cell? ⟨bc, 5, none⟩ = some _ := blk_cell (cs := [.int .i64 c.kind, .string c.key, .int .i64 c.old.kind, .float .f64 c.old.num, .string c.old.text, .int .i64 c.val.kind, .float .f64 c.val.num, .string c.val.text]) Kcw3.out rfl
  have c_6 : w3.cell? ⟨bc, 6, none⟩ = some _ := blk_cell (cs := [.int .i64 c.kind, .string c.key, .int .i64 c.old.kind, .float .f64 c.old.num, .string c.old.text, .int .i64 c.val.kind, .float .f64 c.val.num, .string c.val.text]) Kcw3.out rfl
  have c_7 : w3.cell? ⟨bc, 7, none⟩ = some _ := blk_cell (cs := [.int .i64 c.kind, .string c.key, .int .i64 c.old.kind, .float .f64 c.old.num, .string c.old.text, .int .i64 c.val.kind, .float .f64 c.val.num, .string c.val.text]) Kcw3.out rfl
  have c_l : bc < w3.heap.size := (Array.getElem?_eq_some_iff.1 Kcw3.out).1
  go_wp2_with fail
  rcases hr : doP p c with ⟨L, r⟩
  refine (kv_Do_at w3 _ v7 p c HN7.out.prs (by have := right_len Hp.out; omega) hc.2.2.2 hr).mono ?_
  rintro e w4 ⟨v8, rfl, hN, hE⟩
  clear c_0 c_1 c_2 c_3 c_4 c_5 c_6 c_7 c_l
  have Kcw4 := Lib.hid (hE.blk Kcw3.out id)
  replace HC := Lib.hid (HC.out.ext hE)
  replace HN7 := Lib.hid (newP_mod HN7.out hE (fun _ _ => id))
  replace HX := Lib.hid (HX.out.ext hE)
  clear Kcw3
  have HN8 := Lib.hid hN
  have HR := Lib.hid hr
  clear hN hr
  clear hE
  have c_0 : w4.cell? ⟨bc, 0, none⟩ = some _ := blk_cell (cs := [.int .i64 c.kind, .string c.key, .int .i64 c.old.kind, .float .f64 c.old.num, .string c.old.text, .int .i64 c.val.kind, .float .f64 c.val.num, .string c.val.text]) Kcw4.out rfl
  have c_1 : w4.cell? ⟨bc, 1, none⟩ = some _ := blk_cell (cs := [.int .i64 c.kind, .string c.key, .int .i64 c.old.kind, .float .f64 c.old.num, .string c.old.text, .int .i64 c.val.kind, .float .f64 c.val.num, .string c.val.text]) Kcw4.out rfl
  have c_2 : w4.cell? ⟨bc, 2, none⟩ = some _ := blk_cell (cs := [.int .i64 c.kind, .string c.key, .int .i64 c.old.kind, .float .f64 c.old.num, .string c.old.text, .int .i64 c.val.kind, .float .f64 c.val.num, .string c.val.text]) Kcw4.out rfl
  have c_3 : w4.cell? ⟨bc, 3, none⟩ = some _ := blk_cell (cs := [.int .i64 c.kind, .string c.key, .int .i64 c.old.kind, .float .f64 c.old.num, .string c.old.text, .int .i64 c.val.kind, .float .f64 c.val.num, .string c.val.text]) Kcw4.out rfl
  have c_4 : w4.cell? ⟨bc, 4, none⟩ = some _ := blk_cell (cs := [.int .i64 c.kind, .string c.key, .int .i64 c.old.kind, .float .f64 c.old.num, .string c.old.text, .int .i64 c.val.kind, .float .f64 c.val.num, .string c.val.text]) Kcw4.out rfl
  have c_5 : w4.cell? ⟨bc, 5, none⟩ = some _ := blk_cell (cs := [.int .i64 c.kind, .string c.key, .int .i64 c.old.kind, .float .f64 c.old.num, .string c.old.text, .int .i64 c.val.kind, .float .f64 c.val.num, .string c.val.text]) Kcw4.out rfl
  have c_6 : w4.cell? ⟨bc, 6, none⟩ = some _ := blk_cell (cs := [.int .i64 c.kind, .string c.key, .int .i64 c.old.kind, .float .f64 c.old.num, .string c.old.text, .int .i64 c.val.kind, .float .f64 c.val.num, .string c.val.text]) Kcw4.out rfl
  have c_7 : w4.cell? ⟨bc, 7, none⟩ = some _ := blk_cell (cs := [.int .i64 c.kind, .string c.key, .int .i64 c.old.kind, .float .f64 c.old.num, .string c.old.text, .int .i64 c.val.kind, .float .f64 c.val.num, .string c.val.text]) Kcw4.out rfl
  have c_l : bc < w4.heap.size := (Array.getElem?_eq_some_iff.1 Kcw4.out).1
  go_wp2_with fail
  obtain ⟨w5, hw5⟩ : ∃ w5, w5 = w4.alloc (.cells #[.int .i64 r.code, .int .i64 r.val.kind, .float .f64 r.val.num, .string r.val.text] 33) := ⟨_, rfl⟩
  obtain ⟨br, hbr⟩ : ∃ br, br = w4.heap.size := ⟨_, rfl⟩
  have hE : Ext w4 w5 := by rw [hw5]; exact (Mod.refl _ w4).alloc _
  have hKn : w5.heap[br]? = some (.cells #[.int .i64 r.code, .int .i64 r.val.kind, .float .f64 r.val.num, .string r.val.text] 33 (0, 0)) := by rw [hw5, hbr]; exact heap_alloc_new w4 _
  rw [← hw5, ← hbr]
  clear c_0 c_1 c_2 c_3 c_4 c_5 c_6 c_7 c_l
  have Kcw5 := Lib.hid (hE.blk Kcw4.out id)
  replace HC := Lib.hid (HC.out.ext hE)
  replace HN7 := Lib.hid (newP_mod HN7.out hE (fun _ _ => id))
  replace HN8 := Lib.hid (newP_mod HN8.out hE (fun _ _ => id))
  replace HX := Lib.hid (HX.out.ext hE)
  clear Kcw4
  have Krw5 := Lib.hid hKn
  clear hKn hE hw5 hbr
  refine (kv_get w5 _ v7 p key HN7.out.prs).mono ?_
  rintro e w6 ⟨rfl, hE⟩
  have Kcw6 := Lib.hid (hE.blk Kcw5.out id)
  have Krw6 := Lib.hid (hE.blk Krw5.out id)
  replace HC := Lib.hid (HC.out.ext hE)
  replace HN7 := Lib.hid (newP_mod HN7.out hE (fun _ _ => id))
  replace HN8 := Lib.hid (newP_mod HN8.out hE (fun _ _ => id))
  replace HX := Lib.hid (HX.out.ext hE)
  clear Kcw5
  clear Krw5
  clear hE
  have c_0 : w6.cell? ⟨bc, 0, none⟩ = some _ := blk_cell (cs := [.int .i64 c.kind, .string c.key, .int .i64 c.old.kind, .float .f64 c.old.num, .string c.old.text, .int .i64 c.val.kind, .float .f64 c.val.num, .string c.val.text]) Kcw6.out rfl
  have c_1 : w6.cell? ⟨bc, 1, none⟩ = some _ := blk_cell (cs := [.int .i64 c.kind, .string c.key, .int .i64 c.old.kind, .float .f64 c.old.num, .string c.old.text, .int .i64 c.val.kind, .float .f64 c.val.num, .string c.val.text]) Kcw6.out rfl
  have c_2 : w6.cell? ⟨bc, 2, none⟩ = some _ := blk_cell (cs := [.int .i64 c.kind, .string c.key, .int .i64 c.old.kind, .float .f64 c.old.num, .string c.old.text, .int .i64 c.val.kind, .float .f64 c.val.num, .string c.val.text]) Kcw6.out rfl
  have c_3 : w6.cell? ⟨bc, 3, none⟩ = some _ := blk_cell (cs := [.int .i64 c.kind, .string c.key, .int .i64 c.old.kind, .float .f64 c.old.num, .string c.old.text, .int .i64 c.val.kind, .float .f64 c.val.num, .string c.val.text]) Kcw6.out rfl
  have c_4 : w6.cell? ⟨bc, 4, none⟩ = some _ := blk_cell (cs := [.int .i64 c.kind, .string c.key, .int .i64 c.old.kind, .float .f64 c.old.num, .string c.old.text, .int .i64 c.val.kind, .float .f64 c.val.num, .string c.val.text]) Kcw6.out rfl
  have c_5 : w6.cell? ⟨bc, 5, none⟩ = some _ := blk_cell (cs := [.int .i64 c.kind, .string c.key, .int .i64 c.old.kind, .float .f64 c.old.num, .string c.old.text, .int .i64 c.val.kind, .float .f64 c.val.num, .string c.val.text]) Kcw6.out rfl
  have c_6 : w6.cell? ⟨bc, 6, none⟩ = some _ := blk_cell (cs := [.int .i64 c.kind, .string c.key, .int .i64 c.old.kind, .float .f64 c.old.num, .string c.old.text, .int .i64 c.val.kind, .float .f64 c.val.num, .string c.val.text]) Kcw6.out rfl
  have c_7 : w6.cell? ⟨bc, 7, none⟩ = some _ := blk_cell (cs := [.int .i64 c.kind, .string c.key, .int .i64 c.old.kind, .float .f64 c.old.num, .string c.old.text, .int .i64 c.val.kind, .float .f64 c.val.num, .string c.val.text]) Kcw6.out rfl
  have c_l : bc < w6.heap.size := (Array.getElem?_eq_some_iff.1 Kcw6.out).1
  have r_0 : w6.cell? ⟨br, 0, none⟩ = some _ := blk_cell (cs := [.int .i64 r.code, .int .i64 r.val.kind, .float .f64 r.val.num, .string r.val.text]) Krw6.out rfl
  have r_1 : w6.cell? ⟨br, 1, none⟩ = some _ := blk_cell (cs := [.int .i64 r.code, .int .i64 r.val.kind, .float .f64 r.val.num, .string r.val.text]) Krw6.out rfl
  have r_2 : w6.cell? ⟨br, 2, none⟩ = some _ := blk_cell (cs := [.int .i64 r.code, .int .i64 r.val.kind, .float .f64 r.val.num, .string r.val.text]) Krw6.out rfl
  have r_3 : w6.cell? ⟨br, 3, none⟩ = some _ := blk_cell (cs := [.int .i64 r.code, .int .i64 r.val.kind, .float .f64 r.val.num, .string r.val.text]) Krw6.out rfl
  have r_l : br < w6.heap.size := (Array.getElem?_eq_some_iff.1 Krw6.out).1
  go_wp2_with fail
  refine (kv_get w6 _ v8 L key HN8.out.prs).mono ?_
  rintro e w7 ⟨rfl, hE⟩
  clear c_0 c_1 c_2 c_3 c_4 c_5 c_6 c_7 c_l r_0 r_1 r_2 r_3 r_l
  have Kcw7 := Lib.hid (hE.blk Kcw6.out id)
  have Krw7 := Lib.hid (hE.blk Krw6.out id)
  replace HC := Lib.hid (HC.out.ext hE)
  replace HN7 := Lib.hid (newP_mod HN7.out hE (fun _ _ => id))
  replace HN8 := Lib.hid (newP_mod HN8.out hE (fun _ _ => id))
  replace HX := Lib.hid (HX.out.ext hE)
  clear Kcw6
  clear Krw6
  clear hE
  have c_0 : w7.cell? ⟨bc, 0, none⟩ = some _ := blk_cell (cs := [.int .i64 c.kind, .string c.key, .int .i64 c.old.kind, .float .f64 c.old.num, .string c.old.text, .int .i64 c.val.kind, .float .f64 c.val.num, .string c.val.text]) Kcw7.out rfl
  have c_1 : w7.cell? ⟨bc, 1, none⟩ = some _ := blk_cell (cs := [.int .i64 c.kind, .string c.key, .int .i64 c.old.kind, .float .f64 c.old.num, .string c.old.text, .int .i64 c.val.kind, .float .f64 c.val.num, .string c.val.text]) Kcw7.out rfl
  have c_2 : w7.cell? ⟨bc, 2, none⟩ = some _ := blk_cell (cs := [.int .i64 c.kind, .string c.key, .int .i64 c.old.kind, .float .f64 c.old.num, .string c.old.text, .int .i64 c.val.kind, .float .f64 c.val.num, .string c.val.text]) Kcw7.out rfl
  have c_3 : w7.cell? ⟨bc, 3, none⟩ = some _ := blk_cell (cs := [.int .i64 c.kind, .string c.key, .int .i64 c.old.kind, .float .f64 c.old.num, .string c.old.text, .int .i64 c.val.kind, .float .f64 c.val.num, .string c.val.text]) Kcw7.out rfl
  have c_4 : w7.cell? ⟨bc, 4, none⟩ = some _ := blk_cell (cs := [.int .i64 c.kind, .string c.key, .int .i64 c.old.kind, .float .f64 c.old.num, .string c.old.text, .int .i64 c.val.kind, .float .f64 c.val.num, .string c.val.text]) Kcw7.out rfl
  have c_5 : w7.cell? ⟨bc, 5, none⟩ = some _ := blk_cell (cs := [.int .i64 c.kind, .string c.key, .int .i64 c.old.kind, .float .f64 c.old.num, .string c.old.text, .int .i64 c.val.kind, .float .f64 c.val.num, .string c.val.text]) Kcw7.out rfl
  have c_6 : w7.cell? ⟨bc, 6, none⟩ = some _ := blk_cell (cs := [.int .i64 c.kind, .string c.key, .int .i64 c.old.kind, .float .f64 c.old.num, .string c.old.text, .int .i64 c.val.kind, .float .f64 c.val.num, .string c.val.text]) Kcw7.out rfl
  have c_7 : w7.cell? ⟨bc, 7, none⟩ = some _ := blk_cell (cs := [.int .i64 c.kind, .string c.key, .int .i64 c.old.kind, .float .f64 c.old.num, .string c.old.text, .int .i64 c.val.kind, .float .f64 c.val.num, .string c.val.text]) Kcw7.out rfl
  have c_l : bc < w7.heap.size := (Array.getElem?_eq_some_iff.1 Kcw7.out).1
  have r_0 : w7.cell? ⟨br, 0, none⟩ = some _ := blk_cell (cs := [.int .i64 r.code, .int .i64 r.val.kind, .float .f64 r.val.num, .string r.val.text]) Krw7.out rfl
  have r_1 : w7.cell? ⟨br, 1, none⟩ = some _ := blk_cell (cs := [.int .i64 r.code, .int .i64 r.val.kind, .float .f64 r.val.num, .string r.val.text]) Krw7.out rfl
  have r_2 : w7.cell? ⟨br, 2, none⟩ = some _ := blk_cell (cs := [.int .i64 r.code, .int .i64 r.val.kind, .float .f64 r.val.num, .string r.val.text]) Krw7.out rfl
  have r_3 : w7.cell? ⟨br, 3, none⟩ = some _ := blk_cell (cs := [.int .i64 r.code, .int .i64 r.val.kind, .float .f64 r.val.num, .string r.val.text]) Krw7.out rfl
  have r_l : br < w7.heap.size := (Array.getElem?_eq_some_iff.1 Krw7.out).1
  go_wp2_with fail
  refine (k_value (getP p key) (getP L key) w7).mono ?_
  rintro e w8 ⟨rfl, hE⟩
  clear c_0 c_1 c_2 c_3 c_4 c_5 c_6 c_7 c_l r_0 r_1 r_2 r_3 r_l
  have Kcw8 := Lib.hid (hE.blk Kcw7.out id)
  have Krw8 := Lib.hid (hE.blk Krw7.out id)
  replace HC := Lib.hid (HC.out.ext hE)
  replace HN7 := Lib.hid (newP_mod HN7.out hE (fun _ _ => id))
  replace HN8 := Lib.hid (newP_mod HN8.out hE (fun _ _ => id))
  replace HX := Lib.hid (HX.out.ext hE)
  clear Kcw7
  clear Krw7
  have hv : eqVal (getP p key) (getP L key) = true := by
    have := do_others (l := p) (c := c) h4
    rw [HR.out] at this
    rw [show getP L key = getP p key from this]
    exact eqVal_refl _
  rw [hv]
  clear hE
  have c_0 : w8.cell? ⟨bc, 0, none⟩ = some _ := blk_cell (cs := [.int .i64 c.kind, .string c.key, .int .i64 c.old.kind, .float .f64 c.old.num, .string c.old.text, .int .i64 c.val.kind, .float .f64 c.val.num, .string c.val.text]) Kcw8.out rfl
  have c_1 : w8.cell? ⟨bc, 1, none⟩ = some _ := blk_cell (cs := [.int .i64 c.kind, .string c.key, .int .i64 c.old.kind, .float .f64 c.old.num, .string c.old.text, .int .i64 c.val.kind, .float .f64 c.val.num, .string c.val.text]) Kcw8.out rfl
  have c_2 : w8.cell? ⟨bc, 2, none⟩ = some _ := blk_cell (cs := [.int .i64 c.kind, .string c.key, .int .i64 c.old.kind, .float .f64 c.old.num, .string c.old.text, .int .i64 c.val.kind, .float .f64 c.val.num, .string c.val.text]) Kcw8.out rfl
  have c_3 : w8.cell? ⟨bc, 3, none⟩ = some _ := blk_cell (cs := [.int .i64 c.kind, .string c.key, .int .i64 c.old.kind, .float .f64 c.old.num, .string c.old.text, .int .i64 c.val.kind, .float .f64 c.val.num, .string c.val.text]) Kcw8.out rfl
  have c_4 : w8.cell? ⟨bc, 4, none⟩ = some _ := blk_cell (cs := [.int .i64 c.kind, .string c.key, .int .i64 c.old.kind, .float .f64 c.old.num, .string c.old.text, .int .i64 c.val.kind, .float .f64 c.val.num, .string c.val.text]) Kcw8.out rfl
  have c_5 : w8.cell? ⟨bc, 5, none⟩ = some _ := blk_cell (cs := [.int .i64 c.kind, .string c.key, .int .i64 c.old.kind, .float .f64 c.old.num, .string c.old.text, .int .i64 c.val.kind, .float .f64 c.val.num, .string c.val.text]) Kcw8.out rfl
  have c_6 : w8.cell? ⟨bc, 6, none⟩ = some _ := blk_cell (cs := [.int .i64 c.kind, .string c.key, .int .i64 c.old.kind, .float .f64 c.old.num, .string c.old.text, .int .i64 c.val.kind, .float .f64 c.val.num, .string c.val.text]) Kcw8.out rfl
  have c_7 : w8.cell? ⟨bc, 7, none⟩ = some _ := blk_cell (cs := [.int .i64 c.kind, .string c.key, .int .i64 c.old.kind, .float .f64 c.old.num, .string c.old.text, .int .i64 c.val.kind, .float .f64 c.val.num, .string c.val.text]) Kcw8.out rfl
  have c_l : bc < w8.heap.size := (Array.getElem?_eq_some_iff.1 Kcw8.out).1
  have r_0 : w8.cell? ⟨br, 0, none⟩ = some _ := blk_cell (cs := [.int .i64 r.code, .int .i64 r.val.kind, .float .f64 r.val.num, .string r.val.text]) Krw8.out rfl
  have r_1 : w8.cell? ⟨br, 1, none⟩ = some _ := blk_cell (cs := [.int .i64 r.code, .int .i64 r.val.kind, .float .f64 r.val.num, .string r.val.text]) Krw8.out rfl
  have r_2 : w8.cell? ⟨br, 2, none⟩ = some _ := blk_cell (cs := [.int .i64 r.code, .int .i64 r.val.kind, .float .f64 r.val.num, .string r.val.text]) Krw8.out rfl
  have r_3 : w8.cell? ⟨br, 3, none⟩ = some _ := blk_cell (cs := [.int .i64 r.code, .int .i64 r.val.kind, .float .f64 r.val.num, .string r.val.text]) Krw8.out rfl
  have r_l : br < w8.heap.size := (Array.getElem?_eq_some_iff.1 Krw8.out).1
  go_wp2_with fail
  refine (l_wakes w8).mono ?_
  rintro e w9 ⟨rfl, hE⟩
  clear c_0 c_1 c_2 c_3 c_4 c_5 c_6 c_7 c_l r_0 r_1 r_2 r_3 r_l
  have Kcw9 := Lib.hid (hE.blk Kcw8.out id)
  have Krw9 := Lib.hid (hE.blk Krw8.out id)
  replace HC := Lib.hid (HC.out.ext hE)
  replace HN7 := Lib.hid (newP_mod HN7.out hE (fun _ _ => id))
  replace HN8 := Lib.hid (newP_mod HN8.out hE (fun _ _ => id))
  replace HX := Lib.hid (HX.out.ext hE)
  clear Kcw8
  clear Krw8
  clear hE
  have c_0 : w9.cell? ⟨bc, 0, none⟩ = some _ := blk_cell (cs := [.int .i64 c.kind, .string c.key, .int .i64 c.old.kind, .float .f64 c.old.num, .string c.old.text, .int .i64 c.val.kind, .float .f64 c.val.num, .string c.val.text]) Kcw9.out rfl
  have c_1 : w9.cell? ⟨bc, 1, none⟩ = some _ := blk_cell (cs := [.int .i64 c.kind, .string c.key, .int .i64 c.old.kind, .float .f64 c.old.num, .string c.old.text, .int .i64 c.val.kind, .float .f64 c.val.num, .string c.val.text]) Kcw9.out rfl
  have c_2 : w9.cell? ⟨bc, 2, none⟩ = some _ := blk_cell (cs := [.int .i64 c.kind, .string c.key, .int .i64 c.old.kind, .float .f64 c.old.num, .string c.old.text, .int .i64 c.val.kind, .float .f64 c.val.num, .string c.val.text]) Kcw9.out rfl
  have c_3 : w9.cell? ⟨bc, 3, none⟩ = some _ := blk_cell (cs := [.int .i64 c.kind, .string c.key, .int .i64 c.old.kind, .float .f64 c.old.num, .string c.old.text, .int .i64 c.val.kind, .float .f64 c.val.num, .string c.val.text]) Kcw9.out rfl
  have c_4 : w9.cell? ⟨bc, 4, none⟩ = some _ := blk_cell (cs := [.int .i64 c.kind, .string c.key, .int .i64 c.old.kind, .float .f64 c.old.num, .string c.old.text, .int .i64 c.val.kind, .float .f64 c.val.num, .string c.val.text]) Kcw9.out rfl
  have c_5 : w9.cell? ⟨bc, 5, none⟩ = some _ := blk_cell (cs := [.int .i64 c.kind, .string c.key, .int .i64 c.old.kind, .float .f64 c.old.num, .string c.old.text, .int .i64 c.val.kind, .float .f64 c.val.num, .string c.val.text]) Kcw9.out rfl
  have c_6 : w9.cell? ⟨bc, 6, none⟩ = some _ := blk_cell (cs := [.int .i64 c.kind, .string c.key, .int .i64 c.old.kind, .float .f64 c.old.num, .string c.old.text, .int .i64 c.val.kind, .float .f64 c.val.num, .string c.val.text]) Kcw9.out rfl
  have c_7 : w9.cell? ⟨bc, 7, none⟩ = some _ := blk_cell (cs := [.int .i64 c.kind, .string c.key, .int .i64 c.old.kind, .float .f64 c.old.num, .string c.old.text, .int .i64 c.val.kind, .float .f64 c.val.num, .string c.val.text]) Kcw9.out rfl
  have c_l : bc < w9.heap.size := (Array.getElem?_eq_some_iff.1 Kcw9.out).1
  have r_0 : w9.cell? ⟨br, 0, none⟩ = some _ := blk_cell (cs := [.int .i64 r.code, .int .i64 r.val.kind, .float .f64 r.val.num, .string r.val.text]) Krw9.out rfl
  have r_1 : w9.cell? ⟨br, 1, none⟩ = some _ := blk_cell (cs := [.int .i64 r.code, .int .i64 r.val.kind, .float .f64 r.val.num, .string r.val.text]) Krw9.out rfl
  have r_2 : w9.cell? ⟨br, 2, none⟩ = some _ := blk_cell (cs := [.int .i64 r.code, .int .i64 r.val.kind, .float .f64 r.val.num, .string r.val.text]) Krw9.out rfl
  have r_3 : w9.cell? ⟨br, 3, none⟩ = some _ := blk_cell (cs := [.int .i64 r.code, .int .i64 r.val.kind, .float .f64 r.val.num, .string r.val.text]) Krw9.out rfl
  have r_l : br < w9.heap.size := (Array.getElem?_eq_some_iff.1 Krw9.out).1
  go_wp2
  go_ret
  exact ⟨rfl, Ext.below HX.out⟩
theorem kvOthers_a (w : World) (v : Value) (l : List ACmd) (c : ACmd) (key : ByteArray) (hC : Cms w (fun g => g < w.heap.size) v l) (hc : c.ok) (_ : key.size ≤ maxLen) :
    Calls Try.prog 3 #[v, .agg #[.int .i64 c.kind, .string c.key, .int .i64 c.old.kind, .float .f64 c.old.num, .string c.old.text, .int .i64 c.val.kind, .float .f64 c.val.num, .string c.val.text], .string key] w fun e w' => e = .returned (.bool true) ∧ Below w.heap.size w w' := by
  obtain ⟨A, cc, rfl⟩ := hC.form
  exact kvOthers_walk w _ A _ cc l hC rfl c key hc
end Go.Proofs.Ythhjaneadbkccaa
