/-
  The walk of KvParts. Conditions: as the theorem names them.
-/
import Derived.Test.YthhjaneadbkccaaKvMore
namespace Go.Proofs.Ythhjaneadbkccaa
set_option linter.unusedSimpArgs false
open Go.RowKit

set_option maxRecDepth 100000 in
set_option maxHeartbeats 1000000 in
theorem kvParts_walk (w : World) (T : Nat → Prop) (A : Option Addr) (n cc : Nat) (l : List ACmd) (hC : Cms w T (.slice A n cc) l) (hn : l.length = n) (a b : ACmd) (ha : a.ok) (hb : b.ok) :
    Calls Try.prog 8 #[.slice A n cc, .agg #[.int .i64 a.kind, .string a.key, .int .i64 a.old.kind, .float .f64 a.old.num, .string a.old.text, .int .i64 a.val.kind, .float .f64 a.val.num, .string a.val.text], .agg #[.int .i64 b.kind, .string b.key, .int .i64 b.old.kind, .float .f64 b.old.num, .string b.old.text, .int .i64 b.val.kind, .float .f64 b.val.num, .string b.val.text]] w fun e w' => e = .returned (.bool true) ∧ Below w.heap.size w w' := by
  have hl := hC.1.le
  rw [hn] at hl
  unfold maxLen at hl
  by_cases h1 : 1000 < n
  · have d1 : decide ((n : Int) > 1000) = true := by simp; omega
    go_enter Try.func8, Try.ntmps8
    go_wp2
    go_ret
    exact ⟨rfl, Ext.below (((Mod.refl _ w).alloc _).alloc _)⟩
  have d1 : decide ((n : Int) > 1000) = false := by simp; omega
  rcases h2 : heavyCmd a with _ | _
  case true =>
    have HX : Hid (Ext w w) := Lib.hid (Mod.refl _ w)
    have HC := Lib.hid hC
    clear hC
    go_enter Try.func8, Try.ntmps8
    go_wp2_with fail
    obtain ⟨w1, hw1⟩ : ∃ w1, w1 = w.alloc (.cells #[.int .i64 a.kind, .string a.key, .int .i64 a.old.kind, .float .f64 a.old.num, .string a.old.text, .int .i64 a.val.kind, .float .f64 a.val.num, .string a.val.text] 27) := ⟨_, rfl⟩
    obtain ⟨ba, hba⟩ : ∃ ba, ba = w.heap.size := ⟨_, rfl⟩
    have hzz : w.heap.size = ba := hba.symm
    have hE : Ext w w1 := by rw [hw1]; exact (Mod.refl _ w).alloc _
    have hKn : w1.heap[ba]? = some (.cells #[.int .i64 a.kind, .string a.key, .int .i64 a.old.kind, .float .f64 a.old.num, .string a.old.text, .int .i64 a.val.kind, .float .f64 a.val.num, .string a.val.text] 27 (0, 0)) := by rw [hw1, ← hzz]; exact heap_alloc_new w _
    have hzn : w1.heap.size = ba + 1 := by rw [hw1, ← hzz]; simp
    rw [← hw1, ← hba]
    have HXo := HX
    replace HC := Lib.hid (HC.out.ext hE)
    replace HX := Lib.hid (HX.out.ext hE)
    have Kaw1 := Lib.hid hKn
    have hbz : w.heap.size ≤ ba := by have := HXo.out.size; omega
    clear hKn hE hw1 hba HXo hzz
    have hba := hbz
    clear hbz
    obtain ⟨w2, hw2⟩ : ∃ w2, w2 = w1.alloc (.cells #[.int .i64 b.kind, .string b.key, .int .i64 b.old.kind, .float .f64 b.old.num, .string b.old.text, .int .i64 b.val.kind, .float .f64 b.val.num, .string b.val.text] 27) := ⟨_, rfl⟩
    obtain ⟨bb, hbb⟩ : ∃ bb, bb = ba + 1 := ⟨_, rfl⟩
    have hzz : w1.heap.size = bb := hzn.trans hbb.symm
    clear hzn
    have hE : Ext w1 w2 := by rw [hw2]; exact (Mod.refl _ w1).alloc _
    have hKn : w2.heap[bb]? = some (.cells #[.int .i64 b.kind, .string b.key, .int .i64 b.old.kind, .float .f64 b.old.num, .string b.old.text, .int .i64 b.val.kind, .float .f64 b.val.num, .string b.val.text] 27 (0, 0)) := by rw [hw2, ← hzz]; exact heap_alloc_new w1 _
    have hzn : w2.heap.size = bb + 1 := by rw [hw2, ← hzz]; simp
    rw [← hw2, ← hbb]
    have HXo := HX
    have Kaw2 := Lib.hid (hE.blk Kaw1.out id)
    replace HC := Lib.hid (HC.out.ext hE)
    replace HX := Lib.hid (HX.out.ext hE)
    clear Kaw1
    have Kbw2 := Lib.hid hKn
    have hbz : w.heap.size ≤ bb := by have := HXo.out.size; omega
    clear hKn hE hw2 hbb HXo hzz
    have hbb := hbz
    clear hbz
    clear hzn
    refine (hv_cmd a w2).mono ?_
    rintro e w3 ⟨rfl, hE⟩
    have Kaw3 := Lib.hid (hE.blk Kaw2.out id)
    have Kbw3 := Lib.hid (hE.blk Kbw2.out id)
    replace HC := Lib.hid (HC.out.ext hE)
    replace HX := Lib.hid (HX.out.ext hE)
    clear Kaw2
    clear Kbw2
    rw [h2]
    clear hE
    have a_0 : w3.cell? ⟨ba, 0, none⟩ = some _ := blk_cell (cs := [.int .i64 a.kind, .string a.key, .int .i64 a.old.kind, .float .f64 a.old.num, .string a.old.text, .int .i64 a.val.kind, .float .f64 a.val.num, .string a.val.text]) Kaw3.out rfl
    have a_1 : w3.cell? ⟨ba, 1, none⟩ = some _ := blk_cell (cs := [.int .i64 a.kind, .string a.key, .int .i64 a.old.kind, .float .f64 a.old.num, .string a.old.text, .int .i64 a.val.kind, .float .f64 a.val.num, .string a.val.text]) Kaw3.out rfl
    have a_2 : w3.cell? ⟨ba, 2, none⟩ = some _ := blk_cell (cs := [.int .i64 a.kind, .string a.key, .int .i64 a.old.kind, .float .f64 a.old.num, .string a.old.text, .int .i64 a.val.kind, .float .f64 a.val.num, .string a.val.text]) Kaw3.out rfl
    have a_3 : w3.cell? ⟨ba, 3, none⟩ = some _ := blk_cell (cs := [.int .i64 a.kind, .string a.key, .int .i64 a.old.kind, .float .f64 a.old.num, .string a.old.text, .int .i64 a.val.kind, .float .f64 a.val.num, .string a.val.text]) Kaw3.out rfl
    have a_4 : w3.cell? ⟨ba, 4, none⟩ = some _ := blk_cell (cs := [.int .i64 a.kind, .string a.key, .int .i64 a.old.kind, .float .f64 a.old.num, .string a.old.text, .int .i64 a.val.kind, .float .f64 a.val.num, .string a.val.text]) Kaw3.out rfl
    have a_5 : w3.cell? ⟨ba, 5, none⟩ = some _ := blk_cell (cs := [.int .i64 a.kind, .string a.key, .int .i64 a.old.kind, .float .f64 a.old.num, .string a.old.text, .int .i64 a.val.kind, .float .f64 a.val.num, .string a.val.text]) Kaw3.out rfl
    have a_6 : w3.cell? ⟨ba, 6, none⟩ = some _ := blk_cell (cs := [.int .i64 a.kind, .string a.key, .int .i64 a.old.kind, .float .f64 a.old.num, .string a.old.text, .int .i64 a.val.kind, .float .f64 a.val.num, .string a.val.text]) Kaw3.out rfl
    have a_7 : w3.cell? ⟨ba, 7, none⟩ = some _ := blk_cell (cs := [.int .i64 a.kind, .string a.key, .int .i64 a.old.kind, .float .f64 a.old.num, .string a.old.text, .int .i64 a.val.kind, .float .f64 a.val.num, .string a.val.text]) Kaw3.out rfl
    have a_l : ba < w3.heap.size := (Array.getElem?_eq_some_iff.1 Kaw3.out).1
    have b_0 : w3.cell? ⟨bb, 0, none⟩ = some _ := blk_cell (cs := [.int .i64 b.kind, .string b.key, .int .i64 b.old.kind, .float .f64 b.old.num, .string b.old.text, .int .i64 b.val.kind, .float .f64 b.val.num, .string b.val.text]) Kbw3.out rfl
    have b_1 : w3.cell? ⟨bb, 1, none⟩ = some _ := blk_cell (cs := [.int .i64 b.kind, .string b.key, .int .i64 b.old.kind, .float .f64 b.old.num, .string b.old.text, .int .i64 b.val.kind, .float .f64 b.val.num, .string b.val.text]) Kbw3.out rfl
    have b_2 : w3.cell? ⟨bb, 2, none⟩ = some _ := blk_cell (cs := [.int .i64 b.kind, .string b.key, .int .i64 b.old.kind, .float .f64 b.old.num, .string b.old.text, .int .i64 b.val.kind, .float .f64 b.val.num, .string b.val.text]) Kbw3.out rfl
    have b_3 : w3.cell? ⟨bb, 3, none⟩ = some _ := blk_cell (cs := [.int .i64 b.kind, .string b.key, .int .i64 b.old.kind, .float .f64 b.old.num, .string b.old.text, .int .i64 b.val.kind, .float .f64 b.val.num, .string b.val.text]) Kbw3.out rfl
    have b_4 : w3.cell? ⟨bb, 4, none⟩ = some _ := blk_cell (cs := [.int .i64 b.kind, .string b.key, .int .i64 b.old.kind, .float .f64 b.old.num, .string b.old.text, .int .i64 b.val.kind, .float .f64 b.val.num, .string b.val.text]) Kbw3.out rfl
    have b_5 : w3.cell? ⟨bb, 5, none⟩ = some _ := blk_cell (cs := [.int .i64 b.kind, .string b.key, .int .i64 b.old.kind, .float .f64 b.old.num, .string b.old.text, .int .i64 b.val.kind, .float .f64 b.val.num, .string b.val.text]) Kbw3.out rfl
    have b_6 : w3.cell? ⟨bb, 6, none⟩ = some _ := blk_cell (cs := [.int .i64 b.kind, .string b.key, .int .i64 b.old.kind, .float .f64 b.old.num, .string b.old.text, .int .i64 b.val.kind, .float .f64 b.val.num, .string b.val.text]) Kbw3.out rfl
    have b_7 : w3.cell? ⟨bb, 7, none⟩ = some _ := blk_cell (cs := [.int .i64 b.kind, .string b.key, .int .i64 b.old.kind, .float .f64 b.old.num, .string b.old.text, .int .i64 b.val.kind, .float .f64 b.val.num, .string b.val.text]) Kbw3.out rfl
    have b_l : bb < w3.heap.size := (Array.getElem?_eq_some_iff.1 Kbw3.out).1
    go_wp2
    go_ret
    exact ⟨rfl, Ext.below HX.out⟩
  rcases h3 : heavyCmd b with _ | _
  case true =>
    have HX : Hid (Ext w w) := Lib.hid (Mod.refl _ w)
    have HC := Lib.hid hC
    clear hC
    go_enter Try.func8, Try.ntmps8
    go_wp2_with fail
    obtain ⟨w1, hw1⟩ : ∃ w1, w1 = w.alloc (.cells #[.int .i64 a.kind, .string a.key, .int .i64 a.old.kind, .float .f64 a.old.num, .string a.old.text, .int .i64 a.val.kind, .float .f64 a.val.num, .string a.val.text] 27) := ⟨_, rfl⟩
    obtain ⟨ba, hba⟩ : ∃ ba, ba = w.heap.size := ⟨_, rfl⟩
    have hzz : w.heap.size = ba := hba.symm
    have hE : Ext w w1 := by rw [hw1]; exact (Mod.refl _ w).alloc _
    have hKn : w1.heap[ba]? = some (.cells #[.int .i64 a.kind, .string a.key, .int .i64 a.old.kind, .float .f64 a.old.num, .string a.old.text, .int .i64 a.val.kind, .float .f64 a.val.num, .string a.val.text] 27 (0, 0)) := by rw [hw1, ← hzz]; exact heap_alloc_new w _
    have hzn : w1.heap.size = ba + 1 := by rw [hw1, ← hzz]; simp
    rw [← hw1, ← hba]
    have HXo := HX
    replace HC := Lib.hid (HC.out.ext hE)
    replace HX := Lib.hid (HX.out.ext hE)
    have Kaw1 := Lib.hid hKn
    have hbz : w.heap.size ≤ ba := by have := HXo.out.size; omega
    clear hKn hE hw1 hba HXo hzz
    have hba := hbz
    clear hbz
    obtain ⟨w2, hw2⟩ : ∃ w2, w2 = w1.alloc (.cells #[.int .i64 b.kind, .string b.key, .int .i64 b.old.kind, .float .f64 b.old.num, .string b.old.text, .int .i64 b.val.kind, .float .f64 b.val.num, .string b.val.text] 27) := ⟨_, rfl⟩
    obtain ⟨bb, hbb⟩ : ∃ bb, bb = ba + 1 := ⟨_, rfl⟩
    have hzz : w1.heap.size = bb := hzn.trans hbb.symm
    clear hzn
    have hE : Ext w1 w2 := by rw [hw2]; exact (Mod.refl _ w1).alloc _
    have hKn : w2.heap[bb]? = some (.cells #[.int .i64 b.kind, .string b.key, .int .i64 b.old.kind, .float .f64 b.old.num, .string b.old.text, .int .i64 b.val.kind, .float .f64 b.val.num, .string b.val.text] 27 (0, 0)) := by rw [hw2, ← hzz]; exact heap_alloc_new w1 _
    have hzn : w2.heap.size = bb + 1 := by rw [hw2, ← hzz]; simp
    rw [← hw2, ← hbb]
    have HXo := HX
    have Kaw2 := Lib.hid (hE.blk Kaw1.out id)
    replace HC := Lib.hid (HC.out.ext hE)
    replace HX := Lib.hid (HX.out.ext hE)
    clear Kaw1
    have Kbw2 := Lib.hid hKn
    have hbz : w.heap.size ≤ bb := by have := HXo.out.size; omega
    clear hKn hE hw2 hbb HXo hzz
    have hbb := hbz
    clear hbz
    clear hzn
    refine (hv_cmd a w2).mono ?_
    rintro e w3 ⟨rfl, hE⟩
    have Kaw3 := Lib.hid (hE.blk Kaw2.out id)
    have Kbw3 := Lib.hid (hE.blk Kbw2.out id)
    replace HC := Lib.hid (HC.out.ext hE)
    replace HX := Lib.hid (HX.out.ext hE)
    clear Kaw2
    clear Kbw2
    rw [h2]
    clear hE
    have a_0 : w3.cell? ⟨ba, 0, none⟩ = some _ := blk_cell (cs := [.int .i64 a.kind, .string a.key, .int .i64 a.old.kind, .float .f64 a.old.num, .string a.old.text, .int .i64 a.val.kind, .float .f64 a.val.num, .string a.val.text]) Kaw3.out rfl
    have a_1 : w3.cell? ⟨ba, 1, none⟩ = some _ := blk_cell (cs := [.int .i64 a.kind, .string a.key, .int .i64 a.old.kind, .float .f64 a.old.num, .string a.old.text, .int .i64 a.val.kind, .float .f64 a.val.num, .string a.val.text]) Kaw3.out rfl
    have a_2 : w3.cell? ⟨ba, 2, none⟩ = some _ := blk_cell (cs := [.int .i64 a.kind, .string a.key, .int .i64 a.old.kind, .float .f64 a.old.num, .string a.old.text, .int .i64 a.val.kind, .float .f64 a.val.num, .string a.val.text]) Kaw3.out rfl
    have a_3 : w3.cell? ⟨ba, 3, none⟩ = some _ := blk_cell (cs := [.int .i64 a.kind, .string a.key, .int .i64 a.old.kind, .float .f64 a.old.num, .string a.old.text, .int .i64 a.val.kind, .float .f64 a.val.num, .string a.val.text]) Kaw3.out rfl
    have a_4 : w3.cell? ⟨ba, 4, none⟩ = some _ := blk_cell (cs := [.int .i64 a.kind, .string a.key, .int .i64 a.old.kind, .float .f64 a.old.num, .string a.old.text, .int .i64 a.val.kind, .float .f64 a.val.num, .string a.val.text]) Kaw3.out rfl
    have a_5 : w3.cell? ⟨ba, 5, none⟩ = some _ := blk_cell (cs := [.int .i64 a.kind, .string a.key, .int .i64 a.old.kind, .float .f64 a.old.num, .string a.old.text, .int .i64 a.val.kind, .float .f64 a.val.num, .string a.val.text]) Kaw3.out rfl
    have a_6 : w3.cell? ⟨ba, 6, none⟩ = some _ := blk_cell (cs := [.int .i64 a.kind, .string a.key, .int .i64 a.old.kind, .float .f64 a.old.num, .string a.old.text, .int .i64 a.val.kind, .float .f64 a.val.num, .string a.val.text]) Kaw3.out rfl
    have a_7 : w3.cell? ⟨ba, 7, none⟩ = some _ := blk_cell (cs := [.int .i64 a.kind, .string a.key, .int .i64 a.old.kind, .float .f64 a.old.num, .string a.old.text, .int .i64 a.val.kind, .float .f64 a.val.num, .string a.val.text]) Kaw3.out rfl
    have a_l : ba < w3.heap.size := (Array.getElem?_eq_some_iff.1 Kaw3.out).1
    have b_0 : w3.cell? ⟨bb, 0, none⟩ = some _ := blk_cell (cs := [.int .i64 b.kind, .string b.key, .int .i64 b.old.kind, .float .f64 b.old.num, .string b.old.text, .int .i64 b.val.kind, .float .f64 b.val.num, .string b.val.text]) Kbw3.out rfl
    have b_1 : w3.cell? ⟨bb, 1, none⟩ = some _ := blk_cell (cs := [.int .i64 b.kind, .string b.key, .int .i64 b.old.kind, .float .f64 b.old.num, .string b.old.text, .int .i64 b.val.kind, .float .f64 b.val.num, .string b.val.text]) Kbw3.out rfl
    have b_2 : w3.cell? ⟨bb, 2, none⟩ = some _ := blk_cell (cs := [.int .i64 b.kind, .string b.key, .int .i64 b.old.kind, .float .f64 b.old.num, .string b.old.text, .int .i64 b.val.kind, .float .f64 b.val.num, .string b.val.text]) Kbw3.out rfl
    have b_3 : w3.cell? ⟨bb, 3, none⟩ = some _ := blk_cell (cs := [.int .i64 b.kind, .string b.key, .int .i64 b.old.kind, .float .f64 b.old.num, .string b.old.text, .int .i64 b.val.kind, .float .f64 b.val.num, .string b.val.text]) Kbw3.out rfl
    have b_4 : w3.cell? ⟨bb, 4, none⟩ = some _ := blk_cell (cs := [.int .i64 b.kind, .string b.key, .int .i64 b.old.kind, .float .f64 b.old.num, .string b.old.text, .int .i64 b.val.kind, .float .f64 b.val.num, .string b.val.text]) Kbw3.out rfl
    have b_5 : w3.cell? ⟨bb, 5, none⟩ = some _ := blk_cell (cs := [.int .i64 b.kind, .string b.key, .int .i64 b.old.kind, .float .f64 b.old.num, .string b.old.text, .int .i64 b.val.kind, .float .f64 b.val.num, .string b.val.text]) Kbw3.out rfl
    have b_6 : w3.cell? ⟨bb, 6, none⟩ = some _ := blk_cell (cs := [.int .i64 b.kind, .string b.key, .int .i64 b.old.kind, .float .f64 b.old.num, .string b.old.text, .int .i64 b.val.kind, .float .f64 b.val.num, .string b.val.text]) Kbw3.out rfl
    have b_7 : w3.cell? ⟨bb, 7, none⟩ = some _ := blk_cell (cs := [.int .i64 b.kind, .string b.key, .int .i64 b.old.kind, .float .f64 b.old.num, .string b.old.text, .int .i64 b.val.kind, .float .f64 b.val.num, .string b.val.text]) Kbw3.out rfl
    have b_l : bb < w3.heap.size := (Array.getElem?_eq_some_iff.1 Kbw3.out).1
    go_wp2_with fail
    refine (hv_cmd b w3).mono ?_
    rintro e w4 ⟨rfl, hE⟩
    clear a_0 a_1 a_2 a_3 a_4 a_5 a_6 a_7 a_l b_0 b_1 b_2 b_3 b_4 b_5 b_6 b_7 b_l
    have Kaw4 := Lib.hid (hE.blk Kaw3.out id)
    have Kbw4 := Lib.hid (hE.blk Kbw3.out id)
    replace HC := Lib.hid (HC.out.ext hE)
    replace HX := Lib.hid (HX.out.ext hE)
    clear Kaw3
    clear Kbw3
    rw [h3]
    clear hE
    have a_0 : w4.cell? ⟨ba, 0, none⟩ = some _ := blk_cell (cs := [.int .i64 a.kind, .string a.key, .int .i64 a.old.kind, .float .f64 a.old.num, .string a.old.text, .int .i64 a.val.kind, .float .f64 a.val.num, .string a.val.text]) Kaw4.out rfl
    have a_1 : w4.cell? ⟨ba, 1, none⟩ = some _ := blk_cell (cs := [.int .i64 a.kind, .string a.key, .int .i64 a.old.kind, .float .f64 a.old.num, .string a.old.text, .int .i64 a.val.kind, .float .f64 a.val.num, .string a.val.text]) Kaw4.out rfl
    have a_2 : w4.cell? ⟨ba, 2, none⟩ = some _ := blk_cell (cs := [.int .i64 a.kind, .string a.key, .int .i64 a.old.kind, .float .f64 a.old.num, .string a.old.text, .int .i64 a.val.kind, .float .f64 a.val.num, .string a.val.text]) Kaw4.out rfl
    have a_3 : w4.cell? ⟨ba, 3, none⟩ = some _ := blk_cell (cs := [.int .i64 a.kind, .string a.key, .int .i64 a.old.kind, .float .f64 a.old.num, .string a.old.text, .int .i64 a.val.kind, .float .f64 a.val.num, .string a.val.text]) Kaw4.out rfl
    have a_4 : w4.cell? ⟨ba, 4, none⟩ = some _ := blk_cell (cs := [.int .i64 a.kind, .string a.key, .int .i64 a.old.kind, .float .f64 a.old.num, .string a.old.text, .int .i64 a.val.kind, .float .f64 a.val.num, .string a.val.text]) Kaw4.out rfl
    have a_5 : w4.cell? ⟨ba, 5, none⟩ = some _ := blk_cell (cs := [.int .i64 a.kind, .string a.key, .int .i64 a.old.kind, .float .f64 a.old.num, .string a.old.text, .int .i64 a.val.kind, .float .f64 a.val.num, .string a.val.text]) Kaw4.out rfl
    have a_6 : w4.cell? ⟨ba, 6, none⟩ = some _ := blk_cell (cs := [.int .i64 a.kind, .string a.key, .int .i64 a.old.kind, .float .f64 a.old.num, .string a.old.text, .int .i64 a.val.kind, .float .f64 a.val.num, .string a.val.text]) Kaw4.out rfl
    have a_7 : w4.cell? ⟨ba, 7, none⟩ = some _ := blk_cell (cs := [.int .i64 a.kind, .string a.key, .int .i64 a.old.kind, .float .f64 a.old.num, .string a.old.text, .int .i64 a.val.kind, .float .f64 a.val.num, .string a.val.text]) Kaw4.out rfl
    have a_l : ba < w4.heap.size := (Array.getElem?_eq_some_iff.1 Kaw4.out).1
    have b_0 : w4.cell? ⟨bb, 0, none⟩ = some _ := blk_cell (cs := [.int .i64 b.kind, .string b.key, .int .i64 b.old.kind, .float .f64 b.old.num, .string b.old.text, .int .i64 b.val.kind, .float .f64 b.val.num, .string b.val.text]) Kbw4.out rfl
    have b_1 : w4.cell? ⟨bb, 1, none⟩ = some _ := blk_cell (cs := [.int .i64 b.kind, .string b.key, .int .i64 b.old.kind, .float .f64 b.old.num, .string b.old.text, .int .i64 b.val.kind, .float .f64 b.val.num, .string b.val.text]) Kbw4.out rfl
    have b_2 : w4.cell? ⟨bb, 2, none⟩ = some _ := blk_cell (cs := [.int .i64 b.kind, .string b.key, .int .i64 b.old.kind, .float .f64 b.old.num, .string b.old.text, .int .i64 b.val.kind, .float .f64 b.val.num, .string b.val.text]) Kbw4.out rfl
    have b_3 : w4.cell? ⟨bb, 3, none⟩ = some _ := blk_cell (cs := [.int .i64 b.kind, .string b.key, .int .i64 b.old.kind, .float .f64 b.old.num, .string b.old.text, .int .i64 b.val.kind, .float .f64 b.val.num, .string b.val.text]) Kbw4.out rfl
    have b_4 : w4.cell? ⟨bb, 4, none⟩ = some _ := blk_cell (cs := [.int .i64 b.kind, .string b.key, .int .i64 b.old.kind, .float .f64 b.old.num, .string b.old.text, .int .i64 b.val.kind, .float .f64 b.val.num, .string b.val.text]) Kbw4.out rfl
    have b_5 : w4.cell? ⟨bb, 5, none⟩ = some _ := blk_cell (cs := [.int .i64 b.kind, .string b.key, .int .i64 b.old.kind, .float .f64 b.old.num, .string b.old.text, .int .i64 b.val.kind, .float .f64 b.val.num, .string b.val.text]) Kbw4.out rfl
    have b_6 : w4.cell? ⟨bb, 6, none⟩ = some _ := blk_cell (cs := [.int .i64 b.kind, .string b.key, .int .i64 b.old.kind, .float .f64 b.old.num, .string b.old.text, .int .i64 b.val.kind, .float .f64 b.val.num, .string b.val.text]) Kbw4.out rfl
    have b_7 : w4.cell? ⟨bb, 7, none⟩ = some _ := blk_cell (cs := [.int .i64 b.kind, .string b.key, .int .i64 b.old.kind, .float .f64 b.old.num, .string b.old.text, .int .i64 b.val.kind, .float .f64 b.val.num, .string b.val.text]) Kbw4.out rfl
    have b_l : bb < w4.heap.size := (Array.getElem?_eq_some_iff.1 Kbw4.out).1
    go_wp2
    go_ret
    exact ⟨rfl, Ext.below HX.out⟩
  rcases h4 : eqT a.key b.key with _ | _
  case true =>
    have d4 : (a.key.toList == b.key.toList) = true := h4
    have HX : Hid (Ext w w) := Lib.hid (Mod.refl _ w)
    have HC := Lib.hid hC
    clear hC
    go_enter Try.func8, Try.ntmps8
    go_wp2_with fail
    obtain ⟨w1, hw1⟩ : ∃ w1, w1 = w.alloc (.cells #[.int .i64 a.kind, .string a.key, .int .i64 a.old.kind, .float .f64 a.old.num, .string a.old.text, .int .i64 a.val.kind, .float .f64 a.val.num, .string a.val.text] 27) := ⟨_, rfl⟩
    obtain ⟨ba, hba⟩ : ∃ ba, ba = w.heap.size := ⟨_, rfl⟩
    have hzz : w.heap.size = ba := hba.symm
    have hE : Ext w w1 := by rw [hw1]; exact (Mod.refl _ w).alloc _
    have hKn : w1.heap[ba]? = some (.cells #[.int .i64 a.kind, .string a.key, .int .i64 a.old.kind, .float .f64 a.old.num, .string a.old.text, .int .i64 a.val.kind, .float .f64 a.val.num, .string a.val.text] 27 (0, 0)) := by rw [hw1, ← hzz]; exact heap_alloc_new w _
    have hzn : w1.heap.size = ba + 1 := by rw [hw1, ← hzz]; simp
    rw [← hw1, ← hba]
    have HXo := HX
    replace HC := Lib.hid (HC.out.ext hE)
    replace HX := Lib.hid (HX.out.ext hE)
    have Kaw1 := Lib.hid hKn
    have hbz : w.heap.size ≤ ba := by have := HXo.out.size; omega
    clear hKn hE hw1 hba HXo hzz
    have hba := hbz
    clear hbz
    obtain ⟨w2, hw2⟩ : ∃ w2, w2 = w1.alloc (.cells #[.int .i64 b.kind, .string b.key, .int .i64 b.old.kind, .float .f64 b.old.num, .string b.old.text, .int .i64 b.val.kind, .float .f64 b.val.num, .string b.val.text] 27) := ⟨_, rfl⟩
    obtain ⟨bb, hbb⟩ : ∃ bb, bb = ba + 1 := ⟨_, rfl⟩
    have hzz : w1.heap.size = bb := hzn.trans hbb.symm
    clear hzn
    have hE : Ext w1 w2 := by rw [hw2]; exact (Mod.refl _ w1).alloc _
    have hKn : w2.heap[bb]? = some (.cells #[.int .i64 b.kind, .string b.key, .int .i64 b.old.kind, .float .f64 b.old.num, .string b.old.text, .int .i64 b.val.kind, .float .f64 b.val.num, .string b.val.text] 27 (0, 0)) := by rw [hw2, ← hzz]; exact heap_alloc_new w1 _
    have hzn : w2.heap.size = bb + 1 := by rw [hw2, ← hzz]; simp
    rw [← hw2, ← hbb]
    have HXo := HX
    have Kaw2 := Lib.hid (hE.blk Kaw1.out id)
    replace HC := Lib.hid (HC.out.ext hE)
    replace HX := Lib.hid (HX.out.ext hE)
    clear Kaw1
    have Kbw2 := Lib.hid hKn
    have hbz : w.heap.size ≤ bb := by have := HXo.out.size; omega
    clear hKn hE hw2 hbb HXo hzz
    have hbb := hbz
    clear hbz
    clear hzn
    refine (hv_cmd a w2).mono ?_
    rintro e w3 ⟨rfl, hE⟩
    have Kaw3 := Lib.hid (hE.blk Kaw2.out id)
    have Kbw3 := Lib.hid (hE.blk Kbw2.out id)
    replace HC := Lib.hid (HC.out.ext hE)
    replace HX := Lib.hid (HX.out.ext hE)
    clear Kaw2
    clear Kbw2
    rw [h2]
    clear hE
    have a_0 : w3.cell? ⟨ba, 0, none⟩ = some _ := blk_cell (cs := [.int .i64 a.kind, .string a.key, .int .i64 a.old.kind, .float .f64 a.old.num, .string a.old.text, .int .i64 a.val.kind, .float .f64 a.val.num, .string a.val.text]) Kaw3.out rfl
    have a_1 : w3.cell? ⟨ba, 1, none⟩ = some _ := blk_cell (cs := [.int .i64 a.kind, .string a.key, .int .i64 a.old.kind, .float .f64 a.old.num, .string a.old.text, .int .i64 a.val.kind, .float .f64 a.val.num, .string a.val.text]) Kaw3.out rfl
    have a_2 : w3.cell? ⟨ba, 2, none⟩ = some _ := blk_cell (cs := [.int .i64 a.kind, .string a.key, .int .i64 a.old.kind, .float .f64 a.old.num, .string a.old.text, .int .i64 a.val.kind, .float .f64 a.val.num, .string a.val.text]) Kaw3.out rfl
    have a_3 : w3.cell? ⟨ba, 3, none⟩ = some _ := blk_cell (cs := [.int .i64 a.kind, .string a.key, .int .i64 a.old.kind, .float .f64 a.old.num, .string a.old.text, .int .i64 a.val.kind, .float .f64 a.val.num, .string a.val.text]) Kaw3.out rfl
    have a_4 : w3.cell? ⟨ba, 4, none⟩ = some _ := blk_cell (cs := [.int .i64 a.kind, .string a.key, .int .i64 a.old.kind, .float .f64 a.old.num, .string a.old.text, .int .i64 a.val.kind, .float .f64 a.val.num, .string a.val.text]) Kaw3.out rfl
    have a_5 : w3.cell? ⟨ba, 5, none⟩ = some _ := blk_cell (cs := [.int .i64 a.kind, .string a.key, .int .i64 a.old.kind, .float .f64 a.old.num, .string a.old.text, .int .i64 a.val.kind, .float .f64 a.val.num, .string a.val.text]) Kaw3.out rfl
    have a_6 : w3.cell? ⟨ba, 6, none⟩ = some _ := blk_cell (cs := [.int .i64 a.kind, .string a.key, .int .i64 a.old.kind, .float .f64 a.old.num, .string a.old.text, .int .i64 a.val.kind, .float .f64 a.val.num, .string a.val.text]) Kaw3.out rfl
    have a_7 : w3.cell? ⟨ba, 7, none⟩ = some _ := blk_cell (cs := [.int .i64 a.kind, .string a.key, .int .i64 a.old.kind, .float .f64 a.old.num, .string a.old.text, .int .i64 a.val.kind, .float .f64 a.val.num, .string a.val.text]) Kaw3.out rfl
    have a_l : ba < w3.heap.size := (Array.getElem?_eq_some_iff.1 Kaw3.out).1
    have b_0 : w3.cell? ⟨bb, 0, none⟩ = some _ := blk_cell (cs := [.int .i64 b.kind, .string b.key, .int .i64 b.old.kind, .float .f64 b.old.num, .string b.old.text, .int .i64 b.val.kind, .float .f64 b.val.num, .string b.val.text]) Kbw3.out rfl
    have b_1 : w3.cell? ⟨bb, 1, none⟩ = some _ := blk_cell (cs := [.int .i64 b.kind, .string b.key, .int .i64 b.old.kind, .float .f64 b.old.num, .string b.old.text, .int .i64 b.val.kind, .float .f64 b.val.num, .string b.val.text]) Kbw3.out rfl
    have b_2 : w3.cell? ⟨bb, 2, none⟩ = some _ := blk_cell (cs := [.int .i64 b.kind, .string b.key, .int .i64 b.old.kind, .float .f64 b.old.num, .string b.old.text, .int .i64 b.val.kind, .float .f64 b.val.num, .string b.val.text]) Kbw3.out rfl
    have b_3 : w3.cell? ⟨bb, 3, none⟩ = some _ := blk_cell (cs := [.int .i64 b.kind, .string b.key, .int .i64 b.old.kind, .float .f64 b.old.num, .string b.old.text, .int .i64 b.val.kind, .float .f64 b.val.num, .string b.val.text]) Kbw3.out rfl
    have b_4 : w3.cell? ⟨bb, 4, none⟩ = some _ := blk_cell (cs := [.int .i64 b.kind, .string b.key, .int .i64 b.old.kind, .float .f64 b.old.num, .string b.old.text, .int .i64 b.val.kind, .float .f64 b.val.num, .string b.val.text]) Kbw3.out rfl
    have b_5 : w3.cell? ⟨bb, 5, none⟩ = some _ := blk_cell (cs := [.int .i64 b.kind, .string b.key, .int .i64 b.old.kind, .float .f64 b.old.num, .string b.old.text, .int .i64 b.val.kind, .float .f64 b.val.num, .string b.val.text]) Kbw3.out rfl
    have b_6 : w3.cell? ⟨bb, 6, none⟩ = some _ := blk_cell (cs := [.int .i64 b.kind, .string b.key, .int .i64 b.old.kind, .float .f64 b.old.num, .string b.old.text, .int .i64 b.val.kind, .float .f64 b.val.num, .string b.val.text]) Kbw3.out rfl
    have b_7 : w3.cell? ⟨bb, 7, none⟩ = some _ := blk_cell (cs := [.int .i64 b.kind, .string b.key, .int .i64 b.old.kind, .float .f64 b.old.num, .string b.old.text, .int .i64 b.val.kind, .float .f64 b.val.num, .string b.val.text]) Kbw3.out rfl
    have b_l : bb < w3.heap.size := (Array.getElem?_eq_some_iff.1 Kbw3.out).1
    go_wp2_with fail
    refine (hv_cmd b w3).mono ?_
    rintro e w4 ⟨rfl, hE⟩
    clear a_0 a_1 a_2 a_3 a_4 a_5 a_6 a_7 a_l b_0 b_1 b_2 b_3 b_4 b_5 b_6 b_7 b_l
    have Kaw4 := Lib.hid (hE.blk Kaw3.out id)
    have Kbw4 := Lib.hid (hE.blk Kbw3.out id)
    replace HC := Lib.hid (HC.out.ext hE)
    replace HX := Lib.hid (HX.out.ext hE)
    clear Kaw3
    clear Kbw3
    rw [h3]
    clear hE
    have a_0 : w4.cell? ⟨ba, 0, none⟩ = some _ := blk_cell (cs := [.int .i64 a.kind, .string a.key, .int .i64 a.old.kind, .float .f64 a.old.num, .string a.old.text, .int .i64 a.val.kind, .float .f64 a.val.num, .string a.val.text]) Kaw4.out rfl
    have a_1 : w4.cell? ⟨ba, 1, none⟩ = some _ := blk_cell (cs := [.int .i64 a.kind, .string a.key, .int .i64 a.old.kind, .float .f64 a.old.num, .string a.old.text, .int .i64 a.val.kind, .float .f64 a.val.num, .string a.val.text]) Kaw4.out rfl
    have a_2 : w4.cell? ⟨ba, 2, none⟩ = some _ := blk_cell (cs := [.int .i64 a.kind, .string a.key, .int .i64 a.old.kind, .float .f64 a.old.num, .string a.old.text, .int .i64 a.val.kind, .float .f64 a.val.num, .string a.val.text]) Kaw4.out rfl
    have a_3 : w4.cell? ⟨ba, 3, none⟩ = some _ := blk_cell (cs := [.int .i64 a.kind, .string a.key, .int .i64 a.old.kind, .float .f64 a.old.num, .string a.old.text, .int .i64 a.val.kind, .float .f64 a.val.num, .string a.val.text]) Kaw4.out rfl
    have a_4 : w4.cell? ⟨ba, 4, none⟩ = some _ := blk_cell (cs := [.int .i64 a.kind, .string a.key, .int .i64 a.old.kind, .float .f64 a.old.num, .string a.old.text, .int .i64 a.val.kind, .float .f64 a.val.num, .string a.val.text]) Kaw4.out rfl
    have a_5 : w4.cell? ⟨ba, 5, none⟩ = some _ := blk_cell (cs := [.int .i64 a.kind, .string a.key, .int .i64 a.old.kind, .float .f64 a.old.num, .string a.old.text, .int .i64 a.val.kind, .float .f64 a.val.num, .string a.val.text]) Kaw4.out rfl
    have a_6 : w4.cell? ⟨ba, 6, none⟩ = some _ := blk_cell (cs := [.int .i64 a.kind, .string a.key, .int .i64 a.old.kind, .float .f64 a.old.num, .string a.old.text, .int .i64 a.val.kind, .float .f64 a.val.num, .string a.val.text]) Kaw4.out rfl
    have a_7 : w4.cell? ⟨ba, 7, none⟩ = some _ := blk_cell (cs := [.int .i64 a.kind, .string a.key, .int .i64 a.old.kind, .float .f64 a.old.num, .string a.old.text, .int .i64 a.val.kind, .float .f64 a.val.num, .string a.val.text]) Kaw4.out rfl
    have a_l : ba < w4.heap.size := (Array.getElem?_eq_some_iff.1 Kaw4.out).1
    have b_0 : w4.cell? ⟨bb, 0, none⟩ = some _ := blk_cell (cs := [.int .i64 b.kind, .string b.key, .int .i64 b.old.kind, .float .f64 b.old.num, .string b.old.text, .int .i64 b.val.kind, .float .f64 b.val.num, .string b.val.text]) Kbw4.out rfl
    have b_1 : w4.cell? ⟨bb, 1, none⟩ = some _ := blk_cell (cs := [.int .i64 b.kind, .string b.key, .int .i64 b.old.kind, .float .f64 b.old.num, .string b.old.text, .int .i64 b.val.kind, .float .f64 b.val.num, .string b.val.text]) Kbw4.out rfl
    have b_2 : w4.cell? ⟨bb, 2, none⟩ = some _ := blk_cell (cs := [.int .i64 b.kind, .string b.key, .int .i64 b.old.kind, .float .f64 b.old.num, .string b.old.text, .int .i64 b.val.kind, .float .f64 b.val.num, .string b.val.text]) Kbw4.out rfl
    have b_3 : w4.cell? ⟨bb, 3, none⟩ = some _ := blk_cell (cs := [.int .i64 b.kind, .string b.key, .int .i64 b.old.kind, .float .f64 b.old.num, .string b.old.text, .int .i64 b.val.kind, .float .f64 b.val.num, .string b.val.text]) Kbw4.out rfl
    have b_4 : w4.cell? ⟨bb, 4, none⟩ = some _ := blk_cell (cs := [.int .i64 b.kind, .string b.key, .int .i64 b.old.kind, .float .f64 b.old.num, .string b.old.text, .int .i64 b.val.kind, .float .f64 b.val.num, .string b.val.text]) Kbw4.out rfl
    have b_5 : w4.cell? ⟨bb, 5, none⟩ = some _ := blk_cell (cs := [.int .i64 b.kind, .string b.key, .int .i64 b.old.kind, .float .f64 b.old.num, .string b.old.text, .int .i64 b.val.kind, .float .f64 b.val.num, .string b.val.text]) Kbw4.out rfl
    have b_6 : w4.cell? ⟨bb, 6, none⟩ = some _ := blk_cell (cs := [.int .i64 b.kind, .string b.key, .int .i64 b.old.kind, .float .f64 b.old.num, .string b.old.text, .int .i64 b.val.kind, .float .f64 b.val.num, .string b.val.text]) Kbw4.out rfl
    have b_7 : w4.cell? ⟨bb, 7, none⟩ = some _ := blk_cell (cs := [.int .i64 b.kind, .string b.key, .int .i64 b.old.kind, .float .f64 b.old.num, .string b.old.text, .int .i64 b.val.kind, .float .f64 b.val.num, .string b.val.text]) Kbw4.out rfl
    have b_l : bb < w4.heap.size := (Array.getElem?_eq_some_iff.1 Kbw4.out).1
    go_wp2
    go_ret
    exact ⟨rfl, Ext.below HX.out⟩
  have d4 : (a.key.toList == b.key.toList) = false := h4
  have HX : Hid (Ext w w) := Lib.hid (Mod.refl _ w)
  have HC := Lib.hid hC
  clear hC
  go_enter Try.func8, Try.ntmps8
  go_wp2_with fail
  obtain ⟨w1, hw1⟩ : ∃ w1, w1 = w.alloc (.cells #[.int .i64 a.kind, .string a.key, .int .i64 a.old.kind, .float .f64 a.old.num, .string a.old.text, .int .i64 a.val.kind, .float .f64 a.val.num, .string a.val.text] 27) := ⟨_, rfl⟩
  obtain ⟨ba, hba⟩ : ∃ ba, ba = w.heap.size := ⟨_, rfl⟩
  have hzz : w.heap.size = ba := hba.symm
  have hE : Ext w w1 := by rw [hw1]; exact (Mod.refl _ w).alloc _
  have hKn : w1.heap[ba]? = some (.cells #[.int .i64 a.kind, .string a.key, .int .i64 a.old.kind, .float .f64 a.old.num, .string a.old.text, .int .i64 a.val.kind, .float .f64 a.val.num, .string a.val.text] 27 (0, 0)) := by rw [hw1, ← hzz]; exact heap_alloc_new w _
  have hzn : w1.heap.size = ba + 1 := by rw [hw1, ← hzz]; simp
  rw [← hw1, ← hba]
  have HXo := HX
  replace HC := Lib.hid (HC.out.ext hE)
  replace HX := Lib.hid (HX.out.ext hE)
  have Kaw1 := Lib.hid hKn
  have hbz : w.heap.size ≤ ba := by have := HXo.out.size; omega
  clear hKn hE hw1 hba HXo hzz
  have hba := hbz
  clear hbz
  obtain ⟨w2, hw2⟩ : ∃ w2, w2 = w1.alloc (.cells #[.int .i64 b.kind, .string b.key, .int .i64 b.old.kind, .float .f64 b.old.num, .string b.old.text, .int .i64 b.val.kind, .float .f64 b.val.num, .string b.val.text] 27) := ⟨_, rfl⟩
  obtain ⟨bb, hbb⟩ : ∃ bb, bb = ba + 1 := ⟨_, rfl⟩
  have hzz : w1.heap.size = bb := hzn.trans hbb.symm
  clear hzn
  have hE : Ext w1 w2 := by rw [hw2]; exact (Mod.refl _ w1).alloc _
  have hKn : w2.heap[bb]? = some (.cells #[.int .i64 b.kind, .string b.key, .int .i64 b.old.kind, .float .f64 b.old.num, .string b.old.text, .int .i64 b.val.kind, .float .f64 b.val.num, .string b.val.text] 27 (0, 0)) := by rw [hw2, ← hzz]; exact heap_alloc_new w1 _
  have hzn : w2.heap.size = bb + 1 := by rw [hw2, ← hzz]; simp
  rw [← hw2, ← hbb]
  have HXo := HX
  have Kaw2 := Lib.hid (hE.blk Kaw1.out id)
  replace HC := Lib.hid (HC.out.ext hE)
  replace HX := Lib.hid (HX.out.ext hE)
  clear Kaw1
  have Kbw2 := Lib.hid hKn
  have hbz : w.heap.size ≤ bb := by have := HXo.out.size; omega
  clear hKn hE hw2 hbb HXo hzz
  have hbb := hbz
  clear hbz
  clear hzn
  refine (hv_cmd a w2).mono ?_
  rintro e w3 ⟨rfl, hE⟩
  have Kaw3 := Lib.hid (hE.blk Kaw2.out id)
  have Kbw3 := Lib.hid (hE.blk Kbw2.out id)
  replace HC := Lib.hid (HC.out.ext hE)
  replace HX := Lib.hid (HX.out.ext hE)
  clear Kaw2
  clear Kbw2
  rw [h2]
  clear hE
  have a_0 : w3.cell? ⟨ba, 0, none⟩ = some _ := blk_cell (cs := [.int .i64 a.kind, .string a.key, .int .i64 a.old.kind, .float .f64 a.old.num, .string a.old.text, .int .i64 a.val.kind, .float .f64 a.val.num, .string a.val.text]) Kaw3.out rfl
  have a_1 : w3.cell? ⟨ba, 1, none⟩ = some _ := blk_cell (cs := [.int .i64 a.kind, .string a.key, .int .i64 a.old.kind, .float .f64 a.old.num, .string a.old.text, .int .i64 a.val.kind, .float .f64 a.val.num, .string a.val.text]) Kaw3.out rfl
  have a_2 : w3.cell? ⟨ba, 2, none⟩ = some _ := blk_cell (cs := [.int .i64 a.kind, .string a.key, .int .i64 a.old.kind, .float .f64 a.old.num, .string a.old.text, .int .i64 a.val.kind, .float .f64 a.val.num, .string a.val.text]) Kaw3.out rfl
  have a_3 : w3.cell? ⟨ba, 3, none⟩ = some _ := blk_cell (cs := [.int .i64 a.kind, .string a.key, .int .i64 a.old.kind, .float .f64 a.old.num, .string a.old.text, .int .i64 a.val.kind, .float .f64 a.val.num, .string a.val.text]) Kaw3.out rfl
  have a_4 : w3.cell? ⟨ba, 4, none⟩ = some _ := blk_cell (cs := [.int .i64 a.kind, .string a.key, .int .i64 a.old.kind, .float .f64 a.old.num, .string a.old.text, .int .i64 a.val.kind, .float .f64 a.val.num, .string a.val.text]) Kaw3.out rfl
  have a_5 : w3.cell? ⟨ba, 5, none⟩ = some _ := blk_cell (cs := [.int .i64 a.kind, .string a.key, .int .i64 a.old.kind, .float .f64 a.old.num, .string a.old.text, .int .i64 a.val.kind, .float .f64 a.val.num, .string a.val.text]) Kaw3.out rfl
  have a_6 : w3.cell? ⟨ba, 6, none⟩ = some _ := blk_cell (cs := [.int .i64 a.kind, .string a.key, .int .i64 a.old.kind, .float .f64 a.old.num, .string a.old.text, .int .i64 a.val.kind, .float .f64 a.val.num, .string a.val.text]) Kaw3.out rfl
  have a_7 : w3.cell? ⟨ba, 7, none⟩ = some _ := blk_cell (cs := [.int .i64 a.kind, .string a.key, .int .i64 a.old.kind, .float .f64 a.old.num, .string a.old.text, .int .i64 a.val.kind, .float .f64 a.val.num, .string a.val.text]) Kaw3.out rfl
  have a_l : ba < w3.heap.size := (Array.getElem?_eq_some_iff.1 Kaw3.out).1
  have b_0 : w3.cell? ⟨bb, 0, none⟩ = some _ := blk_cell (cs := [.int .i64 b.kind, .string b.key, .int .i64 b.old.kind, .float .f64 b.old.num, .string b.old.text, .int .i64 b.val.kind, .float .f64 b.val.num, .string b.val.text]) Kbw3.out rfl
  have b_1 : w3.cell? ⟨bb, 1, none⟩ = some _ := blk_cell (cs := [.int .i64 b.kind, .string b.key, .int .i64 b.old.kind, .float .f64 b.old.num, .string b.old.text, .int .i64 b.val.kind, .float .f64 b.val.num, .string b.val.text]) Kbw3.out rfl
  have b_2 : w3.cell? ⟨bb, 2, none⟩ = some _ := blk_cell (cs := [.int .i64 b.kind, .string b.key, .int .i64 b.old.kind, .float .f64 b.old.num, .string b.old.text, .int .i64 b.val.kind, .float .f64 b.val.num, .string b.val.text]) Kbw3.out rfl
  have b_3 : w3.cell? ⟨bb, 3, none⟩ = some _ := blk_cell (cs := [.int .i64 b.kind, .string b.key, .int .i64 b.old.kind, .float .f64 b.old.num, .string b.old.text, .int .i64 b.val.kind, .float .f64 b.val.num, .string b.val.text]) Kbw3.out rfl
  have b_4 : w3.cell? ⟨bb, 4, none⟩ = some _ := blk_cell (cs := [.int .i64 b.kind, .string b.key, .int .i64 b.old.kind, .float .f64 b.old.num, .string b.old.text, .int .i64 b.val.kind, .float .f64 b.val.num, .string b.val.text]) Kbw3.out rfl
  have b_5 : w3.cell? ⟨bb, 5, none⟩ = some _ := blk_cell (cs := [.int .i64 b.kind, .string b.key, .int .i64 b.old.kind, .float .f64 b.old.num, .string b.old.text, .int .i64 b.val.kind, .float .f64 b.val.num, .string b.val.text]) Kbw3.out rfl
  have b_6 : w3.cell? ⟨bb, 6, none⟩ = some _ := blk_cell (cs := [.int .i64 b.kind, .string b.key, .int .i64 b.old.kind, .float .f64 b.old.num, .string b.old.text, .int .i64 b.val.kind, .float .f64 b.val.num, .string b.val.text]) Kbw3.out rfl
  have b_7 : w3.cell? ⟨bb, 7, none⟩ = some _ := blk_cell (cs := [.int .i64 b.kind, .string b.key, .int .i64 b.old.kind, .float .f64 b.old.num, .string b.old.text, .int .i64 b.val.kind, .float .f64 b.val.num, .string b.val.text]) Kbw3.out rfl
  have b_l : bb < w3.heap.size := (Array.getElem?_eq_some_iff.1 Kbw3.out).1
  go_wp2_with fail
  refine (hv_cmd b w3).mono ?_
  rintro e w4 ⟨rfl, hE⟩
  clear a_0 a_1 a_2 a_3 a_4 a_5 a_6 a_7 a_l b_0 b_1 b_2 b_3 b_4 b_5 b_6 b_7 b_l
  have Kaw4 := Lib.hid (hE.blk Kaw3.out id)
  have Kbw4 := Lib.hid (hE.blk Kbw3.out id)
  replace HC := Lib.hid (HC.out.ext hE)
  replace HX := Lib.hid (HX.out.ext hE)
  clear Kaw3
  clear Kbw3
  rw [h3]
  clear hE
  have a_0 : w4.cell? ⟨ba, 0, none⟩ = some _ := blk_cell (cs := [.int .i64 a.kind, .string a.key, .int .i64 a.old.kind, .float .f64 a.old.num, .string a.old.text, .int .i64 a.val.kind, .float .f64 a.val.num, .string a.val.text]) Kaw4.out rfl
  have a_1 : w4.cell? ⟨ba, 1, none⟩ = some _ := blk_cell (cs := [.int .i64 a.kind, .string a.key, .int .i64 a.old.kind, .float .f64 a.old.num, .string a.old.text, .int .i64 a.val.kind, .float .f64 a.val.num, .string a.val.text]) Kaw4.out rfl
  have a_2 : w4.cell? ⟨ba, 2, none⟩ = some _ := blk_cell (cs := [.int .i64 a.kind, .string a.key, .int .i64 a.old.kind, .float .f64 a.old.num, .string a.old.text, .int .i64 a.val.kind, .float .f64 a.val.num, .string a.val.text]) Kaw4.out rfl
  have a_3 : w4.cell? ⟨ba, 3, none⟩ = some _ := blk_cell (cs := [.int .i64 a.kind, .string a.key, .int .i64 a.old.kind, .float .f64 a.old.num, .string a.old.text, .int .i64 a.val.kind, .float .f64 a.val.num, .string a.val.text]) Kaw4.out rfl
  have a_4 : w4.cell? ⟨ba, 4, none⟩ = some _ := blk_cell (cs := [.int .i64 a.kind, .string a.key, .int .i64 a.old.kind, .float .f64 a.old.num, .string a.old.text, .int .i64 a.val.kind, .float .f64 a.val.num, .string a.val.text]) Kaw4.out rfl
  have a_5 : w4.cell? ⟨ba, 5, none⟩ = some _ := blk_cell (cs := [.int .i64 a.kind, .string a.key, .int .i64 a.old.kind, .float .f64 a.old.num, .string a.old.text, .int .i64 a.val.kind, .float .f64 a.val.num, .string a.val.text]) Kaw4.out rfl
  have a_6 : w4.cell? ⟨ba, 6, none⟩ = some _ := blk_cell (cs := [.int .i64 a.kind, .string a.key, .int .i64 a.old.kind, .float .f64 a.old.num, .string a.old.text, .int .i64 a.val.kind, .float .f64 a.val.num, .string a.val.text]) Kaw4.out rfl
  have a_7 : w4.cell? ⟨ba, 7, none⟩ = some _ := blk_cell (cs := [.int .i64 a.kind, .string a.key, .int .i64 a.old.kind, .float .f64 a.old.num, .string a.old.text, .int .i64 a.val.kind, .float .f64 a.val.num, .string a.val.text]) Kaw4.out rfl
  have a_l : ba < w4.heap.size := (Array.getElem?_eq_some_iff.1 Kaw4.out).1
  have b_0 : w4.cell? ⟨bb, 0, none⟩ = some _ := blk_cell (cs := [.int .i64 b.kind, .string b.key, .int .i64 b.old.kind, .float .f64 b.old.num, .string b.old.text, .int .i64 b.val.kind, .float .f64 b.val.num, .string b.val.text]) Kbw4.out rfl
  have b_1 : w4.cell? ⟨bb, 1, none⟩ = some _ := blk_cell (cs := [.int .i64 b.kind, .string b.key, .int .i64 b.old.kind, .float .f64 b.old.num, .string b.old.text, .int .i64 b.val.kind, .float .f64 b.val.num, .string b.val.text]) Kbw4.out rfl
  have b_2 : w4.cell? ⟨bb, 2, none⟩ = some _ := blk_cell (cs := [.int .i64 b.kind, .string b.key, .int .i64 b.old.kind, .float .f64 b.old.num, .string b.old.text, .int .i64 b.val.kind, .float .f64 b.val.num, .string b.val.text]) Kbw4.out rfl
  have b_3 : w4.cell? ⟨bb, 3, none⟩ = some _ := blk_cell (cs := [.int .i64 b.kind, .string b.key, .int .i64 b.old.kind, .float .f64 b.old.num, .string b.old.text, .int .i64 b.val.kind, .float .f64 b.val.num, .string b.val.text]) Kbw4.out rfl
  have b_4 : w4.cell? ⟨bb, 4, none⟩ = some _ := blk_cell (cs := [.int .i64 b.kind, .string b.key, .int .i64 b.old.kind, .float .f64 b.old.num, .string b.old.text, .int .i64 b.val.kind, .float .f64 b.val.num, .string b.val.text]) Kbw4.out rfl
  have b_5 : w4.cell? ⟨bb, 5, none⟩ = some _ := blk_cell (cs := [.int .i64 b.kind, .string b.key, .int .i64 b.old.kind, .float .f64 b.old.num, .string b.old.text, .int .i64 b.val.kind, .float .f64 b.val.num, .string b.val.text]) Kbw4.out rfl
  have b_6 : w4.cell? ⟨bb, 6, none⟩ = some _ := blk_cell (cs := [.int .i64 b.kind, .string b.key, .int .i64 b.old.kind, .float .f64 b.old.num, .string b.old.text, .int .i64 b.val.kind, .float .f64 b.val.num, .string b.val.text]) Kbw4.out rfl
  have b_7 : w4.cell? ⟨bb, 7, none⟩ = some _ := blk_cell (cs := [.int .i64 b.kind, .string b.key, .int .i64 b.old.kind, .float .f64 b.old.num, .string b.old.text, .int .i64 b.val.kind, .float .f64 b.val.num, .string b.val.text]) Kbw4.out rfl
  have b_l : bb < w4.heap.size := (Array.getElem?_eq_some_iff.1 Kbw4.out).1
  go_wp2_with fail
  refine (l_grown w4 T _ l HC.out (by omega)).mono ?_
  rintro e w5 ⟨v7, p, rfl, hN, hp, hE⟩
  clear a_0 a_1 a_2 a_3 a_4 a_5 a_6 a_7 a_l b_0 b_1 b_2 b_3 b_4 b_5 b_6 b_7 b_l
  have Kaw5 := Lib.hid (hE.blk Kaw4.out id)
  have Kbw5 := Lib.hid (hE.blk Kbw4.out id)
  replace HC := Lib.hid (HC.out.ext hE)
  replace HX := Lib.hid (HX.out.ext hE)
  clear Kaw4
  clear Kbw4
  obtain ⟨A7, c7, rfl⟩ := own_form hN.1
  have HN7 := Lib.hid hN
  have Hp := Lib.hid hp
  clear hN hp
  clear hE
  have a_0 : w5.cell? ⟨ba, 0, none⟩ = some _ := blk_cell (cs := [.int .i64 a.kind, .string a.key, .int .i64 a.old.kind, .float .f64 a.old.num, .string a.old.text, .int .i64 a.val.kind, .float .f64 a.val.num, .string a.val.text]) Kaw5.out rfl
  have a_1 : w5.cell? ⟨ba, 1, none⟩ = some _ := blk_cell (cs := [.int .i64 a.kind, .string a.key, .int .i64 a.old.kind, .float .f64 a.old.num, .string a.old.text, .int .i64 a.val.kind, .float .f64 a.val.num, .string a.val.text]) Kaw5.out rfl
  have a_2 : w5.cell? ⟨ba, 2, none⟩ = some _ := blk_cell (cs := [.int .i64 a.kind, .string a.key, .int .i64 a.old.kind, .float .f64 a.old.num, .string a.old.text, .int .i64 a.val.kind, .float .f64 a.val.num, .string a.val.text]) Kaw5.out rfl
  have a_3 : w5.cell? ⟨ba, 3, none⟩ = some _ := blk_cell (cs := [.int .i64 a.kind, .string a.key, .int .i64 a.old.kind, .float .f64 a.old.num, .string a.old.text, .int .i64 a.val.kind, .float .f64 a.val.num, .string a.val.text]) Kaw5.out rfl
  have a_4 : w5.cell? ⟨ba, 4, none⟩ = some _ := blk_cell (cs := [.int .i64 a.kind, .string a.key, .int .i64 a.old.kind, .float .f64 a.old.num, .string a.old.text, .int .i64 a.val.kind, .float .f64 a.val.num, .string a.val.text]) Kaw5.out rfl
  have a_5 : w5.cell? ⟨ba, 5, none⟩ = some _ := blk_cell (cs := [.int .i64 a.kind, .string a.key, .int .i64 a.old.kind, .float .f64 a.old.num, .string a.old.text, .int .i64 a.val.kind, .float .f64 a.val.num, .string a.val.text]) Kaw5.out rfl
  have a_6 : w5.cell? ⟨ba, 6, none⟩ = some _ := blk_cell (cs := [.int .i64 a.kind, .string a.key, .int .i64 a.old.kind, .float .f64 a.old.num, .string a.old.text, .int .i64 a.val.kind, .float .f64 a.val.num, .string a.val.text]) Kaw5.out rfl
  have a_7 : w5.cell? ⟨ba, 7, none⟩ = some _ := blk_cell (cs := [.int .i64 a.kind, .string a.key, .int .i64 a.old.kind, .float .f64 a.old.num, .string a.old.text, .int .i64 a.val.kind, .float .f64 a.val.num, .string a.val.text]) Kaw5.out rfl
  have a_l : ba < w5.heap.size := (Array.getElem?_eq_some_iff.1 Kaw5.out).1
  have b_0 : w5.cell? ⟨bb, 0, none⟩ = some _ := blk_cell (cs := [.int .i64 b.kind, .string b.key, .int .i64 b.old.kind, .float .f64 b.old.num, .string b.old.text, .int .i64 b.val.kind, .float .f64 b.val.num, .string b.val.text]) Kbw5.out rfl
  have b_1 : w5.cell? ⟨bb, 1, none⟩ = some _ := blk_cell (cs := [.int .i64 b.kind, .string b.key, .int .i64 b.old.kind, .float .f64 b.old.num, .string b.old.text, .int .i64 b.val.kind, .float .f64 b.val.num, .string b.val.text]) Kbw5.out rfl
  have b_2 : w5.cell? ⟨bb, 2, none⟩ = some _ := blk_cell (cs := [.int .i64 b.kind, .string b.key, .int .i64 b.old.kind, .float .f64 b.old.num, .string b.old.text, .int .i64 b.val.kind, .float .f64 b.val.num, .string b.val.text]) Kbw5.out rfl
  have b_3 : w5.cell? ⟨bb, 3, none⟩ = some _ := blk_cell (cs := [.int .i64 b.kind, .string b.key, .int .i64 b.old.kind, .float .f64 b.old.num, .string b.old.text, .int .i64 b.val.kind, .float .f64 b.val.num, .string b.val.text]) Kbw5.out rfl
  have b_4 : w5.cell? ⟨bb, 4, none⟩ = some _ := blk_cell (cs := [.int .i64 b.kind, .string b.key, .int .i64 b.old.kind, .float .f64 b.old.num, .string b.old.text, .int .i64 b.val.kind, .float .f64 b.val.num, .string b.val.text]) Kbw5.out rfl
  have b_5 : w5.cell? ⟨bb, 5, none⟩ = some _ := blk_cell (cs := [.int .i64 b.kind, .string b.key, .int .i64 b.old.kind, .float .f64 b.old.num, .string b.old.text, .int .i64 b.val.kind, .float .f64 b.val.num, .string b.val.text]) Kbw5.out rfl
  have b_6 : w5.cell? ⟨bb, 6, none⟩ = some _ := blk_cell (cs := [.int .i64 b.kind, .string b.key, .int .i64 b.old.kind, .float .f64 b.old.num, .string b.old.text, .int .i64 b.val.kind, .float .f64 b.val.num, .string b.val.text]) Kbw5.out rfl
  have b_7 : w5.cell? ⟨bb, 7, none⟩ = some _ := blk_cell (cs := [.int .i64 b.kind, .string b.key, .int .i64 b.old.kind, .float .f64 b.old.num, .string b.old.text, .int .i64 b.val.kind, .float .f64 b.val.num, .string b.val.text]) Kbw5.out rfl
  have b_l : bb < w5.heap.size := (Array.getElem?_eq_some_iff.1 Kbw5.out).1
  by_cases h30 : 30 < p.length
  · have d30 : decide ((p.length : Int) > 30) = true := by simp; omega
    go_wp2_with fail
    refine (l_wakes w5).mono ?_
    rintro e w6 ⟨rfl, hE⟩
    clear a_0 a_1 a_2 a_3 a_4 a_5 a_6 a_7 a_l b_0 b_1 b_2 b_3 b_4 b_5 b_6 b_7 b_l
    have Kaw6 := Lib.hid (hE.blk Kaw5.out id)
    have Kbw6 := Lib.hid (hE.blk Kbw5.out id)
    replace HC := Lib.hid (HC.out.ext hE)
    replace HN7 := Lib.hid (newP_mod HN7.out hE (fun _ _ => id))
    replace HX := Lib.hid (HX.out.ext hE)
    clear Kaw5
    clear Kbw5
    clear hE
    have a_0 : w6.cell? ⟨ba, 0, none⟩ = some _ := blk_cell (cs := [.int .i64 a.kind, .string a.key, .int .i64 a.old.kind, .float .f64 a.old.num, .string a.old.text, .int .i64 a.val.kind, .float .f64 a.val.num, .string a.val.text]) Kaw6.out rfl
    have a_1 : w6.cell? ⟨ba, 1, none⟩ = some _ := blk_cell (cs := [.int .i64 a.kind, .string a.key, .int .i64 a.old.kind, .float .f64 a.old.num, .string a.old.text, .int .i64 a.val.kind, .float .f64 a.val.num, .string a.val.text]) Kaw6.out rfl
    have a_2 : w6.cell? ⟨ba, 2, none⟩ = some _ := blk_cell (cs := [.int .i64 a.kind, .string a.key, .int .i64 a.old.kind, .float .f64 a.old.num, .string a.old.text, .int .i64 a.val.kind, .float .f64 a.val.num, .string a.val.text]) Kaw6.out rfl
    have a_3 : w6.cell? ⟨ba, 3, none⟩ = some _ := blk_cell (cs := [.int .i64 a.kind, .string a.key, .int .i64 a.old.kind, .float .f64 a.old.num, .string a.old.text, .int .i64 a.val.kind, .float .f64 a.val.num, .string a.val.text]) Kaw6.out rfl
    have a_4 : w6.cell? ⟨ba, 4, none⟩ = some _ := blk_cell (cs := [.int .i64 a.kind, .string a.key, .int .i64 a.old.kind, .float .f64 a.old.num, .string a.old.text, .int .i64 a.val.kind, .float .f64 a.val.num, .string a.val.text]) Kaw6.out rfl
    have a_5 : w6.cell? ⟨ba, 5, none⟩ = some _ := blk_cell (cs := [.int .i64 a.kind, .string a.key, .int .i64 a.old.kind, .float .f64 a.old.num, .string a.old.text, .int .i64 a.val.kind, .float .f64 a.val.num, .string a.val.text]) Kaw6.out rfl
    have a_6 : w6.cell? ⟨ba, 6, none⟩ = some _ := blk_cell (cs := [.int .i64 a.kind, .string a.key, .int .i64 a.old.kind, .float .f64 a.old.num, .string a.old.text, .int .i64 a.val.kind, .float .f64 a.val.num, .string a.val.text]) Kaw6.out rfl
    have a_7 : w6.cell? ⟨ba, 7, none⟩ = some _ := blk_cell (cs := [.int .i64 a.kind, .string a.key, .int .i64 a.old.kind, .float .f64 a.old.num, .string a.old.text, .int .i64 a.val.kind, .float .f64 a.val.num, .string a.val.text]) Kaw6.out rfl
    have a_l : ba < w6.heap.size := (Array.getElem?_eq_some_iff.1 Kaw6.out).1
    have b_0 : w6.cell? ⟨bb, 0, none⟩ = some _ := blk_cell (cs := [.int .i64 b.kind, .string b.key, .int .i64 b.old.kind, .float .f64 b.old.num, .string b.old.text, .int .i64 b.val.kind, .float .f64 b.val.num, .string b.val.text]) Kbw6.out rfl
    have b_1 : w6.cell? ⟨bb, 1, none⟩ = some _ := blk_cell (cs := [.int .i64 b.kind, .string b.key, .int .i64 b.old.kind, .float .f64 b.old.num, .string b.old.text, .int .i64 b.val.kind, .float .f64 b.val.num, .string b.val.text]) Kbw6.out rfl
    have b_2 : w6.cell? ⟨bb, 2, none⟩ = some _ := blk_cell (cs := [.int .i64 b.kind, .string b.key, .int .i64 b.old.kind, .float .f64 b.old.num, .string b.old.text, .int .i64 b.val.kind, .float .f64 b.val.num, .string b.val.text]) Kbw6.out rfl
    have b_3 : w6.cell? ⟨bb, 3, none⟩ = some _ := blk_cell (cs := [.int .i64 b.kind, .string b.key, .int .i64 b.old.kind, .float .f64 b.old.num, .string b.old.text, .int .i64 b.val.kind, .float .f64 b.val.num, .string b.val.text]) Kbw6.out rfl
    have b_4 : w6.cell? ⟨bb, 4, none⟩ = some _ := blk_cell (cs := [.int .i64 b.kind, .string b.key, .int .i64 b.old.kind, .float .f64 b.old.num, .string b.old.text, .int .i64 b.val.kind, .float .f64 b.val.num, .string b.val.text]) Kbw6.out rfl
    have b_5 : w6.cell? ⟨bb, 5, none⟩ = some _ := blk_cell (cs := [.int .i64 b.kind, .string b.key, .int .i64 b.old.kind, .float .f64 b.old.num, .string b.old.text, .int .i64 b.val.kind, .float .f64 b.val.num, .string b.val.text]) Kbw6.out rfl
    have b_6 : w6.cell? ⟨bb, 6, none⟩ = some _ := blk_cell (cs := [.int .i64 b.kind, .string b.key, .int .i64 b.old.kind, .float .f64 b.old.num, .string b.old.text, .int .i64 b.val.kind, .float .f64 b.val.num, .string b.val.text]) Kbw6.out rfl
    have b_7 : w6.cell? ⟨bb, 7, none⟩ = some _ := blk_cell (cs := [.int .i64 b.kind, .string b.key, .int .i64 b.old.kind, .float .f64 b.old.num, .string b.old.text, .int .i64 b.val.kind, .float .f64 b.val.num, .string b.val.text]) Kbw6.out rfl
    have b_l : bb < w6.heap.size := (Array.getElem?_eq_some_iff.1 Kbw6.out).1
    go_wp2
    go_ret
    exact ⟨rfl, Ext.below HX.out⟩
  have d30 : decide ((p.length : Int) > 30) = false := by simp; omega
  go_wp2_with fail
  have hso := HX.out.size
  rcases hr : doP p a with ⟨X1, r⟩
  refine (kv_Do_at w5 _ _ p a HN7.out.prs (by have := right_len Hp.out; omega) ha.2.2.2 hr).mono ?_
  rintro e w6 ⟨v1, rfl, hN, hE⟩
  clear a_0 a_1 a_2 a_3 a_4 a_5 a_6 a_7 a_l b_0 b_1 b_2 b_3 b_4 b_5 b_6 b_7 b_l
  have Kaw6 := Lib.hid (hE.blk Kaw5.out id)
  have Kbw6 := Lib.hid (hE.blk Kbw5.out id)
  replace HC := Lib.hid (HC.out.ext hE)
  replace HN7 := Lib.hid (newP_mod HN7.out hE (fun _ _ => id))
  replace HX := Lib.hid (HX.out.ext hE)
  clear Kaw5
  clear Kbw5
  obtain ⟨Av1, cv1, rfl⟩ := own_form hN.1
  have HNv1 := Lib.hid (newP_up hN hso)
  clear hN hso
  have HEr := Lib.hid hr
  clear hr
  clear hE
  have a_0 : w6.cell? ⟨ba, 0, none⟩ = some _ := blk_cell (cs := [.int .i64 a.kind, .string a.key, .int .i64 a.old.kind, .float .f64 a.old.num, .string a.old.text, .int .i64 a.val.kind, .float .f64 a.val.num, .string a.val.text]) Kaw6.out rfl
  have a_1 : w6.cell? ⟨ba, 1, none⟩ = some _ := blk_cell (cs := [.int .i64 a.kind, .string a.key, .int .i64 a.old.kind, .float .f64 a.old.num, .string a.old.text, .int .i64 a.val.kind, .float .f64 a.val.num, .string a.val.text]) Kaw6.out rfl
  have a_2 : w6.cell? ⟨ba, 2, none⟩ = some _ := blk_cell (cs := [.int .i64 a.kind, .string a.key, .int .i64 a.old.kind, .float .f64 a.old.num, .string a.old.text, .int .i64 a.val.kind, .float .f64 a.val.num, .string a.val.text]) Kaw6.out rfl
  have a_3 : w6.cell? ⟨ba, 3, none⟩ = some _ := blk_cell (cs := [.int .i64 a.kind, .string a.key, .int .i64 a.old.kind, .float .f64 a.old.num, .string a.old.text, .int .i64 a.val.kind, .float .f64 a.val.num, .string a.val.text]) Kaw6.out rfl
  have a_4 : w6.cell? ⟨ba, 4, none⟩ = some _ := blk_cell (cs := [.int .i64 a.kind, .string a.key, .int .i64 a.old.kind, .float .f64 a.old.num, .string a.old.text, .int .i64 a.val.kind, .float .f64 a.val.num, .string a.val.text]) Kaw6.out rfl
  have a_5 : w6.cell? ⟨ba, 5, none⟩ = some _ := blk_cell (cs := [.int .i64 a.kind, .string a.key, .int .i64 a.old.kind, .float .f64 a.old.num, .string a.old.text, .int .i64 a.val.kind, .float .f64 a.val.num, .string a.val.text]) Kaw6.out rfl
  have a_6 : w6.cell? ⟨ba, 6, none⟩ = some _ := blk_cell (cs := [.int .i64 a.kind, .string a.key, .int .i64 a.old.kind, .float .f64 a.old.num, .string a.old.text, .int .i64 a.val.kind, .float .f64 a.val.num, .string a.val.text]) Kaw6.out rfl
  have a_7 : w6.cell? ⟨ba, 7, none⟩ = some _ := blk_cell (cs := [.int .i64 a.kind, .string a.key, .int .i64 a.old.kind, .float .f64 a.old.num, .string a.old.text, .int .i64 a.val.kind, .float .f64 a.val.num, .string a.val.text]) Kaw6.out rfl
  have a_l : ba < w6.heap.size := (Array.getElem?_eq_some_iff.1 Kaw6.out).1
  have b_0 : w6.cell? ⟨bb, 0, none⟩ = some _ := blk_cell (cs := [.int .i64 b.kind, .string b.key, .int .i64 b.old.kind, .float .f64 b.old.num, .string b.old.text, .int .i64 b.val.kind, .float .f64 b.val.num, .string b.val.text]) Kbw6.out rfl
  have b_1 : w6.cell? ⟨bb, 1, none⟩ = some _ := blk_cell (cs := [.int .i64 b.kind, .string b.key, .int .i64 b.old.kind, .float .f64 b.old.num, .string b.old.text, .int .i64 b.val.kind, .float .f64 b.val.num, .string b.val.text]) Kbw6.out rfl
  have b_2 : w6.cell? ⟨bb, 2, none⟩ = some _ := blk_cell (cs := [.int .i64 b.kind, .string b.key, .int .i64 b.old.kind, .float .f64 b.old.num, .string b.old.text, .int .i64 b.val.kind, .float .f64 b.val.num, .string b.val.text]) Kbw6.out rfl
  have b_3 : w6.cell? ⟨bb, 3, none⟩ = some _ := blk_cell (cs := [.int .i64 b.kind, .string b.key, .int .i64 b.old.kind, .float .f64 b.old.num, .string b.old.text, .int .i64 b.val.kind, .float .f64 b.val.num, .string b.val.text]) Kbw6.out rfl
  have b_4 : w6.cell? ⟨bb, 4, none⟩ = some _ := blk_cell (cs := [.int .i64 b.kind, .string b.key, .int .i64 b.old.kind, .float .f64 b.old.num, .string b.old.text, .int .i64 b.val.kind, .float .f64 b.val.num, .string b.val.text]) Kbw6.out rfl
  have b_5 : w6.cell? ⟨bb, 5, none⟩ = some _ := blk_cell (cs := [.int .i64 b.kind, .string b.key, .int .i64 b.old.kind, .float .f64 b.old.num, .string b.old.text, .int .i64 b.val.kind, .float .f64 b.val.num, .string b.val.text]) Kbw6.out rfl
  have b_6 : w6.cell? ⟨bb, 6, none⟩ = some _ := blk_cell (cs := [.int .i64 b.kind, .string b.key, .int .i64 b.old.kind, .float .f64 b.old.num, .string b.old.text, .int .i64 b.val.kind, .float .f64 b.val.num, .string b.val.text]) Kbw6.out rfl
  have b_7 : w6.cell? ⟨bb, 7, none⟩ = some _ := blk_cell (cs := [.int .i64 b.kind, .string b.key, .int .i64 b.old.kind, .float .f64 b.old.num, .string b.old.text, .int .i64 b.val.kind, .float .f64 b.val.num, .string b.val.text]) Kbw6.out rfl
  have b_l : bb < w6.heap.size := (Array.getElem?_eq_some_iff.1 Kbw6.out).1
  have RX1 : pairsB X1 = true := by have := do_right a Hp.out; rw [HEr.out] at this; exact this
  go_wp2_with fail
  obtain ⟨w7, hw7⟩ : ∃ w7, w7 = w6.alloc (.cells #[.int .i64 r.code, .int .i64 r.val.kind, .float .f64 r.val.num, .string r.val.text] 33) := ⟨_, rfl⟩
  obtain ⟨br, hbr⟩ : ∃ br, br = w6.heap.size := ⟨_, rfl⟩
  have hzz : w6.heap.size = br := hbr.symm
  have hE : Ext w6 w7 := by rw [hw7]; exact (Mod.refl _ w6).alloc _
  have hKn : w7.heap[br]? = some (.cells #[.int .i64 r.code, .int .i64 r.val.kind, .float .f64 r.val.num, .string r.val.text] 33 (0, 0)) := by rw [hw7, ← hzz]; exact heap_alloc_new w6 _
  have hzn : w7.heap.size = br + 1 := by rw [hw7, ← hzz]; simp
  rw [← hw7, ← hbr]
  clear a_0 a_1 a_2 a_3 a_4 a_5 a_6 a_7 a_l b_0 b_1 b_2 b_3 b_4 b_5 b_6 b_7 b_l
  have HXo := HX
  have Kaw7 := Lib.hid (hE.blk Kaw6.out id)
  have Kbw7 := Lib.hid (hE.blk Kbw6.out id)
  replace HC := Lib.hid (HC.out.ext hE)
  replace HN7 := Lib.hid (newP_mod HN7.out hE (fun _ _ => id))
  replace HNv1 := Lib.hid (newP_mod HNv1.out hE (fun _ _ => id))
  replace HX := Lib.hid (HX.out.ext hE)
  clear Kaw6
  clear Kbw6
  have Krw7 := Lib.hid hKn
  have hbz : w.heap.size ≤ br := by have := HXo.out.size; omega
  clear hKn hE hw7 hbr HXo hzz
  have hbr := hbz
  clear hbz
  clear hzn
  have hso := HX.out.size
  rcases hs : doP X1 b with ⟨X2, s⟩
  refine (kv_Do_at w7 _ _ X1 b HNv1.out.prs (by have := right_len RX1; omega) hb.2.2.2 hs).mono ?_
  rintro e w8 ⟨v2, rfl, hN, hE⟩
  have Kaw8 := Lib.hid (hE.blk Kaw7.out id)
  have Kbw8 := Lib.hid (hE.blk Kbw7.out id)
  have Krw8 := Lib.hid (hE.blk Krw7.out id)
  replace HC := Lib.hid (HC.out.ext hE)
  replace HN7 := Lib.hid (newP_mod HN7.out hE (fun _ _ => id))
  replace HNv1 := Lib.hid (newP_mod HNv1.out hE (fun _ _ => id))
  replace HX := Lib.hid (HX.out.ext hE)
  clear Kaw7
  clear Kbw7
  clear Krw7
  obtain ⟨Av2, cv2, rfl⟩ := own_form hN.1
  have HNv2 := Lib.hid (newP_up hN hso)
  clear hN hso
  have HEs := Lib.hid hs
  clear hs
  clear hE
  have a_0 : w8.cell? ⟨ba, 0, none⟩ = some _ := blk_cell (cs := [.int .i64 a.kind, .string a.key, .int .i64 a.old.kind, .float .f64 a.old.num, .string a.old.text, .int .i64 a.val.kind, .float .f64 a.val.num, .string a.val.text]) Kaw8.out rfl
  have a_1 : w8.cell? ⟨ba, 1, none⟩ = some _ := blk_cell (cs := [.int .i64 a.kind, .string a.key, .int .i64 a.old.kind, .float .f64 a.old.num, .string a.old.text, .int .i64 a.val.kind, .float .f64 a.val.num, .string a.val.text]) Kaw8.out rfl
  have a_2 : w8.cell? ⟨ba, 2, none⟩ = some _ := blk_cell (cs := [.int .i64 a.kind, .string a.key, .int .i64 a.old.kind, .float .f64 a.old.num, .string a.old.text, .int .i64 a.val.kind, .float .f64 a.val.num, .string a.val.text]) Kaw8.out rfl
  have a_3 : w8.cell? ⟨ba, 3, none⟩ = some _ := blk_cell (cs := [.int .i64 a.kind, .string a.key, .int .i64 a.old.kind, .float .f64 a.old.num, .string a.old.text, .int .i64 a.val.kind, .float .f64 a.val.num, .string a.val.text]) Kaw8.out rfl
  have a_4 : w8.cell? ⟨ba, 4, none⟩ = some _ := blk_cell (cs := [.int .i64 a.kind, .string a.key, .int .i64 a.old.kind, .float .f64 a.old.num, .string a.old.text, .int .i64 a.val.kind, .float .f64 a.val.num, .string a.val.text]) Kaw8.out rfl
  have a_5 : w8.cell? ⟨ba, 5, none⟩ = some _ := blk_cell (cs := [.int .i64 a.kind, .string a.key, .int .i64 a.old.kind, .float .f64 a.old.num, .string a.old.text, .int .i64 a.val.kind, .float .f64 a.val.num, .string a.val.text]) Kaw8.out rfl
  have a_6 : w8.cell? ⟨ba, 6, none⟩ = some _ := blk_cell (cs := [.int .i64 a.kind, .string a.key, .int .i64 a.old.kind, .float .f64 a.old.num, .string a.old.text, .int .i64 a.val.kind, .float .f64 a.val.num, .string a.val.text]) Kaw8.out rfl
  have a_7 : w8.cell? ⟨ba, 7, none⟩ = some _ := blk_cell (cs := [.int .i64 a.kind, .string a.key, .int .i64 a.old.kind, .float .f64 a.old.num, .string a.old.text, .int .i64 a.val.kind, .float .f64 a.val.num, .string a.val.text]) Kaw8.out rfl
  have a_l : ba < w8.heap.size := (Array.getElem?_eq_some_iff.1 Kaw8.out).1
  have b_0 : w8.cell? ⟨bb, 0, none⟩ = some _ := blk_cell (cs := [.int .i64 b.kind, .string b.key, .int .i64 b.old.kind, .float .f64 b.old.num, .string b.old.text, .int .i64 b.val.kind, .float .f64 b.val.num, .string b.val.text]) Kbw8.out rfl
  have b_1 : w8.cell? ⟨bb, 1, none⟩ = some _ := blk_cell (cs := [.int .i64 b.kind, .string b.key, .int .i64 b.old.kind, .float .f64 b.old.num, .string b.old.text, .int .i64 b.val.kind, .float .f64 b.val.num, .string b.val.text]) Kbw8.out rfl
  have b_2 : w8.cell? ⟨bb, 2, none⟩ = some _ := blk_cell (cs := [.int .i64 b.kind, .string b.key, .int .i64 b.old.kind, .float .f64 b.old.num, .string b.old.text, .int .i64 b.val.kind, .float .f64 b.val.num, .string b.val.text]) Kbw8.out rfl
  have b_3 : w8.cell? ⟨bb, 3, none⟩ = some _ := blk_cell (cs := [.int .i64 b.kind, .string b.key, .int .i64 b.old.kind, .float .f64 b.old.num, .string b.old.text, .int .i64 b.val.kind, .float .f64 b.val.num, .string b.val.text]) Kbw8.out rfl
  have b_4 : w8.cell? ⟨bb, 4, none⟩ = some _ := blk_cell (cs := [.int .i64 b.kind, .string b.key, .int .i64 b.old.kind, .float .f64 b.old.num, .string b.old.text, .int .i64 b.val.kind, .float .f64 b.val.num, .string b.val.text]) Kbw8.out rfl
  have b_5 : w8.cell? ⟨bb, 5, none⟩ = some _ := blk_cell (cs := [.int .i64 b.kind, .string b.key, .int .i64 b.old.kind, .float .f64 b.old.num, .string b.old.text, .int .i64 b.val.kind, .float .f64 b.val.num, .string b.val.text]) Kbw8.out rfl
  have b_6 : w8.cell? ⟨bb, 6, none⟩ = some _ := blk_cell (cs := [.int .i64 b.kind, .string b.key, .int .i64 b.old.kind, .float .f64 b.old.num, .string b.old.text, .int .i64 b.val.kind, .float .f64 b.val.num, .string b.val.text]) Kbw8.out rfl
  have b_7 : w8.cell? ⟨bb, 7, none⟩ = some _ := blk_cell (cs := [.int .i64 b.kind, .string b.key, .int .i64 b.old.kind, .float .f64 b.old.num, .string b.old.text, .int .i64 b.val.kind, .float .f64 b.val.num, .string b.val.text]) Kbw8.out rfl
  have b_l : bb < w8.heap.size := (Array.getElem?_eq_some_iff.1 Kbw8.out).1
  have r_0 : w8.cell? ⟨br, 0, none⟩ = some _ := blk_cell (cs := [.int .i64 r.code, .int .i64 r.val.kind, .float .f64 r.val.num, .string r.val.text]) Krw8.out rfl
  have r_1 : w8.cell? ⟨br, 1, none⟩ = some _ := blk_cell (cs := [.int .i64 r.code, .int .i64 r.val.kind, .float .f64 r.val.num, .string r.val.text]) Krw8.out rfl
  have r_2 : w8.cell? ⟨br, 2, none⟩ = some _ := blk_cell (cs := [.int .i64 r.code, .int .i64 r.val.kind, .float .f64 r.val.num, .string r.val.text]) Krw8.out rfl
  have r_3 : w8.cell? ⟨br, 3, none⟩ = some _ := blk_cell (cs := [.int .i64 r.code, .int .i64 r.val.kind, .float .f64 r.val.num, .string r.val.text]) Krw8.out rfl
  have r_l : br < w8.heap.size := (Array.getElem?_eq_some_iff.1 Krw8.out).1
  go_wp2_with fail
  obtain ⟨w9, hw9⟩ : ∃ w9, w9 = w8.alloc (.cells #[.int .i64 s.code, .int .i64 s.val.kind, .float .f64 s.val.num, .string s.val.text] 33) := ⟨_, rfl⟩
  obtain ⟨bs, hbs⟩ : ∃ bs, bs = w8.heap.size := ⟨_, rfl⟩
  have hzz : w8.heap.size = bs := hbs.symm
  have hE : Ext w8 w9 := by rw [hw9]; exact (Mod.refl _ w8).alloc _
  have hKn : w9.heap[bs]? = some (.cells #[.int .i64 s.code, .int .i64 s.val.kind, .float .f64 s.val.num, .string s.val.text] 33 (0, 0)) := by rw [hw9, ← hzz]; exact heap_alloc_new w8 _
  have hzn : w9.heap.size = bs + 1 := by rw [hw9, ← hzz]; simp
  rw [← hw9, ← hbs]
  clear a_0 a_1 a_2 a_3 a_4 a_5 a_6 a_7 a_l b_0 b_1 b_2 b_3 b_4 b_5 b_6 b_7 b_l r_0 r_1 r_2 r_3 r_l
  have HXo := HX
  have Kaw9 := Lib.hid (hE.blk Kaw8.out id)
  have Kbw9 := Lib.hid (hE.blk Kbw8.out id)
  have Krw9 := Lib.hid (hE.blk Krw8.out id)
  replace HC := Lib.hid (HC.out.ext hE)
  replace HN7 := Lib.hid (newP_mod HN7.out hE (fun _ _ => id))
  replace HNv1 := Lib.hid (newP_mod HNv1.out hE (fun _ _ => id))
  replace HNv2 := Lib.hid (newP_mod HNv2.out hE (fun _ _ => id))
  replace HX := Lib.hid (HX.out.ext hE)
  clear Kaw8
  clear Kbw8
  clear Krw8
  have Ksw9 := Lib.hid hKn
  have hbz : w.heap.size ≤ bs := by have := HXo.out.size; omega
  clear hKn hE hw9 hbs HXo hzz
  have hbs := hbz
  clear hbz
  clear hzn
  have hso := HX.out.size
  rcases ht : doP p b with ⟨Y1, t⟩
  refine (kv_Do_at w9 _ _ p b HN7.out.prs (by have := right_len Hp.out; omega) hb.2.2.2 ht).mono ?_
  rintro e w10 ⟨v3, rfl, hN, hE⟩
  have Kaw10 := Lib.hid (hE.blk Kaw9.out id)
  have Kbw10 := Lib.hid (hE.blk Kbw9.out id)
  have Krw10 := Lib.hid (hE.blk Krw9.out id)
  have Ksw10 := Lib.hid (hE.blk Ksw9.out id)
  replace HC := Lib.hid (HC.out.ext hE)
  replace HN7 := Lib.hid (newP_mod HN7.out hE (fun _ _ => id))
  replace HNv1 := Lib.hid (newP_mod HNv1.out hE (fun _ _ => id))
  replace HNv2 := Lib.hid (newP_mod HNv2.out hE (fun _ _ => id))
  replace HX := Lib.hid (HX.out.ext hE)
  clear Kaw9
  clear Kbw9
  clear Krw9
  clear Ksw9
  obtain ⟨Av3, cv3, rfl⟩ := own_form hN.1
  have HNv3 := Lib.hid (newP_up hN hso)
  clear hN hso
  have HEt := Lib.hid ht
  clear ht
  clear hE
  have a_0 : w10.cell? ⟨ba, 0, none⟩ = some _ := blk_cell (cs := [.int .i64 a.kind, .string a.key, .int .i64 a.old.kind, .float .f64 a.old.num, .string a.old.text, .int .i64 a.val.kind, .float .f64 a.val.num, .string a.val.text]) Kaw10.out rfl
  have a_1 : w10.cell? ⟨ba, 1, none⟩ = some _ := blk_cell (cs := [.int .i64 a.kind, .string a.key, .int .i64 a.old.kind, .float .f64 a.old.num, .string a.old.text, .int .i64 a.val.kind, .float .f64 a.val.num, .string a.val.text]) Kaw10.out rfl
  have a_2 : w10.cell? ⟨ba, 2, none⟩ = some _ := blk_cell (cs := [.int .i64 a.kind, .string a.key, .int .i64 a.old.kind, .float .f64 a.old.num, .string a.old.text, .int .i64 a.val.kind, .float .f64 a.val.num, .string a.val.text]) Kaw10.out rfl
  have a_3 : w10.cell? ⟨ba, 3, none⟩ = some _ := blk_cell (cs := [.int .i64 a.kind, .string a.key, .int .i64 a.old.kind, .float .f64 a.old.num, .string a.old.text, .int .i64 a.val.kind, .float .f64 a.val.num, .string a.val.text]) Kaw10.out rfl
  have a_4 : w10.cell? ⟨ba, 4, none⟩ = some _ := blk_cell (cs := [.int .i64 a.kind, .string a.key, .int .i64 a.old.kind, .float .f64 a.old.num, .string a.old.text, .int .i64 a.val.kind, .float .f64 a.val.num, .string a.val.text]) Kaw10.out rfl
  have a_5 : w10.cell? ⟨ba, 5, none⟩ = some _ := blk_cell (cs := [.int .i64 a.kind, .string a.key, .int .i64 a.old.kind, .float .f64 a.old.num, .string a.old.text, .int .i64 a.val.kind, .float .f64 a.val.num, .string a.val.text]) Kaw10.out rfl
  have a_6 : w10.cell? ⟨ba, 6, none⟩ = some _ := blk_cell (cs := [.int .i64 a.kind, .string a.key, .int .i64 a.old.kind, .float .f64 a.old.num, .string a.old.text, .int .i64 a.val.kind, .float .f64 a.val.num, .string a.val.text]) Kaw10.out rfl
  have a_7 : w10.cell? ⟨ba, 7, none⟩ = some _ := blk_cell (cs := [.int .i64 a.kind, .string a.key, .int .i64 a.old.kind, .float .f64 a.old.num, .string a.old.text, .int .i64 a.val.kind, .float .f64 a.val.num, .string a.val.text]) Kaw10.out rfl
  have a_l : ba < w10.heap.size := (Array.getElem?_eq_some_iff.1 Kaw10.out).1
  have b_0 : w10.cell? ⟨bb, 0, none⟩ = some _ := blk_cell (cs := [.int .i64 b.kind, .string b.key, .int .i64 b.old.kind, .float .f64 b.old.num, .string b.old.text, .int .i64 b.val.kind, .float .f64 b.val.num, .string b.val.text]) Kbw10.out rfl
  have b_1 : w10.cell? ⟨bb, 1, none⟩ = some _ := blk_cell (cs := [.int .i64 b.kind, .string b.key, .int .i64 b.old.kind, .float .f64 b.old.num, .string b.old.text, .int .i64 b.val.kind, .float .f64 b.val.num, .string b.val.text]) Kbw10.out rfl
  have b_2 : w10.cell? ⟨bb, 2, none⟩ = some _ := blk_cell (cs := [.int .i64 b.kind, .string b.key, .int .i64 b.old.kind, .float .f64 b.old.num, .string b.old.text, .int .i64 b.val.kind, .float .f64 b.val.num, .string b.val.text]) Kbw10.out rfl
  have b_3 : w10.cell? ⟨bb, 3, none⟩ = some _ := blk_cell (cs := [.int .i64 b.kind, .string b.key, .int .i64 b.old.kind, .float .f64 b.old.num, .string b.old.text, .int .i64 b.val.kind, .float .f64 b.val.num, .string b.val.text]) Kbw10.out rfl
  have b_4 : w10.cell? ⟨bb, 4, none⟩ = some _ := blk_cell (cs := [.int .i64 b.kind, .string b.key, .int .i64 b.old.kind, .float .f64 b.old.num, .string b.old.text, .int .i64 b.val.kind, .float .f64 b.val.num, .string b.val.text]) Kbw10.out rfl
  have b_5 : w10.cell? ⟨bb, 5, none⟩ = some _ := blk_cell (cs := [.int .i64 b.kind, .string b.key, .int .i64 b.old.kind, .float .f64 b.old.num, .string b.old.text, .int .i64 b.val.kind, .float .f64 b.val.num, .string b.val.text]) Kbw10.out rfl
  have b_6 : w10.cell? ⟨bb, 6, none⟩ = some _ := blk_cell (cs := [.int .i64 b.kind, .string b.key, .int .i64 b.old.kind, .float .f64 b.old.num, .string b.old.text, .int .i64 b.val.kind, .float .f64 b.val.num, .string b.val.text]) Kbw10.out rfl
  have b_7 : w10.cell? ⟨bb, 7, none⟩ = some _ := blk_cell (cs := [.int .i64 b.kind, .string b.key, .int .i64 b.old.kind, .float .f64 b.old.num, .string b.old.text, .int .i64 b.val.kind, .float .f64 b.val.num, .string b.val.text]) Kbw10.out rfl
  have b_l : bb < w10.heap.size := (Array.getElem?_eq_some_iff.1 Kbw10.out).1
  have r_0 : w10.cell? ⟨br, 0, none⟩ = some _ := blk_cell (cs := [.int .i64 r.code, .int .i64 r.val.kind, .float .f64 r.val.num, .string r.val.text]) Krw10.out rfl
  have r_1 : w10.cell? ⟨br, 1, none⟩ = some _ := blk_cell (cs := [.int .i64 r.code, .int .i64 r.val.kind, .float .f64 r.val.num, .string r.val.text]) Krw10.out rfl
  have r_2 : w10.cell? ⟨br, 2, none⟩ = some _ := blk_cell (cs := [.int .i64 r.code, .int .i64 r.val.kind, .float .f64 r.val.num, .string r.val.text]) Krw10.out rfl
  have r_3 : w10.cell? ⟨br, 3, none⟩ = some _ := blk_cell (cs := [.int .i64 r.code, .int .i64 r.val.kind, .float .f64 r.val.num, .string r.val.text]) Krw10.out rfl
  have r_l : br < w10.heap.size := (Array.getElem?_eq_some_iff.1 Krw10.out).1
  have s_0 : w10.cell? ⟨bs, 0, none⟩ = some _ := blk_cell (cs := [.int .i64 s.code, .int .i64 s.val.kind, .float .f64 s.val.num, .string s.val.text]) Ksw10.out rfl
  have s_1 : w10.cell? ⟨bs, 1, none⟩ = some _ := blk_cell (cs := [.int .i64 s.code, .int .i64 s.val.kind, .float .f64 s.val.num, .string s.val.text]) Ksw10.out rfl
  have s_2 : w10.cell? ⟨bs, 2, none⟩ = some _ := blk_cell (cs := [.int .i64 s.code, .int .i64 s.val.kind, .float .f64 s.val.num, .string s.val.text]) Ksw10.out rfl
  have s_3 : w10.cell? ⟨bs, 3, none⟩ = some _ := blk_cell (cs := [.int .i64 s.code, .int .i64 s.val.kind, .float .f64 s.val.num, .string s.val.text]) Ksw10.out rfl
  have s_l : bs < w10.heap.size := (Array.getElem?_eq_some_iff.1 Ksw10.out).1
  have RY1 : pairsB Y1 = true := by have := do_right b Hp.out; rw [HEt.out] at this; exact this
  go_wp2_with fail
  obtain ⟨w11, hw11⟩ : ∃ w11, w11 = w10.alloc (.cells #[.int .i64 t.code, .int .i64 t.val.kind, .float .f64 t.val.num, .string t.val.text] 33) := ⟨_, rfl⟩
  obtain ⟨bt, hbt⟩ : ∃ bt, bt = w10.heap.size := ⟨_, rfl⟩
  have hzz : w10.heap.size = bt := hbt.symm
  have hE : Ext w10 w11 := by rw [hw11]; exact (Mod.refl _ w10).alloc _
  have hKn : w11.heap[bt]? = some (.cells #[.int .i64 t.code, .int .i64 t.val.kind, .float .f64 t.val.num, .string t.val.text] 33 (0, 0)) := by rw [hw11, ← hzz]; exact heap_alloc_new w10 _
  have hzn : w11.heap.size = bt + 1 := by rw [hw11, ← hzz]; simp
  rw [← hw11, ← hbt]
  clear a_0 a_1 a_2 a_3 a_4 a_5 a_6 a_7 a_l b_0 b_1 b_2 b_3 b_4 b_5 b_6 b_7 b_l r_0 r_1 r_2 r_3 r_l s_0 s_1 s_2 s_3 s_l
  have HXo := HX
  have Kaw11 := Lib.hid (hE.blk Kaw10.out id)
  have Kbw11 := Lib.hid (hE.blk Kbw10.out id)
  have Krw11 := Lib.hid (hE.blk Krw10.out id)
  have Ksw11 := Lib.hid (hE.blk Ksw10.out id)
  replace HC := Lib.hid (HC.out.ext hE)
  replace HN7 := Lib.hid (newP_mod HN7.out hE (fun _ _ => id))
  replace HNv1 := Lib.hid (newP_mod HNv1.out hE (fun _ _ => id))
  replace HNv2 := Lib.hid (newP_mod HNv2.out hE (fun _ _ => id))
  replace HNv3 := Lib.hid (newP_mod HNv3.out hE (fun _ _ => id))
  replace HX := Lib.hid (HX.out.ext hE)
  clear Kaw10
  clear Kbw10
  clear Krw10
  clear Ksw10
  have Ktw11 := Lib.hid hKn
  have hbz : w.heap.size ≤ bt := by have := HXo.out.size; omega
  clear hKn hE hw11 hbt HXo hzz
  have hbt := hbz
  clear hbz
  clear hzn
  have hso := HX.out.size
  rcases hu : doP Y1 a with ⟨Y2, u⟩
  refine (kv_Do_at w11 _ _ Y1 a HNv3.out.prs (by have := right_len RY1; omega) ha.2.2.2 hu).mono ?_
  rintro e w12 ⟨v4, rfl, hN, hE⟩
  have Kaw12 := Lib.hid (hE.blk Kaw11.out id)
  have Kbw12 := Lib.hid (hE.blk Kbw11.out id)
  have Krw12 := Lib.hid (hE.blk Krw11.out id)
  have Ksw12 := Lib.hid (hE.blk Ksw11.out id)
  have Ktw12 := Lib.hid (hE.blk Ktw11.out id)
  replace HC := Lib.hid (HC.out.ext hE)
  replace HN7 := Lib.hid (newP_mod HN7.out hE (fun _ _ => id))
  replace HNv1 := Lib.hid (newP_mod HNv1.out hE (fun _ _ => id))
  replace HNv2 := Lib.hid (newP_mod HNv2.out hE (fun _ _ => id))
  replace HNv3 := Lib.hid (newP_mod HNv3.out hE (fun _ _ => id))
  replace HX := Lib.hid (HX.out.ext hE)
  clear Kaw11
  clear Kbw11
  clear Krw11
  clear Ksw11
  clear Ktw11
  obtain ⟨Av4, cv4, rfl⟩ := own_form hN.1
  have HNv4 := Lib.hid (newP_up hN hso)
  clear hN hso
  have HEu := Lib.hid hu
  clear hu
  clear hE
  have a_0 : w12.cell? ⟨ba, 0, none⟩ = some _ := blk_cell (cs := [.int .i64 a.kind, .string a.key, .int .i64 a.old.kind, .float .f64 a.old.num, .string a.old.text, .int .i64 a.val.kind, .float .f64 a.val.num, .string a.val.text]) Kaw12.out rfl
  have a_1 : w12.cell? ⟨ba, 1, none⟩ = some _ := blk_cell (cs := [.int .i64 a.kind, .string a.key, .int .i64 a.old.kind, .float .f64 a.old.num, .string a.old.text, .int .i64 a.val.kind, .float .f64 a.val.num, .string a.val.text]) Kaw12.out rfl
  have a_2 : w12.cell? ⟨ba, 2, none⟩ = some _ := blk_cell (cs := [.int .i64 a.kind, .string a.key, .int .i64 a.old.kind, .float .f64 a.old.num, .string a.old.text, .int .i64 a.val.kind, .float .f64 a.val.num, .string a.val.text]) Kaw12.out rfl
  have a_3 : w12.cell? ⟨ba, 3, none⟩ = some _ := blk_cell (cs := [.int .i64 a.kind, .string a.key, .int .i64 a.old.kind, .float .f64 a.old.num, .string a.old.text, .int .i64 a.val.kind, .float .f64 a.val.num, .string a.val.text]) Kaw12.out rfl
  have a_4 : w12.cell? ⟨ba, 4, none⟩ = some _ := blk_cell (cs := [.int .i64 a.kind, .string a.key, .int .i64 a.old.kind, .float .f64 a.old.num, .string a.old.text, .int .i64 a.val.kind, .float .f64 a.val.num, .string a.val.text]) Kaw12.out rfl
  have a_5 : w12.cell? ⟨ba, 5, none⟩ = some _ := blk_cell (cs := [.int .i64 a.kind, .string a.key, .int .i64 a.old.kind, .float .f64 a.old.num, .string a.old.text, .int .i64 a.val.kind, .float .f64 a.val.num, .string a.val.text]) Kaw12.out rfl
  have a_6 : w12.cell? ⟨ba, 6, none⟩ = some _ := blk_cell (cs := [.int .i64 a.kind, .string a.key, .int .i64 a.old.kind, .float .f64 a.old.num, .string a.old.text, .int .i64 a.val.kind, .float .f64 a.val.num, .string a.val.text]) Kaw12.out rfl
  have a_7 : w12.cell? ⟨ba, 7, none⟩ = some _ := blk_cell (cs := [.int .i64 a.kind, .string a.key, .int .i64 a.old.kind, .float .f64 a.old.num, .string a.old.text, .int .i64 a.val.kind, .float .f64 a.val.num, .string a.val.text]) Kaw12.out rfl
  have a_l : ba < w12.heap.size := (Array.getElem?_eq_some_iff.1 Kaw12.out).1
  have b_0 : w12.cell? ⟨bb, 0, none⟩ = some _ := blk_cell (cs := [.int .i64 b.kind, .string b.key, .int .i64 b.old.kind, .float .f64 b.old.num, .string b.old.text, .int .i64 b.val.kind, .float .f64 b.val.num, .string b.val.text]) Kbw12.out rfl
  have b_1 : w12.cell? ⟨bb, 1, none⟩ = some _ := blk_cell (cs := [.int .i64 b.kind, .string b.key, .int .i64 b.old.kind, .float .f64 b.old.num, .string b.old.text, .int .i64 b.val.kind, .float .f64 b.val.num, .string b.val.text]) Kbw12.out rfl
  have b_2 : w12.cell? ⟨bb, 2, none⟩ = some _ := blk_cell (cs := [.int .i64 b.kind, .string b.key, .int .i64 b.old.kind, .float .f64 b.old.num, .string b.old.text, .int .i64 b.val.kind, .float .f64 b.val.num, .string b.val.text]) Kbw12.out rfl
  have b_3 : w12.cell? ⟨bb, 3, none⟩ = some _ := blk_cell (cs := [.int .i64 b.kind, .string b.key, .int .i64 b.old.kind, .float .f64 b.old.num, .string b.old.text, .int .i64 b.val.kind, .float .f64 b.val.num, .string b.val.text]) Kbw12.out rfl
  have b_4 : w12.cell? ⟨bb, 4, none⟩ = some _ := blk_cell (cs := [.int .i64 b.kind, .string b.key, .int .i64 b.old.kind, .float .f64 b.old.num, .string b.old.text, .int .i64 b.val.kind, .float .f64 b.val.num, .string b.val.text]) Kbw12.out rfl
  have b_5 : w12.cell? ⟨bb, 5, none⟩ = some _ := blk_cell (cs := [.int .i64 b.kind, .string b.key, .int .i64 b.old.kind, .float .f64 b.old.num, .string b.old.text, .int .i64 b.val.kind, .float .f64 b.val.num, .string b.val.text]) Kbw12.out rfl
  have b_6 : w12.cell? ⟨bb, 6, none⟩ = some _ := blk_cell (cs := [.int .i64 b.kind, .string b.key, .int .i64 b.old.kind, .float .f64 b.old.num, .string b.old.text, .int .i64 b.val.kind, .float .f64 b.val.num, .string b.val.text]) Kbw12.out rfl
  have b_7 : w12.cell? ⟨bb, 7, none⟩ = some _ := blk_cell (cs := [.int .i64 b.kind, .string b.key, .int .i64 b.old.kind, .float .f64 b.old.num, .string b.old.text, .int .i64 b.val.kind, .float .f64 b.val.num, .string b.val.text]) Kbw12.out rfl
  have b_l : bb < w12.heap.size := (Array.getElem?_eq_some_iff.1 Kbw12.out).1
  have r_0 : w12.cell? ⟨br, 0, none⟩ = some _ := blk_cell (cs := [.int .i64 r.code, .int .i64 r.val.kind, .float .f64 r.val.num, .string r.val.text]) Krw12.out rfl
  have r_1 : w12.cell? ⟨br, 1, none⟩ = some _ := blk_cell (cs := [.int .i64 r.code, .int .i64 r.val.kind, .float .f64 r.val.num, .string r.val.text]) Krw12.out rfl
  have r_2 : w12.cell? ⟨br, 2, none⟩ = some _ := blk_cell (cs := [.int .i64 r.code, .int .i64 r.val.kind, .float .f64 r.val.num, .string r.val.text]) Krw12.out rfl
  have r_3 : w12.cell? ⟨br, 3, none⟩ = some _ := blk_cell (cs := [.int .i64 r.code, .int .i64 r.val.kind, .float .f64 r.val.num, .string r.val.text]) Krw12.out rfl
  have r_l : br < w12.heap.size := (Array.getElem?_eq_some_iff.1 Krw12.out).1
  have s_0 : w12.cell? ⟨bs, 0, none⟩ = some _ := blk_cell (cs := [.int .i64 s.code, .int .i64 s.val.kind, .float .f64 s.val.num, .string s.val.text]) Ksw12.out rfl
  have s_1 : w12.cell? ⟨bs, 1, none⟩ = some _ := blk_cell (cs := [.int .i64 s.code, .int .i64 s.val.kind, .float .f64 s.val.num, .string s.val.text]) Ksw12.out rfl
  have s_2 : w12.cell? ⟨bs, 2, none⟩ = some _ := blk_cell (cs := [.int .i64 s.code, .int .i64 s.val.kind, .float .f64 s.val.num, .string s.val.text]) Ksw12.out rfl
  have s_3 : w12.cell? ⟨bs, 3, none⟩ = some _ := blk_cell (cs := [.int .i64 s.code, .int .i64 s.val.kind, .float .f64 s.val.num, .string s.val.text]) Ksw12.out rfl
  have s_l : bs < w12.heap.size := (Array.getElem?_eq_some_iff.1 Ksw12.out).1
  have t_0 : w12.cell? ⟨bt, 0, none⟩ = some _ := blk_cell (cs := [.int .i64 t.code, .int .i64 t.val.kind, .float .f64 t.val.num, .string t.val.text]) Ktw12.out rfl
  have t_1 : w12.cell? ⟨bt, 1, none⟩ = some _ := blk_cell (cs := [.int .i64 t.code, .int .i64 t.val.kind, .float .f64 t.val.num, .string t.val.text]) Ktw12.out rfl
  have t_2 : w12.cell? ⟨bt, 2, none⟩ = some _ := blk_cell (cs := [.int .i64 t.code, .int .i64 t.val.kind, .float .f64 t.val.num, .string t.val.text]) Ktw12.out rfl
  have t_3 : w12.cell? ⟨bt, 3, none⟩ = some _ := blk_cell (cs := [.int .i64 t.code, .int .i64 t.val.kind, .float .f64 t.val.num, .string t.val.text]) Ktw12.out rfl
  have t_l : bt < w12.heap.size := (Array.getElem?_eq_some_iff.1 Ktw12.out).1
  have hall : X2 = Y2 ∧ r = u ∧ s = t := by
    have := do_parts (a := a) (b := b) Hp.out (by omega) h4
    rw [HEr.out, HEt.out] at this
    simp only at this
    rw [HEs.out, HEu.out] at this
    exact this
  have Hall := Lib.hid hall
  clear hall
  go_wp2_with fail
  obtain ⟨w13, hw13⟩ : ∃ w13, w13 = w12.alloc (.cells #[.int .i64 u.code, .int .i64 u.val.kind, .float .f64 u.val.num, .string u.val.text] 33) := ⟨_, rfl⟩
  obtain ⟨bu, hbu⟩ : ∃ bu, bu = w12.heap.size := ⟨_, rfl⟩
  have hzz : w12.heap.size = bu := hbu.symm
  have hE : Ext w12 w13 := by rw [hw13]; exact (Mod.refl _ w12).alloc _
  have hKn : w13.heap[bu]? = some (.cells #[.int .i64 u.code, .int .i64 u.val.kind, .float .f64 u.val.num, .string u.val.text] 33 (0, 0)) := by rw [hw13, ← hzz]; exact heap_alloc_new w12 _
  have hzn : w13.heap.size = bu + 1 := by rw [hw13, ← hzz]; simp
  rw [← hw13, ← hbu]
  clear a_0 a_1 a_2 a_3 a_4 a_5 a_6 a_7 a_l b_0 b_1 b_2 b_3 b_4 b_5 b_6 b_7 b_l r_0 r_1 r_2 r_3 r_l s_0 s_1 s_2 s_3 s_l t_0 t_1 t_2 t_3 t_l
  have HXo := HX
  have Kaw13 := Lib.hid (hE.blk Kaw12.out id)
  have Kbw13 := Lib.hid (hE.blk Kbw12.out id)
  have Krw13 := Lib.hid (hE.blk Krw12.out id)
  have Ksw13 := Lib.hid (hE.blk Ksw12.out id)
  have Ktw13 := Lib.hid (hE.blk Ktw12.out id)
  replace HC := Lib.hid (HC.out.ext hE)
  replace HN7 := Lib.hid (newP_mod HN7.out hE (fun _ _ => id))
  replace HNv1 := Lib.hid (newP_mod HNv1.out hE (fun _ _ => id))
  replace HNv2 := Lib.hid (newP_mod HNv2.out hE (fun _ _ => id))
  replace HNv3 := Lib.hid (newP_mod HNv3.out hE (fun _ _ => id))
  replace HNv4 := Lib.hid (newP_mod HNv4.out hE (fun _ _ => id))
  replace HX := Lib.hid (HX.out.ext hE)
  clear Kaw12
  clear Kbw12
  clear Krw12
  clear Ksw12
  clear Ktw12
  have Kuw13 := Lib.hid hKn
  have hbz : w.heap.size ≤ bu := by have := HXo.out.size; omega
  clear hKn hE hw13 hbu HXo hzz
  have hbu := hbz
  clear hbz
  clear hzn
  refine (k_pairs w13 _ _ _ _ X2 Y2 HNv2.out.prs HNv4.out.prs).mono ?_
  rintro e w14 ⟨rfl, hE⟩
  have Kaw14 := Lib.hid (hE.blk Kaw13.out id)
  have Kbw14 := Lib.hid (hE.blk Kbw13.out id)
  have Krw14 := Lib.hid (hE.blk Krw13.out id)
  have Ksw14 := Lib.hid (hE.blk Ksw13.out id)
  have Ktw14 := Lib.hid (hE.blk Ktw13.out id)
  have Kuw14 := Lib.hid (hE.blk Kuw13.out id)
  replace HC := Lib.hid (HC.out.ext hE)
  replace HN7 := Lib.hid (newP_mod HN7.out hE (fun _ _ => id))
  replace HNv1 := Lib.hid (newP_mod HNv1.out hE (fun _ _ => id))
  replace HNv2 := Lib.hid (newP_mod HNv2.out hE (fun _ _ => id))
  replace HNv3 := Lib.hid (newP_mod HNv3.out hE (fun _ _ => id))
  replace HNv4 := Lib.hid (newP_mod HNv4.out hE (fun _ _ => id))
  replace HX := Lib.hid (HX.out.ext hE)
  clear Kaw13
  clear Kbw13
  clear Krw13
  clear Ksw13
  clear Ktw13
  clear Kuw13
  rw [show eqPrs X2 Y2 = true by rw [Hall.out.1]; exact eqPrs_refl _]
  clear hE
  have a_0 : w14.cell? ⟨ba, 0, none⟩ = some _ := blk_cell (cs := [.int .i64 a.kind, .string a.key, .int .i64 a.old.kind, .float .f64 a.old.num, .string a.old.text, .int .i64 a.val.kind, .float .f64 a.val.num, .string a.val.text]) Kaw14.out rfl
  have a_1 : w14.cell? ⟨ba, 1, none⟩ = some _ := blk_cell (cs := [.int .i64 a.kind, .string a.key, .int .i64 a.old.kind, .float .f64 a.old.num, .string a.old.text, .int .i64 a.val.kind, .float .f64 a.val.num, .string a.val.text]) Kaw14.out rfl
  have a_2 : w14.cell? ⟨ba, 2, none⟩ = some _ := blk_cell (cs := [.int .i64 a.kind, .string a.key, .int .i64 a.old.kind, .float .f64 a.old.num, .string a.old.text, .int .i64 a.val.kind, .float .f64 a.val.num, .string a.val.text]) Kaw14.out rfl
  have a_3 : w14.cell? ⟨ba, 3, none⟩ = some _ := blk_cell (cs := [.int .i64 a.kind, .string a.key, .int .i64 a.old.kind, .float .f64 a.old.num, .string a.old.text, .int .i64 a.val.kind, .float .f64 a.val.num, .string a.val.text]) Kaw14.out rfl
  have a_4 : w14.cell? ⟨ba, 4, none⟩ = some _ := blk_cell (cs := [.int .i64 a.kind, .string a.key, .int .i64 a.old.kind, .float .f64 a.old.num, .string a.old.text, .int .i64 a.val.kind, .float .f64 a.val.num, .string a.val.text]) Kaw14.out rfl
  have a_5 : w14.cell? ⟨ba, 5, none⟩ = some _ := blk_cell (cs := [.int .i64 a.kind, .string a.key, .int .i64 a.old.kind, .float .f64 a.old.num, .string a.old.text, .int .i64 a.val.kind, .float .f64 a.val.num, .string a.val.text]) Kaw14.out rfl
  have a_6 : w14.cell? ⟨ba, 6, none⟩ = some _ := blk_cell (cs := [.int .i64 a.kind, .string a.key, .int .i64 a.old.kind, .float .f64 a.old.num, .string a.old.text, .int .i64 a.val.kind, .float .f64 a.val.num, .string a.val.text]) Kaw14.out rfl
  have a_7 : w14.cell? ⟨ba, 7, none⟩ = some _ := blk_cell (cs := [.int .i64 a.kind, .string a.key, .int .i64 a.old.kind, .float .f64 a.old.num, .string a.old.text, .int .i64 a.val.kind, .float .f64 a.val.num, .string a.val.text]) Kaw14.out rfl
  have a_l : ba < w14.heap.size := (Array.getElem?_eq_some_iff.1 Kaw14.out).1
  have b_0 : w14.cell? ⟨bb, 0, none⟩ = some _ := blk_cell (cs := [.int .i64 b.kind, .string b.key, .int .i64 b.old.kind, .float .f64 b.old.num, .string b.old.text, .int .i64 b.val.kind, .float .f64 b.val.num, .string b.val.text]) Kbw14.out rfl
  have b_1 : w14.cell? ⟨bb, 1, none⟩ = some _ := blk_cell (cs := [.int .i64 b.kind, .string b.key, .int .i64 b.old.kind, .float .f64 b.old.num, .string b.old.text, .int .i64 b.val.kind, .float .f64 b.val.num, .string b.val.text]) Kbw14.out rfl
  have b_2 : w14.cell? ⟨bb, 2, none⟩ = some _ := blk_cell (cs := [.int .i64 b.kind, .string b.key, .int .i64 b.old.kind, .float .f64 b.old.num, .string b.old.text, .int .i64 b.val.kind, .float .f64 b.val.num, .string b.val.text]) Kbw14.out rfl
  have b_3 : w14.cell? ⟨bb, 3, none⟩ = some _ := blk_cell (cs := [.int .i64 b.kind, .string b.key, .int .i64 b.old.kind, .float .f64 b.old.num, .string b.old.text, .int .i64 b.val.kind, .float .f64 b.val.num, .string b.val.text]) Kbw14.out rfl
  have b_4 : w14.cell? ⟨bb, 4, none⟩ = some _ := blk_cell (cs := [.int .i64 b.kind, .string b.key, .int .i64 b.old.kind, .float .f64 b.old.num, .string b.old.text, .int .i64 b.val.kind, .float .f64 b.val.num, .string b.val.text]) Kbw14.out rfl
  have b_5 : w14.cell? ⟨bb, 5, none⟩ = some _ := blk_cell (cs := [.int .i64 b.kind, .string b.key, .int .i64 b.old.kind, .float .f64 b.old.num, .string b.old.text, .int .i64 b.val.kind, .float .f64 b.val.num, .string b.val.text]) Kbw14.out rfl
  have b_6 : w14.cell? ⟨bb, 6, none⟩ = some _ := blk_cell (cs := [.int .i64 b.kind, .string b.key, .int .i64 b.old.kind, .float .f64 b.old.num, .string b.old.text, .int .i64 b.val.kind, .float .f64 b.val.num, .string b.val.text]) Kbw14.out rfl
  have b_7 : w14.cell? ⟨bb, 7, none⟩ = some _ := blk_cell (cs := [.int .i64 b.kind, .string b.key, .int .i64 b.old.kind, .float .f64 b.old.num, .string b.old.text, .int .i64 b.val.kind, .float .f64 b.val.num, .string b.val.text]) Kbw14.out rfl
  have b_l : bb < w14.heap.size := (Array.getElem?_eq_some_iff.1 Kbw14.out).1
  have r_0 : w14.cell? ⟨br, 0, none⟩ = some _ := blk_cell (cs := [.int .i64 r.code, .int .i64 r.val.kind, .float .f64 r.val.num, .string r.val.text]) Krw14.out rfl
  have r_1 : w14.cell? ⟨br, 1, none⟩ = some _ := blk_cell (cs := [.int .i64 r.code, .int .i64 r.val.kind, .float .f64 r.val.num, .string r.val.text]) Krw14.out rfl
  have r_2 : w14.cell? ⟨br, 2, none⟩ = some _ := blk_cell (cs := [.int .i64 r.code, .int .i64 r.val.kind, .float .f64 r.val.num, .string r.val.text]) Krw14.out rfl
  have r_3 : w14.cell? ⟨br, 3, none⟩ = some _ := blk_cell (cs := [.int .i64 r.code, .int .i64 r.val.kind, .float .f64 r.val.num, .string r.val.text]) Krw14.out rfl
  have r_l : br < w14.heap.size := (Array.getElem?_eq_some_iff.1 Krw14.out).1
  have s_0 : w14.cell? ⟨bs, 0, none⟩ = some _ := blk_cell (cs := [.int .i64 s.code, .int .i64 s.val.kind, .float .f64 s.val.num, .string s.val.text]) Ksw14.out rfl
  have s_1 : w14.cell? ⟨bs, 1, none⟩ = some _ := blk_cell (cs := [.int .i64 s.code, .int .i64 s.val.kind, .float .f64 s.val.num, .string s.val.text]) Ksw14.out rfl
  have s_2 : w14.cell? ⟨bs, 2, none⟩ = some _ := blk_cell (cs := [.int .i64 s.code, .int .i64 s.val.kind, .float .f64 s.val.num, .string s.val.text]) Ksw14.out rfl
  have s_3 : w14.cell? ⟨bs, 3, none⟩ = some _ := blk_cell (cs := [.int .i64 s.code, .int .i64 s.val.kind, .float .f64 s.val.num, .string s.val.text]) Ksw14.out rfl
  have s_l : bs < w14.heap.size := (Array.getElem?_eq_some_iff.1 Ksw14.out).1
  have t_0 : w14.cell? ⟨bt, 0, none⟩ = some _ := blk_cell (cs := [.int .i64 t.code, .int .i64 t.val.kind, .float .f64 t.val.num, .string t.val.text]) Ktw14.out rfl
  have t_1 : w14.cell? ⟨bt, 1, none⟩ = some _ := blk_cell (cs := [.int .i64 t.code, .int .i64 t.val.kind, .float .f64 t.val.num, .string t.val.text]) Ktw14.out rfl
  have t_2 : w14.cell? ⟨bt, 2, none⟩ = some _ := blk_cell (cs := [.int .i64 t.code, .int .i64 t.val.kind, .float .f64 t.val.num, .string t.val.text]) Ktw14.out rfl
  have t_3 : w14.cell? ⟨bt, 3, none⟩ = some _ := blk_cell (cs := [.int .i64 t.code, .int .i64 t.val.kind, .float .f64 t.val.num, .string t.val.text]) Ktw14.out rfl
  have t_l : bt < w14.heap.size := (Array.getElem?_eq_some_iff.1 Ktw14.out).1
  have u_0 : w14.cell? ⟨bu, 0, none⟩ = some _ := blk_cell (cs := [.int .i64 u.code, .int .i64 u.val.kind, .float .f64 u.val.num, .string u.val.text]) Kuw14.out rfl
  have u_1 : w14.cell? ⟨bu, 1, none⟩ = some _ := blk_cell (cs := [.int .i64 u.code, .int .i64 u.val.kind, .float .f64 u.val.num, .string u.val.text]) Kuw14.out rfl
  have u_2 : w14.cell? ⟨bu, 2, none⟩ = some _ := blk_cell (cs := [.int .i64 u.code, .int .i64 u.val.kind, .float .f64 u.val.num, .string u.val.text]) Kuw14.out rfl
  have u_3 : w14.cell? ⟨bu, 3, none⟩ = some _ := blk_cell (cs := [.int .i64 u.code, .int .i64 u.val.kind, .float .f64 u.val.num, .string u.val.text]) Kuw14.out rfl
  have u_l : bu < w14.heap.size := (Array.getElem?_eq_some_iff.1 Kuw14.out).1
  go_wp2_with fail
  refine (k_reply r u w14).mono ?_
  rintro e w15 ⟨rfl, hE⟩
  clear a_0 a_1 a_2 a_3 a_4 a_5 a_6 a_7 a_l b_0 b_1 b_2 b_3 b_4 b_5 b_6 b_7 b_l r_0 r_1 r_2 r_3 r_l s_0 s_1 s_2 s_3 s_l t_0 t_1 t_2 t_3 t_l u_0 u_1 u_2 u_3 u_l
  have Kaw15 := Lib.hid (hE.blk Kaw14.out id)
  have Kbw15 := Lib.hid (hE.blk Kbw14.out id)
  have Krw15 := Lib.hid (hE.blk Krw14.out id)
  have Ksw15 := Lib.hid (hE.blk Ksw14.out id)
  have Ktw15 := Lib.hid (hE.blk Ktw14.out id)
  have Kuw15 := Lib.hid (hE.blk Kuw14.out id)
  replace HC := Lib.hid (HC.out.ext hE)
  replace HN7 := Lib.hid (newP_mod HN7.out hE (fun _ _ => id))
  replace HNv1 := Lib.hid (newP_mod HNv1.out hE (fun _ _ => id))
  replace HNv2 := Lib.hid (newP_mod HNv2.out hE (fun _ _ => id))
  replace HNv3 := Lib.hid (newP_mod HNv3.out hE (fun _ _ => id))
  replace HNv4 := Lib.hid (newP_mod HNv4.out hE (fun _ _ => id))
  replace HX := Lib.hid (HX.out.ext hE)
  clear Kaw14
  clear Kbw14
  clear Krw14
  clear Ksw14
  clear Ktw14
  clear Kuw14
  rw [show eqReply r u = true by rw [Hall.out.2.1]; exact eqReply_refl _]
  clear hE
  have a_0 : w15.cell? ⟨ba, 0, none⟩ = some _ := blk_cell (cs := [.int .i64 a.kind, .string a.key, .int .i64 a.old.kind, .float .f64 a.old.num, .string a.old.text, .int .i64 a.val.kind, .float .f64 a.val.num, .string a.val.text]) Kaw15.out rfl
  have a_1 : w15.cell? ⟨ba, 1, none⟩ = some _ := blk_cell (cs := [.int .i64 a.kind, .string a.key, .int .i64 a.old.kind, .float .f64 a.old.num, .string a.old.text, .int .i64 a.val.kind, .float .f64 a.val.num, .string a.val.text]) Kaw15.out rfl
  have a_2 : w15.cell? ⟨ba, 2, none⟩ = some _ := blk_cell (cs := [.int .i64 a.kind, .string a.key, .int .i64 a.old.kind, .float .f64 a.old.num, .string a.old.text, .int .i64 a.val.kind, .float .f64 a.val.num, .string a.val.text]) Kaw15.out rfl
  have a_3 : w15.cell? ⟨ba, 3, none⟩ = some _ := blk_cell (cs := [.int .i64 a.kind, .string a.key, .int .i64 a.old.kind, .float .f64 a.old.num, .string a.old.text, .int .i64 a.val.kind, .float .f64 a.val.num, .string a.val.text]) Kaw15.out rfl
  have a_4 : w15.cell? ⟨ba, 4, none⟩ = some _ := blk_cell (cs := [.int .i64 a.kind, .string a.key, .int .i64 a.old.kind, .float .f64 a.old.num, .string a.old.text, .int .i64 a.val.kind, .float .f64 a.val.num, .string a.val.text]) Kaw15.out rfl
  have a_5 : w15.cell? ⟨ba, 5, none⟩ = some _ := blk_cell (cs := [.int .i64 a.kind, .string a.key, .int .i64 a.old.kind, .float .f64 a.old.num, .string a.old.text, .int .i64 a.val.kind, .float .f64 a.val.num, .string a.val.text]) Kaw15.out rfl
  have a_6 : w15.cell? ⟨ba, 6, none⟩ = some _ := blk_cell (cs := [.int .i64 a.kind, .string a.key, .int .i64 a.old.kind, .float .f64 a.old.num, .string a.old.text, .int .i64 a.val.kind, .float .f64 a.val.num, .string a.val.text]) Kaw15.out rfl
  have a_7 : w15.cell? ⟨ba, 7, none⟩ = some _ := blk_cell (cs := [.int .i64 a.kind, .string a.key, .int .i64 a.old.kind, .float .f64 a.old.num, .string a.old.text, .int .i64 a.val.kind, .float .f64 a.val.num, .string a.val.text]) Kaw15.out rfl
  have a_l : ba < w15.heap.size := (Array.getElem?_eq_some_iff.1 Kaw15.out).1
  have b_0 : w15.cell? ⟨bb, 0, none⟩ = some _ := blk_cell (cs := [.int .i64 b.kind, .string b.key, .int .i64 b.old.kind, .float .f64 b.old.num, .string b.old.text, .int .i64 b.val.kind, .float .f64 b.val.num, .string b.val.text]) Kbw15.out rfl
  have b_1 : w15.cell? ⟨bb, 1, none⟩ = some _ := blk_cell (cs := [.int .i64 b.kind, .string b.key, .int .i64 b.old.kind, .float .f64 b.old.num, .string b.old.text, .int .i64 b.val.kind, .float .f64 b.val.num, .string b.val.text]) Kbw15.out rfl
  have b_2 : w15.cell? ⟨bb, 2, none⟩ = some _ := blk_cell (cs := [.int .i64 b.kind, .string b.key, .int .i64 b.old.kind, .float .f64 b.old.num, .string b.old.text, .int .i64 b.val.kind, .float .f64 b.val.num, .string b.val.text]) Kbw15.out rfl
  have b_3 : w15.cell? ⟨bb, 3, none⟩ = some _ := blk_cell (cs := [.int .i64 b.kind, .string b.key, .int .i64 b.old.kind, .float .f64 b.old.num, .string b.old.text, .int .i64 b.val.kind, .float .f64 b.val.num, .string b.val.text]) Kbw15.out rfl
  have b_4 : w15.cell? ⟨bb, 4, none⟩ = some _ := blk_cell (cs := [.int .i64 b.kind, .string b.key, .int .i64 b.old.kind, .float .f64 b.old.num, .string b.old.text, .int .i64 b.val.kind, .float .f64 b.val.num, .string b.val.text]) Kbw15.out rfl
  have b_5 : w15.cell? ⟨bb, 5, none⟩ = some _ := blk_cell (cs := [.int .i64 b.kind, .string b.key, .int .i64 b.old.kind, .float .f64 b.old.num, .string b.old.text, .int .i64 b.val.kind, .float .f64 b.val.num, .string b.val.text]) Kbw15.out rfl
  have b_6 : w15.cell? ⟨bb, 6, none⟩ = some _ := blk_cell (cs := [.int .i64 b.kind, .string b.key, .int .i64 b.old.kind, .float .f64 b.old.num, .string b.old.text, .int .i64 b.val.kind, .float .f64 b.val.num, .string b.val.text]) Kbw15.out rfl
  have b_7 : w15.cell? ⟨bb, 7, none⟩ = some _ := blk_cell (cs := [.int .i64 b.kind, .string b.key, .int .i64 b.old.kind, .float .f64 b.old.num, .string b.old.text, .int .i64 b.val.kind, .float .f64 b.val.num, .string b.val.text]) Kbw15.out rfl
  have b_l : bb < w15.heap.size := (Array.getElem?_eq_some_iff.1 Kbw15.out).1
  have r_0 : w15.cell? ⟨br, 0, none⟩ = some _ := blk_cell (cs := [.int .i64 r.code, .int .i64 r.val.kind, .float .f64 r.val.num, .string r.val.text]) Krw15.out rfl
  have r_1 : w15.cell? ⟨br, 1, none⟩ = some _ := blk_cell (cs := [.int .i64 r.code, .int .i64 r.val.kind, .float .f64 r.val.num, .string r.val.text]) Krw15.out rfl
  have r_2 : w15.cell? ⟨br, 2, none⟩ = some _ := blk_cell (cs := [.int .i64 r.code, .int .i64 r.val.kind, .float .f64 r.val.num, .string r.val.text]) Krw15.out rfl
  have r_3 : w15.cell? ⟨br, 3, none⟩ = some _ := blk_cell (cs := [.int .i64 r.code, .int .i64 r.val.kind, .float .f64 r.val.num, .string r.val.text]) Krw15.out rfl
  have r_l : br < w15.heap.size := (Array.getElem?_eq_some_iff.1 Krw15.out).1
  have s_0 : w15.cell? ⟨bs, 0, none⟩ = some _ := blk_cell (cs := [.int .i64 s.code, .int .i64 s.val.kind, .float .f64 s.val.num, .string s.val.text]) Ksw15.out rfl
  have s_1 : w15.cell? ⟨bs, 1, none⟩ = some _ := blk_cell (cs := [.int .i64 s.code, .int .i64 s.val.kind, .float .f64 s.val.num, .string s.val.text]) Ksw15.out rfl
  have s_2 : w15.cell? ⟨bs, 2, none⟩ = some _ := blk_cell (cs := [.int .i64 s.code, .int .i64 s.val.kind, .float .f64 s.val.num, .string s.val.text]) Ksw15.out rfl
  have s_3 : w15.cell? ⟨bs, 3, none⟩ = some _ := blk_cell (cs := [.int .i64 s.code, .int .i64 s.val.kind, .float .f64 s.val.num, .string s.val.text]) Ksw15.out rfl
  have s_l : bs < w15.heap.size := (Array.getElem?_eq_some_iff.1 Ksw15.out).1
  have t_0 : w15.cell? ⟨bt, 0, none⟩ = some _ := blk_cell (cs := [.int .i64 t.code, .int .i64 t.val.kind, .float .f64 t.val.num, .string t.val.text]) Ktw15.out rfl
  have t_1 : w15.cell? ⟨bt, 1, none⟩ = some _ := blk_cell (cs := [.int .i64 t.code, .int .i64 t.val.kind, .float .f64 t.val.num, .string t.val.text]) Ktw15.out rfl
  have t_2 : w15.cell? ⟨bt, 2, none⟩ = some _ := blk_cell (cs := [.int .i64 t.code, .int .i64 t.val.kind, .float .f64 t.val.num, .string t.val.text]) Ktw15.out rfl
  have t_3 : w15.cell? ⟨bt, 3, none⟩ = some _ := blk_cell (cs := [.int .i64 t.code, .int .i64 t.val.kind, .float .f64 t.val.num, .string t.val.text]) Ktw15.out rfl
  have t_l : bt < w15.heap.size := (Array.getElem?_eq_some_iff.1 Ktw15.out).1
  have u_0 : w15.cell? ⟨bu, 0, none⟩ = some _ := blk_cell (cs := [.int .i64 u.code, .int .i64 u.val.kind, .float .f64 u.val.num, .string u.val.text]) Kuw15.out rfl
  have u_1 : w15.cell? ⟨bu, 1, none⟩ = some _ := blk_cell (cs := [.int .i64 u.code, .int .i64 u.val.kind, .float .f64 u.val.num, .string u.val.text]) Kuw15.out rfl
  have u_2 : w15.cell? ⟨bu, 2, none⟩ = some _ := blk_cell (cs := [.int .i64 u.code, .int .i64 u.val.kind, .float .f64 u.val.num, .string u.val.text]) Kuw15.out rfl
  have u_3 : w15.cell? ⟨bu, 3, none⟩ = some _ := blk_cell (cs := [.int .i64 u.code, .int .i64 u.val.kind, .float .f64 u.val.num, .string u.val.text]) Kuw15.out rfl
  have u_l : bu < w15.heap.size := (Array.getElem?_eq_some_iff.1 Kuw15.out).1
  go_wp2_with fail
  refine (k_reply s t w15).mono ?_
  rintro e w16 ⟨rfl, hE⟩
  clear a_0 a_1 a_2 a_3 a_4 a_5 a_6 a_7 a_l b_0 b_1 b_2 b_3 b_4 b_5 b_6 b_7 b_l r_0 r_1 r_2 r_3 r_l s_0 s_1 s_2 s_3 s_l t_0 t_1 t_2 t_3 t_l u_0 u_1 u_2 u_3 u_l
  have Kaw16 := Lib.hid (hE.blk Kaw15.out id)
  have Kbw16 := Lib.hid (hE.blk Kbw15.out id)
  have Krw16 := Lib.hid (hE.blk Krw15.out id)
  have Ksw16 := Lib.hid (hE.blk Ksw15.out id)
  have Ktw16 := Lib.hid (hE.blk Ktw15.out id)
  have Kuw16 := Lib.hid (hE.blk Kuw15.out id)
  replace HC := Lib.hid (HC.out.ext hE)
  replace HN7 := Lib.hid (newP_mod HN7.out hE (fun _ _ => id))
  replace HNv1 := Lib.hid (newP_mod HNv1.out hE (fun _ _ => id))
  replace HNv2 := Lib.hid (newP_mod HNv2.out hE (fun _ _ => id))
  replace HNv3 := Lib.hid (newP_mod HNv3.out hE (fun _ _ => id))
  replace HNv4 := Lib.hid (newP_mod HNv4.out hE (fun _ _ => id))
  replace HX := Lib.hid (HX.out.ext hE)
  clear Kaw15
  clear Kbw15
  clear Krw15
  clear Ksw15
  clear Ktw15
  clear Kuw15
  rw [show eqReply s t = true by rw [Hall.out.2.2]; exact eqReply_refl _]
  clear hE
  have a_0 : w16.cell? ⟨ba, 0, none⟩ = some _ := blk_cell (cs := [.int .i64 a.kind, .string a.key, .int .i64 a.old.kind, .float .f64 a.old.num, .string a.old.text, .int .i64 a.val.kind, .float .f64 a.val.num, .string a.val.text]) Kaw16.out rfl
  have a_1 : w16.cell? ⟨ba, 1, none⟩ = some _ := blk_cell (cs := [.int .i64 a.kind, .string a.key, .int .i64 a.old.kind, .float .f64 a.old.num, .string a.old.text, .int .i64 a.val.kind, .float .f64 a.val.num, .string a.val.text]) Kaw16.out rfl
  have a_2 : w16.cell? ⟨ba, 2, none⟩ = some _ := blk_cell (cs := [.int .i64 a.kind, .string a.key, .int .i64 a.old.kind, .float .f64 a.old.num, .string a.old.text, .int .i64 a.val.kind, .float .f64 a.val.num, .string a.val.text]) Kaw16.out rfl
  have a_3 : w16.cell? ⟨ba, 3, none⟩ = some _ := blk_cell (cs := [.int .i64 a.kind, .string a.key, .int .i64 a.old.kind, .float .f64 a.old.num, .string a.old.text, .int .i64 a.val.kind, .float .f64 a.val.num, .string a.val.text]) Kaw16.out rfl
  have a_4 : w16.cell? ⟨ba, 4, none⟩ = some _ := blk_cell (cs := [.int .i64 a.kind, .string a.key, .int .i64 a.old.kind, .float .f64 a.old.num, .string a.old.text, .int .i64 a.val.kind, .float .f64 a.val.num, .string a.val.text]) Kaw16.out rfl
  have a_5 : w16.cell? ⟨ba, 5, none⟩ = some _ := blk_cell (cs := [.int .i64 a.kind, .string a.key, .int .i64 a.old.kind, .float .f64 a.old.num, .string a.old.text, .int .i64 a.val.kind, .float .f64 a.val.num, .string a.val.text]) Kaw16.out rfl
  have a_6 : w16.cell? ⟨ba, 6, none⟩ = some _ := blk_cell (cs := [.int .i64 a.kind, .string a.key, .int .i64 a.old.kind, .float .f64 a.old.num, .string a.old.text, .int .i64 a.val.kind, .float .f64 a.val.num, .string a.val.text]) Kaw16.out rfl
  have a_7 : w16.cell? ⟨ba, 7, none⟩ = some _ := blk_cell (cs := [.int .i64 a.kind, .string a.key, .int .i64 a.old.kind, .float .f64 a.old.num, .string a.old.text, .int .i64 a.val.kind, .float .f64 a.val.num, .string a.val.text]) Kaw16.out rfl
  have a_l : ba < w16.heap.size := (Array.getElem?_eq_some_iff.1 Kaw16.out).1
  have b_0 : w16.cell? ⟨bb, 0, none⟩ = some _ := blk_cell (cs := [.int .i64 b.kind, .string b.key, .int .i64 b.old.kind, .float .f64 b.old.num, .string b.old.text, .int .i64 b.val.kind, .float .f64 b.val.num, .string b.val.text]) Kbw16.out rfl
  have b_1 : w16.cell? ⟨bb, 1, none⟩ = some _ := blk_cell (cs := [.int .i64 b.kind, .string b.key, .int .i64 b.old.kind, .float .f64 b.old.num, .string b.old.text, .int .i64 b.val.kind, .float .f64 b.val.num, .string b.val.text]) Kbw16.out rfl
  have b_2 : w16.cell? ⟨bb, 2, none⟩ = some _ := blk_cell (cs := [.int .i64 b.kind, .string b.key, .int .i64 b.old.kind, .float .f64 b.old.num, .string b.old.text, .int .i64 b.val.kind, .float .f64 b.val.num, .string b.val.text]) Kbw16.out rfl
  have b_3 : w16.cell? ⟨bb, 3, none⟩ = some _ := blk_cell (cs := [.int .i64 b.kind, .string b.key, .int .i64 b.old.kind, .float .f64 b.old.num, .string b.old.text, .int .i64 b.val.kind, .float .f64 b.val.num, .string b.val.text]) Kbw16.out rfl
  have b_4 : w16.cell? ⟨bb, 4, none⟩ = some _ := blk_cell (cs := [.int .i64 b.kind, .string b.key, .int .i64 b.old.kind, .float .f64 b.old.num, .string b.old.text, .int .i64 b.val.kind, .float .f64 b.val.num, .string b.val.text]) Kbw16.out rfl
  have b_5 : w16.cell? ⟨bb, 5, none⟩ = some _ := blk_cell (cs := [.int .i64 b.kind, .string b.key, .int .i64 b.old.kind, .float .f64 b.old.num, .string b.old.text, .int .i64 b.val.kind, .float .f64 b.val.num, .string b.val.text]) Kbw16.out rfl
  have b_6 : w16.cell? ⟨bb, 6, none⟩ = some _ := blk_cell (cs := [.int .i64 b.kind, .string b.key, .int .i64 b.old.kind, .float .f64 b.old.num, .string b.old.text, .int .i64 b.val.kind, .float .f64 b.val.num, .string b.val.text]) Kbw16.out rfl
  have b_7 : w16.cell? ⟨bb, 7, none⟩ = some _ := blk_cell (cs := [.int .i64 b.kind, .string b.key, .int .i64 b.old.kind, .float .f64 b.old.num, .string b.old.text, .int .i64 b.val.kind, .float .f64 b.val.num, .string b.val.text]) Kbw16.out rfl
  have b_l : bb < w16.heap.size := (Array.getElem?_eq_some_iff.1 Kbw16.out).1
  have r_0 : w16.cell? ⟨br, 0, none⟩ = some _ := blk_cell (cs := [.int .i64 r.code, .int .i64 r.val.kind, .float .f64 r.val.num, .string r.val.text]) Krw16.out rfl
  have r_1 : w16.cell? ⟨br, 1, none⟩ = some _ := blk_cell (cs := [.int .i64 r.code, .int .i64 r.val.kind, .float .f64 r.val.num, .string r.val.text]) Krw16.out rfl
  have r_2 : w16.cell? ⟨br, 2, none⟩ = some _ := blk_cell (cs := [.int .i64 r.code, .int .i64 r.val.kind, .float .f64 r.val.num, .string r.val.text]) Krw16.out rfl
  have r_3 : w16.cell? ⟨br, 3, none⟩ = some _ := blk_cell (cs := [.int .i64 r.code, .int .i64 r.val.kind, .float .f64 r.val.num, .string r.val.text]) Krw16.out rfl
  have r_l : br < w16.heap.size := (Array.getElem?_eq_some_iff.1 Krw16.out).1
  have s_0 : w16.cell? ⟨bs, 0, none⟩ = some _ := blk_cell (cs := [.int .i64 s.code, .int .i64 s.val.kind, .float .f64 s.val.num, .string s.val.text]) Ksw16.out rfl
  have s_1 : w16.cell? ⟨bs, 1, none⟩ = some _ := blk_cell (cs := [.int .i64 s.code, .int .i64 s.val.kind, .float .f64 s.val.num, .string s.val.text]) Ksw16.out rfl
  have s_2 : w16.cell? ⟨bs, 2, none⟩ = some _ := blk_cell (cs := [.int .i64 s.code, .int .i64 s.val.kind, .float .f64 s.val.num, .string s.val.text]) Ksw16.out rfl
  have s_3 : w16.cell? ⟨bs, 3, none⟩ = some _ := blk_cell (cs := [.int .i64 s.code, .int .i64 s.val.kind, .float .f64 s.val.num, .string s.val.text]) Ksw16.out rfl
  have s_l : bs < w16.heap.size := (Array.getElem?_eq_some_iff.1 Ksw16.out).1
  have t_0 : w16.cell? ⟨bt, 0, none⟩ = some _ := blk_cell (cs := [.int .i64 t.code, .int .i64 t.val.kind, .float .f64 t.val.num, .string t.val.text]) Ktw16.out rfl
  have t_1 : w16.cell? ⟨bt, 1, none⟩ = some _ := blk_cell (cs := [.int .i64 t.code, .int .i64 t.val.kind, .float .f64 t.val.num, .string t.val.text]) Ktw16.out rfl
  have t_2 : w16.cell? ⟨bt, 2, none⟩ = some _ := blk_cell (cs := [.int .i64 t.code, .int .i64 t.val.kind, .float .f64 t.val.num, .string t.val.text]) Ktw16.out rfl
  have t_3 : w16.cell? ⟨bt, 3, none⟩ = some _ := blk_cell (cs := [.int .i64 t.code, .int .i64 t.val.kind, .float .f64 t.val.num, .string t.val.text]) Ktw16.out rfl
  have t_l : bt < w16.heap.size := (Array.getElem?_eq_some_iff.1 Ktw16.out).1
  have u_0 : w16.cell? ⟨bu, 0, none⟩ = some _ := blk_cell (cs := [.int .i64 u.code, .int .i64 u.val.kind, .float .f64 u.val.num, .string u.val.text]) Kuw16.out rfl
  have u_1 : w16.cell? ⟨bu, 1, none⟩ = some _ := blk_cell (cs := [.int .i64 u.code, .int .i64 u.val.kind, .float .f64 u.val.num, .string u.val.text]) Kuw16.out rfl
  have u_2 : w16.cell? ⟨bu, 2, none⟩ = some _ := blk_cell (cs := [.int .i64 u.code, .int .i64 u.val.kind, .float .f64 u.val.num, .string u.val.text]) Kuw16.out rfl
  have u_3 : w16.cell? ⟨bu, 3, none⟩ = some _ := blk_cell (cs := [.int .i64 u.code, .int .i64 u.val.kind, .float .f64 u.val.num, .string u.val.text]) Kuw16.out rfl
  have u_l : bu < w16.heap.size := (Array.getElem?_eq_some_iff.1 Kuw16.out).1
  go_wp2_with fail
  refine (l_wakes w16).mono ?_
  rintro e w17 ⟨rfl, hE⟩
  clear a_0 a_1 a_2 a_3 a_4 a_5 a_6 a_7 a_l b_0 b_1 b_2 b_3 b_4 b_5 b_6 b_7 b_l r_0 r_1 r_2 r_3 r_l s_0 s_1 s_2 s_3 s_l t_0 t_1 t_2 t_3 t_l u_0 u_1 u_2 u_3 u_l
  have Kaw17 := Lib.hid (hE.blk Kaw16.out id)
  have Kbw17 := Lib.hid (hE.blk Kbw16.out id)
  have Krw17 := Lib.hid (hE.blk Krw16.out id)
  have Ksw17 := Lib.hid (hE.blk Ksw16.out id)
  have Ktw17 := Lib.hid (hE.blk Ktw16.out id)
  have Kuw17 := Lib.hid (hE.blk Kuw16.out id)
  replace HC := Lib.hid (HC.out.ext hE)
  replace HN7 := Lib.hid (newP_mod HN7.out hE (fun _ _ => id))
  replace HNv1 := Lib.hid (newP_mod HNv1.out hE (fun _ _ => id))
  replace HNv2 := Lib.hid (newP_mod HNv2.out hE (fun _ _ => id))
  replace HNv3 := Lib.hid (newP_mod HNv3.out hE (fun _ _ => id))
  replace HNv4 := Lib.hid (newP_mod HNv4.out hE (fun _ _ => id))
  replace HX := Lib.hid (HX.out.ext hE)
  clear Kaw16
  clear Kbw16
  clear Krw16
  clear Ksw16
  clear Ktw16
  clear Kuw16
  clear hE
  have a_0 : w17.cell? ⟨ba, 0, none⟩ = some _ := blk_cell (cs := [.int .i64 a.kind, .string a.key, .int .i64 a.old.kind, .float .f64 a.old.num, .string a.old.text, .int .i64 a.val.kind, .float .f64 a.val.num, .string a.val.text]) Kaw17.out rfl
  have a_1 : w17.cell? ⟨ba, 1, none⟩ = some _ := blk_cell (cs := [.int .i64 a.kind, .string a.key, .int .i64 a.old.kind, .float .f64 a.old.num, .string a.old.text, .int .i64 a.val.kind, .float .f64 a.val.num, .string a.val.text]) Kaw17.out rfl
  have a_2 : w17.cell? ⟨ba, 2, none⟩ = some _ := blk_cell (cs := [.int .i64 a.kind, .string a.key, .int .i64 a.old.kind, .float .f64 a.old.num, .string a.old.text, .int .i64 a.val.kind, .float .f64 a.val.num, .string a.val.text]) Kaw17.out rfl
  have a_3 : w17.cell? ⟨ba, 3, none⟩ = some _ := blk_cell (cs := [.int .i64 a.kind, .string a.key, .int .i64 a.old.kind, .float .f64 a.old.num, .string a.old.text, .int .i64 a.val.kind, .float .f64 a.val.num, .string a.val.text]) Kaw17.out rfl
  have a_4 : w17.cell? ⟨ba, 4, none⟩ = some _ := blk_cell (cs := [.int .i64 a.kind, .string a.key, .int .i64 a.old.kind, .float .f64 a.old.num, .string a.old.text, .int .i64 a.val.kind, .float .f64 a.val.num, .string a.val.text]) Kaw17.out rfl
  have a_5 : w17.cell? ⟨ba, 5, none⟩ = some _ := blk_cell (cs := [.int .i64 a.kind, .string a.key, .int .i64 a.old.kind, .float .f64 a.old.num, .string a.old.text, .int .i64 a.val.kind, .float .f64 a.val.num, .string a.val.text]) Kaw17.out rfl
  have a_6 : w17.cell? ⟨ba, 6, none⟩ = some _ := blk_cell (cs := [.int .i64 a.kind, .string a.key, .int .i64 a.old.kind, .float .f64 a.old.num, .string a.old.text, .int .i64 a.val.kind, .float .f64 a.val.num, .string a.val.text]) Kaw17.out rfl
  have a_7 : w17.cell? ⟨ba, 7, none⟩ = some _ := blk_cell (cs := [.int .i64 a.kind, .string a.key, .int .i64 a.old.kind, .float .f64 a.old.num, .string a.old.text, .int .i64 a.val.kind, .float .f64 a.val.num, .string a.val.text]) Kaw17.out rfl
  have a_l : ba < w17.heap.size := (Array.getElem?_eq_some_iff.1 Kaw17.out).1
  have b_0 : w17.cell? ⟨bb, 0, none⟩ = some _ := blk_cell (cs := [.int .i64 b.kind, .string b.key, .int .i64 b.old.kind, .float .f64 b.old.num, .string b.old.text, .int .i64 b.val.kind, .float .f64 b.val.num, .string b.val.text]) Kbw17.out rfl
  have b_1 : w17.cell? ⟨bb, 1, none⟩ = some _ := blk_cell (cs := [.int .i64 b.kind, .string b.key, .int .i64 b.old.kind, .float .f64 b.old.num, .string b.old.text, .int .i64 b.val.kind, .float .f64 b.val.num, .string b.val.text]) Kbw17.out rfl
  have b_2 : w17.cell? ⟨bb, 2, none⟩ = some _ := blk_cell (cs := [.int .i64 b.kind, .string b.key, .int .i64 b.old.kind, .float .f64 b.old.num, .string b.old.text, .int .i64 b.val.kind, .float .f64 b.val.num, .string b.val.text]) Kbw17.out rfl
  have b_3 : w17.cell? ⟨bb, 3, none⟩ = some _ := blk_cell (cs := [.int .i64 b.kind, .string b.key, .int .i64 b.old.kind, .float .f64 b.old.num, .string b.old.text, .int .i64 b.val.kind, .float .f64 b.val.num, .string b.val.text]) Kbw17.out rfl
  have b_4 : w17.cell? ⟨bb, 4, none⟩ = some _ := blk_cell (cs := [.int .i64 b.kind, .string b.key, .int .i64 b.old.kind, .float .f64 b.old.num, .string b.old.text, .int .i64 b.val.kind, .float .f64 b.val.num, .string b.val.text]) Kbw17.out rfl
  have b_5 : w17.cell? ⟨bb, 5, none⟩ = some _ := blk_cell (cs := [.int .i64 b.kind, .string b.key, .int .i64 b.old.kind, .float .f64 b.old.num, .string b.old.text, .int .i64 b.val.kind, .float .f64 b.val.num, .string b.val.text]) Kbw17.out rfl
  have b_6 : w17.cell? ⟨bb, 6, none⟩ = some _ := blk_cell (cs := [.int .i64 b.kind, .string b.key, .int .i64 b.old.kind, .float .f64 b.old.num, .string b.old.text, .int .i64 b.val.kind, .float .f64 b.val.num, .string b.val.text]) Kbw17.out rfl
  have b_7 : w17.cell? ⟨bb, 7, none⟩ = some _ := blk_cell (cs := [.int .i64 b.kind, .string b.key, .int .i64 b.old.kind, .float .f64 b.old.num, .string b.old.text, .int .i64 b.val.kind, .float .f64 b.val.num, .string b.val.text]) Kbw17.out rfl
  have b_l : bb < w17.heap.size := (Array.getElem?_eq_some_iff.1 Kbw17.out).1
  have r_0 : w17.cell? ⟨br, 0, none⟩ = some _ := blk_cell (cs := [.int .i64 r.code, .int .i64 r.val.kind, .float .f64 r.val.num, .string r.val.text]) Krw17.out rfl
  have r_1 : w17.cell? ⟨br, 1, none⟩ = some _ := blk_cell (cs := [.int .i64 r.code, .int .i64 r.val.kind, .float .f64 r.val.num, .string r.val.text]) Krw17.out rfl
  have r_2 : w17.cell? ⟨br, 2, none⟩ = some _ := blk_cell (cs := [.int .i64 r.code, .int .i64 r.val.kind, .float .f64 r.val.num, .string r.val.text]) Krw17.out rfl
  have r_3 : w17.cell? ⟨br, 3, none⟩ = some _ := blk_cell (cs := [.int .i64 r.code, .int .i64 r.val.kind, .float .f64 r.val.num, .string r.val.text]) Krw17.out rfl
  have r_l : br < w17.heap.size := (Array.getElem?_eq_some_iff.1 Krw17.out).1
  have s_0 : w17.cell? ⟨bs, 0, none⟩ = some _ := blk_cell (cs := [.int .i64 s.code, .int .i64 s.val.kind, .float .f64 s.val.num, .string s.val.text]) Ksw17.out rfl
  have s_1 : w17.cell? ⟨bs, 1, none⟩ = some _ := blk_cell (cs := [.int .i64 s.code, .int .i64 s.val.kind, .float .f64 s.val.num, .string s.val.text]) Ksw17.out rfl
  have s_2 : w17.cell? ⟨bs, 2, none⟩ = some _ := blk_cell (cs := [.int .i64 s.code, .int .i64 s.val.kind, .float .f64 s.val.num, .string s.val.text]) Ksw17.out rfl
  have s_3 : w17.cell? ⟨bs, 3, none⟩ = some _ := blk_cell (cs := [.int .i64 s.code, .int .i64 s.val.kind, .float .f64 s.val.num, .string s.val.text]) Ksw17.out rfl
  have s_l : bs < w17.heap.size := (Array.getElem?_eq_some_iff.1 Ksw17.out).1
  have t_0 : w17.cell? ⟨bt, 0, none⟩ = some _ := blk_cell (cs := [.int .i64 t.code, .int .i64 t.val.kind, .float .f64 t.val.num, .string t.val.text]) Ktw17.out rfl
  have t_1 : w17.cell? ⟨bt, 1, none⟩ = some _ := blk_cell (cs := [.int .i64 t.code, .int .i64 t.val.kind, .float .f64 t.val.num, .string t.val.text]) Ktw17.out rfl
  have t_2 : w17.cell? ⟨bt, 2, none⟩ = some _ := blk_cell (cs := [.int .i64 t.code, .int .i64 t.val.kind, .float .f64 t.val.num, .string t.val.text]) Ktw17.out rfl
  have t_3 : w17.cell? ⟨bt, 3, none⟩ = some _ := blk_cell (cs := [.int .i64 t.code, .int .i64 t.val.kind, .float .f64 t.val.num, .string t.val.text]) Ktw17.out rfl
  have t_l : bt < w17.heap.size := (Array.getElem?_eq_some_iff.1 Ktw17.out).1
  have u_0 : w17.cell? ⟨bu, 0, none⟩ = some _ := blk_cell (cs := [.int .i64 u.code, .int .i64 u.val.kind, .float .f64 u.val.num, .string u.val.text]) Kuw17.out rfl
  have u_1 : w17.cell? ⟨bu, 1, none⟩ = some _ := blk_cell (cs := [.int .i64 u.code, .int .i64 u.val.kind, .float .f64 u.val.num, .string u.val.text]) Kuw17.out rfl
  have u_2 : w17.cell? ⟨bu, 2, none⟩ = some _ := blk_cell (cs := [.int .i64 u.code, .int .i64 u.val.kind, .float .f64 u.val.num, .string u.val.text]) Kuw17.out rfl
  have u_3 : w17.cell? ⟨bu, 3, none⟩ = some _ := blk_cell (cs := [.int .i64 u.code, .int .i64 u.val.kind, .float .f64 u.val.num, .string u.val.text]) Kuw17.out rfl
  have u_l : bu < w17.heap.size := (Array.getElem?_eq_some_iff.1 Kuw17.out).1
  go_wp2
  go_ret
  exact ⟨rfl, Ext.below HX.out⟩
theorem kvParts_a (w : World) (v0 : Value) (l : List ACmd) (a b : ACmd) (hC : Cms w (fun g => g < w.heap.size) v0 l) (ha : a.ok) (hb : b.ok) :
    Calls Try.prog 8 #[v0, .agg #[.int .i64 a.kind, .string a.key, .int .i64 a.old.kind, .float .f64 a.old.num, .string a.old.text, .int .i64 a.val.kind, .float .f64 a.val.num, .string a.val.text], .agg #[.int .i64 b.kind, .string b.key, .int .i64 b.old.kind, .float .f64 b.old.num, .string b.old.text, .int .i64 b.val.kind, .float .f64 b.val.num, .string b.val.text]] w fun e w' => e = .returned (.bool true) ∧ Below w.heap.size w w' := by
  obtain ⟨A, cc, rfl⟩ := hC.form
  exact kvParts_walk w _ A _ cc l hC rfl a b ha hb
end Go.Proofs.Ythhjaneadbkccaa
