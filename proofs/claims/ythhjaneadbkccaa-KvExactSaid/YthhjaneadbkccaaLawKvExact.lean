/-
  The walk of KvExact. Conditions: as the theorems name them.
-/
import Derived.Test.YthhjaneadbkccaaKvMore2
import Derived.Test.YthhjaneadbkccaaTake
namespace Go.Proofs.Ythhjaneadbkccaa
set_option linter.unusedSimpArgs false
open Go.RowKit

set_option maxRecDepth 100000 in
set_option maxHeartbeats 1000000 in
theorem kvExact_heavy (w : World) (T : Nat → Prop) (_hT : ∀ g, T g → g < w.heap.size) (A : Option Addr) (n cc : Nat) (l : List APair) (hC : Prs w T (.slice A n cc) l) (c : ACmd) (key : ByteArray) (_hc : c.ok) (hv : heavyPairs l = true ∨ (heavyPairs l = false ∧ (heavyCmd c = true ∨ (heavyCmd c = false ∧ 2000 < key.size)))) :
    Calls Try.prog 9 #[.slice A n cc, .agg #[.int .i64 c.kind, .string c.key, .int .i64 c.old.kind, .float .f64 c.old.num, .string c.old.text, .int .i64 c.val.kind, .float .f64 c.val.num, .string c.val.text], .string key] w fun e w' => e = .returned (.bool true) ∧ Below w.heap.size w w' := by
  rcases hv with h1 | ⟨h1, h2 | ⟨h2, h3⟩⟩
  · have HX : Hid (Ext w w) := Lib.hid (Mod.refl _ w)
    have HC := Lib.hid hC
    clear hC
    go_enter Try.func9, Try.ntmps9
    go_wp2_with fail
    obtain ⟨w1, hw1⟩ : ∃ w1, w1 = w.alloc (.cells #[.int .i64 c.kind, .string c.key, .int .i64 c.old.kind, .float .f64 c.old.num, .string c.old.text, .int .i64 c.val.kind, .float .f64 c.val.num, .string c.val.text] 27) := ⟨_, rfl⟩
    obtain ⟨bc, hbc⟩ : ∃ bc, bc = w.heap.size := ⟨_, rfl⟩
    have hzz : w.heap.size = bc := hbc.symm
    have hE : Ext w w1 := by rw [hw1]; exact (Mod.refl _ w).alloc _
    have hKn : w1.heap[bc]? = some (.cells #[.int .i64 c.kind, .string c.key, .int .i64 c.old.kind, .float .f64 c.old.num, .string c.old.text, .int .i64 c.val.kind, .float .f64 c.val.num, .string c.val.text] 27 (0, 0)) := by rw [hw1, ← hzz]; exact heap_alloc_new w _
    have hzn : w1.heap.size = bc + 1 := by rw [hw1, ← hzz]; simp
    rw [← hw1, ← hbc]
    have HXo := HX
    replace HC := Lib.hid (HC.out.ext hE)
    replace HX := Lib.hid (HX.out.ext hE)
    have Kcw1 := Lib.hid hKn
    have hbz : w.heap.size ≤ bc := by have := HXo.out.size; omega
    clear hKn hE hw1 hbc HXo hzz
    have hbc := hbz
    clear hbz
    clear hzn
    refine (hv_pairs2 w1 _ _ l HC.out).mono ?_
    rintro e w2 ⟨rfl, hE⟩
    have Kcw2 := Lib.hid (hE.blk Kcw1.out id)
    replace HC := Lib.hid (HC.out.ext hE)
    replace HX := Lib.hid (HX.out.ext hE)
    clear Kcw1
    rw [h1]
    clear hE
    have c_0 : w2.cell? ⟨bc, 0, none⟩ = some _ := blk_cell (cs := [.int .i64 c.kind, .string c.key, .int .i64 c.old.kind, .float .f64 c.old.num, .string c.old.text, .int .i64 c.val.kind, .float .f64 c.val.num, .string c.val.text]) Kcw2.out rfl
    have c_1 : w2.cell? ⟨bc, 1, none⟩ = some _ := blk_cell (cs := [.int .i64 c.kind, .string c.key, .int .i64 c.old.kind, .float .f64 c.old.num, .string c.old.text, .int .i64 c.val.kind, .float .f64 c.val.num, .string c.val.text]) Kcw2.out rfl
    have c_2 : w2.cell? ⟨bc, 2, none⟩ = some _ := blk_cell (cs := [.int .i64 c.kind, .string c.key, .int .i64 c.old.kind, .float .f64 c.old.num, .string c.old.text, .int .i64 c.val.kind, .float .f64 c.val.num, .string c.val.text]) Kcw2.out rfl
    have c_3 : w2.cell? ⟨bc, 3, none⟩ = some _ := blk_cell (cs := [.int .i64 c.kind, .string c.key, .int .i64 c.old.kind, .float .f64 c.old.num, .string c.old.text, .int .i64 c.val.kind, .float .f64 c.val.num, .string c.val.text]) Kcw2.out rfl
    have c_4 : w2.cell? ⟨bc, 4, none⟩ = some _ := blk_cell (cs := [.int .i64 c.kind, .string c.key, .int .i64 c.old.kind, .float .f64 c.old.num, .string c.old.text, .int .i64 c.val.kind, .float .f64 c.val.num, .string c.val.text]) Kcw2.out rfl
    have c_5 : w2.cell? ⟨bc, 5, none⟩ = some _ := blk_cell (cs := [.int .i64 c.kind, .string c.key, .int .i64 c.old.kind, .float .f64 c.old.num, .string c.old.text, .int .i64 c.val.kind, .float .f64 c.val.num, .string c.val.text]) Kcw2.out rfl
    have c_6 : w2.cell? ⟨bc, 6, none⟩ = some _ := blk_cell (cs := [.int .i64 c.kind, .string c.key, .int .i64 c.old.kind, .float .f64 c.old.num, .string c.old.text, .int .i64 c.val.kind, .float .f64 c.val.num, .string c.val.text]) Kcw2.out rfl
    have c_7 : w2.cell? ⟨bc, 7, none⟩ = some _ := blk_cell (cs := [.int .i64 c.kind, .string c.key, .int .i64 c.old.kind, .float .f64 c.old.num, .string c.old.text, .int .i64 c.val.kind, .float .f64 c.val.num, .string c.val.text]) Kcw2.out rfl
    have c_l : bc < w2.heap.size := (Array.getElem?_eq_some_iff.1 Kcw2.out).1
    go_wp2
    go_ret
    exact ⟨rfl, Ext.below HX.out⟩
  · have HX : Hid (Ext w w) := Lib.hid (Mod.refl _ w)
    have HC := Lib.hid hC
    clear hC
    go_enter Try.func9, Try.ntmps9
    go_wp2_with fail
    obtain ⟨w1, hw1⟩ : ∃ w1, w1 = w.alloc (.cells #[.int .i64 c.kind, .string c.key, .int .i64 c.old.kind, .float .f64 c.old.num, .string c.old.text, .int .i64 c.val.kind, .float .f64 c.val.num, .string c.val.text] 27) := ⟨_, rfl⟩
    obtain ⟨bc, hbc⟩ : ∃ bc, bc = w.heap.size := ⟨_, rfl⟩
    have hzz : w.heap.size = bc := hbc.symm
    have hE : Ext w w1 := by rw [hw1]; exact (Mod.refl _ w).alloc _
    have hKn : w1.heap[bc]? = some (.cells #[.int .i64 c.kind, .string c.key, .int .i64 c.old.kind, .float .f64 c.old.num, .string c.old.text, .int .i64 c.val.kind, .float .f64 c.val.num, .string c.val.text] 27 (0, 0)) := by rw [hw1, ← hzz]; exact heap_alloc_new w _
    have hzn : w1.heap.size = bc + 1 := by rw [hw1, ← hzz]; simp
    rw [← hw1, ← hbc]
    have HXo := HX
    replace HC := Lib.hid (HC.out.ext hE)
    replace HX := Lib.hid (HX.out.ext hE)
    have Kcw1 := Lib.hid hKn
    have hbz : w.heap.size ≤ bc := by have := HXo.out.size; omega
    clear hKn hE hw1 hbc HXo hzz
    have hbc := hbz
    clear hbz
    clear hzn
    refine (hv_pairs2 w1 _ _ l HC.out).mono ?_
    rintro e w2 ⟨rfl, hE⟩
    have Kcw2 := Lib.hid (hE.blk Kcw1.out id)
    replace HC := Lib.hid (HC.out.ext hE)
    replace HX := Lib.hid (HX.out.ext hE)
    clear Kcw1
    rw [h1]
    clear hE
    have c_0 : w2.cell? ⟨bc, 0, none⟩ = some _ := blk_cell (cs := [.int .i64 c.kind, .string c.key, .int .i64 c.old.kind, .float .f64 c.old.num, .string c.old.text, .int .i64 c.val.kind, .float .f64 c.val.num, .string c.val.text]) Kcw2.out rfl
    have c_1 : w2.cell? ⟨bc, 1, none⟩ = some _ := blk_cell (cs := [.int .i64 c.kind, .string c.key, .int .i64 c.old.kind, .float .f64 c.old.num, .string c.old.text, .int .i64 c.val.kind, .float .f64 c.val.num, .string c.val.text]) Kcw2.out rfl
    have c_2 : w2.cell? ⟨bc, 2, none⟩ = some _ := blk_cell (cs := [.int .i64 c.kind, .string c.key, .int .i64 c.old.kind, .float .f64 c.old.num, .string c.old.text, .int .i64 c.val.kind, .float .f64 c.val.num, .string c.val.text]) Kcw2.out rfl
    have c_3 : w2.cell? ⟨bc, 3, none⟩ = some _ := blk_cell (cs := [.int .i64 c.kind, .string c.key, .int .i64 c.old.kind, .float .f64 c.old.num, .string c.old.text, .int .i64 c.val.kind, .float .f64 c.val.num, .string c.val.text]) Kcw2.out rfl
    have c_4 : w2.cell? ⟨bc, 4, none⟩ = some _ := blk_cell (cs := [.int .i64 c.kind, .string c.key, .int .i64 c.old.kind, .float .f64 c.old.num, .string c.old.text, .int .i64 c.val.kind, .float .f64 c.val.num, .string c.val.text]) Kcw2.out rfl
    have c_5 : w2.cell? ⟨bc, 5, none⟩ = some _ := blk_cell (cs := [.int .i64 c.kind, .string c.key, .int .i64 c.old.kind, .float .f64 c.old.num, .string c.old.text, .int .i64 c.val.kind, .float .f64 c.val.num, .string c.val.text]) Kcw2.out rfl
    have c_6 : w2.cell? ⟨bc, 6, none⟩ = some _ := blk_cell (cs := [.int .i64 c.kind, .string c.key, .int .i64 c.old.kind, .float .f64 c.old.num, .string c.old.text, .int .i64 c.val.kind, .float .f64 c.val.num, .string c.val.text]) Kcw2.out rfl
    have c_7 : w2.cell? ⟨bc, 7, none⟩ = some _ := blk_cell (cs := [.int .i64 c.kind, .string c.key, .int .i64 c.old.kind, .float .f64 c.old.num, .string c.old.text, .int .i64 c.val.kind, .float .f64 c.val.num, .string c.val.text]) Kcw2.out rfl
    have c_l : bc < w2.heap.size := (Array.getElem?_eq_some_iff.1 Kcw2.out).1
    go_wp2_with fail
    refine (hv_cmd c w2).mono ?_
    rintro e w3 ⟨rfl, hE⟩
    clear c_0 c_1 c_2 c_3 c_4 c_5 c_6 c_7 c_l
    have Kcw3 := Lib.hid (hE.blk Kcw2.out id)
    replace HC := Lib.hid (HC.out.ext hE)
    replace HX := Lib.hid (HX.out.ext hE)
    clear Kcw2
    rw [h2]
    clear hE
    have c_0 : w3.cell? ⟨bc, 0, none⟩ = some _ := blk_cell (cs := [.int .i64 c.kind, .string c.key, .int .i64 c.old.kind, .float .f64 c.old.num, .string c.old.text, .int .i64 c.val.kind, .float .f64 c.val.num, .string c.val.text]) Kcw3.out rfl
    have c_1 : w3.cell? ⟨bc, 1, none⟩ = some _ := blk_cell (cs := [.int .i64 c.kind, .string c.key, .int .i64 c.old.kind, .float .f64 c.old.num, .string c.old.text, .int .i64 c.val.kind, .float .f64 c.val.num, .string c.val.text]) Kcw3.out rfl
    have c_2 : w3.cell? ⟨bc, 2, none⟩ = some _ := blk_cell (cs := [.int .i64 c.kind, .string c.key, .int .i64 c.old.kind, .float .f64 c.old.num, .string c.old.text, .int .i64 c.val.kind, .float .f64 c.val.num, .string c.val.text]) Kcw3.out rfl
    have c_3 : w3.cell? ⟨bc, 3, none⟩ = some _ := blk_cell (cs := [.int .i64 c.kind, .string c.key, .int .i64 c.old.kind, .float .f64 c.old.num, .string c.old.text, .int .i64 c.val.kind, .float .f64 c.val.num, .string c.val.text]) Kcw3.out rfl
    have c_4 : w3.cell? ⟨bc, 4, none⟩ = some _ := blk_cell (cs := [.int .i64 c.kind, .string c.key, .int .i64 c.old.kind, .float .f64 c.old.num, .string c.old.text, .int .i64 c.val.kind, .float .f64 c.val.num, .string c.val.text]) Kcw3.out rfl
    have c_5 : w3.cell? ⟨bc, 5, none⟩ = some _ := blk_cell (cs := [.int .i64 c.kind, .string c.key, .int .i64 c.old.kind, .float .f64 c.old.num, .string c.old.text, .int .i64 c.val.kind, .float .f64 c.val.num, .string c.val.text]) Kcw3.out rfl
    have c_6 : w3.cell? ⟨bc, 6, none⟩ = some _ := blk_cell (cs := [.int .i64 c.kind, .string c.key, .int .i64 c.old.kind, .float .f64 c.old.num, .string c.old.text, .int .i64 c.val.kind, .float .f64 c.val.num, .string c.val.text]) Kcw3.out rfl
    have c_7 : w3.cell? ⟨bc, 7, none⟩ = some _ := blk_cell (cs := [.int .i64 c.kind, .string c.key, .int .i64 c.old.kind, .float .f64 c.old.num, .string c.old.text, .int .i64 c.val.kind, .float .f64 c.val.num, .string c.val.text]) Kcw3.out rfl
    have c_l : bc < w3.heap.size := (Array.getElem?_eq_some_iff.1 Kcw3.out).1
    go_wp2
    go_ret
    exact ⟨rfl, Ext.below HX.out⟩
  · have d3 : decide ((key.size : Int) > 2000) = true := by simp; omega
    have HX : Hid (Ext w w) := Lib.hid (Mod.refl _ w)
    have HC := Lib.hid hC
    clear hC
    go_enter Try.func9, Try.ntmps9
    go_wp2_with fail
    obtain ⟨w1, hw1⟩ : ∃ w1, w1 = w.alloc (.cells #[.int .i64 c.kind, .string c.key, .int .i64 c.old.kind, .float .f64 c.old.num, .string c.old.text, .int .i64 c.val.kind, .float .f64 c.val.num, .string c.val.text] 27) := ⟨_, rfl⟩
    obtain ⟨bc, hbc⟩ : ∃ bc, bc = w.heap.size := ⟨_, rfl⟩
    have hzz : w.heap.size = bc := hbc.symm
    have hE : Ext w w1 := by rw [hw1]; exact (Mod.refl _ w).alloc _
    have hKn : w1.heap[bc]? = some (.cells #[.int .i64 c.kind, .string c.key, .int .i64 c.old.kind, .float .f64 c.old.num, .string c.old.text, .int .i64 c.val.kind, .float .f64 c.val.num, .string c.val.text] 27 (0, 0)) := by rw [hw1, ← hzz]; exact heap_alloc_new w _
    have hzn : w1.heap.size = bc + 1 := by rw [hw1, ← hzz]; simp
    rw [← hw1, ← hbc]
    have HXo := HX
    replace HC := Lib.hid (HC.out.ext hE)
    replace HX := Lib.hid (HX.out.ext hE)
    have Kcw1 := Lib.hid hKn
    have hbz : w.heap.size ≤ bc := by have := HXo.out.size; omega
    clear hKn hE hw1 hbc HXo hzz
    have hbc := hbz
    clear hbz
    clear hzn
    refine (hv_pairs2 w1 _ _ l HC.out).mono ?_
    rintro e w2 ⟨rfl, hE⟩
    have Kcw2 := Lib.hid (hE.blk Kcw1.out id)
    replace HC := Lib.hid (HC.out.ext hE)
    replace HX := Lib.hid (HX.out.ext hE)
    clear Kcw1
    rw [h1]
    clear hE
    have c_0 : w2.cell? ⟨bc, 0, none⟩ = some _ := blk_cell (cs := [.int .i64 c.kind, .string c.key, .int .i64 c.old.kind, .float .f64 c.old.num, .string c.old.text, .int .i64 c.val.kind, .float .f64 c.val.num, .string c.val.text]) Kcw2.out rfl
    have c_1 : w2.cell? ⟨bc, 1, none⟩ = some _ := blk_cell (cs := [.int .i64 c.kind, .string c.key, .int .i64 c.old.kind, .float .f64 c.old.num, .string c.old.text, .int .i64 c.val.kind, .float .f64 c.val.num, .string c.val.text]) Kcw2.out rfl
    have c_2 : w2.cell? ⟨bc, 2, none⟩ = some _ := blk_cell (cs := [.int .i64 c.kind, .string c.key, .int .i64 c.old.kind, .float .f64 c.old.num, .string c.old.text, .int .i64 c.val.kind, .float .f64 c.val.num, .string c.val.text]) Kcw2.out rfl
    have c_3 : w2.cell? ⟨bc, 3, none⟩ = some _ := blk_cell (cs := [.int .i64 c.kind, .string c.key, .int .i64 c.old.kind, .float .f64 c.old.num, .string c.old.text, .int .i64 c.val.kind, .float .f64 c.val.num, .string c.val.text]) Kcw2.out rfl
    have c_4 : w2.cell? ⟨bc, 4, none⟩ = some _ := blk_cell (cs := [.int .i64 c.kind, .string c.key, .int .i64 c.old.kind, .float .f64 c.old.num, .string c.old.text, .int .i64 c.val.kind, .float .f64 c.val.num, .string c.val.text]) Kcw2.out rfl
    have c_5 : w2.cell? ⟨bc, 5, none⟩ = some _ := blk_cell (cs := [.int .i64 c.kind, .string c.key, .int .i64 c.old.kind, .float .f64 c.old.num, .string c.old.text, .int .i64 c.val.kind, .float .f64 c.val.num, .string c.val.text]) Kcw2.out rfl
    have c_6 : w2.cell? ⟨bc, 6, none⟩ = some _ := blk_cell (cs := [.int .i64 c.kind, .string c.key, .int .i64 c.old.kind, .float .f64 c.old.num, .string c.old.text, .int .i64 c.val.kind, .float .f64 c.val.num, .string c.val.text]) Kcw2.out rfl
    have c_7 : w2.cell? ⟨bc, 7, none⟩ = some _ := blk_cell (cs := [.int .i64 c.kind, .string c.key, .int .i64 c.old.kind, .float .f64 c.old.num, .string c.old.text, .int .i64 c.val.kind, .float .f64 c.val.num, .string c.val.text]) Kcw2.out rfl
    have c_l : bc < w2.heap.size := (Array.getElem?_eq_some_iff.1 Kcw2.out).1
    go_wp2_with fail
    refine (hv_cmd c w2).mono ?_
    rintro e w3 ⟨rfl, hE⟩
    clear c_0 c_1 c_2 c_3 c_4 c_5 c_6 c_7 c_l
    have Kcw3 := Lib.hid (hE.blk Kcw2.out id)
    replace HC := Lib.hid (HC.out.ext hE)
    replace HX := Lib.hid (HX.out.ext hE)
    clear Kcw2
    rw [h2]
    clear hE
    have c_0 : w3.cell? ⟨bc, 0, none⟩ = some _ := blk_cell (cs := [.int .i64 c.kind, .string c.key, .int .i64 c.old.kind, .float .f64 c.old.num, .string c.old.text, .int .i64 c.val.kind, .float .f64 c.val.num, .string c.val.text]) Kcw3.out rfl
    have c_1 : w3.cell? ⟨bc, 1, none⟩ = some _ := blk_cell (cs := [.int .i64 c.kind, .string c.key, .int .i64 c.old.kind, .float .f64 c.old.num, .string c.old.text, .int .i64 c.val.kind, .float .f64 c.val.num, .string c.val.text]) Kcw3.out rfl
    have c_2 : w3.cell? ⟨bc, 2, none⟩ = some _ := blk_cell (cs := [.int .i64 c.kind, .string c.key, .int .i64 c.old.kind, .float .f64 c.old.num, .string c.old.text, .int .i64 c.val.kind, .float .f64 c.val.num, .string c.val.text]) Kcw3.out rfl
    have c_3 : w3.cell? ⟨bc, 3, none⟩ = some _ := blk_cell (cs := [.int .i64 c.kind, .string c.key, .int .i64 c.old.kind, .float .f64 c.old.num, .string c.old.text, .int .i64 c.val.kind, .float .f64 c.val.num, .string c.val.text]) Kcw3.out rfl
    have c_4 : w3.cell? ⟨bc, 4, none⟩ = some _ := blk_cell (cs := [.int .i64 c.kind, .string c.key, .int .i64 c.old.kind, .float .f64 c.old.num, .string c.old.text, .int .i64 c.val.kind, .float .f64 c.val.num, .string c.val.text]) Kcw3.out rfl
    have c_5 : w3.cell? ⟨bc, 5, none⟩ = some _ := blk_cell (cs := [.int .i64 c.kind, .string c.key, .int .i64 c.old.kind, .float .f64 c.old.num, .string c.old.text, .int .i64 c.val.kind, .float .f64 c.val.num, .string c.val.text]) Kcw3.out rfl
    have c_6 : w3.cell? ⟨bc, 6, none⟩ = some _ := blk_cell (cs := [.int .i64 c.kind, .string c.key, .int .i64 c.old.kind, .float .f64 c.old.num, .string c.old.text, .int .i64 c.val.kind, .float .f64 c.val.num, .string c.val.text]) Kcw3.out rfl
    have c_7 : w3.cell? ⟨bc, 7, none⟩ = some _ := blk_cell (cs := [.int .i64 c.kind, .string c.key, .int .i64 c.old.kind, .float .f64 c.old.num, .string c.old.text, .int .i64 c.val.kind, .float .f64 c.val.num, .string c.val.text]) Kcw3.out rfl
    have c_l : bc < w3.heap.size := (Array.getElem?_eq_some_iff.1 Kcw3.out).1
    go_wp2
    go_ret
    exact ⟨rfl, Ext.below HX.out⟩
set_option maxRecDepth 100000 in
set_option maxHeartbeats 1000000 in
theorem kvExact_right (w : World) (T : Nat → Prop) (hT : ∀ g, T g → g < w.heap.size) (A : Option Addr) (n cc : Nat) (l : List APair) (hC : Prs w T (.slice A n cc) l) (c : ACmd) (key : ByteArray) (hc : c.ok) (h1 : heavyPairs l = false) (h2 : heavyCmd c = false) (h3 : ¬ 2000 < key.size) (hp : pairsB l = true) :
    Calls Try.prog 9 #[.slice A n cc, .agg #[.int .i64 c.kind, .string c.key, .int .i64 c.old.kind, .float .f64 c.old.num, .string c.old.text, .int .i64 c.val.kind, .float .f64 c.val.num, .string c.val.text], .string key] w fun e w' => e = .returned (.bool true) ∧ Below w.heap.size w w' := by
  have d3 : decide ((key.size : Int) > 2000) = false := by simp; omega
  have hlen : l.length ≤ 1000000 := by
    unfold heavyPairs at h1
    rw [Bool.or_eq_false_iff] at h1
    have := h1.1
    simp at this
    omega
  have Hp := Lib.hid hp
  have HT := Lib.hid hT
  clear hp hT
  have HX : Hid (Ext w w) := Lib.hid (Mod.refl _ w)
  have HC := Lib.hid hC
  clear hC
  go_enter Try.func9, Try.ntmps9
  go_wp2_with fail
  obtain ⟨w1, hw1⟩ : ∃ w1, w1 = w.alloc (.cells #[.int .i64 c.kind, .string c.key, .int .i64 c.old.kind, .float .f64 c.old.num, .string c.old.text, .int .i64 c.val.kind, .float .f64 c.val.num, .string c.val.text] 27) := ⟨_, rfl⟩
  obtain ⟨bc, hbc⟩ : ∃ bc, bc = w.heap.size := ⟨_, rfl⟩
  have hzz : w.heap.size = bc := hbc.symm
  have hE : Ext w w1 := by rw [hw1]; exact (Mod.refl _ w).alloc _
  have hKn : w1.heap[bc]? = some (.cells #[.int .i64 c.kind, .string c.key, .int .i64 c.old.kind, .float .f64 c.old.num, .string c.old.text, .int .i64 c.val.kind, .float .f64 c.val.num, .string c.val.text] 27 (0, 0)) := by rw [hw1, ← hzz]; exact heap_alloc_new w _
  have hzn : w1.heap.size = bc + 1 := by rw [hw1, ← hzz]; simp
  rw [← hw1, ← hbc]
  have HXo := HX
  replace HC := Lib.hid (HC.out.ext hE)
  replace HX := Lib.hid (HX.out.ext hE)
  have Kcw1 := Lib.hid hKn
  have hbz : w.heap.size ≤ bc := by have := HXo.out.size; omega
  clear hKn hE hw1 hbc HXo hzz
  have hbc := hbz
  clear hbz
  clear hzn
  refine (hv_pairs2 w1 _ _ l HC.out).mono ?_
  rintro e w2 ⟨rfl, hE⟩
  have Kcw2 := Lib.hid (hE.blk Kcw1.out id)
  replace HC := Lib.hid (HC.out.ext hE)
  replace HX := Lib.hid (HX.out.ext hE)
  clear Kcw1
  rw [h1]
  clear hE
  have c_0 : w2.cell? ⟨bc, 0, none⟩ = some _ := blk_cell (cs := [.int .i64 c.kind, .string c.key, .int .i64 c.old.kind, .float .f64 c.old.num, .string c.old.text, .int .i64 c.val.kind, .float .f64 c.val.num, .string c.val.text]) Kcw2.out rfl
  have c_1 : w2.cell? ⟨bc, 1, none⟩ = some _ := blk_cell (cs := [.int .i64 c.kind, .string c.key, .int .i64 c.old.kind, .float .f64 c.old.num, .string c.old.text, .int .i64 c.val.kind, .float .f64 c.val.num, .string c.val.text]) Kcw2.out rfl
  have c_2 : w2.cell? ⟨bc, 2, none⟩ = some _ := blk_cell (cs := [.int .i64 c.kind, .string c.key, .int .i64 c.old.kind, .float .f64 c.old.num, .string c.old.text, .int .i64 c.val.kind, .float .f64 c.val.num, .string c.val.text]) Kcw2.out rfl
  have c_3 : w2.cell? ⟨bc, 3, none⟩ = some _ := blk_cell (cs := [.int .i64 c.kind, .string c.key, .int .i64 c.old.kind, .float .f64 c.old.num, .string c.old.text, .int .i64 c.val.kind, .float .f64 c.val.num, .string c.val.text]) Kcw2.out rfl
  have c_4 : w2.cell? ⟨bc, 4, none⟩ = some _ := blk_cell (cs := [.int .i64 c.kind, .string c.key, .int .i64 c.old.kind, .float .f64 c.old.num, .string c.old.text, .int .i64 c.val.kind, .float .f64 c.val.num, .string c.val.text]) Kcw2.out rfl
  have c_5 : w2.cell? ⟨bc, 5, none⟩ = some _ := blk_cell (cs := [.int .i64 c.kind, .string c.key, .int .i64 c.old.kind, .float .f64 c.old.num, .string c.old.text, .int .i64 c.val.kind, .float .f64 c.val.num, .string c.val.text]) Kcw2.out rfl
  have c_6 : w2.cell? ⟨bc, 6, none⟩ = some _ := blk_cell (cs := [.int .i64 c.kind, .string c.key, .int .i64 c.old.kind, .float .f64 c.old.num, .string c.old.text, .int .i64 c.val.kind, .float .f64 c.val.num, .string c.val.text]) Kcw2.out rfl
  have c_7 : w2.cell? ⟨bc, 7, none⟩ = some _ := blk_cell (cs := [.int .i64 c.kind, .string c.key, .int .i64 c.old.kind, .float .f64 c.old.num, .string c.old.text, .int .i64 c.val.kind, .float .f64 c.val.num, .string c.val.text]) Kcw2.out rfl
  have c_l : bc < w2.heap.size := (Array.getElem?_eq_some_iff.1 Kcw2.out).1
  go_wp2_with fail
  refine (hv_cmd c w2).mono ?_
  rintro e w3 ⟨rfl, hE⟩
  clear c_0 c_1 c_2 c_3 c_4 c_5 c_6 c_7 c_l
  have Kcw3 := Lib.hid (hE.blk Kcw2.out id)
  replace HC := Lib.hid (HC.out.ext hE)
  replace HX := Lib.hid (HX.out.ext hE)
  clear Kcw2
  rw [h2]
  clear hE
  have c_0 : w3.cell? ⟨bc, 0, none⟩ = some _ := blk_cell (cs := [.int .i64 c.kind, .string c.key, .int .i64 c.old.kind, .float .f64 c.old.num, .string c.old.text, .int .i64 c.val.kind, .float .f64 c.val.num, .string c.val.text]) Kcw3.out rfl
  have c_1 : w3.cell? ⟨bc, 1, none⟩ = some _ := blk_cell (cs := [.int .i64 c.kind, .string c.key, .int .i64 c.old.kind, .float .f64 c.old.num, .string c.old.text, .int .i64 c.val.kind, .float .f64 c.val.num, .string c.val.text]) Kcw3.out rfl
  have c_2 : w3.cell? ⟨bc, 2, none⟩ = some _ := blk_cell (cs := [.int .i64 c.kind, .string c.key, .int .i64 c.old.kind, .float .f64 c.old.num, .string c.old.text, .int .i64 c.val.kind, .float .f64 c.val.num, .string c.val.text]) Kcw3.out rfl
  have c_3 : w3.cell? ⟨bc, 3, none⟩ = some _ := blk_cell (cs := [.int .i64 c.kind, .string c.key, .int .i64 c.old.kind, .float .f64 c.old.num, .string c.old.text, .int .i64 c.val.kind, .float .f64 c.val.num, .string c.val.text]) Kcw3.out rfl
  have c_4 : w3.cell? ⟨bc, 4, none⟩ = some _ := blk_cell (cs := [.int .i64 c.kind, .string c.key, .int .i64 c.old.kind, .float .f64 c.old.num, .string c.old.text, .int .i64 c.val.kind, .float .f64 c.val.num, .string c.val.text]) Kcw3.out rfl
  have c_5 : w3.cell? ⟨bc, 5, none⟩ = some _ := blk_cell (cs := [.int .i64 c.kind, .string c.key, .int .i64 c.old.kind, .float .f64 c.old.num, .string c.old.text, .int .i64 c.val.kind, .float .f64 c.val.num, .string c.val.text]) Kcw3.out rfl
  have c_6 : w3.cell? ⟨bc, 6, none⟩ = some _ := blk_cell (cs := [.int .i64 c.kind, .string c.key, .int .i64 c.old.kind, .float .f64 c.old.num, .string c.old.text, .int .i64 c.val.kind, .float .f64 c.val.num, .string c.val.text]) Kcw3.out rfl
  have c_7 : w3.cell? ⟨bc, 7, none⟩ = some _ := blk_cell (cs := [.int .i64 c.kind, .string c.key, .int .i64 c.old.kind, .float .f64 c.old.num, .string c.old.text, .int .i64 c.val.kind, .float .f64 c.val.num, .string c.val.text]) Kcw3.out rfl
  have c_l : bc < w3.heap.size := (Array.getElem?_eq_some_iff.1 Kcw3.out).1
  clear h1 h2
  go_wp2_with fail
  have hso := HX.out.size
  refine (k_twinPairs w3 _ _ l HC.out hlen).mono ?_
  rintro e w4 ⟨v7, rfl, hN, hE⟩
  clear c_0 c_1 c_2 c_3 c_4 c_5 c_6 c_7 c_l
  have Kcw4 := Lib.hid (hE.blk Kcw3.out id)
  replace HC := Lib.hid (HC.out.ext hE)
  replace HX := Lib.hid (HX.out.ext hE)
  clear Kcw3
  obtain ⟨A7, c7, rfl⟩ := own_form hN.1
  have HN7 := Lib.hid (newP_up hN hso)
  clear hN hso
  clear hE
  have c_0 : w4.cell? ⟨bc, 0, none⟩ = some _ := blk_cell (cs := [.int .i64 c.kind, .string c.key, .int .i64 c.old.kind, .float .f64 c.old.num, .string c.old.text, .int .i64 c.val.kind, .float .f64 c.val.num, .string c.val.text]) Kcw4.out rfl
  have c_1 : w4.cell? ⟨bc, 1, none⟩ = some _ := blk_cell (cs := [.int .i64 c.kind, .string c.key, .int .i64 c.old.kind, .float .f64 c.old.num, .string c.old.text, .int .i64 c.val.kind, .float .f64 c.val.num, .string c.val.text]) Kcw4.out rfl
  have c_2 : w4.cell? ⟨bc, 2, none⟩ = some _ := blk_cell (cs := [.int .i64 c.kind, .string c.key, .int .i64 c.old.kind, .float .f64 c.old.num, .string c.old.text, .int .i64 c.val.kind, .float .f64 c.val.num, .string c.val.text]) Kcw4.out rfl
  have c_3 : w4.cell? ⟨bc, 3, none⟩ = some _ := blk_cell (cs := [.int .i64 c.kind, .string c.key, .int .i64 c.old.kind, .float .f64 c.old.num, .string c.old.text, .int .i64 c.val.kind, .float .f64 c.val.num, .string c.val.text]) Kcw4.out rfl
  have c_4 : w4.cell? ⟨bc, 4, none⟩ = some _ := blk_cell (cs := [.int .i64 c.kind, .string c.key, .int .i64 c.old.kind, .float .f64 c.old.num, .string c.old.text, .int .i64 c.val.kind, .float .f64 c.val.num, .string c.val.text]) Kcw4.out rfl
  have c_5 : w4.cell? ⟨bc, 5, none⟩ = some _ := blk_cell (cs := [.int .i64 c.kind, .string c.key, .int .i64 c.old.kind, .float .f64 c.old.num, .string c.old.text, .int .i64 c.val.kind, .float .f64 c.val.num, .string c.val.text]) Kcw4.out rfl
  have c_6 : w4.cell? ⟨bc, 6, none⟩ = some _ := blk_cell (cs := [.int .i64 c.kind, .string c.key, .int .i64 c.old.kind, .float .f64 c.old.num, .string c.old.text, .int .i64 c.val.kind, .float .f64 c.val.num, .string c.val.text]) Kcw4.out rfl
  have c_7 : w4.cell? ⟨bc, 7, none⟩ = some _ := blk_cell (cs := [.int .i64 c.kind, .string c.key, .int .i64 c.old.kind, .float .f64 c.old.num, .string c.old.text, .int .i64 c.val.kind, .float .f64 c.val.num, .string c.val.text]) Kcw4.out rfl
  have c_l : bc < w4.heap.size := (Array.getElem?_eq_some_iff.1 Kcw4.out).1
  go_wp2_with fail
  clear c_0 c_1 c_2 c_3 c_4 c_5 c_6 c_7 c_l
  have c_0 : w4.cell? ⟨bc, 0, none⟩ = some _ := blk_cell (cs := [.int .i64 c.kind, .string c.key, .int .i64 c.old.kind, .float .f64 c.old.num, .string c.old.text, .int .i64 c.val.kind, .float .f64 c.val.num, .string c.val.text]) Kcw4.out rfl
  have c_1 : w4.cell? ⟨bc, 1, none⟩ = some _ := blk_cell (cs := [.int .i64 c.kind, .string c.key, .int .i64 c.old.kind, .float .f64 c.old.num, .string c.old.text, .int .i64 c.val.kind, .float .f64 c.val.num, .string c.val.text]) Kcw4.out rfl
  have c_2 : w4.cell? ⟨bc, 2, none⟩ = some _ := blk_cell (cs := [.int .i64 c.kind, .string c.key, .int .i64 c.old.kind, .float .f64 c.old.num, .string c.old.text, .int .i64 c.val.kind, .float .f64 c.val.num, .string c.val.text]) Kcw4.out rfl
  have c_3 : w4.cell? ⟨bc, 3, none⟩ = some _ := blk_cell (cs := [.int .i64 c.kind, .string c.key, .int .i64 c.old.kind, .float .f64 c.old.num, .string c.old.text, .int .i64 c.val.kind, .float .f64 c.val.num, .string c.val.text]) Kcw4.out rfl
  have c_4 : w4.cell? ⟨bc, 4, none⟩ = some _ := blk_cell (cs := [.int .i64 c.kind, .string c.key, .int .i64 c.old.kind, .float .f64 c.old.num, .string c.old.text, .int .i64 c.val.kind, .float .f64 c.val.num, .string c.val.text]) Kcw4.out rfl
  have c_5 : w4.cell? ⟨bc, 5, none⟩ = some _ := blk_cell (cs := [.int .i64 c.kind, .string c.key, .int .i64 c.old.kind, .float .f64 c.old.num, .string c.old.text, .int .i64 c.val.kind, .float .f64 c.val.num, .string c.val.text]) Kcw4.out rfl
  have c_6 : w4.cell? ⟨bc, 6, none⟩ = some _ := blk_cell (cs := [.int .i64 c.kind, .string c.key, .int .i64 c.old.kind, .float .f64 c.old.num, .string c.old.text, .int .i64 c.val.kind, .float .f64 c.val.num, .string c.val.text]) Kcw4.out rfl
  have c_7 : w4.cell? ⟨bc, 7, none⟩ = some _ := blk_cell (cs := [.int .i64 c.kind, .string c.key, .int .i64 c.old.kind, .float .f64 c.old.num, .string c.old.text, .int .i64 c.val.kind, .float .f64 c.val.num, .string c.val.text]) Kcw4.out rfl
  have c_l : bc < w4.heap.size := (Array.getElem?_eq_some_iff.1 Kcw4.out).1
  refine wp_region_held_drew (S := fun W' => Ext w4 W') (by kernel_rfl) (Mod.refl _ w4).drew (fun hS => ?_)
  refine takeH (i := 0) (v := ?_) (some 25) rfl rfl (by kernel_rfl) (by kernel_rfl) (by kernel_rfl) (fun _ _ _ h => h) (Or.inl ⟨by kernel_rfl, ?_⟩) hS ?_
  rotate_left
  · rintro W' hW'
    obtain ⟨hbc, hbf⟩ := bcell hW'
    go_simp
    try with_reducible rfl
  try simp only [Act.put, List.setIfInBounds_toArray, List.set_cons_zero, List.set_cons_succ]
  refine takeH (i := 3) (v := ?_) (some 28) rfl rfl (by kernel_rfl) (by kernel_rfl) (by kernel_rfl) (fun _ _ _ h => h) (Or.inl ⟨by kernel_rfl, ?_⟩) hS ?_
  rotate_left
  · rintro W' hW'
    obtain ⟨hbc, hbf⟩ := bcell hW'
    go_simp
    try with_reducible rfl
  try simp only [Act.put, List.setIfInBounds_toArray, List.set_cons_zero, List.set_cons_succ]
  refine wpAnyH_ready (rs := [1]) (by kernel_rfl) (by simp) ?_
  refine AllReadyH.cons rfl (fun K hK => ?_) AllReadyH.nil
  go_simp
  go_wp2_with fail
  refine (kv_check _ _ _ l (HN7.out.prs.ext hS)).mono ?_
  rintro e w5 ⟨rfl, hE⟩
  rw [chkP_yes Hp.out]
  have hX := Mod.ext hS hE
  clear hE hS
  go_simp
  refine hK.out _ _ hX (fun hS => ?_)
  clear hK K hX
  refine takeH (i := 2) (v := ?_) (some 27) rfl rfl (by kernel_rfl) (by kernel_rfl) (by kernel_rfl) (fun _ _ _ h => h) (Or.inl ⟨by kernel_rfl, ?_⟩) hS ?_
  rotate_left
  · rintro W' hW'
    obtain ⟨hbc, hbf⟩ := bcell hW'
    go_simp
    try with_reducible rfl
  try simp only [Act.put, List.setIfInBounds_toArray, List.set_cons_zero, List.set_cons_succ]
  refine wpAnyH_ready (rs := [4]) (by kernel_rfl) (by simp) ?_
  refine AllReadyH.cons rfl (fun K hK => ?_) AllReadyH.nil
  go_simp
  go_wp2_with fail
  refine (r_pairs _ _ _ l (HC.out.ext hS)).mono ?_
  rintro e w6 ⟨rfl, hE⟩
  rw [Hp.out]
  have hX := Mod.ext hS hE
  clear hE hS
  go_simp
  refine hK.out _ _ hX (fun hS => ?_)
  clear hK K hX
  refine takeH (i := 5) (v := ?_) (some 30) rfl rfl (by kernel_rfl) (by kernel_rfl) (by kernel_rfl) (fun _ _ _ h => h) (Or.inl ⟨by kernel_rfl, ?_⟩) hS ?_
  rotate_left
  · rintro W' hW'
    obtain ⟨hbc, hbf⟩ := bcell hW'
    go_simp
    try with_reducible rfl
  try simp only [Act.put, List.setIfInBounds_toArray, List.set_cons_zero, List.set_cons_succ]
  refine takeH (i := 6) (v := ?_) (some 31) rfl rfl (by kernel_rfl) (by kernel_rfl) (by kernel_rfl) (fun _ _ _ h => h) (Or.inl ⟨by kernel_rfl, ?_⟩) hS ?_
  rotate_left
  · rintro W' hW'
    obtain ⟨hbc, hbf⟩ := bcell hW'
    go_simp
    try with_reducible rfl
  try simp only [Act.put, List.setIfInBounds_toArray, List.set_cons_zero, List.set_cons_succ]
  refine takeH (i := 7) (v := ?_) (some 32) rfl rfl (by kernel_rfl) (by kernel_rfl) (by kernel_rfl) (fun _ _ _ h => h) (Or.inl ⟨by kernel_rfl, ?_⟩) hS ?_
  rotate_left
  · rintro W' hW'
    obtain ⟨hbc, hbf⟩ := bcell hW'
    go_simp
    try with_reducible rfl
  try simp only [Act.put, List.setIfInBounds_toArray, List.set_cons_zero, List.set_cons_succ]
  refine takeH (i := 9) (v := ?_) (some 34) rfl rfl (by kernel_rfl) (by kernel_rfl) (by kernel_rfl) (fun _ _ _ h => h) (Or.inl ⟨by kernel_rfl, ?_⟩) hS ?_
  rotate_left
  · rintro W' hW'
    obtain ⟨hbc, hbf⟩ := bcell hW'
    go_simp
    try with_reducible rfl
  try simp only [Act.put, List.setIfInBounds_toArray, List.set_cons_zero, List.set_cons_succ]
  refine wpAnyH_ready (rs := [8]) (by kernel_rfl) (by simp) ?_
  refine AllReadyH.cons rfl (fun K hK => ?_) AllReadyH.nil
  go_simp
  go_wp2_with fail
  refine (kv_right c _).mono ?_
  rintro e w7 ⟨rfl, hE⟩
  have hX := Mod.ext hS hE
  clear hE hS
  go_simp
  refine hK.out _ _ hX (fun hS => ?_)
  clear hK K hX
  refine wpAnyH_ready (rs := [10]) (by kernel_rfl) (by simp) ?_
  refine AllReadyH.cons rfl (fun K hK => ?_) AllReadyH.nil
  go_simp
  go_wp2_with fail
  refine (r_cmd c _).mono ?_
  rintro e w8 ⟨rfl, hE⟩
  have hX := Mod.ext hS hE
  clear hE hS
  go_simp
  refine hK.out _ _ hX (fun hS => ?_)
  clear hK K hX
  refine takeH (i := 11) (v := ?_) (some 36) rfl rfl (by kernel_rfl) (by kernel_rfl) (by kernel_rfl) (fun _ _ _ h => h) (Or.inl ⟨by kernel_rfl, ?_⟩) hS ?_
  rotate_left
  · rintro W' hW'
    obtain ⟨hbc, hbf⟩ := bcell hW'
    go_simp
    try with_reducible rfl
  try simp only [Act.put, List.setIfInBounds_toArray, List.set_cons_zero, List.set_cons_succ]
  refine takeH (i := 12) (v := ?_) (some 37) rfl rfl (by kernel_rfl) (by kernel_rfl) (by kernel_rfl) (fun _ _ _ h => h) (Or.inl ⟨by kernel_rfl, ?_⟩) hS ?_
  rotate_left
  · rintro W' hW'
    obtain ⟨hbc, hbf⟩ := bcell hW'
    go_simp
    try with_reducible rfl
  try simp only [Act.put, List.setIfInBounds_toArray, List.set_cons_zero, List.set_cons_succ]
  refine takeH (i := 13) (v := ?_) (some 38) rfl rfl (by kernel_rfl) (by kernel_rfl) (by kernel_rfl) (fun _ _ _ h => h) (Or.inl ⟨by kernel_rfl, ?_⟩) hS ?_
  rotate_left
  · rintro W' hW'
    obtain ⟨hbc, hbf⟩ := bcell hW'
    go_simp
    try with_reducible rfl
  try simp only [Act.put, List.setIfInBounds_toArray, List.set_cons_zero, List.set_cons_succ]
  refine takeH (i := 14) (v := ?_) (some 39) rfl rfl (by kernel_rfl) (by kernel_rfl) (by kernel_rfl) (fun _ _ _ h => h) (Or.inl ⟨by kernel_rfl, ?_⟩) hS ?_
  rotate_left
  · rintro W' hW'
    obtain ⟨hbc, hbf⟩ := bcell hW'
    go_simp
    try with_reducible rfl
  try simp only [Act.put, List.setIfInBounds_toArray, List.set_cons_zero, List.set_cons_succ]
  refine takeH (i := 15) (v := ?_) (some 40) rfl rfl (by kernel_rfl) (by kernel_rfl) (by kernel_rfl) (fun _ _ _ h => h) (Or.inl ⟨by kernel_rfl, ?_⟩) hS ?_
  rotate_left
  · rintro W' hW'
    obtain ⟨hbc, hbf⟩ := bcell hW'
    go_simp
    try with_reducible rfl
  try simp only [Act.put, List.setIfInBounds_toArray, List.set_cons_zero, List.set_cons_succ]
  refine takeH (i := 17) (v := ?_) (some 42) rfl rfl (by kernel_rfl) (by kernel_rfl) (by kernel_rfl) (fun _ _ _ h => h) (Or.inl ⟨by kernel_rfl, ?_⟩) hS ?_
  rotate_left
  · rintro W' hW'
    obtain ⟨hbc, hbf⟩ := bcell hW'
    go_simp
    try with_reducible rfl
  try simp only [Act.put, List.setIfInBounds_toArray, List.set_cons_zero, List.set_cons_succ]
  refine takeH (i := 18) (v := ?_) (some 43) rfl rfl (by kernel_rfl) (by kernel_rfl) (by kernel_rfl) (fun _ _ _ h => h) (Or.inl ⟨by kernel_rfl, ?_⟩) hS ?_
  rotate_left
  · rintro W' hW'
    obtain ⟨hbc, hbf⟩ := bcell hW'
    go_simp
    try with_reducible rfl
  try simp only [Act.put, List.setIfInBounds_toArray, List.set_cons_zero, List.set_cons_succ]
  refine wpAnyH_ready (rs := [16]) (by kernel_rfl) (by simp) ?_
  refine AllReadyH.cons rfl (fun K hK => ?_) AllReadyH.nil
  go_simp
  go_wp2_with fail
  refine (kv_get _ _ _ l key (HN7.out.prs.ext hS)).mono ?_
  rintro e w9 ⟨rfl, hE⟩
  have hX := Mod.ext hS hE
  clear hE hS
  go_simp
  refine hK.out _ _ hX (fun hS => ?_)
  clear hK K hX
  refine wpAnyH_ready (rs := [19]) (by kernel_rfl) (by simp) ?_
  refine AllReadyH.cons rfl (fun K hK => ?_) AllReadyH.nil
  go_simp
  go_wp2_with fail
  refine (r_get _ _ _ l key (HC.out.ext hS)).mono ?_
  rintro e w10 ⟨rfl, hE⟩
  have hX := Mod.ext hS hE
  clear hE hS
  go_simp
  refine hK.out _ _ hX (fun hS => ?_)
  clear hK K hX
  refine wpAnyH_ready (rs := [20]) (by kernel_rfl) (by simp) ?_
  refine AllReadyH.cons rfl (fun K hK => ?_) AllReadyH.nil
  go_simp
  go_wp2_with fail
  refine (k_value (getP l key) (getP l key) _).mono ?_
  rintro e w11 ⟨rfl, hE⟩
  rw [eqVal_refl]
  have hX := Mod.ext hS hE
  clear hE hS
  go_simp
  refine hK.out _ _ hX (fun hS => ?_)
  clear hK K hX
  refine takeH (i := 21) (v := ?_) (some 46) rfl rfl (by kernel_rfl) (by kernel_rfl) (by kernel_rfl) (fun _ _ _ h => h) (Or.inl ⟨by kernel_rfl, ?_⟩) hS ?_
  rotate_left
  · rintro W' hW'
    obtain ⟨hbc, hbf⟩ := bcell hW'
    go_simp
    try with_reducible rfl
  try simp only [Act.put, List.setIfInBounds_toArray, List.set_cons_zero, List.set_cons_succ]
  refine takeH (i := 22) (v := ?_) (some 47) rfl rfl (by kernel_rfl) (by kernel_rfl) (by kernel_rfl) (fun _ _ _ h => h) (Or.inl ⟨by kernel_rfl, ?_⟩) hS ?_
  rotate_left
  · rintro W' hW'
    obtain ⟨hbc, hbf⟩ := bcell hW'
    go_simp
    try with_reducible rfl
  try simp only [Act.put, List.setIfInBounds_toArray, List.set_cons_zero, List.set_cons_succ]
  refine takeH (i := 23) (v := ?_) (some 48) rfl rfl (by kernel_rfl) (by kernel_rfl) (by kernel_rfl) (fun _ _ _ h => h) (Or.inl ⟨by kernel_rfl, ?_⟩) hS ?_
  rotate_left
  · rintro W' hW'
    obtain ⟨hbc, hbf⟩ := bcell hW'
    go_simp
    try with_reducible rfl
  try simp only [Act.put, List.setIfInBounds_toArray, List.set_cons_zero, List.set_cons_succ]
  refine takeH (i := 24) (v := ?_) (some 49) rfl rfl (by kernel_rfl) (by kernel_rfl) (by kernel_rfl) (fun _ _ _ h => h) (Or.inl ⟨by kernel_rfl, ?_⟩) hS ?_
  rotate_left
  · rintro W' hW'
    obtain ⟨hbc, hbf⟩ := bcell hW'
    go_simp
    try with_reducible rfl
  try simp only [Act.put, List.setIfInBounds_toArray, List.set_cons_zero, List.set_cons_succ]
  refine takeH (i := 26) (v := ?_) (some 51) rfl rfl (by kernel_rfl) (by kernel_rfl) (by kernel_rfl) (fun _ _ _ h => h) (Or.inl ⟨by kernel_rfl, ?_⟩) hS ?_
  rotate_left
  · rintro W' hW'
    obtain ⟨hbc, hbf⟩ := bcell hW'
    go_simp
    try with_reducible rfl
  try simp only [Act.put, List.setIfInBounds_toArray, List.set_cons_zero, List.set_cons_succ]
  refine takeH (i := 27) (v := ?_) (some 52) rfl rfl (by kernel_rfl) (by kernel_rfl) (by kernel_rfl) (fun _ _ _ h => h) (Or.inl ⟨by kernel_rfl, ?_⟩) hS ?_
  rotate_left
  · rintro W' hW'
    obtain ⟨hbc, hbf⟩ := bcell hW'
    go_simp
    try with_reducible rfl
  try simp only [Act.put, List.setIfInBounds_toArray, List.set_cons_zero, List.set_cons_succ]
  refine takeH (i := 28) (v := ?_) (some 53) rfl rfl (by kernel_rfl) (by kernel_rfl) (by kernel_rfl) (fun _ _ _ h => h) (Or.inl ⟨by kernel_rfl, ?_⟩) hS ?_
  rotate_left
  · rintro W' hW'
    obtain ⟨hbc, hbf⟩ := bcell hW'
    go_simp
    try with_reducible rfl
  try simp only [Act.put, List.setIfInBounds_toArray, List.set_cons_zero, List.set_cons_succ]
  refine wpAnyH_ready (rs := [25]) (by kernel_rfl) (by simp) ?_
  refine AllReadyH.cons rfl (fun K hK => ?_) AllReadyH.nil
  go_simp
  go_wp2_with fail
  refine (kv_changes c _).mono ?_
  rintro e w12 ⟨rfl, hE⟩
  have hX := Mod.ext hS hE
  clear hE hS
  go_simp
  refine hK.out _ _ hX (fun hS => ?_)
  clear hK K hX
  refine takeH (i := 29) (v := ?_) (some 54) rfl rfl (by kernel_rfl) (by kernel_rfl) (by kernel_rfl) (fun _ _ _ h => h) (Or.inl ⟨by kernel_rfl, ?_⟩) hS ?_
  rotate_left
  · rintro W' hW'
    obtain ⟨hbc, hbf⟩ := bcell hW'
    go_simp
    try with_reducible rfl
  try simp only [Act.put, List.setIfInBounds_toArray, List.set_cons_zero, List.set_cons_succ]
  refine takeH (i := 30) (v := ?_) (some 55) rfl rfl (by kernel_rfl) (by kernel_rfl) (by kernel_rfl) (fun _ _ _ h => h) (Or.inl ⟨by kernel_rfl, ?_⟩) hS ?_
  rotate_left
  · rintro W' hW'
    obtain ⟨hbc, hbf⟩ := bcell hW'
    go_simp
    try with_reducible rfl
  try simp only [Act.put, List.setIfInBounds_toArray, List.set_cons_zero, List.set_cons_succ]
  refine wpAnyH_done (by kernel_rfl) ?_ _
  have hE := hS
  clear hS
  clear c_0 c_1 c_2 c_3 c_4 c_5 c_6 c_7 c_l
  have Kcw12 := Lib.hid (hE.blk Kcw4.out id)
  replace HC := Lib.hid (HC.out.ext hE)
  replace HN7 := Lib.hid (newP_mod HN7.out hE (fun _ _ => id))
  replace HX := Lib.hid (HX.out.ext hE)
  clear Kcw4
  clear hE
  have c_0 : w12.cell? ⟨bc, 0, none⟩ = some _ := blk_cell (cs := [.int .i64 c.kind, .string c.key, .int .i64 c.old.kind, .float .f64 c.old.num, .string c.old.text, .int .i64 c.val.kind, .float .f64 c.val.num, .string c.val.text]) Kcw12.out rfl
  have c_1 : w12.cell? ⟨bc, 1, none⟩ = some _ := blk_cell (cs := [.int .i64 c.kind, .string c.key, .int .i64 c.old.kind, .float .f64 c.old.num, .string c.old.text, .int .i64 c.val.kind, .float .f64 c.val.num, .string c.val.text]) Kcw12.out rfl
  have c_2 : w12.cell? ⟨bc, 2, none⟩ = some _ := blk_cell (cs := [.int .i64 c.kind, .string c.key, .int .i64 c.old.kind, .float .f64 c.old.num, .string c.old.text, .int .i64 c.val.kind, .float .f64 c.val.num, .string c.val.text]) Kcw12.out rfl
  have c_3 : w12.cell? ⟨bc, 3, none⟩ = some _ := blk_cell (cs := [.int .i64 c.kind, .string c.key, .int .i64 c.old.kind, .float .f64 c.old.num, .string c.old.text, .int .i64 c.val.kind, .float .f64 c.val.num, .string c.val.text]) Kcw12.out rfl
  have c_4 : w12.cell? ⟨bc, 4, none⟩ = some _ := blk_cell (cs := [.int .i64 c.kind, .string c.key, .int .i64 c.old.kind, .float .f64 c.old.num, .string c.old.text, .int .i64 c.val.kind, .float .f64 c.val.num, .string c.val.text]) Kcw12.out rfl
  have c_5 : w12.cell? ⟨bc, 5, none⟩ = some _ := blk_cell (cs := [.int .i64 c.kind, .string c.key, .int .i64 c.old.kind, .float .f64 c.old.num, .string c.old.text, .int .i64 c.val.kind, .float .f64 c.val.num, .string c.val.text]) Kcw12.out rfl
  have c_6 : w12.cell? ⟨bc, 6, none⟩ = some _ := blk_cell (cs := [.int .i64 c.kind, .string c.key, .int .i64 c.old.kind, .float .f64 c.old.num, .string c.old.text, .int .i64 c.val.kind, .float .f64 c.val.num, .string c.val.text]) Kcw12.out rfl
  have c_7 : w12.cell? ⟨bc, 7, none⟩ = some _ := blk_cell (cs := [.int .i64 c.kind, .string c.key, .int .i64 c.old.kind, .float .f64 c.old.num, .string c.old.text, .int .i64 c.val.kind, .float .f64 c.val.num, .string c.val.text]) Kcw12.out rfl
  have c_l : bc < w12.heap.size := (Array.getElem?_eq_some_iff.1 Kcw12.out).1
  go_wp2_with fail
  have hso := HX.out.size
  have hlo := HN7.out.1.lt
  rcases hr : doP l c with ⟨L, r⟩
  refine (kv_Do_at w12 _ _ l c HN7.out.prs hlen hc.2.2.2 hr).mono ?_
  rintro e w13 ⟨v1, rfl, hN, hE⟩
  clear c_0 c_1 c_2 c_3 c_4 c_5 c_6 c_7 c_l
  have Kcw13 := Lib.hid (hE.blk Kcw12.out id)
  replace HC := Lib.hid (HC.out.ext hE)
  replace HN7 := Lib.hid (newP_mod HN7.out hE (fun _ _ => id))
  replace HX := Lib.hid (HX.out.ext hE)
  clear Kcw12
  obtain ⟨A1, c1, rfl⟩ := own_form hN.1
  have Hfar : Hid (∀ g, (Value.slice A1 L.length c1).ownBlock = some g → (∀ h, (Value.slice A7 l.length c7).ownBlock = some h → h < g) ∧ w.heap.size ≤ g) := Lib.hid (fun g hg => by
    have h1 := hN.2.2 g hg
    exact ⟨fun h hh => by have := (hlo h hh).2; omega, by omega⟩)
  have HN1 := Lib.hid (newP_up hN hso)
  have HR := Lib.hid hr
  clear hN hso hlo hr
  clear hE
  have c_0 : w13.cell? ⟨bc, 0, none⟩ = some _ := blk_cell (cs := [.int .i64 c.kind, .string c.key, .int .i64 c.old.kind, .float .f64 c.old.num, .string c.old.text, .int .i64 c.val.kind, .float .f64 c.val.num, .string c.val.text]) Kcw13.out rfl
  have c_1 : w13.cell? ⟨bc, 1, none⟩ = some _ := blk_cell (cs := [.int .i64 c.kind, .string c.key, .int .i64 c.old.kind, .float .f64 c.old.num, .string c.old.text, .int .i64 c.val.kind, .float .f64 c.val.num, .string c.val.text]) Kcw13.out rfl
  have c_2 : w13.cell? ⟨bc, 2, none⟩ = some _ := blk_cell (cs := [.int .i64 c.kind, .string c.key, .int .i64 c.old.kind, .float .f64 c.old.num, .string c.old.text, .int .i64 c.val.kind, .float .f64 c.val.num, .string c.val.text]) Kcw13.out rfl
  have c_3 : w13.cell? ⟨bc, 3, none⟩ = some _ := blk_cell (cs := [.int .i64 c.kind, .string c.key, .int .i64 c.old.kind, .float .f64 c.old.num, .string c.old.text, .int .i64 c.val.kind, .float .f64 c.val.num, .string c.val.text]) Kcw13.out rfl
  have c_4 : w13.cell? ⟨bc, 4, none⟩ = some _ := blk_cell (cs := [.int .i64 c.kind, .string c.key, .int .i64 c.old.kind, .float .f64 c.old.num, .string c.old.text, .int .i64 c.val.kind, .float .f64 c.val.num, .string c.val.text]) Kcw13.out rfl
  have c_5 : w13.cell? ⟨bc, 5, none⟩ = some _ := blk_cell (cs := [.int .i64 c.kind, .string c.key, .int .i64 c.old.kind, .float .f64 c.old.num, .string c.old.text, .int .i64 c.val.kind, .float .f64 c.val.num, .string c.val.text]) Kcw13.out rfl
  have c_6 : w13.cell? ⟨bc, 6, none⟩ = some _ := blk_cell (cs := [.int .i64 c.kind, .string c.key, .int .i64 c.old.kind, .float .f64 c.old.num, .string c.old.text, .int .i64 c.val.kind, .float .f64 c.val.num, .string c.val.text]) Kcw13.out rfl
  have c_7 : w13.cell? ⟨bc, 7, none⟩ = some _ := blk_cell (cs := [.int .i64 c.kind, .string c.key, .int .i64 c.old.kind, .float .f64 c.old.num, .string c.old.text, .int .i64 c.val.kind, .float .f64 c.val.num, .string c.val.text]) Kcw13.out rfl
  have c_l : bc < w13.heap.size := (Array.getElem?_eq_some_iff.1 Kcw13.out).1
  go_wp2_with fail
  obtain ⟨w14, hw14⟩ : ∃ w14, w14 = w13.alloc (.cells #[.int .i64 r.code, .int .i64 r.val.kind, .float .f64 r.val.num, .string r.val.text] 33) := ⟨_, rfl⟩
  obtain ⟨br, hbr⟩ : ∃ br, br = w13.heap.size := ⟨_, rfl⟩
  have hzz : w13.heap.size = br := hbr.symm
  have hE : Ext w13 w14 := by rw [hw14]; exact (Mod.refl _ w13).alloc _
  have hKn : w14.heap[br]? = some (.cells #[.int .i64 r.code, .int .i64 r.val.kind, .float .f64 r.val.num, .string r.val.text] 33 (0, 0)) := by rw [hw14, ← hzz]; exact heap_alloc_new w13 _
  have hzn : w14.heap.size = br + 1 := by rw [hw14, ← hzz]; simp
  rw [← hw14, ← hbr]
  clear c_0 c_1 c_2 c_3 c_4 c_5 c_6 c_7 c_l
  have HXo := HX
  have Kcw14 := Lib.hid (hE.blk Kcw13.out id)
  replace HC := Lib.hid (HC.out.ext hE)
  replace HN7 := Lib.hid (newP_mod HN7.out hE (fun _ _ => id))
  replace HN1 := Lib.hid (newP_mod HN1.out hE (fun _ _ => id))
  replace HX := Lib.hid (HX.out.ext hE)
  clear Kcw13
  have Krw14 := Lib.hid hKn
  have hbz : w.heap.size ≤ br := by have := HXo.out.size; omega
  clear hKn hE hw14 hbr HXo hzz
  have hbr := hbz
  clear hbz
  clear hzn
  have hso := HX.out.size
  refine (r_do_at w14 _ _ l c HC.out hlen hc.2.2.2 HR.out).mono ?_
  rintro e w15 ⟨v2, rfl, hN, hE⟩
  have Kcw15 := Lib.hid (hE.blk Kcw14.out id)
  have Krw15 := Lib.hid (hE.blk Krw14.out id)
  replace HC := Lib.hid (HC.out.ext hE)
  replace HN7 := Lib.hid (newP_mod HN7.out hE (fun _ _ => id))
  replace HN1 := Lib.hid (newP_mod HN1.out hE (fun _ _ => id))
  replace HX := Lib.hid (HX.out.ext hE)
  clear Kcw14
  clear Krw14
  obtain ⟨A2, c2, rfl⟩ := own_form hN.1
  have HN2 := Lib.hid (newP_up hN hso)
  clear hN hso
  clear hE
  have c_0 : w15.cell? ⟨bc, 0, none⟩ = some _ := blk_cell (cs := [.int .i64 c.kind, .string c.key, .int .i64 c.old.kind, .float .f64 c.old.num, .string c.old.text, .int .i64 c.val.kind, .float .f64 c.val.num, .string c.val.text]) Kcw15.out rfl
  have c_1 : w15.cell? ⟨bc, 1, none⟩ = some _ := blk_cell (cs := [.int .i64 c.kind, .string c.key, .int .i64 c.old.kind, .float .f64 c.old.num, .string c.old.text, .int .i64 c.val.kind, .float .f64 c.val.num, .string c.val.text]) Kcw15.out rfl
  have c_2 : w15.cell? ⟨bc, 2, none⟩ = some _ := blk_cell (cs := [.int .i64 c.kind, .string c.key, .int .i64 c.old.kind, .float .f64 c.old.num, .string c.old.text, .int .i64 c.val.kind, .float .f64 c.val.num, .string c.val.text]) Kcw15.out rfl
  have c_3 : w15.cell? ⟨bc, 3, none⟩ = some _ := blk_cell (cs := [.int .i64 c.kind, .string c.key, .int .i64 c.old.kind, .float .f64 c.old.num, .string c.old.text, .int .i64 c.val.kind, .float .f64 c.val.num, .string c.val.text]) Kcw15.out rfl
  have c_4 : w15.cell? ⟨bc, 4, none⟩ = some _ := blk_cell (cs := [.int .i64 c.kind, .string c.key, .int .i64 c.old.kind, .float .f64 c.old.num, .string c.old.text, .int .i64 c.val.kind, .float .f64 c.val.num, .string c.val.text]) Kcw15.out rfl
  have c_5 : w15.cell? ⟨bc, 5, none⟩ = some _ := blk_cell (cs := [.int .i64 c.kind, .string c.key, .int .i64 c.old.kind, .float .f64 c.old.num, .string c.old.text, .int .i64 c.val.kind, .float .f64 c.val.num, .string c.val.text]) Kcw15.out rfl
  have c_6 : w15.cell? ⟨bc, 6, none⟩ = some _ := blk_cell (cs := [.int .i64 c.kind, .string c.key, .int .i64 c.old.kind, .float .f64 c.old.num, .string c.old.text, .int .i64 c.val.kind, .float .f64 c.val.num, .string c.val.text]) Kcw15.out rfl
  have c_7 : w15.cell? ⟨bc, 7, none⟩ = some _ := blk_cell (cs := [.int .i64 c.kind, .string c.key, .int .i64 c.old.kind, .float .f64 c.old.num, .string c.old.text, .int .i64 c.val.kind, .float .f64 c.val.num, .string c.val.text]) Kcw15.out rfl
  have c_l : bc < w15.heap.size := (Array.getElem?_eq_some_iff.1 Kcw15.out).1
  have r_0 : w15.cell? ⟨br, 0, none⟩ = some _ := blk_cell (cs := [.int .i64 r.code, .int .i64 r.val.kind, .float .f64 r.val.num, .string r.val.text]) Krw15.out rfl
  have r_1 : w15.cell? ⟨br, 1, none⟩ = some _ := blk_cell (cs := [.int .i64 r.code, .int .i64 r.val.kind, .float .f64 r.val.num, .string r.val.text]) Krw15.out rfl
  have r_2 : w15.cell? ⟨br, 2, none⟩ = some _ := blk_cell (cs := [.int .i64 r.code, .int .i64 r.val.kind, .float .f64 r.val.num, .string r.val.text]) Krw15.out rfl
  have r_3 : w15.cell? ⟨br, 3, none⟩ = some _ := blk_cell (cs := [.int .i64 r.code, .int .i64 r.val.kind, .float .f64 r.val.num, .string r.val.text]) Krw15.out rfl
  have r_l : br < w15.heap.size := (Array.getElem?_eq_some_iff.1 Krw15.out).1
  go_wp2_with fail
  obtain ⟨w16, hw16⟩ : ∃ w16, w16 = w15.alloc (.cells #[.int .i64 r.code, .int .i64 r.val.kind, .float .f64 r.val.num, .string r.val.text] 33) := ⟨_, rfl⟩
  obtain ⟨bs, hbs⟩ : ∃ bs, bs = w15.heap.size := ⟨_, rfl⟩
  have hzz : w15.heap.size = bs := hbs.symm
  have hE : Ext w15 w16 := by rw [hw16]; exact (Mod.refl _ w15).alloc _
  have hKn : w16.heap[bs]? = some (.cells #[.int .i64 r.code, .int .i64 r.val.kind, .float .f64 r.val.num, .string r.val.text] 33 (0, 0)) := by rw [hw16, ← hzz]; exact heap_alloc_new w15 _
  have hzn : w16.heap.size = bs + 1 := by rw [hw16, ← hzz]; simp
  rw [← hw16, ← hbs]
  clear c_0 c_1 c_2 c_3 c_4 c_5 c_6 c_7 c_l r_0 r_1 r_2 r_3 r_l
  have HXo := HX
  have Kcw16 := Lib.hid (hE.blk Kcw15.out id)
  have Krw16 := Lib.hid (hE.blk Krw15.out id)
  replace HC := Lib.hid (HC.out.ext hE)
  replace HN7 := Lib.hid (newP_mod HN7.out hE (fun _ _ => id))
  replace HN1 := Lib.hid (newP_mod HN1.out hE (fun _ _ => id))
  replace HN2 := Lib.hid (newP_mod HN2.out hE (fun _ _ => id))
  replace HX := Lib.hid (HX.out.ext hE)
  clear Kcw15
  clear Krw15
  have Ksw16 := Lib.hid hKn
  have hbz : w.heap.size ≤ bs := by have := HXo.out.size; omega
  clear hKn hE hw16 hbs HXo hzz
  have hbs := hbz
  clear hbz
  clear hzn
  refine (k_pairs w16 _ _ _ _ L L HN1.out.prs HN2.out.prs).mono ?_
  rintro e w17 ⟨rfl, hE⟩
  have Kcw17 := Lib.hid (hE.blk Kcw16.out id)
  have Krw17 := Lib.hid (hE.blk Krw16.out id)
  have Ksw17 := Lib.hid (hE.blk Ksw16.out id)
  replace HC := Lib.hid (HC.out.ext hE)
  replace HN7 := Lib.hid (newP_mod HN7.out hE (fun _ _ => id))
  replace HN1 := Lib.hid (newP_mod HN1.out hE (fun _ _ => id))
  replace HN2 := Lib.hid (newP_mod HN2.out hE (fun _ _ => id))
  replace HX := Lib.hid (HX.out.ext hE)
  clear Kcw16
  clear Krw16
  clear Ksw16
  rw [eqPrs_refl]
  clear hE
  have c_0 : w17.cell? ⟨bc, 0, none⟩ = some _ := blk_cell (cs := [.int .i64 c.kind, .string c.key, .int .i64 c.old.kind, .float .f64 c.old.num, .string c.old.text, .int .i64 c.val.kind, .float .f64 c.val.num, .string c.val.text]) Kcw17.out rfl
  have c_1 : w17.cell? ⟨bc, 1, none⟩ = some _ := blk_cell (cs := [.int .i64 c.kind, .string c.key, .int .i64 c.old.kind, .float .f64 c.old.num, .string c.old.text, .int .i64 c.val.kind, .float .f64 c.val.num, .string c.val.text]) Kcw17.out rfl
  have c_2 : w17.cell? ⟨bc, 2, none⟩ = some _ := blk_cell (cs := [.int .i64 c.kind, .string c.key, .int .i64 c.old.kind, .float .f64 c.old.num, .string c.old.text, .int .i64 c.val.kind, .float .f64 c.val.num, .string c.val.text]) Kcw17.out rfl
  have c_3 : w17.cell? ⟨bc, 3, none⟩ = some _ := blk_cell (cs := [.int .i64 c.kind, .string c.key, .int .i64 c.old.kind, .float .f64 c.old.num, .string c.old.text, .int .i64 c.val.kind, .float .f64 c.val.num, .string c.val.text]) Kcw17.out rfl
  have c_4 : w17.cell? ⟨bc, 4, none⟩ = some _ := blk_cell (cs := [.int .i64 c.kind, .string c.key, .int .i64 c.old.kind, .float .f64 c.old.num, .string c.old.text, .int .i64 c.val.kind, .float .f64 c.val.num, .string c.val.text]) Kcw17.out rfl
  have c_5 : w17.cell? ⟨bc, 5, none⟩ = some _ := blk_cell (cs := [.int .i64 c.kind, .string c.key, .int .i64 c.old.kind, .float .f64 c.old.num, .string c.old.text, .int .i64 c.val.kind, .float .f64 c.val.num, .string c.val.text]) Kcw17.out rfl
  have c_6 : w17.cell? ⟨bc, 6, none⟩ = some _ := blk_cell (cs := [.int .i64 c.kind, .string c.key, .int .i64 c.old.kind, .float .f64 c.old.num, .string c.old.text, .int .i64 c.val.kind, .float .f64 c.val.num, .string c.val.text]) Kcw17.out rfl
  have c_7 : w17.cell? ⟨bc, 7, none⟩ = some _ := blk_cell (cs := [.int .i64 c.kind, .string c.key, .int .i64 c.old.kind, .float .f64 c.old.num, .string c.old.text, .int .i64 c.val.kind, .float .f64 c.val.num, .string c.val.text]) Kcw17.out rfl
  have c_l : bc < w17.heap.size := (Array.getElem?_eq_some_iff.1 Kcw17.out).1
  have r_0 : w17.cell? ⟨br, 0, none⟩ = some _ := blk_cell (cs := [.int .i64 r.code, .int .i64 r.val.kind, .float .f64 r.val.num, .string r.val.text]) Krw17.out rfl
  have r_1 : w17.cell? ⟨br, 1, none⟩ = some _ := blk_cell (cs := [.int .i64 r.code, .int .i64 r.val.kind, .float .f64 r.val.num, .string r.val.text]) Krw17.out rfl
  have r_2 : w17.cell? ⟨br, 2, none⟩ = some _ := blk_cell (cs := [.int .i64 r.code, .int .i64 r.val.kind, .float .f64 r.val.num, .string r.val.text]) Krw17.out rfl
  have r_3 : w17.cell? ⟨br, 3, none⟩ = some _ := blk_cell (cs := [.int .i64 r.code, .int .i64 r.val.kind, .float .f64 r.val.num, .string r.val.text]) Krw17.out rfl
  have r_l : br < w17.heap.size := (Array.getElem?_eq_some_iff.1 Krw17.out).1
  have s_0 : w17.cell? ⟨bs, 0, none⟩ = some _ := blk_cell (cs := [.int .i64 r.code, .int .i64 r.val.kind, .float .f64 r.val.num, .string r.val.text]) Ksw17.out rfl
  have s_1 : w17.cell? ⟨bs, 1, none⟩ = some _ := blk_cell (cs := [.int .i64 r.code, .int .i64 r.val.kind, .float .f64 r.val.num, .string r.val.text]) Ksw17.out rfl
  have s_2 : w17.cell? ⟨bs, 2, none⟩ = some _ := blk_cell (cs := [.int .i64 r.code, .int .i64 r.val.kind, .float .f64 r.val.num, .string r.val.text]) Ksw17.out rfl
  have s_3 : w17.cell? ⟨bs, 3, none⟩ = some _ := blk_cell (cs := [.int .i64 r.code, .int .i64 r.val.kind, .float .f64 r.val.num, .string r.val.text]) Ksw17.out rfl
  have s_l : bs < w17.heap.size := (Array.getElem?_eq_some_iff.1 Ksw17.out).1
  go_wp2_with fail
  refine (k_reply r r w17).mono ?_
  rintro e w18 ⟨rfl, hE⟩
  clear c_0 c_1 c_2 c_3 c_4 c_5 c_6 c_7 c_l r_0 r_1 r_2 r_3 r_l s_0 s_1 s_2 s_3 s_l
  have Kcw18 := Lib.hid (hE.blk Kcw17.out id)
  have Krw18 := Lib.hid (hE.blk Krw17.out id)
  have Ksw18 := Lib.hid (hE.blk Ksw17.out id)
  replace HC := Lib.hid (HC.out.ext hE)
  replace HN7 := Lib.hid (newP_mod HN7.out hE (fun _ _ => id))
  replace HN1 := Lib.hid (newP_mod HN1.out hE (fun _ _ => id))
  replace HN2 := Lib.hid (newP_mod HN2.out hE (fun _ _ => id))
  replace HX := Lib.hid (HX.out.ext hE)
  clear Kcw17
  clear Krw17
  clear Ksw17
  rw [eqReply_refl]
  clear hE
  have c_0 : w18.cell? ⟨bc, 0, none⟩ = some _ := blk_cell (cs := [.int .i64 c.kind, .string c.key, .int .i64 c.old.kind, .float .f64 c.old.num, .string c.old.text, .int .i64 c.val.kind, .float .f64 c.val.num, .string c.val.text]) Kcw18.out rfl
  have c_1 : w18.cell? ⟨bc, 1, none⟩ = some _ := blk_cell (cs := [.int .i64 c.kind, .string c.key, .int .i64 c.old.kind, .float .f64 c.old.num, .string c.old.text, .int .i64 c.val.kind, .float .f64 c.val.num, .string c.val.text]) Kcw18.out rfl
  have c_2 : w18.cell? ⟨bc, 2, none⟩ = some _ := blk_cell (cs := [.int .i64 c.kind, .string c.key, .int .i64 c.old.kind, .float .f64 c.old.num, .string c.old.text, .int .i64 c.val.kind, .float .f64 c.val.num, .string c.val.text]) Kcw18.out rfl
  have c_3 : w18.cell? ⟨bc, 3, none⟩ = some _ := blk_cell (cs := [.int .i64 c.kind, .string c.key, .int .i64 c.old.kind, .float .f64 c.old.num, .string c.old.text, .int .i64 c.val.kind, .float .f64 c.val.num, .string c.val.text]) Kcw18.out rfl
  have c_4 : w18.cell? ⟨bc, 4, none⟩ = some _ := blk_cell (cs := [.int .i64 c.kind, .string c.key, .int .i64 c.old.kind, .float .f64 c.old.num, .string c.old.text, .int .i64 c.val.kind, .float .f64 c.val.num, .string c.val.text]) Kcw18.out rfl
  have c_5 : w18.cell? ⟨bc, 5, none⟩ = some _ := blk_cell (cs := [.int .i64 c.kind, .string c.key, .int .i64 c.old.kind, .float .f64 c.old.num, .string c.old.text, .int .i64 c.val.kind, .float .f64 c.val.num, .string c.val.text]) Kcw18.out rfl
  have c_6 : w18.cell? ⟨bc, 6, none⟩ = some _ := blk_cell (cs := [.int .i64 c.kind, .string c.key, .int .i64 c.old.kind, .float .f64 c.old.num, .string c.old.text, .int .i64 c.val.kind, .float .f64 c.val.num, .string c.val.text]) Kcw18.out rfl
  have c_7 : w18.cell? ⟨bc, 7, none⟩ = some _ := blk_cell (cs := [.int .i64 c.kind, .string c.key, .int .i64 c.old.kind, .float .f64 c.old.num, .string c.old.text, .int .i64 c.val.kind, .float .f64 c.val.num, .string c.val.text]) Kcw18.out rfl
  have c_l : bc < w18.heap.size := (Array.getElem?_eq_some_iff.1 Kcw18.out).1
  have r_0 : w18.cell? ⟨br, 0, none⟩ = some _ := blk_cell (cs := [.int .i64 r.code, .int .i64 r.val.kind, .float .f64 r.val.num, .string r.val.text]) Krw18.out rfl
  have r_1 : w18.cell? ⟨br, 1, none⟩ = some _ := blk_cell (cs := [.int .i64 r.code, .int .i64 r.val.kind, .float .f64 r.val.num, .string r.val.text]) Krw18.out rfl
  have r_2 : w18.cell? ⟨br, 2, none⟩ = some _ := blk_cell (cs := [.int .i64 r.code, .int .i64 r.val.kind, .float .f64 r.val.num, .string r.val.text]) Krw18.out rfl
  have r_3 : w18.cell? ⟨br, 3, none⟩ = some _ := blk_cell (cs := [.int .i64 r.code, .int .i64 r.val.kind, .float .f64 r.val.num, .string r.val.text]) Krw18.out rfl
  have r_l : br < w18.heap.size := (Array.getElem?_eq_some_iff.1 Krw18.out).1
  have s_0 : w18.cell? ⟨bs, 0, none⟩ = some _ := blk_cell (cs := [.int .i64 r.code, .int .i64 r.val.kind, .float .f64 r.val.num, .string r.val.text]) Ksw18.out rfl
  have s_1 : w18.cell? ⟨bs, 1, none⟩ = some _ := blk_cell (cs := [.int .i64 r.code, .int .i64 r.val.kind, .float .f64 r.val.num, .string r.val.text]) Ksw18.out rfl
  have s_2 : w18.cell? ⟨bs, 2, none⟩ = some _ := blk_cell (cs := [.int .i64 r.code, .int .i64 r.val.kind, .float .f64 r.val.num, .string r.val.text]) Ksw18.out rfl
  have s_3 : w18.cell? ⟨bs, 3, none⟩ = some _ := blk_cell (cs := [.int .i64 r.code, .int .i64 r.val.kind, .float .f64 r.val.num, .string r.val.text]) Ksw18.out rfl
  have s_l : bs < w18.heap.size := (Array.getElem?_eq_some_iff.1 Ksw18.out).1
  go_wp2_with fail
  clear c_0 c_1 c_2 c_3 c_4 c_5 c_6 c_7 c_l r_0 r_1 r_2 r_3 r_l s_0 s_1 s_2 s_3 s_l
  refine (k_spoil w18 _ L ⟨HN1.out.1, HN1.out.2.1⟩).mono ?_
  rintro e w19 ⟨rfl, hM⟩
  replace HN7 := Lib.hid (newP_mod HN7.out hM (fun g hg e => by have := (Hfar.out g e).1 g hg; omega))
  replace HC := Lib.hid (HC.out.mod hM (fun g hg e => by have := (Hfar.out g e).2; have := HT.out g hg; omega))
  replace HX : Hid (Ext w w19) := Lib.hid (Mod.toExt ((Ext.mod HX.out (Since w.heap.size)).trans hM (fun g _ e => (Hfar.out g e).2)))
  clear hM HN1 HN2
  go_wp2_with fail
  refine (k_pairs w19 _ _ _ _ l l HN7.out.prs HC.out).mono ?_
  rintro e w20 ⟨rfl, hE⟩
  replace HC := Lib.hid (HC.out.ext hE)
  replace HN7 := Lib.hid (newP_mod HN7.out hE (fun _ _ => id))
  replace HX := Lib.hid (HX.out.ext hE)
  rw [eqPrs_refl]
  clear hE
  go_wp2_with fail
  refine (r_pairs w20 _ _ l HC.out).mono ?_
  rintro e w21 ⟨rfl, hE⟩
  replace HC := Lib.hid (HC.out.ext hE)
  replace HN7 := Lib.hid (newP_mod HN7.out hE (fun _ _ => id))
  replace HX := Lib.hid (HX.out.ext hE)
  rw [Hp.out]
  clear hE
  go_wp2_with fail
  refine (l_wakes w21).mono ?_
  rintro e w22 ⟨rfl, hE⟩
  replace HC := Lib.hid (HC.out.ext hE)
  replace HN7 := Lib.hid (newP_mod HN7.out hE (fun _ _ => id))
  replace HX := Lib.hid (HX.out.ext hE)
  clear hE
  go_wp2
  go_ret
  exact ⟨rfl, Ext.below HX.out⟩
set_option maxRecDepth 100000 in
set_option maxHeartbeats 1000000 in
theorem kvExact_wrong (w : World) (T : Nat → Prop) (hT : ∀ g, T g → g < w.heap.size) (A : Option Addr) (n cc : Nat) (l : List APair) (hC : Prs w T (.slice A n cc) l) (c : ACmd) (key : ByteArray) (hc : c.ok) (h1 : heavyPairs l = false) (h2 : heavyCmd c = false) (h3 : ¬ 2000 < key.size) (hp : pairsB l = false) :
    Calls Try.prog 9 #[.slice A n cc, .agg #[.int .i64 c.kind, .string c.key, .int .i64 c.old.kind, .float .f64 c.old.num, .string c.old.text, .int .i64 c.val.kind, .float .f64 c.val.num, .string c.val.text], .string key] w fun e w' => e = .returned (.bool true) ∧ Below w.heap.size w w' := by
  have d3 : decide ((key.size : Int) > 2000) = false := by simp; omega
  have hlen : l.length ≤ 1000000 := by
    unfold heavyPairs at h1
    rw [Bool.or_eq_false_iff] at h1
    have := h1.1
    simp at this
    omega
  have Hp := Lib.hid hp
  have HT := Lib.hid hT
  clear hp hT
  have HX : Hid (Ext w w) := Lib.hid (Mod.refl _ w)
  have HC := Lib.hid hC
  clear hC
  go_enter Try.func9, Try.ntmps9
  go_wp2_with fail
  obtain ⟨w1, hw1⟩ : ∃ w1, w1 = w.alloc (.cells #[.int .i64 c.kind, .string c.key, .int .i64 c.old.kind, .float .f64 c.old.num, .string c.old.text, .int .i64 c.val.kind, .float .f64 c.val.num, .string c.val.text] 27) := ⟨_, rfl⟩
  obtain ⟨bc, hbc⟩ : ∃ bc, bc = w.heap.size := ⟨_, rfl⟩
  have hzz : w.heap.size = bc := hbc.symm
  have hE : Ext w w1 := by rw [hw1]; exact (Mod.refl _ w).alloc _
  have hKn : w1.heap[bc]? = some (.cells #[.int .i64 c.kind, .string c.key, .int .i64 c.old.kind, .float .f64 c.old.num, .string c.old.text, .int .i64 c.val.kind, .float .f64 c.val.num, .string c.val.text] 27 (0, 0)) := by rw [hw1, ← hzz]; exact heap_alloc_new w _
  have hzn : w1.heap.size = bc + 1 := by rw [hw1, ← hzz]; simp
  rw [← hw1, ← hbc]
  have HXo := HX
  replace HC := Lib.hid (HC.out.ext hE)
  replace HX := Lib.hid (HX.out.ext hE)
  have Kcw1 := Lib.hid hKn
  have hbz : w.heap.size ≤ bc := by have := HXo.out.size; omega
  clear hKn hE hw1 hbc HXo hzz
  have hbc := hbz
  clear hbz
  clear hzn
  refine (hv_pairs2 w1 _ _ l HC.out).mono ?_
  rintro e w2 ⟨rfl, hE⟩
  have Kcw2 := Lib.hid (hE.blk Kcw1.out id)
  replace HC := Lib.hid (HC.out.ext hE)
  replace HX := Lib.hid (HX.out.ext hE)
  clear Kcw1
  rw [h1]
  clear hE
  have c_0 : w2.cell? ⟨bc, 0, none⟩ = some _ := blk_cell (cs := [.int .i64 c.kind, .string c.key, .int .i64 c.old.kind, .float .f64 c.old.num, .string c.old.text, .int .i64 c.val.kind, .float .f64 c.val.num, .string c.val.text]) Kcw2.out rfl
  have c_1 : w2.cell? ⟨bc, 1, none⟩ = some _ := blk_cell (cs := [.int .i64 c.kind, .string c.key, .int .i64 c.old.kind, .float .f64 c.old.num, .string c.old.text, .int .i64 c.val.kind, .float .f64 c.val.num, .string c.val.text]) Kcw2.out rfl
  have c_2 : w2.cell? ⟨bc, 2, none⟩ = some _ := blk_cell (cs := [.int .i64 c.kind, .string c.key, .int .i64 c.old.kind, .float .f64 c.old.num, .string c.old.text, .int .i64 c.val.kind, .float .f64 c.val.num, .string c.val.text]) Kcw2.out rfl
  have c_3 : w2.cell? ⟨bc, 3, none⟩ = some _ := blk_cell (cs := [.int .i64 c.kind, .string c.key, .int .i64 c.old.kind, .float .f64 c.old.num, .string c.old.text, .int .i64 c.val.kind, .float .f64 c.val.num, .string c.val.text]) Kcw2.out rfl
  have c_4 : w2.cell? ⟨bc, 4, none⟩ = some _ := blk_cell (cs := [.int .i64 c.kind, .string c.key, .int .i64 c.old.kind, .float .f64 c.old.num, .string c.old.text, .int .i64 c.val.kind, .float .f64 c.val.num, .string c.val.text]) Kcw2.out rfl
  have c_5 : w2.cell? ⟨bc, 5, none⟩ = some _ := blk_cell (cs := [.int .i64 c.kind, .string c.key, .int .i64 c.old.kind, .float .f64 c.old.num, .string c.old.text, .int .i64 c.val.kind, .float .f64 c.val.num, .string c.val.text]) Kcw2.out rfl
  have c_6 : w2.cell? ⟨bc, 6, none⟩ = some _ := blk_cell (cs := [.int .i64 c.kind, .string c.key, .int .i64 c.old.kind, .float .f64 c.old.num, .string c.old.text, .int .i64 c.val.kind, .float .f64 c.val.num, .string c.val.text]) Kcw2.out rfl
  have c_7 : w2.cell? ⟨bc, 7, none⟩ = some _ := blk_cell (cs := [.int .i64 c.kind, .string c.key, .int .i64 c.old.kind, .float .f64 c.old.num, .string c.old.text, .int .i64 c.val.kind, .float .f64 c.val.num, .string c.val.text]) Kcw2.out rfl
  have c_l : bc < w2.heap.size := (Array.getElem?_eq_some_iff.1 Kcw2.out).1
  go_wp2_with fail
  refine (hv_cmd c w2).mono ?_
  rintro e w3 ⟨rfl, hE⟩
  clear c_0 c_1 c_2 c_3 c_4 c_5 c_6 c_7 c_l
  have Kcw3 := Lib.hid (hE.blk Kcw2.out id)
  replace HC := Lib.hid (HC.out.ext hE)
  replace HX := Lib.hid (HX.out.ext hE)
  clear Kcw2
  rw [h2]
  clear hE
  have c_0 : w3.cell? ⟨bc, 0, none⟩ = some _ := blk_cell (cs := [.int .i64 c.kind, .string c.key, .int .i64 c.old.kind, .float .f64 c.old.num, .string c.old.text, .int .i64 c.val.kind, .float .f64 c.val.num, .string c.val.text]) Kcw3.out rfl
  have c_1 : w3.cell? ⟨bc, 1, none⟩ = some _ := blk_cell (cs := [.int .i64 c.kind, .string c.key, .int .i64 c.old.kind, .float .f64 c.old.num, .string c.old.text, .int .i64 c.val.kind, .float .f64 c.val.num, .string c.val.text]) Kcw3.out rfl
  have c_2 : w3.cell? ⟨bc, 2, none⟩ = some _ := blk_cell (cs := [.int .i64 c.kind, .string c.key, .int .i64 c.old.kind, .float .f64 c.old.num, .string c.old.text, .int .i64 c.val.kind, .float .f64 c.val.num, .string c.val.text]) Kcw3.out rfl
  have c_3 : w3.cell? ⟨bc, 3, none⟩ = some _ := blk_cell (cs := [.int .i64 c.kind, .string c.key, .int .i64 c.old.kind, .float .f64 c.old.num, .string c.old.text, .int .i64 c.val.kind, .float .f64 c.val.num, .string c.val.text]) Kcw3.out rfl
  have c_4 : w3.cell? ⟨bc, 4, none⟩ = some _ := blk_cell (cs := [.int .i64 c.kind, .string c.key, .int .i64 c.old.kind, .float .f64 c.old.num, .string c.old.text, .int .i64 c.val.kind, .float .f64 c.val.num, .string c.val.text]) Kcw3.out rfl
  have c_5 : w3.cell? ⟨bc, 5, none⟩ = some _ := blk_cell (cs := [.int .i64 c.kind, .string c.key, .int .i64 c.old.kind, .float .f64 c.old.num, .string c.old.text, .int .i64 c.val.kind, .float .f64 c.val.num, .string c.val.text]) Kcw3.out rfl
  have c_6 : w3.cell? ⟨bc, 6, none⟩ = some _ := blk_cell (cs := [.int .i64 c.kind, .string c.key, .int .i64 c.old.kind, .float .f64 c.old.num, .string c.old.text, .int .i64 c.val.kind, .float .f64 c.val.num, .string c.val.text]) Kcw3.out rfl
  have c_7 : w3.cell? ⟨bc, 7, none⟩ = some _ := blk_cell (cs := [.int .i64 c.kind, .string c.key, .int .i64 c.old.kind, .float .f64 c.old.num, .string c.old.text, .int .i64 c.val.kind, .float .f64 c.val.num, .string c.val.text]) Kcw3.out rfl
  have c_l : bc < w3.heap.size := (Array.getElem?_eq_some_iff.1 Kcw3.out).1
  clear h1 h2
  go_wp2_with fail
  have hso := HX.out.size
  refine (k_twinPairs w3 _ _ l HC.out hlen).mono ?_
  rintro e w4 ⟨v7, rfl, hN, hE⟩
  clear c_0 c_1 c_2 c_3 c_4 c_5 c_6 c_7 c_l
  have Kcw4 := Lib.hid (hE.blk Kcw3.out id)
  replace HC := Lib.hid (HC.out.ext hE)
  replace HX := Lib.hid (HX.out.ext hE)
  clear Kcw3
  obtain ⟨A7, c7, rfl⟩ := own_form hN.1
  have HN7 := Lib.hid (newP_up hN hso)
  clear hN hso
  clear hE
  have c_0 : w4.cell? ⟨bc, 0, none⟩ = some _ := blk_cell (cs := [.int .i64 c.kind, .string c.key, .int .i64 c.old.kind, .float .f64 c.old.num, .string c.old.text, .int .i64 c.val.kind, .float .f64 c.val.num, .string c.val.text]) Kcw4.out rfl
  have c_1 : w4.cell? ⟨bc, 1, none⟩ = some _ := blk_cell (cs := [.int .i64 c.kind, .string c.key, .int .i64 c.old.kind, .float .f64 c.old.num, .string c.old.text, .int .i64 c.val.kind, .float .f64 c.val.num, .string c.val.text]) Kcw4.out rfl
  have c_2 : w4.cell? ⟨bc, 2, none⟩ = some _ := blk_cell (cs := [.int .i64 c.kind, .string c.key, .int .i64 c.old.kind, .float .f64 c.old.num, .string c.old.text, .int .i64 c.val.kind, .float .f64 c.val.num, .string c.val.text]) Kcw4.out rfl
  have c_3 : w4.cell? ⟨bc, 3, none⟩ = some _ := blk_cell (cs := [.int .i64 c.kind, .string c.key, .int .i64 c.old.kind, .float .f64 c.old.num, .string c.old.text, .int .i64 c.val.kind, .float .f64 c.val.num, .string c.val.text]) Kcw4.out rfl
  have c_4 : w4.cell? ⟨bc, 4, none⟩ = some _ := blk_cell (cs := [.int .i64 c.kind, .string c.key, .int .i64 c.old.kind, .float .f64 c.old.num, .string c.old.text, .int .i64 c.val.kind, .float .f64 c.val.num, .string c.val.text]) Kcw4.out rfl
  have c_5 : w4.cell? ⟨bc, 5, none⟩ = some _ := blk_cell (cs := [.int .i64 c.kind, .string c.key, .int .i64 c.old.kind, .float .f64 c.old.num, .string c.old.text, .int .i64 c.val.kind, .float .f64 c.val.num, .string c.val.text]) Kcw4.out rfl
  have c_6 : w4.cell? ⟨bc, 6, none⟩ = some _ := blk_cell (cs := [.int .i64 c.kind, .string c.key, .int .i64 c.old.kind, .float .f64 c.old.num, .string c.old.text, .int .i64 c.val.kind, .float .f64 c.val.num, .string c.val.text]) Kcw4.out rfl
  have c_7 : w4.cell? ⟨bc, 7, none⟩ = some _ := blk_cell (cs := [.int .i64 c.kind, .string c.key, .int .i64 c.old.kind, .float .f64 c.old.num, .string c.old.text, .int .i64 c.val.kind, .float .f64 c.val.num, .string c.val.text]) Kcw4.out rfl
  have c_l : bc < w4.heap.size := (Array.getElem?_eq_some_iff.1 Kcw4.out).1
  go_wp2_with fail
  clear c_0 c_1 c_2 c_3 c_4 c_5 c_6 c_7 c_l
  have c_0 : w4.cell? ⟨bc, 0, none⟩ = some _ := blk_cell (cs := [.int .i64 c.kind, .string c.key, .int .i64 c.old.kind, .float .f64 c.old.num, .string c.old.text, .int .i64 c.val.kind, .float .f64 c.val.num, .string c.val.text]) Kcw4.out rfl
  have c_1 : w4.cell? ⟨bc, 1, none⟩ = some _ := blk_cell (cs := [.int .i64 c.kind, .string c.key, .int .i64 c.old.kind, .float .f64 c.old.num, .string c.old.text, .int .i64 c.val.kind, .float .f64 c.val.num, .string c.val.text]) Kcw4.out rfl
  have c_2 : w4.cell? ⟨bc, 2, none⟩ = some _ := blk_cell (cs := [.int .i64 c.kind, .string c.key, .int .i64 c.old.kind, .float .f64 c.old.num, .string c.old.text, .int .i64 c.val.kind, .float .f64 c.val.num, .string c.val.text]) Kcw4.out rfl
  have c_3 : w4.cell? ⟨bc, 3, none⟩ = some _ := blk_cell (cs := [.int .i64 c.kind, .string c.key, .int .i64 c.old.kind, .float .f64 c.old.num, .string c.old.text, .int .i64 c.val.kind, .float .f64 c.val.num, .string c.val.text]) Kcw4.out rfl
  have c_4 : w4.cell? ⟨bc, 4, none⟩ = some _ := blk_cell (cs := [.int .i64 c.kind, .string c.key, .int .i64 c.old.kind, .float .f64 c.old.num, .string c.old.text, .int .i64 c.val.kind, .float .f64 c.val.num, .string c.val.text]) Kcw4.out rfl
  have c_5 : w4.cell? ⟨bc, 5, none⟩ = some _ := blk_cell (cs := [.int .i64 c.kind, .string c.key, .int .i64 c.old.kind, .float .f64 c.old.num, .string c.old.text, .int .i64 c.val.kind, .float .f64 c.val.num, .string c.val.text]) Kcw4.out rfl
  have c_6 : w4.cell? ⟨bc, 6, none⟩ = some _ := blk_cell (cs := [.int .i64 c.kind, .string c.key, .int .i64 c.old.kind, .float .f64 c.old.num, .string c.old.text, .int .i64 c.val.kind, .float .f64 c.val.num, .string c.val.text]) Kcw4.out rfl
  have c_7 : w4.cell? ⟨bc, 7, none⟩ = some _ := blk_cell (cs := [.int .i64 c.kind, .string c.key, .int .i64 c.old.kind, .float .f64 c.old.num, .string c.old.text, .int .i64 c.val.kind, .float .f64 c.val.num, .string c.val.text]) Kcw4.out rfl
  have c_l : bc < w4.heap.size := (Array.getElem?_eq_some_iff.1 Kcw4.out).1
  refine wp_region_held_drew (S := fun W' => Ext w4 W') (by kernel_rfl) (Mod.refl _ w4).drew (fun hS => ?_)
  refine takeH (i := 0) (v := ?_) (some 25) rfl rfl (by kernel_rfl) (by kernel_rfl) (by kernel_rfl) (fun _ _ _ h => h) (Or.inl ⟨by kernel_rfl, ?_⟩) hS ?_
  rotate_left
  · rintro W' hW'
    obtain ⟨hbc, hbf⟩ := bcell hW'
    go_simp
    try with_reducible rfl
  try simp only [Act.put, List.setIfInBounds_toArray, List.set_cons_zero, List.set_cons_succ]
  refine takeH (i := 3) (v := ?_) (some 28) rfl rfl (by kernel_rfl) (by kernel_rfl) (by kernel_rfl) (fun _ _ _ h => h) (Or.inl ⟨by kernel_rfl, ?_⟩) hS ?_
  rotate_left
  · rintro W' hW'
    obtain ⟨hbc, hbf⟩ := bcell hW'
    go_simp
    try with_reducible rfl
  try simp only [Act.put, List.setIfInBounds_toArray, List.set_cons_zero, List.set_cons_succ]
  refine wpAnyH_ready (rs := [1]) (by kernel_rfl) (by simp) ?_
  refine AllReadyH.cons rfl (fun K hK => ?_) AllReadyH.nil
  go_simp
  go_wp2_with fail
  refine (kv_check _ _ _ l (HN7.out.prs.ext hS)).mono ?_
  rintro e w5 ⟨rfl, hE⟩
  rw [chkP_no Hp.out]
  have hX := Mod.ext hS hE
  clear hE hS
  go_simp
  refine hK.out _ _ hX (fun hS => ?_)
  clear hK K hX
  refine takeH (i := 2) (v := ?_) (some 27) rfl rfl (by kernel_rfl) (by kernel_rfl) (by kernel_rfl) (fun _ _ _ h => h) (Or.inl ⟨by kernel_rfl, ?_⟩) hS ?_
  rotate_left
  · rintro W' hW'
    obtain ⟨hbc, hbf⟩ := bcell hW'
    go_simp
    try with_reducible rfl
  try simp only [Act.put, List.setIfInBounds_toArray, List.set_cons_zero, List.set_cons_succ]
  refine wpAnyH_ready (rs := [4]) (by kernel_rfl) (by simp) ?_
  refine AllReadyH.cons rfl (fun K hK => ?_) AllReadyH.nil
  go_simp
  go_wp2_with fail
  refine (r_pairs _ _ _ l (HC.out.ext hS)).mono ?_
  rintro e w6 ⟨rfl, hE⟩
  rw [Hp.out]
  have hX := Mod.ext hS hE
  clear hE hS
  go_simp
  refine hK.out _ _ hX (fun hS => ?_)
  clear hK K hX
  refine takeH (i := 5) (v := ?_) (some 30) rfl rfl (by kernel_rfl) (by kernel_rfl) (by kernel_rfl) (fun _ _ _ h => h) (Or.inl ⟨by kernel_rfl, ?_⟩) hS ?_
  rotate_left
  · rintro W' hW'
    obtain ⟨hbc, hbf⟩ := bcell hW'
    go_simp
    try with_reducible rfl
  try simp only [Act.put, List.setIfInBounds_toArray, List.set_cons_zero, List.set_cons_succ]
  refine takeH (i := 6) (v := ?_) (some 31) rfl rfl (by kernel_rfl) (by kernel_rfl) (by kernel_rfl) (fun _ _ _ h => h) (Or.inl ⟨by kernel_rfl, ?_⟩) hS ?_
  rotate_left
  · rintro W' hW'
    obtain ⟨hbc, hbf⟩ := bcell hW'
    go_simp
    try with_reducible rfl
  try simp only [Act.put, List.setIfInBounds_toArray, List.set_cons_zero, List.set_cons_succ]
  refine takeH (i := 7) (v := ?_) (some 32) rfl rfl (by kernel_rfl) (by kernel_rfl) (by kernel_rfl) (fun _ _ _ h => h) (Or.inl ⟨by kernel_rfl, ?_⟩) hS ?_
  rotate_left
  · rintro W' hW'
    obtain ⟨hbc, hbf⟩ := bcell hW'
    go_simp
    try with_reducible rfl
  try simp only [Act.put, List.setIfInBounds_toArray, List.set_cons_zero, List.set_cons_succ]
  refine takeH (i := 9) (v := ?_) (some 34) rfl rfl (by kernel_rfl) (by kernel_rfl) (by kernel_rfl) (fun _ _ _ h => h) (Or.inl ⟨by kernel_rfl, ?_⟩) hS ?_
  rotate_left
  · rintro W' hW'
    obtain ⟨hbc, hbf⟩ := bcell hW'
    go_simp
    try with_reducible rfl
  try simp only [Act.put, List.setIfInBounds_toArray, List.set_cons_zero, List.set_cons_succ]
  refine wpAnyH_ready (rs := [8]) (by kernel_rfl) (by simp) ?_
  refine AllReadyH.cons rfl (fun K hK => ?_) AllReadyH.nil
  go_simp
  go_wp2_with fail
  refine (kv_right c _).mono ?_
  rintro e w7 ⟨rfl, hE⟩
  have hX := Mod.ext hS hE
  clear hE hS
  go_simp
  refine hK.out _ _ hX (fun hS => ?_)
  clear hK K hX
  refine wpAnyH_ready (rs := [10]) (by kernel_rfl) (by simp) ?_
  refine AllReadyH.cons rfl (fun K hK => ?_) AllReadyH.nil
  go_simp
  go_wp2_with fail
  refine (r_cmd c _).mono ?_
  rintro e w8 ⟨rfl, hE⟩
  have hX := Mod.ext hS hE
  clear hE hS
  go_simp
  refine hK.out _ _ hX (fun hS => ?_)
  clear hK K hX
  refine takeH (i := 11) (v := ?_) (some 36) rfl rfl (by kernel_rfl) (by kernel_rfl) (by kernel_rfl) (fun _ _ _ h => h) (Or.inl ⟨by kernel_rfl, ?_⟩) hS ?_
  rotate_left
  · rintro W' hW'
    obtain ⟨hbc, hbf⟩ := bcell hW'
    go_simp
    try with_reducible rfl
  try simp only [Act.put, List.setIfInBounds_toArray, List.set_cons_zero, List.set_cons_succ]
  refine takeH (i := 12) (v := ?_) (some 37) rfl rfl (by kernel_rfl) (by kernel_rfl) (by kernel_rfl) (fun _ _ _ h => h) (Or.inl ⟨by kernel_rfl, ?_⟩) hS ?_
  rotate_left
  · rintro W' hW'
    obtain ⟨hbc, hbf⟩ := bcell hW'
    go_simp
    try with_reducible rfl
  try simp only [Act.put, List.setIfInBounds_toArray, List.set_cons_zero, List.set_cons_succ]
  refine takeH (i := 13) (v := ?_) (some 38) rfl rfl (by kernel_rfl) (by kernel_rfl) (by kernel_rfl) (fun _ _ _ h => h) (Or.inl ⟨by kernel_rfl, ?_⟩) hS ?_
  rotate_left
  · rintro W' hW'
    obtain ⟨hbc, hbf⟩ := bcell hW'
    go_simp
    try with_reducible rfl
  try simp only [Act.put, List.setIfInBounds_toArray, List.set_cons_zero, List.set_cons_succ]
  refine takeH (i := 14) (v := ?_) (some 39) rfl rfl (by kernel_rfl) (by kernel_rfl) (by kernel_rfl) (fun _ _ _ h => h) (Or.inl ⟨by kernel_rfl, ?_⟩) hS ?_
  rotate_left
  · rintro W' hW'
    obtain ⟨hbc, hbf⟩ := bcell hW'
    go_simp
    try with_reducible rfl
  try simp only [Act.put, List.setIfInBounds_toArray, List.set_cons_zero, List.set_cons_succ]
  refine takeH (i := 15) (v := ?_) (some 40) rfl rfl (by kernel_rfl) (by kernel_rfl) (by kernel_rfl) (fun _ _ _ h => h) (Or.inl ⟨by kernel_rfl, ?_⟩) hS ?_
  rotate_left
  · rintro W' hW'
    obtain ⟨hbc, hbf⟩ := bcell hW'
    go_simp
    try with_reducible rfl
  try simp only [Act.put, List.setIfInBounds_toArray, List.set_cons_zero, List.set_cons_succ]
  refine takeH (i := 17) (v := ?_) (some 42) rfl rfl (by kernel_rfl) (by kernel_rfl) (by kernel_rfl) (fun _ _ _ h => h) (Or.inl ⟨by kernel_rfl, ?_⟩) hS ?_
  rotate_left
  · rintro W' hW'
    obtain ⟨hbc, hbf⟩ := bcell hW'
    go_simp
    try with_reducible rfl
  try simp only [Act.put, List.setIfInBounds_toArray, List.set_cons_zero, List.set_cons_succ]
  refine takeH (i := 18) (v := ?_) (some 43) rfl rfl (by kernel_rfl) (by kernel_rfl) (by kernel_rfl) (fun _ _ _ h => h) (Or.inl ⟨by kernel_rfl, ?_⟩) hS ?_
  rotate_left
  · rintro W' hW'
    obtain ⟨hbc, hbf⟩ := bcell hW'
    go_simp
    try with_reducible rfl
  try simp only [Act.put, List.setIfInBounds_toArray, List.set_cons_zero, List.set_cons_succ]
  refine wpAnyH_ready (rs := [16]) (by kernel_rfl) (by simp) ?_
  refine AllReadyH.cons rfl (fun K hK => ?_) AllReadyH.nil
  go_simp
  go_wp2_with fail
  refine (kv_get _ _ _ l key (HN7.out.prs.ext hS)).mono ?_
  rintro e w9 ⟨rfl, hE⟩
  have hX := Mod.ext hS hE
  clear hE hS
  go_simp
  refine hK.out _ _ hX (fun hS => ?_)
  clear hK K hX
  refine wpAnyH_ready (rs := [19]) (by kernel_rfl) (by simp) ?_
  refine AllReadyH.cons rfl (fun K hK => ?_) AllReadyH.nil
  go_simp
  go_wp2_with fail
  refine (r_get _ _ _ l key (HC.out.ext hS)).mono ?_
  rintro e w10 ⟨rfl, hE⟩
  have hX := Mod.ext hS hE
  clear hE hS
  go_simp
  refine hK.out _ _ hX (fun hS => ?_)
  clear hK K hX
  refine wpAnyH_ready (rs := [20]) (by kernel_rfl) (by simp) ?_
  refine AllReadyH.cons rfl (fun K hK => ?_) AllReadyH.nil
  go_simp
  go_wp2_with fail
  refine (k_value (getP l key) (getP l key) _).mono ?_
  rintro e w11 ⟨rfl, hE⟩
  rw [eqVal_refl]
  have hX := Mod.ext hS hE
  clear hE hS
  go_simp
  refine hK.out _ _ hX (fun hS => ?_)
  clear hK K hX
  refine takeH (i := 21) (v := ?_) (some 46) rfl rfl (by kernel_rfl) (by kernel_rfl) (by kernel_rfl) (fun _ _ _ h => h) (Or.inl ⟨by kernel_rfl, ?_⟩) hS ?_
  rotate_left
  · rintro W' hW'
    obtain ⟨hbc, hbf⟩ := bcell hW'
    go_simp
    try with_reducible rfl
  try simp only [Act.put, List.setIfInBounds_toArray, List.set_cons_zero, List.set_cons_succ]
  refine takeH (i := 22) (v := ?_) (some 47) rfl rfl (by kernel_rfl) (by kernel_rfl) (by kernel_rfl) (fun _ _ _ h => h) (Or.inl ⟨by kernel_rfl, ?_⟩) hS ?_
  rotate_left
  · rintro W' hW'
    obtain ⟨hbc, hbf⟩ := bcell hW'
    go_simp
    try with_reducible rfl
  try simp only [Act.put, List.setIfInBounds_toArray, List.set_cons_zero, List.set_cons_succ]
  refine takeH (i := 23) (v := ?_) (some 48) rfl rfl (by kernel_rfl) (by kernel_rfl) (by kernel_rfl) (fun _ _ _ h => h) (Or.inl ⟨by kernel_rfl, ?_⟩) hS ?_
  rotate_left
  · rintro W' hW'
    obtain ⟨hbc, hbf⟩ := bcell hW'
    go_simp
    try with_reducible rfl
  try simp only [Act.put, List.setIfInBounds_toArray, List.set_cons_zero, List.set_cons_succ]
  refine takeH (i := 24) (v := ?_) (some 49) rfl rfl (by kernel_rfl) (by kernel_rfl) (by kernel_rfl) (fun _ _ _ h => h) (Or.inl ⟨by kernel_rfl, ?_⟩) hS ?_
  rotate_left
  · rintro W' hW'
    obtain ⟨hbc, hbf⟩ := bcell hW'
    go_simp
    try with_reducible rfl
  try simp only [Act.put, List.setIfInBounds_toArray, List.set_cons_zero, List.set_cons_succ]
  refine takeH (i := 26) (v := ?_) (some 51) rfl rfl (by kernel_rfl) (by kernel_rfl) (by kernel_rfl) (fun _ _ _ h => h) (Or.inl ⟨by kernel_rfl, ?_⟩) hS ?_
  rotate_left
  · rintro W' hW'
    obtain ⟨hbc, hbf⟩ := bcell hW'
    go_simp
    try with_reducible rfl
  try simp only [Act.put, List.setIfInBounds_toArray, List.set_cons_zero, List.set_cons_succ]
  refine takeH (i := 27) (v := ?_) (some 52) rfl rfl (by kernel_rfl) (by kernel_rfl) (by kernel_rfl) (fun _ _ _ h => h) (Or.inl ⟨by kernel_rfl, ?_⟩) hS ?_
  rotate_left
  · rintro W' hW'
    obtain ⟨hbc, hbf⟩ := bcell hW'
    go_simp
    try with_reducible rfl
  try simp only [Act.put, List.setIfInBounds_toArray, List.set_cons_zero, List.set_cons_succ]
  refine takeH (i := 28) (v := ?_) (some 53) rfl rfl (by kernel_rfl) (by kernel_rfl) (by kernel_rfl) (fun _ _ _ h => h) (Or.inl ⟨by kernel_rfl, ?_⟩) hS ?_
  rotate_left
  · rintro W' hW'
    obtain ⟨hbc, hbf⟩ := bcell hW'
    go_simp
    try with_reducible rfl
  try simp only [Act.put, List.setIfInBounds_toArray, List.set_cons_zero, List.set_cons_succ]
  refine wpAnyH_ready (rs := [25]) (by kernel_rfl) (by simp) ?_
  refine AllReadyH.cons rfl (fun K hK => ?_) AllReadyH.nil
  go_simp
  go_wp2_with fail
  refine (kv_changes c _).mono ?_
  rintro e w12 ⟨rfl, hE⟩
  have hX := Mod.ext hS hE
  clear hE hS
  go_simp
  refine hK.out _ _ hX (fun hS => ?_)
  clear hK K hX
  refine takeH (i := 29) (v := ?_) (some 54) rfl rfl (by kernel_rfl) (by kernel_rfl) (by kernel_rfl) (fun _ _ _ h => h) (Or.inl ⟨by kernel_rfl, ?_⟩) hS ?_
  rotate_left
  · rintro W' hW'
    obtain ⟨hbc, hbf⟩ := bcell hW'
    go_simp
    try with_reducible rfl
  try simp only [Act.put, List.setIfInBounds_toArray, List.set_cons_zero, List.set_cons_succ]
  refine takeH (i := 30) (v := ?_) (some 55) rfl rfl (by kernel_rfl) (by kernel_rfl) (by kernel_rfl) (fun _ _ _ h => h) (Or.inl ⟨by kernel_rfl, ?_⟩) hS ?_
  rotate_left
  · rintro W' hW'
    obtain ⟨hbc, hbf⟩ := bcell hW'
    go_simp
    try with_reducible rfl
  try simp only [Act.put, List.setIfInBounds_toArray, List.set_cons_zero, List.set_cons_succ]
  refine wpAnyH_done (by kernel_rfl) ?_ _
  have hE := hS
  clear hS
  clear c_0 c_1 c_2 c_3 c_4 c_5 c_6 c_7 c_l
  have Kcw12 := Lib.hid (hE.blk Kcw4.out id)
  replace HC := Lib.hid (HC.out.ext hE)
  replace HN7 := Lib.hid (newP_mod HN7.out hE (fun _ _ => id))
  replace HX := Lib.hid (HX.out.ext hE)
  clear Kcw4
  clear hE
  have c_0 : w12.cell? ⟨bc, 0, none⟩ = some _ := blk_cell (cs := [.int .i64 c.kind, .string c.key, .int .i64 c.old.kind, .float .f64 c.old.num, .string c.old.text, .int .i64 c.val.kind, .float .f64 c.val.num, .string c.val.text]) Kcw12.out rfl
  have c_1 : w12.cell? ⟨bc, 1, none⟩ = some _ := blk_cell (cs := [.int .i64 c.kind, .string c.key, .int .i64 c.old.kind, .float .f64 c.old.num, .string c.old.text, .int .i64 c.val.kind, .float .f64 c.val.num, .string c.val.text]) Kcw12.out rfl
  have c_2 : w12.cell? ⟨bc, 2, none⟩ = some _ := blk_cell (cs := [.int .i64 c.kind, .string c.key, .int .i64 c.old.kind, .float .f64 c.old.num, .string c.old.text, .int .i64 c.val.kind, .float .f64 c.val.num, .string c.val.text]) Kcw12.out rfl
  have c_3 : w12.cell? ⟨bc, 3, none⟩ = some _ := blk_cell (cs := [.int .i64 c.kind, .string c.key, .int .i64 c.old.kind, .float .f64 c.old.num, .string c.old.text, .int .i64 c.val.kind, .float .f64 c.val.num, .string c.val.text]) Kcw12.out rfl
  have c_4 : w12.cell? ⟨bc, 4, none⟩ = some _ := blk_cell (cs := [.int .i64 c.kind, .string c.key, .int .i64 c.old.kind, .float .f64 c.old.num, .string c.old.text, .int .i64 c.val.kind, .float .f64 c.val.num, .string c.val.text]) Kcw12.out rfl
  have c_5 : w12.cell? ⟨bc, 5, none⟩ = some _ := blk_cell (cs := [.int .i64 c.kind, .string c.key, .int .i64 c.old.kind, .float .f64 c.old.num, .string c.old.text, .int .i64 c.val.kind, .float .f64 c.val.num, .string c.val.text]) Kcw12.out rfl
  have c_6 : w12.cell? ⟨bc, 6, none⟩ = some _ := blk_cell (cs := [.int .i64 c.kind, .string c.key, .int .i64 c.old.kind, .float .f64 c.old.num, .string c.old.text, .int .i64 c.val.kind, .float .f64 c.val.num, .string c.val.text]) Kcw12.out rfl
  have c_7 : w12.cell? ⟨bc, 7, none⟩ = some _ := blk_cell (cs := [.int .i64 c.kind, .string c.key, .int .i64 c.old.kind, .float .f64 c.old.num, .string c.old.text, .int .i64 c.val.kind, .float .f64 c.val.num, .string c.val.text]) Kcw12.out rfl
  have c_l : bc < w12.heap.size := (Array.getElem?_eq_some_iff.1 Kcw12.out).1
  go_wp2_with fail
  have hso := HX.out.size
  have hlo := HN7.out.1.lt
  rcases hr : doP l c with ⟨L, r⟩
  refine (kv_Do_at w12 _ _ l c HN7.out.prs hlen hc.2.2.2 hr).mono ?_
  rintro e w13 ⟨v1, rfl, hN, hE⟩
  clear c_0 c_1 c_2 c_3 c_4 c_5 c_6 c_7 c_l
  have Kcw13 := Lib.hid (hE.blk Kcw12.out id)
  replace HC := Lib.hid (HC.out.ext hE)
  replace HN7 := Lib.hid (newP_mod HN7.out hE (fun _ _ => id))
  replace HX := Lib.hid (HX.out.ext hE)
  clear Kcw12
  obtain ⟨A1, c1, rfl⟩ := own_form hN.1
  have Hfar : Hid (∀ g, (Value.slice A1 L.length c1).ownBlock = some g → (∀ h, (Value.slice A7 l.length c7).ownBlock = some h → h < g) ∧ w.heap.size ≤ g) := Lib.hid (fun g hg => by
    have h1 := hN.2.2 g hg
    exact ⟨fun h hh => by have := (hlo h hh).2; omega, by omega⟩)
  have HN1 := Lib.hid (newP_up hN hso)
  have HR := Lib.hid hr
  clear hN hso hlo hr
  clear hE
  have c_0 : w13.cell? ⟨bc, 0, none⟩ = some _ := blk_cell (cs := [.int .i64 c.kind, .string c.key, .int .i64 c.old.kind, .float .f64 c.old.num, .string c.old.text, .int .i64 c.val.kind, .float .f64 c.val.num, .string c.val.text]) Kcw13.out rfl
  have c_1 : w13.cell? ⟨bc, 1, none⟩ = some _ := blk_cell (cs := [.int .i64 c.kind, .string c.key, .int .i64 c.old.kind, .float .f64 c.old.num, .string c.old.text, .int .i64 c.val.kind, .float .f64 c.val.num, .string c.val.text]) Kcw13.out rfl
  have c_2 : w13.cell? ⟨bc, 2, none⟩ = some _ := blk_cell (cs := [.int .i64 c.kind, .string c.key, .int .i64 c.old.kind, .float .f64 c.old.num, .string c.old.text, .int .i64 c.val.kind, .float .f64 c.val.num, .string c.val.text]) Kcw13.out rfl
  have c_3 : w13.cell? ⟨bc, 3, none⟩ = some _ := blk_cell (cs := [.int .i64 c.kind, .string c.key, .int .i64 c.old.kind, .float .f64 c.old.num, .string c.old.text, .int .i64 c.val.kind, .float .f64 c.val.num, .string c.val.text]) Kcw13.out rfl
  have c_4 : w13.cell? ⟨bc, 4, none⟩ = some _ := blk_cell (cs := [.int .i64 c.kind, .string c.key, .int .i64 c.old.kind, .float .f64 c.old.num, .string c.old.text, .int .i64 c.val.kind, .float .f64 c.val.num, .string c.val.text]) Kcw13.out rfl
  have c_5 : w13.cell? ⟨bc, 5, none⟩ = some _ := blk_cell (cs := [.int .i64 c.kind, .string c.key, .int .i64 c.old.kind, .float .f64 c.old.num, .string c.old.text, .int .i64 c.val.kind, .float .f64 c.val.num, .string c.val.text]) Kcw13.out rfl
  have c_6 : w13.cell? ⟨bc, 6, none⟩ = some _ := blk_cell (cs := [.int .i64 c.kind, .string c.key, .int .i64 c.old.kind, .float .f64 c.old.num, .string c.old.text, .int .i64 c.val.kind, .float .f64 c.val.num, .string c.val.text]) Kcw13.out rfl
  have c_7 : w13.cell? ⟨bc, 7, none⟩ = some _ := blk_cell (cs := [.int .i64 c.kind, .string c.key, .int .i64 c.old.kind, .float .f64 c.old.num, .string c.old.text, .int .i64 c.val.kind, .float .f64 c.val.num, .string c.val.text]) Kcw13.out rfl
  have c_l : bc < w13.heap.size := (Array.getElem?_eq_some_iff.1 Kcw13.out).1
  go_wp2_with fail
  obtain ⟨w14, hw14⟩ : ∃ w14, w14 = w13.alloc (.cells #[.int .i64 r.code, .int .i64 r.val.kind, .float .f64 r.val.num, .string r.val.text] 33) := ⟨_, rfl⟩
  obtain ⟨br, hbr⟩ : ∃ br, br = w13.heap.size := ⟨_, rfl⟩
  have hzz : w13.heap.size = br := hbr.symm
  have hE : Ext w13 w14 := by rw [hw14]; exact (Mod.refl _ w13).alloc _
  have hKn : w14.heap[br]? = some (.cells #[.int .i64 r.code, .int .i64 r.val.kind, .float .f64 r.val.num, .string r.val.text] 33 (0, 0)) := by rw [hw14, ← hzz]; exact heap_alloc_new w13 _
  have hzn : w14.heap.size = br + 1 := by rw [hw14, ← hzz]; simp
  rw [← hw14, ← hbr]
  clear c_0 c_1 c_2 c_3 c_4 c_5 c_6 c_7 c_l
  have HXo := HX
  have Kcw14 := Lib.hid (hE.blk Kcw13.out id)
  replace HC := Lib.hid (HC.out.ext hE)
  replace HN7 := Lib.hid (newP_mod HN7.out hE (fun _ _ => id))
  replace HN1 := Lib.hid (newP_mod HN1.out hE (fun _ _ => id))
  replace HX := Lib.hid (HX.out.ext hE)
  clear Kcw13
  have Krw14 := Lib.hid hKn
  have hbz : w.heap.size ≤ br := by have := HXo.out.size; omega
  clear hKn hE hw14 hbr HXo hzz
  have hbr := hbz
  clear hbz
  clear hzn
  have hso := HX.out.size
  refine (r_do_at w14 _ _ l c HC.out hlen hc.2.2.2 HR.out).mono ?_
  rintro e w15 ⟨v2, rfl, hN, hE⟩
  have Kcw15 := Lib.hid (hE.blk Kcw14.out id)
  have Krw15 := Lib.hid (hE.blk Krw14.out id)
  replace HC := Lib.hid (HC.out.ext hE)
  replace HN7 := Lib.hid (newP_mod HN7.out hE (fun _ _ => id))
  replace HN1 := Lib.hid (newP_mod HN1.out hE (fun _ _ => id))
  replace HX := Lib.hid (HX.out.ext hE)
  clear Kcw14
  clear Krw14
  obtain ⟨A2, c2, rfl⟩ := own_form hN.1
  have HN2 := Lib.hid (newP_up hN hso)
  clear hN hso
  clear hE
  have c_0 : w15.cell? ⟨bc, 0, none⟩ = some _ := blk_cell (cs := [.int .i64 c.kind, .string c.key, .int .i64 c.old.kind, .float .f64 c.old.num, .string c.old.text, .int .i64 c.val.kind, .float .f64 c.val.num, .string c.val.text]) Kcw15.out rfl
  have c_1 : w15.cell? ⟨bc, 1, none⟩ = some _ := blk_cell (cs := [.int .i64 c.kind, .string c.key, .int .i64 c.old.kind, .float .f64 c.old.num, .string c.old.text, .int .i64 c.val.kind, .float .f64 c.val.num, .string c.val.text]) Kcw15.out rfl
  have c_2 : w15.cell? ⟨bc, 2, none⟩ = some _ := blk_cell (cs := [.int .i64 c.kind, .string c.key, .int .i64 c.old.kind, .float .f64 c.old.num, .string c.old.text, .int .i64 c.val.kind, .float .f64 c.val.num, .string c.val.text]) Kcw15.out rfl
  have c_3 : w15.cell? ⟨bc, 3, none⟩ = some _ := blk_cell (cs := [.int .i64 c.kind, .string c.key, .int .i64 c.old.kind, .float .f64 c.old.num, .string c.old.text, .int .i64 c.val.kind, .float .f64 c.val.num, .string c.val.text]) Kcw15.out rfl
  have c_4 : w15.cell? ⟨bc, 4, none⟩ = some _ := blk_cell (cs := [.int .i64 c.kind, .string c.key, .int .i64 c.old.kind, .float .f64 c.old.num, .string c.old.text, .int .i64 c.val.kind, .float .f64 c.val.num, .string c.val.text]) Kcw15.out rfl
  have c_5 : w15.cell? ⟨bc, 5, none⟩ = some _ := blk_cell (cs := [.int .i64 c.kind, .string c.key, .int .i64 c.old.kind, .float .f64 c.old.num, .string c.old.text, .int .i64 c.val.kind, .float .f64 c.val.num, .string c.val.text]) Kcw15.out rfl
  have c_6 : w15.cell? ⟨bc, 6, none⟩ = some _ := blk_cell (cs := [.int .i64 c.kind, .string c.key, .int .i64 c.old.kind, .float .f64 c.old.num, .string c.old.text, .int .i64 c.val.kind, .float .f64 c.val.num, .string c.val.text]) Kcw15.out rfl
  have c_7 : w15.cell? ⟨bc, 7, none⟩ = some _ := blk_cell (cs := [.int .i64 c.kind, .string c.key, .int .i64 c.old.kind, .float .f64 c.old.num, .string c.old.text, .int .i64 c.val.kind, .float .f64 c.val.num, .string c.val.text]) Kcw15.out rfl
  have c_l : bc < w15.heap.size := (Array.getElem?_eq_some_iff.1 Kcw15.out).1
  have r_0 : w15.cell? ⟨br, 0, none⟩ = some _ := blk_cell (cs := [.int .i64 r.code, .int .i64 r.val.kind, .float .f64 r.val.num, .string r.val.text]) Krw15.out rfl
  have r_1 : w15.cell? ⟨br, 1, none⟩ = some _ := blk_cell (cs := [.int .i64 r.code, .int .i64 r.val.kind, .float .f64 r.val.num, .string r.val.text]) Krw15.out rfl
  have r_2 : w15.cell? ⟨br, 2, none⟩ = some _ := blk_cell (cs := [.int .i64 r.code, .int .i64 r.val.kind, .float .f64 r.val.num, .string r.val.text]) Krw15.out rfl
  have r_3 : w15.cell? ⟨br, 3, none⟩ = some _ := blk_cell (cs := [.int .i64 r.code, .int .i64 r.val.kind, .float .f64 r.val.num, .string r.val.text]) Krw15.out rfl
  have r_l : br < w15.heap.size := (Array.getElem?_eq_some_iff.1 Krw15.out).1
  go_wp2_with fail
  obtain ⟨w16, hw16⟩ : ∃ w16, w16 = w15.alloc (.cells #[.int .i64 r.code, .int .i64 r.val.kind, .float .f64 r.val.num, .string r.val.text] 33) := ⟨_, rfl⟩
  obtain ⟨bs, hbs⟩ : ∃ bs, bs = w15.heap.size := ⟨_, rfl⟩
  have hzz : w15.heap.size = bs := hbs.symm
  have hE : Ext w15 w16 := by rw [hw16]; exact (Mod.refl _ w15).alloc _
  have hKn : w16.heap[bs]? = some (.cells #[.int .i64 r.code, .int .i64 r.val.kind, .float .f64 r.val.num, .string r.val.text] 33 (0, 0)) := by rw [hw16, ← hzz]; exact heap_alloc_new w15 _
  have hzn : w16.heap.size = bs + 1 := by rw [hw16, ← hzz]; simp
  rw [← hw16, ← hbs]
  clear c_0 c_1 c_2 c_3 c_4 c_5 c_6 c_7 c_l r_0 r_1 r_2 r_3 r_l
  have HXo := HX
  have Kcw16 := Lib.hid (hE.blk Kcw15.out id)
  have Krw16 := Lib.hid (hE.blk Krw15.out id)
  replace HC := Lib.hid (HC.out.ext hE)
  replace HN7 := Lib.hid (newP_mod HN7.out hE (fun _ _ => id))
  replace HN1 := Lib.hid (newP_mod HN1.out hE (fun _ _ => id))
  replace HN2 := Lib.hid (newP_mod HN2.out hE (fun _ _ => id))
  replace HX := Lib.hid (HX.out.ext hE)
  clear Kcw15
  clear Krw15
  have Ksw16 := Lib.hid hKn
  have hbz : w.heap.size ≤ bs := by have := HXo.out.size; omega
  clear hKn hE hw16 hbs HXo hzz
  have hbs := hbz
  clear hbz
  clear hzn
  refine (k_pairs w16 _ _ _ _ L L HN1.out.prs HN2.out.prs).mono ?_
  rintro e w17 ⟨rfl, hE⟩
  have Kcw17 := Lib.hid (hE.blk Kcw16.out id)
  have Krw17 := Lib.hid (hE.blk Krw16.out id)
  have Ksw17 := Lib.hid (hE.blk Ksw16.out id)
  replace HC := Lib.hid (HC.out.ext hE)
  replace HN7 := Lib.hid (newP_mod HN7.out hE (fun _ _ => id))
  replace HN1 := Lib.hid (newP_mod HN1.out hE (fun _ _ => id))
  replace HN2 := Lib.hid (newP_mod HN2.out hE (fun _ _ => id))
  replace HX := Lib.hid (HX.out.ext hE)
  clear Kcw16
  clear Krw16
  clear Ksw16
  rw [eqPrs_refl]
  clear hE
  have c_0 : w17.cell? ⟨bc, 0, none⟩ = some _ := blk_cell (cs := [.int .i64 c.kind, .string c.key, .int .i64 c.old.kind, .float .f64 c.old.num, .string c.old.text, .int .i64 c.val.kind, .float .f64 c.val.num, .string c.val.text]) Kcw17.out rfl
  have c_1 : w17.cell? ⟨bc, 1, none⟩ = some _ := blk_cell (cs := [.int .i64 c.kind, .string c.key, .int .i64 c.old.kind, .float .f64 c.old.num, .string c.old.text, .int .i64 c.val.kind, .float .f64 c.val.num, .string c.val.text]) Kcw17.out rfl
  have c_2 : w17.cell? ⟨bc, 2, none⟩ = some _ := blk_cell (cs := [.int .i64 c.kind, .string c.key, .int .i64 c.old.kind, .float .f64 c.old.num, .string c.old.text, .int .i64 c.val.kind, .float .f64 c.val.num, .string c.val.text]) Kcw17.out rfl
  have c_3 : w17.cell? ⟨bc, 3, none⟩ = some _ := blk_cell (cs := [.int .i64 c.kind, .string c.key, .int .i64 c.old.kind, .float .f64 c.old.num, .string c.old.text, .int .i64 c.val.kind, .float .f64 c.val.num, .string c.val.text]) Kcw17.out rfl
  have c_4 : w17.cell? ⟨bc, 4, none⟩ = some _ := blk_cell (cs := [.int .i64 c.kind, .string c.key, .int .i64 c.old.kind, .float .f64 c.old.num, .string c.old.text, .int .i64 c.val.kind, .float .f64 c.val.num, .string c.val.text]) Kcw17.out rfl
  have c_5 : w17.cell? ⟨bc, 5, none⟩ = some _ := blk_cell (cs := [.int .i64 c.kind, .string c.key, .int .i64 c.old.kind, .float .f64 c.old.num, .string c.old.text, .int .i64 c.val.kind, .float .f64 c.val.num, .string c.val.text]) Kcw17.out rfl
  have c_6 : w17.cell? ⟨bc, 6, none⟩ = some _ := blk_cell (cs := [.int .i64 c.kind, .string c.key, .int .i64 c.old.kind, .float .f64 c.old.num, .string c.old.text, .int .i64 c.val.kind, .float .f64 c.val.num, .string c.val.text]) Kcw17.out rfl
  have c_7 : w17.cell? ⟨bc, 7, none⟩ = some _ := blk_cell (cs := [.int .i64 c.kind, .string c.key, .int .i64 c.old.kind, .float .f64 c.old.num, .string c.old.text, .int .i64 c.val.kind, .float .f64 c.val.num, .string c.val.text]) Kcw17.out rfl
  have c_l : bc < w17.heap.size := (Array.getElem?_eq_some_iff.1 Kcw17.out).1
  have r_0 : w17.cell? ⟨br, 0, none⟩ = some _ := blk_cell (cs := [.int .i64 r.code, .int .i64 r.val.kind, .float .f64 r.val.num, .string r.val.text]) Krw17.out rfl
  have r_1 : w17.cell? ⟨br, 1, none⟩ = some _ := blk_cell (cs := [.int .i64 r.code, .int .i64 r.val.kind, .float .f64 r.val.num, .string r.val.text]) Krw17.out rfl
  have r_2 : w17.cell? ⟨br, 2, none⟩ = some _ := blk_cell (cs := [.int .i64 r.code, .int .i64 r.val.kind, .float .f64 r.val.num, .string r.val.text]) Krw17.out rfl
  have r_3 : w17.cell? ⟨br, 3, none⟩ = some _ := blk_cell (cs := [.int .i64 r.code, .int .i64 r.val.kind, .float .f64 r.val.num, .string r.val.text]) Krw17.out rfl
  have r_l : br < w17.heap.size := (Array.getElem?_eq_some_iff.1 Krw17.out).1
  have s_0 : w17.cell? ⟨bs, 0, none⟩ = some _ := blk_cell (cs := [.int .i64 r.code, .int .i64 r.val.kind, .float .f64 r.val.num, .string r.val.text]) Ksw17.out rfl
  have s_1 : w17.cell? ⟨bs, 1, none⟩ = some _ := blk_cell (cs := [.int .i64 r.code, .int .i64 r.val.kind, .float .f64 r.val.num, .string r.val.text]) Ksw17.out rfl
  have s_2 : w17.cell? ⟨bs, 2, none⟩ = some _ := blk_cell (cs := [.int .i64 r.code, .int .i64 r.val.kind, .float .f64 r.val.num, .string r.val.text]) Ksw17.out rfl
  have s_3 : w17.cell? ⟨bs, 3, none⟩ = some _ := blk_cell (cs := [.int .i64 r.code, .int .i64 r.val.kind, .float .f64 r.val.num, .string r.val.text]) Ksw17.out rfl
  have s_l : bs < w17.heap.size := (Array.getElem?_eq_some_iff.1 Ksw17.out).1
  go_wp2_with fail
  refine (k_reply r r w17).mono ?_
  rintro e w18 ⟨rfl, hE⟩
  clear c_0 c_1 c_2 c_3 c_4 c_5 c_6 c_7 c_l r_0 r_1 r_2 r_3 r_l s_0 s_1 s_2 s_3 s_l
  have Kcw18 := Lib.hid (hE.blk Kcw17.out id)
  have Krw18 := Lib.hid (hE.blk Krw17.out id)
  have Ksw18 := Lib.hid (hE.blk Ksw17.out id)
  replace HC := Lib.hid (HC.out.ext hE)
  replace HN7 := Lib.hid (newP_mod HN7.out hE (fun _ _ => id))
  replace HN1 := Lib.hid (newP_mod HN1.out hE (fun _ _ => id))
  replace HN2 := Lib.hid (newP_mod HN2.out hE (fun _ _ => id))
  replace HX := Lib.hid (HX.out.ext hE)
  clear Kcw17
  clear Krw17
  clear Ksw17
  rw [eqReply_refl]
  clear hE
  have c_0 : w18.cell? ⟨bc, 0, none⟩ = some _ := blk_cell (cs := [.int .i64 c.kind, .string c.key, .int .i64 c.old.kind, .float .f64 c.old.num, .string c.old.text, .int .i64 c.val.kind, .float .f64 c.val.num, .string c.val.text]) Kcw18.out rfl
  have c_1 : w18.cell? ⟨bc, 1, none⟩ = some _ := blk_cell (cs := [.int .i64 c.kind, .string c.key, .int .i64 c.old.kind, .float .f64 c.old.num, .string c.old.text, .int .i64 c.val.kind, .float .f64 c.val.num, .string c.val.text]) Kcw18.out rfl
  have c_2 : w18.cell? ⟨bc, 2, none⟩ = some _ := blk_cell (cs := [.int .i64 c.kind, .string c.key, .int .i64 c.old.kind, .float .f64 c.old.num, .string c.old.text, .int .i64 c.val.kind, .float .f64 c.val.num, .string c.val.text]) Kcw18.out rfl
  have c_3 : w18.cell? ⟨bc, 3, none⟩ = some _ := blk_cell (cs := [.int .i64 c.kind, .string c.key, .int .i64 c.old.kind, .float .f64 c.old.num, .string c.old.text, .int .i64 c.val.kind, .float .f64 c.val.num, .string c.val.text]) Kcw18.out rfl
  have c_4 : w18.cell? ⟨bc, 4, none⟩ = some _ := blk_cell (cs := [.int .i64 c.kind, .string c.key, .int .i64 c.old.kind, .float .f64 c.old.num, .string c.old.text, .int .i64 c.val.kind, .float .f64 c.val.num, .string c.val.text]) Kcw18.out rfl
  have c_5 : w18.cell? ⟨bc, 5, none⟩ = some _ := blk_cell (cs := [.int .i64 c.kind, .string c.key, .int .i64 c.old.kind, .float .f64 c.old.num, .string c.old.text, .int .i64 c.val.kind, .float .f64 c.val.num, .string c.val.text]) Kcw18.out rfl
  have c_6 : w18.cell? ⟨bc, 6, none⟩ = some _ := blk_cell (cs := [.int .i64 c.kind, .string c.key, .int .i64 c.old.kind, .float .f64 c.old.num, .string c.old.text, .int .i64 c.val.kind, .float .f64 c.val.num, .string c.val.text]) Kcw18.out rfl
  have c_7 : w18.cell? ⟨bc, 7, none⟩ = some _ := blk_cell (cs := [.int .i64 c.kind, .string c.key, .int .i64 c.old.kind, .float .f64 c.old.num, .string c.old.text, .int .i64 c.val.kind, .float .f64 c.val.num, .string c.val.text]) Kcw18.out rfl
  have c_l : bc < w18.heap.size := (Array.getElem?_eq_some_iff.1 Kcw18.out).1
  have r_0 : w18.cell? ⟨br, 0, none⟩ = some _ := blk_cell (cs := [.int .i64 r.code, .int .i64 r.val.kind, .float .f64 r.val.num, .string r.val.text]) Krw18.out rfl
  have r_1 : w18.cell? ⟨br, 1, none⟩ = some _ := blk_cell (cs := [.int .i64 r.code, .int .i64 r.val.kind, .float .f64 r.val.num, .string r.val.text]) Krw18.out rfl
  have r_2 : w18.cell? ⟨br, 2, none⟩ = some _ := blk_cell (cs := [.int .i64 r.code, .int .i64 r.val.kind, .float .f64 r.val.num, .string r.val.text]) Krw18.out rfl
  have r_3 : w18.cell? ⟨br, 3, none⟩ = some _ := blk_cell (cs := [.int .i64 r.code, .int .i64 r.val.kind, .float .f64 r.val.num, .string r.val.text]) Krw18.out rfl
  have r_l : br < w18.heap.size := (Array.getElem?_eq_some_iff.1 Krw18.out).1
  have s_0 : w18.cell? ⟨bs, 0, none⟩ = some _ := blk_cell (cs := [.int .i64 r.code, .int .i64 r.val.kind, .float .f64 r.val.num, .string r.val.text]) Ksw18.out rfl
  have s_1 : w18.cell? ⟨bs, 1, none⟩ = some _ := blk_cell (cs := [.int .i64 r.code, .int .i64 r.val.kind, .float .f64 r.val.num, .string r.val.text]) Ksw18.out rfl
  have s_2 : w18.cell? ⟨bs, 2, none⟩ = some _ := blk_cell (cs := [.int .i64 r.code, .int .i64 r.val.kind, .float .f64 r.val.num, .string r.val.text]) Ksw18.out rfl
  have s_3 : w18.cell? ⟨bs, 3, none⟩ = some _ := blk_cell (cs := [.int .i64 r.code, .int .i64 r.val.kind, .float .f64 r.val.num, .string r.val.text]) Ksw18.out rfl
  have s_l : bs < w18.heap.size := (Array.getElem?_eq_some_iff.1 Ksw18.out).1
  go_wp2_with fail
  clear c_0 c_1 c_2 c_3 c_4 c_5 c_6 c_7 c_l r_0 r_1 r_2 r_3 r_l s_0 s_1 s_2 s_3 s_l
  refine (k_spoil w18 _ L ⟨HN1.out.1, HN1.out.2.1⟩).mono ?_
  rintro e w19 ⟨rfl, hM⟩
  replace HN7 := Lib.hid (newP_mod HN7.out hM (fun g hg e => by have := (Hfar.out g e).1 g hg; omega))
  replace HC := Lib.hid (HC.out.mod hM (fun g hg e => by have := (Hfar.out g e).2; have := HT.out g hg; omega))
  replace HX : Hid (Ext w w19) := Lib.hid (Mod.toExt ((Ext.mod HX.out (Since w.heap.size)).trans hM (fun g _ e => (Hfar.out g e).2)))
  clear hM HN1 HN2
  go_wp2_with fail
  refine (k_pairs w19 _ _ _ _ l l HN7.out.prs HC.out).mono ?_
  rintro e w20 ⟨rfl, hE⟩
  replace HC := Lib.hid (HC.out.ext hE)
  replace HN7 := Lib.hid (newP_mod HN7.out hE (fun _ _ => id))
  replace HX := Lib.hid (HX.out.ext hE)
  rw [eqPrs_refl]
  clear hE
  go_wp2_with fail
  refine (r_pairs w20 _ _ l HC.out).mono ?_
  rintro e w21 ⟨rfl, hE⟩
  replace HC := Lib.hid (HC.out.ext hE)
  replace HN7 := Lib.hid (newP_mod HN7.out hE (fun _ _ => id))
  replace HX := Lib.hid (HX.out.ext hE)
  rw [Hp.out]
  clear hE
  go_wp2_with fail
  refine (kv_check w21 _ _ l HN7.out.prs).mono ?_
  rintro e w22 ⟨rfl, hE⟩
  replace HC := Lib.hid (HC.out.ext hE)
  replace HN7 := Lib.hid (newP_mod HN7.out hE (fun _ _ => id))
  replace HX := Lib.hid (HX.out.ext hE)
  rw [chkP_no Hp.out]
  clear hE
  go_wp2_with fail
  refine (l_wakes w22).mono ?_
  rintro e w23 ⟨rfl, hE⟩
  replace HC := Lib.hid (HC.out.ext hE)
  replace HN7 := Lib.hid (newP_mod HN7.out hE (fun _ _ => id))
  replace HX := Lib.hid (HX.out.ext hE)
  clear hE
  go_wp2
  go_ret
  exact ⟨rfl, Ext.below HX.out⟩
theorem kvExact_a (w : World) (v0 : Value) (l : List APair) (c : ACmd) (key : ByteArray) (hC : Prs w (fun g => g < w.heap.size) v0 l) (hc : c.ok) (_ : key.size ≤ maxLen) :
    Calls Try.prog 9 #[v0, .agg #[.int .i64 c.kind, .string c.key, .int .i64 c.old.kind, .float .f64 c.old.num, .string c.old.text, .int .i64 c.val.kind, .float .f64 c.val.num, .string c.val.text], .string key] w fun e w' => e = .returned (.bool true) ∧ Below w.heap.size w w' := by
  obtain ⟨A, cc, rfl⟩ := hC.form
  rcases h1 : heavyPairs l with _ | _
  case true => exact kvExact_heavy w _ (fun _ h => h) A _ cc l hC c key hc (.inl h1)
  rcases h2 : heavyCmd c with _ | _
  case true => exact kvExact_heavy w _ (fun _ h => h) A _ cc l hC c key hc (.inr ⟨h1, .inl h2⟩)
  by_cases h3 : 2000 < key.size
  · exact kvExact_heavy w _ (fun _ h => h) A _ cc l hC c key hc (.inr ⟨h1, .inr ⟨h2, h3⟩⟩)
  rcases hp : pairsB l with _ | _
  · exact kvExact_wrong w _ (fun _ h => h) A _ cc l hC c key hc h1 h2 h3 hp
  · exact kvExact_right w _ (fun _ h => h) A _ cc l hC c key hc h1 h2 h3 hp
end Go.Proofs.Ythhjaneadbkccaa
