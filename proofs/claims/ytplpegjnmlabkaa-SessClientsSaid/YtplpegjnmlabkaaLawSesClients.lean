/-
  The walk of SessClients. Conditions: as the theorem names them.
-/
import Derived.Test.YtplpegjnmlabkaaSesMore
namespace Go.Proofs.Ytplpegjnmlabkaa
set_option linter.unusedSimpArgs false
open Go.RowKit

set_option maxRecDepth 100000 in
set_option maxHeartbeats 2000000 in
theorem sesClients_walk (w : World) (T : Nat → Prop) (A : Option Addr) (n cc : Nat) (l : List ACall) (hC : Cas w T (.slice A n cc) l) (hn : l.length = n) (a b : ACall) (ha : a.ok) (hb : b.ok) :
    Calls Try.prog 5 #[.slice A n cc, .agg #[.int .i64 a.client, .int .i64 a.seq, .int .i64 a.cmd.kind, .string a.cmd.key, .int .i64 a.cmd.old.kind, .float .f64 a.cmd.old.num, .string a.cmd.old.text, .int .i64 a.cmd.val.kind, .float .f64 a.cmd.val.num, .string a.cmd.val.text], .agg #[.int .i64 b.client, .int .i64 b.seq, .int .i64 b.cmd.kind, .string b.cmd.key, .int .i64 b.cmd.old.kind, .float .f64 b.cmd.old.num, .string b.cmd.old.text, .int .i64 b.cmd.val.kind, .float .f64 b.cmd.val.num, .string b.cmd.val.text]] w fun e w' => e = .returned (.bool true) ∧ Below w.heap.size w w' := by
  have hl := hC.1.le
  rw [hn] at hl
  unfold maxLen at hl
  by_cases h1 : 1000 < n
  · have d1 : decide ((n : Int) > 1000) = true := by simp; omega
    go_enter Try.func5, Try.ntmps5
    go_wp2
    go_ret
    exact ⟨rfl, Ext.below (((Mod.refl _ w).alloc _).alloc _)⟩
  have d1 : decide ((n : Int) > 1000) = false := by simp; omega
  rcases h2 : heavyCmd a.cmd with _ | _
  case true =>
    have HX : Hid (Ext w w) := Lib.hid (Mod.refl _ w)
    have HC := Lib.hid hC
    clear hC
    go_enter Try.func5, Try.ntmps5
    go_wp2_with fail
    obtain ⟨w1, hw1⟩ : ∃ w1, w1 = w.alloc (.cells #[.int .i64 a.client, .int .i64 a.seq, .int .i64 a.cmd.kind, .string a.cmd.key, .int .i64 a.cmd.old.kind, .float .f64 a.cmd.old.num, .string a.cmd.old.text, .int .i64 a.cmd.val.kind, .float .f64 a.cmd.val.num, .string a.cmd.val.text] 32) := ⟨_, rfl⟩
    obtain ⟨ba, hba⟩ : ∃ ba, ba = w.heap.size := ⟨_, rfl⟩
    have hzz : w.heap.size = ba := hba.symm
    have hE : Ext w w1 := by rw [hw1]; exact (Mod.refl _ w).alloc _
    have hKn : w1.heap[ba]? = some (.cells #[.int .i64 a.client, .int .i64 a.seq, .int .i64 a.cmd.kind, .string a.cmd.key, .int .i64 a.cmd.old.kind, .float .f64 a.cmd.old.num, .string a.cmd.old.text, .int .i64 a.cmd.val.kind, .float .f64 a.cmd.val.num, .string a.cmd.val.text] 32 (0, 0)) := by rw [hw1, ← hzz]; exact heap_alloc_new w _
    have hzn : w1.heap.size = ba + 1 := by rw [hw1, ← hzz]; simp
    rw [← hw1, ← hba]
    have HXo := HX
    replace HC := Lib.hid (HC.out.ext hE)
    replace HX := Lib.hid (HX.out.ext hE)
    have Kaw1 := Lib.hid hKn
    have hbz : w.heap.size ≤ ba := by have := HXo.out.size; omega
    clear hKn hE hw1 hba HXo hzz
    have hba := hbz
    clear hbz
    obtain ⟨w2, hw2⟩ : ∃ w2, w2 = w1.alloc (.cells #[.int .i64 b.client, .int .i64 b.seq, .int .i64 b.cmd.kind, .string b.cmd.key, .int .i64 b.cmd.old.kind, .float .f64 b.cmd.old.num, .string b.cmd.old.text, .int .i64 b.cmd.val.kind, .float .f64 b.cmd.val.num, .string b.cmd.val.text] 32) := ⟨_, rfl⟩
    obtain ⟨bb, hbb⟩ : ∃ bb, bb = ba + 1 := ⟨_, rfl⟩
    have hzz : w1.heap.size = bb := hzn.trans hbb.symm
    clear hzn
    have hE : Ext w1 w2 := by rw [hw2]; exact (Mod.refl _ w1).alloc _
    have hKn : w2.heap[bb]? = some (.cells #[.int .i64 b.client, .int .i64 b.seq, .int .i64 b.cmd.kind, .string b.cmd.key, .int .i64 b.cmd.old.kind, .float .f64 b.cmd.old.num, .string b.cmd.old.text, .int .i64 b.cmd.val.kind, .float .f64 b.cmd.val.num, .string b.cmd.val.text] 32 (0, 0)) := by rw [hw2, ← hzz]; exact heap_alloc_new w1 _
    have hzn : w2.heap.size = bb + 1 := by rw [hw2, ← hzz]; simp
    rw [← hw2, ← hbb]
    have hltab : ba < bb := by have := (Array.getElem?_eq_some_iff.1 Kaw1.out).1; omega
    have HXo := HX
    have Kaw2 := Lib.hid (hE.blk Kaw1.out id)
    replace HC := Lib.hid (HC.out.ext hE)
    replace HX := Lib.hid (HX.out.ext hE)
    clear Kaw1
    have Kbw2 := Lib.hid hKn
    have hbz : w.heap.size ≤ bb := by have := HXo.out.size; omega
    clear hKn hE hw2 hbb HXo hzz
    have hbb := hbz
    clear hbz
    clear hzn
    refine (hv_cmd a.cmd w2).mono ?_
    rintro e w3 ⟨rfl, hE⟩
    have Kaw3 := Lib.hid (hE.blk Kaw2.out id)
    have Kbw3 := Lib.hid (hE.blk Kbw2.out id)
    replace HC := Lib.hid (HC.out.ext hE)
    replace HX := Lib.hid (HX.out.ext hE)
    clear Kaw2
    clear Kbw2
    rw [h2]
    clear hE
    have a_0 : w3.cell? ⟨ba, 0, none⟩ = some _ := blk_cell Kaw3.out rfl
    have a_1 : w3.cell? ⟨ba, 1, none⟩ = some _ := blk_cell Kaw3.out rfl
    have a_2 : w3.cell? ⟨ba, 2, none⟩ = some _ := blk_cell Kaw3.out rfl
    have a_3 : w3.cell? ⟨ba, 3, none⟩ = some _ := blk_cell Kaw3.out rfl
    have a_4 : w3.cell? ⟨ba, 4, none⟩ = some _ := blk_cell Kaw3.out rfl
    have a_5 : w3.cell? ⟨ba, 5, none⟩ = some _ := blk_cell Kaw3.out rfl
    have a_6 : w3.cell? ⟨ba, 6, none⟩ = some _ := blk_cell Kaw3.out rfl
    have a_7 : w3.cell? ⟨ba, 7, none⟩ = some _ := blk_cell Kaw3.out rfl
    have a_8 : w3.cell? ⟨ba, 8, none⟩ = some _ := blk_cell Kaw3.out rfl
    have a_9 : w3.cell? ⟨ba, 9, none⟩ = some _ := blk_cell Kaw3.out rfl
    have a_l : ba < w3.heap.size := (Array.getElem?_eq_some_iff.1 Kaw3.out).1
    have b_0 : w3.cell? ⟨bb, 0, none⟩ = some _ := blk_cell Kbw3.out rfl
    have b_1 : w3.cell? ⟨bb, 1, none⟩ = some _ := blk_cell Kbw3.out rfl
    have b_2 : w3.cell? ⟨bb, 2, none⟩ = some _ := blk_cell Kbw3.out rfl
    have b_3 : w3.cell? ⟨bb, 3, none⟩ = some _ := blk_cell Kbw3.out rfl
    have b_4 : w3.cell? ⟨bb, 4, none⟩ = some _ := blk_cell Kbw3.out rfl
    have b_5 : w3.cell? ⟨bb, 5, none⟩ = some _ := blk_cell Kbw3.out rfl
    have b_6 : w3.cell? ⟨bb, 6, none⟩ = some _ := blk_cell Kbw3.out rfl
    have b_7 : w3.cell? ⟨bb, 7, none⟩ = some _ := blk_cell Kbw3.out rfl
    have b_8 : w3.cell? ⟨bb, 8, none⟩ = some _ := blk_cell Kbw3.out rfl
    have b_9 : w3.cell? ⟨bb, 9, none⟩ = some _ := blk_cell Kbw3.out rfl
    have b_l : bb < w3.heap.size := (Array.getElem?_eq_some_iff.1 Kbw3.out).1
    go_wp2
    go_ret
    exact ⟨rfl, Ext.below HX.out⟩
  rcases h3 : heavyCmd b.cmd with _ | _
  case true =>
    have HX : Hid (Ext w w) := Lib.hid (Mod.refl _ w)
    have HC := Lib.hid hC
    clear hC
    go_enter Try.func5, Try.ntmps5
    go_wp2_with fail
    obtain ⟨w1, hw1⟩ : ∃ w1, w1 = w.alloc (.cells #[.int .i64 a.client, .int .i64 a.seq, .int .i64 a.cmd.kind, .string a.cmd.key, .int .i64 a.cmd.old.kind, .float .f64 a.cmd.old.num, .string a.cmd.old.text, .int .i64 a.cmd.val.kind, .float .f64 a.cmd.val.num, .string a.cmd.val.text] 32) := ⟨_, rfl⟩
    obtain ⟨ba, hba⟩ : ∃ ba, ba = w.heap.size := ⟨_, rfl⟩
    have hzz : w.heap.size = ba := hba.symm
    have hE : Ext w w1 := by rw [hw1]; exact (Mod.refl _ w).alloc _
    have hKn : w1.heap[ba]? = some (.cells #[.int .i64 a.client, .int .i64 a.seq, .int .i64 a.cmd.kind, .string a.cmd.key, .int .i64 a.cmd.old.kind, .float .f64 a.cmd.old.num, .string a.cmd.old.text, .int .i64 a.cmd.val.kind, .float .f64 a.cmd.val.num, .string a.cmd.val.text] 32 (0, 0)) := by rw [hw1, ← hzz]; exact heap_alloc_new w _
    have hzn : w1.heap.size = ba + 1 := by rw [hw1, ← hzz]; simp
    rw [← hw1, ← hba]
    have HXo := HX
    replace HC := Lib.hid (HC.out.ext hE)
    replace HX := Lib.hid (HX.out.ext hE)
    have Kaw1 := Lib.hid hKn
    have hbz : w.heap.size ≤ ba := by have := HXo.out.size; omega
    clear hKn hE hw1 hba HXo hzz
    have hba := hbz
    clear hbz
    obtain ⟨w2, hw2⟩ : ∃ w2, w2 = w1.alloc (.cells #[.int .i64 b.client, .int .i64 b.seq, .int .i64 b.cmd.kind, .string b.cmd.key, .int .i64 b.cmd.old.kind, .float .f64 b.cmd.old.num, .string b.cmd.old.text, .int .i64 b.cmd.val.kind, .float .f64 b.cmd.val.num, .string b.cmd.val.text] 32) := ⟨_, rfl⟩
    obtain ⟨bb, hbb⟩ : ∃ bb, bb = ba + 1 := ⟨_, rfl⟩
    have hzz : w1.heap.size = bb := hzn.trans hbb.symm
    clear hzn
    have hE : Ext w1 w2 := by rw [hw2]; exact (Mod.refl _ w1).alloc _
    have hKn : w2.heap[bb]? = some (.cells #[.int .i64 b.client, .int .i64 b.seq, .int .i64 b.cmd.kind, .string b.cmd.key, .int .i64 b.cmd.old.kind, .float .f64 b.cmd.old.num, .string b.cmd.old.text, .int .i64 b.cmd.val.kind, .float .f64 b.cmd.val.num, .string b.cmd.val.text] 32 (0, 0)) := by rw [hw2, ← hzz]; exact heap_alloc_new w1 _
    have hzn : w2.heap.size = bb + 1 := by rw [hw2, ← hzz]; simp
    rw [← hw2, ← hbb]
    have hltab : ba < bb := by have := (Array.getElem?_eq_some_iff.1 Kaw1.out).1; omega
    have HXo := HX
    have Kaw2 := Lib.hid (hE.blk Kaw1.out id)
    replace HC := Lib.hid (HC.out.ext hE)
    replace HX := Lib.hid (HX.out.ext hE)
    clear Kaw1
    have Kbw2 := Lib.hid hKn
    have hbz : w.heap.size ≤ bb := by have := HXo.out.size; omega
    clear hKn hE hw2 hbb HXo hzz
    have hbb := hbz
    clear hbz
    clear hzn
    refine (hv_cmd a.cmd w2).mono ?_
    rintro e w3 ⟨rfl, hE⟩
    have Kaw3 := Lib.hid (hE.blk Kaw2.out id)
    have Kbw3 := Lib.hid (hE.blk Kbw2.out id)
    replace HC := Lib.hid (HC.out.ext hE)
    replace HX := Lib.hid (HX.out.ext hE)
    clear Kaw2
    clear Kbw2
    rw [h2]
    clear hE
    have a_0 : w3.cell? ⟨ba, 0, none⟩ = some _ := blk_cell Kaw3.out rfl
    have a_1 : w3.cell? ⟨ba, 1, none⟩ = some _ := blk_cell Kaw3.out rfl
    have a_2 : w3.cell? ⟨ba, 2, none⟩ = some _ := blk_cell Kaw3.out rfl
    have a_3 : w3.cell? ⟨ba, 3, none⟩ = some _ := blk_cell Kaw3.out rfl
    have a_4 : w3.cell? ⟨ba, 4, none⟩ = some _ := blk_cell Kaw3.out rfl
    have a_5 : w3.cell? ⟨ba, 5, none⟩ = some _ := blk_cell Kaw3.out rfl
    have a_6 : w3.cell? ⟨ba, 6, none⟩ = some _ := blk_cell Kaw3.out rfl
    have a_7 : w3.cell? ⟨ba, 7, none⟩ = some _ := blk_cell Kaw3.out rfl
    have a_8 : w3.cell? ⟨ba, 8, none⟩ = some _ := blk_cell Kaw3.out rfl
    have a_9 : w3.cell? ⟨ba, 9, none⟩ = some _ := blk_cell Kaw3.out rfl
    have a_l : ba < w3.heap.size := (Array.getElem?_eq_some_iff.1 Kaw3.out).1
    have b_0 : w3.cell? ⟨bb, 0, none⟩ = some _ := blk_cell Kbw3.out rfl
    have b_1 : w3.cell? ⟨bb, 1, none⟩ = some _ := blk_cell Kbw3.out rfl
    have b_2 : w3.cell? ⟨bb, 2, none⟩ = some _ := blk_cell Kbw3.out rfl
    have b_3 : w3.cell? ⟨bb, 3, none⟩ = some _ := blk_cell Kbw3.out rfl
    have b_4 : w3.cell? ⟨bb, 4, none⟩ = some _ := blk_cell Kbw3.out rfl
    have b_5 : w3.cell? ⟨bb, 5, none⟩ = some _ := blk_cell Kbw3.out rfl
    have b_6 : w3.cell? ⟨bb, 6, none⟩ = some _ := blk_cell Kbw3.out rfl
    have b_7 : w3.cell? ⟨bb, 7, none⟩ = some _ := blk_cell Kbw3.out rfl
    have b_8 : w3.cell? ⟨bb, 8, none⟩ = some _ := blk_cell Kbw3.out rfl
    have b_9 : w3.cell? ⟨bb, 9, none⟩ = some _ := blk_cell Kbw3.out rfl
    have b_l : bb < w3.heap.size := (Array.getElem?_eq_some_iff.1 Kbw3.out).1
    go_wp2_with fail
    refine (hv_cmd b.cmd w3).mono ?_
    rintro e w4 ⟨rfl, hE⟩
    clear a_0 a_1 a_2 a_3 a_4 a_5 a_6 a_7 a_8 a_9 a_l b_0 b_1 b_2 b_3 b_4 b_5 b_6 b_7 b_8 b_9 b_l
    have Kaw4 := Lib.hid (hE.blk Kaw3.out id)
    have Kbw4 := Lib.hid (hE.blk Kbw3.out id)
    replace HC := Lib.hid (HC.out.ext hE)
    replace HX := Lib.hid (HX.out.ext hE)
    clear Kaw3
    clear Kbw3
    rw [h3]
    clear hE
    have a_0 : w4.cell? ⟨ba, 0, none⟩ = some _ := blk_cell Kaw4.out rfl
    have a_1 : w4.cell? ⟨ba, 1, none⟩ = some _ := blk_cell Kaw4.out rfl
    have a_2 : w4.cell? ⟨ba, 2, none⟩ = some _ := blk_cell Kaw4.out rfl
    have a_3 : w4.cell? ⟨ba, 3, none⟩ = some _ := blk_cell Kaw4.out rfl
    have a_4 : w4.cell? ⟨ba, 4, none⟩ = some _ := blk_cell Kaw4.out rfl
    have a_5 : w4.cell? ⟨ba, 5, none⟩ = some _ := blk_cell Kaw4.out rfl
    have a_6 : w4.cell? ⟨ba, 6, none⟩ = some _ := blk_cell Kaw4.out rfl
    have a_7 : w4.cell? ⟨ba, 7, none⟩ = some _ := blk_cell Kaw4.out rfl
    have a_8 : w4.cell? ⟨ba, 8, none⟩ = some _ := blk_cell Kaw4.out rfl
    have a_9 : w4.cell? ⟨ba, 9, none⟩ = some _ := blk_cell Kaw4.out rfl
    have a_l : ba < w4.heap.size := (Array.getElem?_eq_some_iff.1 Kaw4.out).1
    have b_0 : w4.cell? ⟨bb, 0, none⟩ = some _ := blk_cell Kbw4.out rfl
    have b_1 : w4.cell? ⟨bb, 1, none⟩ = some _ := blk_cell Kbw4.out rfl
    have b_2 : w4.cell? ⟨bb, 2, none⟩ = some _ := blk_cell Kbw4.out rfl
    have b_3 : w4.cell? ⟨bb, 3, none⟩ = some _ := blk_cell Kbw4.out rfl
    have b_4 : w4.cell? ⟨bb, 4, none⟩ = some _ := blk_cell Kbw4.out rfl
    have b_5 : w4.cell? ⟨bb, 5, none⟩ = some _ := blk_cell Kbw4.out rfl
    have b_6 : w4.cell? ⟨bb, 6, none⟩ = some _ := blk_cell Kbw4.out rfl
    have b_7 : w4.cell? ⟨bb, 7, none⟩ = some _ := blk_cell Kbw4.out rfl
    have b_8 : w4.cell? ⟨bb, 8, none⟩ = some _ := blk_cell Kbw4.out rfl
    have b_9 : w4.cell? ⟨bb, 9, none⟩ = some _ := blk_cell Kbw4.out rfl
    have b_l : bb < w4.heap.size := (Array.getElem?_eq_some_iff.1 Kbw4.out).1
    go_wp2
    go_ret
    exact ⟨rfl, Ext.below HX.out⟩
  by_cases hcl : a.client = b.client
  · have d4 : (a.client == b.client) = true := by simp [hcl]
    have Hcl := Lib.hid hcl
    clear hcl
    have HX : Hid (Ext w w) := Lib.hid (Mod.refl _ w)
    have HC := Lib.hid hC
    clear hC
    go_enter Try.func5, Try.ntmps5
    go_wp2_with fail
    obtain ⟨w1, hw1⟩ : ∃ w1, w1 = w.alloc (.cells #[.int .i64 a.client, .int .i64 a.seq, .int .i64 a.cmd.kind, .string a.cmd.key, .int .i64 a.cmd.old.kind, .float .f64 a.cmd.old.num, .string a.cmd.old.text, .int .i64 a.cmd.val.kind, .float .f64 a.cmd.val.num, .string a.cmd.val.text] 32) := ⟨_, rfl⟩
    obtain ⟨ba, hba⟩ : ∃ ba, ba = w.heap.size := ⟨_, rfl⟩
    have hzz : w.heap.size = ba := hba.symm
    have hE : Ext w w1 := by rw [hw1]; exact (Mod.refl _ w).alloc _
    have hKn : w1.heap[ba]? = some (.cells #[.int .i64 a.client, .int .i64 a.seq, .int .i64 a.cmd.kind, .string a.cmd.key, .int .i64 a.cmd.old.kind, .float .f64 a.cmd.old.num, .string a.cmd.old.text, .int .i64 a.cmd.val.kind, .float .f64 a.cmd.val.num, .string a.cmd.val.text] 32 (0, 0)) := by rw [hw1, ← hzz]; exact heap_alloc_new w _
    have hzn : w1.heap.size = ba + 1 := by rw [hw1, ← hzz]; simp
    rw [← hw1, ← hba]
    have HXo := HX
    replace HC := Lib.hid (HC.out.ext hE)
    replace HX := Lib.hid (HX.out.ext hE)
    have Kaw1 := Lib.hid hKn
    have hbz : w.heap.size ≤ ba := by have := HXo.out.size; omega
    clear hKn hE hw1 hba HXo hzz
    have hba := hbz
    clear hbz
    obtain ⟨w2, hw2⟩ : ∃ w2, w2 = w1.alloc (.cells #[.int .i64 b.client, .int .i64 b.seq, .int .i64 b.cmd.kind, .string b.cmd.key, .int .i64 b.cmd.old.kind, .float .f64 b.cmd.old.num, .string b.cmd.old.text, .int .i64 b.cmd.val.kind, .float .f64 b.cmd.val.num, .string b.cmd.val.text] 32) := ⟨_, rfl⟩
    obtain ⟨bb, hbb⟩ : ∃ bb, bb = ba + 1 := ⟨_, rfl⟩
    have hzz : w1.heap.size = bb := hzn.trans hbb.symm
    clear hzn
    have hE : Ext w1 w2 := by rw [hw2]; exact (Mod.refl _ w1).alloc _
    have hKn : w2.heap[bb]? = some (.cells #[.int .i64 b.client, .int .i64 b.seq, .int .i64 b.cmd.kind, .string b.cmd.key, .int .i64 b.cmd.old.kind, .float .f64 b.cmd.old.num, .string b.cmd.old.text, .int .i64 b.cmd.val.kind, .float .f64 b.cmd.val.num, .string b.cmd.val.text] 32 (0, 0)) := by rw [hw2, ← hzz]; exact heap_alloc_new w1 _
    have hzn : w2.heap.size = bb + 1 := by rw [hw2, ← hzz]; simp
    rw [← hw2, ← hbb]
    have hltab : ba < bb := by have := (Array.getElem?_eq_some_iff.1 Kaw1.out).1; omega
    have HXo := HX
    have Kaw2 := Lib.hid (hE.blk Kaw1.out id)
    replace HC := Lib.hid (HC.out.ext hE)
    replace HX := Lib.hid (HX.out.ext hE)
    clear Kaw1
    have Kbw2 := Lib.hid hKn
    have hbz : w.heap.size ≤ bb := by have := HXo.out.size; omega
    clear hKn hE hw2 hbb HXo hzz
    have hbb := hbz
    clear hbz
    clear hzn
    refine (hv_cmd a.cmd w2).mono ?_
    rintro e w3 ⟨rfl, hE⟩
    have Kaw3 := Lib.hid (hE.blk Kaw2.out id)
    have Kbw3 := Lib.hid (hE.blk Kbw2.out id)
    replace HC := Lib.hid (HC.out.ext hE)
    replace HX := Lib.hid (HX.out.ext hE)
    clear Kaw2
    clear Kbw2
    rw [h2]
    clear hE
    have a_0 : w3.cell? ⟨ba, 0, none⟩ = some _ := blk_cell Kaw3.out rfl
    have a_1 : w3.cell? ⟨ba, 1, none⟩ = some _ := blk_cell Kaw3.out rfl
    have a_2 : w3.cell? ⟨ba, 2, none⟩ = some _ := blk_cell Kaw3.out rfl
    have a_3 : w3.cell? ⟨ba, 3, none⟩ = some _ := blk_cell Kaw3.out rfl
    have a_4 : w3.cell? ⟨ba, 4, none⟩ = some _ := blk_cell Kaw3.out rfl
    have a_5 : w3.cell? ⟨ba, 5, none⟩ = some _ := blk_cell Kaw3.out rfl
    have a_6 : w3.cell? ⟨ba, 6, none⟩ = some _ := blk_cell Kaw3.out rfl
    have a_7 : w3.cell? ⟨ba, 7, none⟩ = some _ := blk_cell Kaw3.out rfl
    have a_8 : w3.cell? ⟨ba, 8, none⟩ = some _ := blk_cell Kaw3.out rfl
    have a_9 : w3.cell? ⟨ba, 9, none⟩ = some _ := blk_cell Kaw3.out rfl
    have a_l : ba < w3.heap.size := (Array.getElem?_eq_some_iff.1 Kaw3.out).1
    have b_0 : w3.cell? ⟨bb, 0, none⟩ = some _ := blk_cell Kbw3.out rfl
    have b_1 : w3.cell? ⟨bb, 1, none⟩ = some _ := blk_cell Kbw3.out rfl
    have b_2 : w3.cell? ⟨bb, 2, none⟩ = some _ := blk_cell Kbw3.out rfl
    have b_3 : w3.cell? ⟨bb, 3, none⟩ = some _ := blk_cell Kbw3.out rfl
    have b_4 : w3.cell? ⟨bb, 4, none⟩ = some _ := blk_cell Kbw3.out rfl
    have b_5 : w3.cell? ⟨bb, 5, none⟩ = some _ := blk_cell Kbw3.out rfl
    have b_6 : w3.cell? ⟨bb, 6, none⟩ = some _ := blk_cell Kbw3.out rfl
    have b_7 : w3.cell? ⟨bb, 7, none⟩ = some _ := blk_cell Kbw3.out rfl
    have b_8 : w3.cell? ⟨bb, 8, none⟩ = some _ := blk_cell Kbw3.out rfl
    have b_9 : w3.cell? ⟨bb, 9, none⟩ = some _ := blk_cell Kbw3.out rfl
    have b_l : bb < w3.heap.size := (Array.getElem?_eq_some_iff.1 Kbw3.out).1
    go_wp2_with fail
    refine (hv_cmd b.cmd w3).mono ?_
    rintro e w4 ⟨rfl, hE⟩
    clear a_0 a_1 a_2 a_3 a_4 a_5 a_6 a_7 a_8 a_9 a_l b_0 b_1 b_2 b_3 b_4 b_5 b_6 b_7 b_8 b_9 b_l
    have Kaw4 := Lib.hid (hE.blk Kaw3.out id)
    have Kbw4 := Lib.hid (hE.blk Kbw3.out id)
    replace HC := Lib.hid (HC.out.ext hE)
    replace HX := Lib.hid (HX.out.ext hE)
    clear Kaw3
    clear Kbw3
    rw [h3]
    clear hE
    have a_0 : w4.cell? ⟨ba, 0, none⟩ = some _ := blk_cell Kaw4.out rfl
    have a_1 : w4.cell? ⟨ba, 1, none⟩ = some _ := blk_cell Kaw4.out rfl
    have a_2 : w4.cell? ⟨ba, 2, none⟩ = some _ := blk_cell Kaw4.out rfl
    have a_3 : w4.cell? ⟨ba, 3, none⟩ = some _ := blk_cell Kaw4.out rfl
    have a_4 : w4.cell? ⟨ba, 4, none⟩ = some _ := blk_cell Kaw4.out rfl
    have a_5 : w4.cell? ⟨ba, 5, none⟩ = some _ := blk_cell Kaw4.out rfl
    have a_6 : w4.cell? ⟨ba, 6, none⟩ = some _ := blk_cell Kaw4.out rfl
    have a_7 : w4.cell? ⟨ba, 7, none⟩ = some _ := blk_cell Kaw4.out rfl
    have a_8 : w4.cell? ⟨ba, 8, none⟩ = some _ := blk_cell Kaw4.out rfl
    have a_9 : w4.cell? ⟨ba, 9, none⟩ = some _ := blk_cell Kaw4.out rfl
    have a_l : ba < w4.heap.size := (Array.getElem?_eq_some_iff.1 Kaw4.out).1
    have b_0 : w4.cell? ⟨bb, 0, none⟩ = some _ := blk_cell Kbw4.out rfl
    have b_1 : w4.cell? ⟨bb, 1, none⟩ = some _ := blk_cell Kbw4.out rfl
    have b_2 : w4.cell? ⟨bb, 2, none⟩ = some _ := blk_cell Kbw4.out rfl
    have b_3 : w4.cell? ⟨bb, 3, none⟩ = some _ := blk_cell Kbw4.out rfl
    have b_4 : w4.cell? ⟨bb, 4, none⟩ = some _ := blk_cell Kbw4.out rfl
    have b_5 : w4.cell? ⟨bb, 5, none⟩ = some _ := blk_cell Kbw4.out rfl
    have b_6 : w4.cell? ⟨bb, 6, none⟩ = some _ := blk_cell Kbw4.out rfl
    have b_7 : w4.cell? ⟨bb, 7, none⟩ = some _ := blk_cell Kbw4.out rfl
    have b_8 : w4.cell? ⟨bb, 8, none⟩ = some _ := blk_cell Kbw4.out rfl
    have b_9 : w4.cell? ⟨bb, 9, none⟩ = some _ := blk_cell Kbw4.out rfl
    have b_l : bb < w4.heap.size := (Array.getElem?_eq_some_iff.1 Kbw4.out).1
    go_wp2
    go_ret
    exact ⟨rfl, Ext.below HX.out⟩
  have d4 : (a.client == b.client) = false := by simp [hcl]
  have Hcl := Lib.hid hcl
  clear hcl
  rcases h4 : eqT a.cmd.key b.cmd.key with _ | _
  case true =>
    have d5 : (a.cmd.key.toList == b.cmd.key.toList) = true := h4
    have HX : Hid (Ext w w) := Lib.hid (Mod.refl _ w)
    have HC := Lib.hid hC
    clear hC
    go_enter Try.func5, Try.ntmps5
    go_wp2_with fail
    obtain ⟨w1, hw1⟩ : ∃ w1, w1 = w.alloc (.cells #[.int .i64 a.client, .int .i64 a.seq, .int .i64 a.cmd.kind, .string a.cmd.key, .int .i64 a.cmd.old.kind, .float .f64 a.cmd.old.num, .string a.cmd.old.text, .int .i64 a.cmd.val.kind, .float .f64 a.cmd.val.num, .string a.cmd.val.text] 32) := ⟨_, rfl⟩
    obtain ⟨ba, hba⟩ : ∃ ba, ba = w.heap.size := ⟨_, rfl⟩
    have hzz : w.heap.size = ba := hba.symm
    have hE : Ext w w1 := by rw [hw1]; exact (Mod.refl _ w).alloc _
    have hKn : w1.heap[ba]? = some (.cells #[.int .i64 a.client, .int .i64 a.seq, .int .i64 a.cmd.kind, .string a.cmd.key, .int .i64 a.cmd.old.kind, .float .f64 a.cmd.old.num, .string a.cmd.old.text, .int .i64 a.cmd.val.kind, .float .f64 a.cmd.val.num, .string a.cmd.val.text] 32 (0, 0)) := by rw [hw1, ← hzz]; exact heap_alloc_new w _
    have hzn : w1.heap.size = ba + 1 := by rw [hw1, ← hzz]; simp
    rw [← hw1, ← hba]
    have HXo := HX
    replace HC := Lib.hid (HC.out.ext hE)
    replace HX := Lib.hid (HX.out.ext hE)
    have Kaw1 := Lib.hid hKn
    have hbz : w.heap.size ≤ ba := by have := HXo.out.size; omega
    clear hKn hE hw1 hba HXo hzz
    have hba := hbz
    clear hbz
    obtain ⟨w2, hw2⟩ : ∃ w2, w2 = w1.alloc (.cells #[.int .i64 b.client, .int .i64 b.seq, .int .i64 b.cmd.kind, .string b.cmd.key, .int .i64 b.cmd.old.kind, .float .f64 b.cmd.old.num, .string b.cmd.old.text, .int .i64 b.cmd.val.kind, .float .f64 b.cmd.val.num, .string b.cmd.val.text] 32) := ⟨_, rfl⟩
    obtain ⟨bb, hbb⟩ : ∃ bb, bb = ba + 1 := ⟨_, rfl⟩
    have hzz : w1.heap.size = bb := hzn.trans hbb.symm
    clear hzn
    have hE : Ext w1 w2 := by rw [hw2]; exact (Mod.refl _ w1).alloc _
    have hKn : w2.heap[bb]? = some (.cells #[.int .i64 b.client, .int .i64 b.seq, .int .i64 b.cmd.kind, .string b.cmd.key, .int .i64 b.cmd.old.kind, .float .f64 b.cmd.old.num, .string b.cmd.old.text, .int .i64 b.cmd.val.kind, .float .f64 b.cmd.val.num, .string b.cmd.val.text] 32 (0, 0)) := by rw [hw2, ← hzz]; exact heap_alloc_new w1 _
    have hzn : w2.heap.size = bb + 1 := by rw [hw2, ← hzz]; simp
    rw [← hw2, ← hbb]
    have hltab : ba < bb := by have := (Array.getElem?_eq_some_iff.1 Kaw1.out).1; omega
    have HXo := HX
    have Kaw2 := Lib.hid (hE.blk Kaw1.out id)
    replace HC := Lib.hid (HC.out.ext hE)
    replace HX := Lib.hid (HX.out.ext hE)
    clear Kaw1
    have Kbw2 := Lib.hid hKn
    have hbz : w.heap.size ≤ bb := by have := HXo.out.size; omega
    clear hKn hE hw2 hbb HXo hzz
    have hbb := hbz
    clear hbz
    clear hzn
    refine (hv_cmd a.cmd w2).mono ?_
    rintro e w3 ⟨rfl, hE⟩
    have Kaw3 := Lib.hid (hE.blk Kaw2.out id)
    have Kbw3 := Lib.hid (hE.blk Kbw2.out id)
    replace HC := Lib.hid (HC.out.ext hE)
    replace HX := Lib.hid (HX.out.ext hE)
    clear Kaw2
    clear Kbw2
    rw [h2]
    clear hE
    have a_0 : w3.cell? ⟨ba, 0, none⟩ = some _ := blk_cell Kaw3.out rfl
    have a_1 : w3.cell? ⟨ba, 1, none⟩ = some _ := blk_cell Kaw3.out rfl
    have a_2 : w3.cell? ⟨ba, 2, none⟩ = some _ := blk_cell Kaw3.out rfl
    have a_3 : w3.cell? ⟨ba, 3, none⟩ = some _ := blk_cell Kaw3.out rfl
    have a_4 : w3.cell? ⟨ba, 4, none⟩ = some _ := blk_cell Kaw3.out rfl
    have a_5 : w3.cell? ⟨ba, 5, none⟩ = some _ := blk_cell Kaw3.out rfl
    have a_6 : w3.cell? ⟨ba, 6, none⟩ = some _ := blk_cell Kaw3.out rfl
    have a_7 : w3.cell? ⟨ba, 7, none⟩ = some _ := blk_cell Kaw3.out rfl
    have a_8 : w3.cell? ⟨ba, 8, none⟩ = some _ := blk_cell Kaw3.out rfl
    have a_9 : w3.cell? ⟨ba, 9, none⟩ = some _ := blk_cell Kaw3.out rfl
    have a_l : ba < w3.heap.size := (Array.getElem?_eq_some_iff.1 Kaw3.out).1
    have b_0 : w3.cell? ⟨bb, 0, none⟩ = some _ := blk_cell Kbw3.out rfl
    have b_1 : w3.cell? ⟨bb, 1, none⟩ = some _ := blk_cell Kbw3.out rfl
    have b_2 : w3.cell? ⟨bb, 2, none⟩ = some _ := blk_cell Kbw3.out rfl
    have b_3 : w3.cell? ⟨bb, 3, none⟩ = some _ := blk_cell Kbw3.out rfl
    have b_4 : w3.cell? ⟨bb, 4, none⟩ = some _ := blk_cell Kbw3.out rfl
    have b_5 : w3.cell? ⟨bb, 5, none⟩ = some _ := blk_cell Kbw3.out rfl
    have b_6 : w3.cell? ⟨bb, 6, none⟩ = some _ := blk_cell Kbw3.out rfl
    have b_7 : w3.cell? ⟨bb, 7, none⟩ = some _ := blk_cell Kbw3.out rfl
    have b_8 : w3.cell? ⟨bb, 8, none⟩ = some _ := blk_cell Kbw3.out rfl
    have b_9 : w3.cell? ⟨bb, 9, none⟩ = some _ := blk_cell Kbw3.out rfl
    have b_l : bb < w3.heap.size := (Array.getElem?_eq_some_iff.1 Kbw3.out).1
    go_wp2_with fail
    refine (hv_cmd b.cmd w3).mono ?_
    rintro e w4 ⟨rfl, hE⟩
    clear a_0 a_1 a_2 a_3 a_4 a_5 a_6 a_7 a_8 a_9 a_l b_0 b_1 b_2 b_3 b_4 b_5 b_6 b_7 b_8 b_9 b_l
    have Kaw4 := Lib.hid (hE.blk Kaw3.out id)
    have Kbw4 := Lib.hid (hE.blk Kbw3.out id)
    replace HC := Lib.hid (HC.out.ext hE)
    replace HX := Lib.hid (HX.out.ext hE)
    clear Kaw3
    clear Kbw3
    rw [h3]
    clear hE
    have a_0 : w4.cell? ⟨ba, 0, none⟩ = some _ := blk_cell Kaw4.out rfl
    have a_1 : w4.cell? ⟨ba, 1, none⟩ = some _ := blk_cell Kaw4.out rfl
    have a_2 : w4.cell? ⟨ba, 2, none⟩ = some _ := blk_cell Kaw4.out rfl
    have a_3 : w4.cell? ⟨ba, 3, none⟩ = some _ := blk_cell Kaw4.out rfl
    have a_4 : w4.cell? ⟨ba, 4, none⟩ = some _ := blk_cell Kaw4.out rfl
    have a_5 : w4.cell? ⟨ba, 5, none⟩ = some _ := blk_cell Kaw4.out rfl
    have a_6 : w4.cell? ⟨ba, 6, none⟩ = some _ := blk_cell Kaw4.out rfl
    have a_7 : w4.cell? ⟨ba, 7, none⟩ = some _ := blk_cell Kaw4.out rfl
    have a_8 : w4.cell? ⟨ba, 8, none⟩ = some _ := blk_cell Kaw4.out rfl
    have a_9 : w4.cell? ⟨ba, 9, none⟩ = some _ := blk_cell Kaw4.out rfl
    have a_l : ba < w4.heap.size := (Array.getElem?_eq_some_iff.1 Kaw4.out).1
    have b_0 : w4.cell? ⟨bb, 0, none⟩ = some _ := blk_cell Kbw4.out rfl
    have b_1 : w4.cell? ⟨bb, 1, none⟩ = some _ := blk_cell Kbw4.out rfl
    have b_2 : w4.cell? ⟨bb, 2, none⟩ = some _ := blk_cell Kbw4.out rfl
    have b_3 : w4.cell? ⟨bb, 3, none⟩ = some _ := blk_cell Kbw4.out rfl
    have b_4 : w4.cell? ⟨bb, 4, none⟩ = some _ := blk_cell Kbw4.out rfl
    have b_5 : w4.cell? ⟨bb, 5, none⟩ = some _ := blk_cell Kbw4.out rfl
    have b_6 : w4.cell? ⟨bb, 6, none⟩ = some _ := blk_cell Kbw4.out rfl
    have b_7 : w4.cell? ⟨bb, 7, none⟩ = some _ := blk_cell Kbw4.out rfl
    have b_8 : w4.cell? ⟨bb, 8, none⟩ = some _ := blk_cell Kbw4.out rfl
    have b_9 : w4.cell? ⟨bb, 9, none⟩ = some _ := blk_cell Kbw4.out rfl
    have b_l : bb < w4.heap.size := (Array.getElem?_eq_some_iff.1 Kbw4.out).1
    go_wp2
    go_ret
    exact ⟨rfl, Ext.below HX.out⟩
  have d5 : (a.cmd.key.toList == b.cmd.key.toList) = false := h4
  have HX : Hid (Ext w w) := Lib.hid (Mod.refl _ w)
  have HC := Lib.hid hC
  clear hC
  go_enter Try.func5, Try.ntmps5
  go_wp2_with fail
  obtain ⟨w1, hw1⟩ : ∃ w1, w1 = w.alloc (.cells #[.int .i64 a.client, .int .i64 a.seq, .int .i64 a.cmd.kind, .string a.cmd.key, .int .i64 a.cmd.old.kind, .float .f64 a.cmd.old.num, .string a.cmd.old.text, .int .i64 a.cmd.val.kind, .float .f64 a.cmd.val.num, .string a.cmd.val.text] 32) := ⟨_, rfl⟩
  obtain ⟨ba, hba⟩ : ∃ ba, ba = w.heap.size := ⟨_, rfl⟩
  have hzz : w.heap.size = ba := hba.symm
  have hE : Ext w w1 := by rw [hw1]; exact (Mod.refl _ w).alloc _
  have hKn : w1.heap[ba]? = some (.cells #[.int .i64 a.client, .int .i64 a.seq, .int .i64 a.cmd.kind, .string a.cmd.key, .int .i64 a.cmd.old.kind, .float .f64 a.cmd.old.num, .string a.cmd.old.text, .int .i64 a.cmd.val.kind, .float .f64 a.cmd.val.num, .string a.cmd.val.text] 32 (0, 0)) := by rw [hw1, ← hzz]; exact heap_alloc_new w _
  have hzn : w1.heap.size = ba + 1 := by rw [hw1, ← hzz]; simp
  rw [← hw1, ← hba]
  have HXo := HX
  replace HC := Lib.hid (HC.out.ext hE)
  replace HX := Lib.hid (HX.out.ext hE)
  have Kaw1 := Lib.hid hKn
  have hbz : w.heap.size ≤ ba := by have := HXo.out.size; omega
  clear hKn hE hw1 hba HXo hzz
  have hba := hbz
  clear hbz
  obtain ⟨w2, hw2⟩ : ∃ w2, w2 = w1.alloc (.cells #[.int .i64 b.client, .int .i64 b.seq, .int .i64 b.cmd.kind, .string b.cmd.key, .int .i64 b.cmd.old.kind, .float .f64 b.cmd.old.num, .string b.cmd.old.text, .int .i64 b.cmd.val.kind, .float .f64 b.cmd.val.num, .string b.cmd.val.text] 32) := ⟨_, rfl⟩
  obtain ⟨bb, hbb⟩ : ∃ bb, bb = ba + 1 := ⟨_, rfl⟩
  have hzz : w1.heap.size = bb := hzn.trans hbb.symm
  clear hzn
  have hE : Ext w1 w2 := by rw [hw2]; exact (Mod.refl _ w1).alloc _
  have hKn : w2.heap[bb]? = some (.cells #[.int .i64 b.client, .int .i64 b.seq, .int .i64 b.cmd.kind, .string b.cmd.key, .int .i64 b.cmd.old.kind, .float .f64 b.cmd.old.num, .string b.cmd.old.text, .int .i64 b.cmd.val.kind, .float .f64 b.cmd.val.num, .string b.cmd.val.text] 32 (0, 0)) := by rw [hw2, ← hzz]; exact heap_alloc_new w1 _
  have hzn : w2.heap.size = bb + 1 := by rw [hw2, ← hzz]; simp
  rw [← hw2, ← hbb]
  have hltab : ba < bb := by have := (Array.getElem?_eq_some_iff.1 Kaw1.out).1; omega
  have HXo := HX
  have Kaw2 := Lib.hid (hE.blk Kaw1.out id)
  replace HC := Lib.hid (HC.out.ext hE)
  replace HX := Lib.hid (HX.out.ext hE)
  clear Kaw1
  have Kbw2 := Lib.hid hKn
  have hbz : w.heap.size ≤ bb := by have := HXo.out.size; omega
  clear hKn hE hw2 hbb HXo hzz
  have hbb := hbz
  clear hbz
  clear hzn
  refine (hv_cmd a.cmd w2).mono ?_
  rintro e w3 ⟨rfl, hE⟩
  have Kaw3 := Lib.hid (hE.blk Kaw2.out id)
  have Kbw3 := Lib.hid (hE.blk Kbw2.out id)
  replace HC := Lib.hid (HC.out.ext hE)
  replace HX := Lib.hid (HX.out.ext hE)
  clear Kaw2
  clear Kbw2
  rw [h2]
  clear hE
  have a_0 : w3.cell? ⟨ba, 0, none⟩ = some _ := blk_cell Kaw3.out rfl
  have a_1 : w3.cell? ⟨ba, 1, none⟩ = some _ := blk_cell Kaw3.out rfl
  have a_2 : w3.cell? ⟨ba, 2, none⟩ = some _ := blk_cell Kaw3.out rfl
  have a_3 : w3.cell? ⟨ba, 3, none⟩ = some _ := blk_cell Kaw3.out rfl
  have a_4 : w3.cell? ⟨ba, 4, none⟩ = some _ := blk_cell Kaw3.out rfl
  have a_5 : w3.cell? ⟨ba, 5, none⟩ = some _ := blk_cell Kaw3.out rfl
  have a_6 : w3.cell? ⟨ba, 6, none⟩ = some _ := blk_cell Kaw3.out rfl
  have a_7 : w3.cell? ⟨ba, 7, none⟩ = some _ := blk_cell Kaw3.out rfl
  have a_8 : w3.cell? ⟨ba, 8, none⟩ = some _ := blk_cell Kaw3.out rfl
  have a_9 : w3.cell? ⟨ba, 9, none⟩ = some _ := blk_cell Kaw3.out rfl
  have a_l : ba < w3.heap.size := (Array.getElem?_eq_some_iff.1 Kaw3.out).1
  have b_0 : w3.cell? ⟨bb, 0, none⟩ = some _ := blk_cell Kbw3.out rfl
  have b_1 : w3.cell? ⟨bb, 1, none⟩ = some _ := blk_cell Kbw3.out rfl
  have b_2 : w3.cell? ⟨bb, 2, none⟩ = some _ := blk_cell Kbw3.out rfl
  have b_3 : w3.cell? ⟨bb, 3, none⟩ = some _ := blk_cell Kbw3.out rfl
  have b_4 : w3.cell? ⟨bb, 4, none⟩ = some _ := blk_cell Kbw3.out rfl
  have b_5 : w3.cell? ⟨bb, 5, none⟩ = some _ := blk_cell Kbw3.out rfl
  have b_6 : w3.cell? ⟨bb, 6, none⟩ = some _ := blk_cell Kbw3.out rfl
  have b_7 : w3.cell? ⟨bb, 7, none⟩ = some _ := blk_cell Kbw3.out rfl
  have b_8 : w3.cell? ⟨bb, 8, none⟩ = some _ := blk_cell Kbw3.out rfl
  have b_9 : w3.cell? ⟨bb, 9, none⟩ = some _ := blk_cell Kbw3.out rfl
  have b_l : bb < w3.heap.size := (Array.getElem?_eq_some_iff.1 Kbw3.out).1
  go_wp2_with fail
  refine (hv_cmd b.cmd w3).mono ?_
  rintro e w4 ⟨rfl, hE⟩
  clear a_0 a_1 a_2 a_3 a_4 a_5 a_6 a_7 a_8 a_9 a_l b_0 b_1 b_2 b_3 b_4 b_5 b_6 b_7 b_8 b_9 b_l
  have Kaw4 := Lib.hid (hE.blk Kaw3.out id)
  have Kbw4 := Lib.hid (hE.blk Kbw3.out id)
  replace HC := Lib.hid (HC.out.ext hE)
  replace HX := Lib.hid (HX.out.ext hE)
  clear Kaw3
  clear Kbw3
  rw [h3]
  clear hE
  have a_0 : w4.cell? ⟨ba, 0, none⟩ = some _ := blk_cell Kaw4.out rfl
  have a_1 : w4.cell? ⟨ba, 1, none⟩ = some _ := blk_cell Kaw4.out rfl
  have a_2 : w4.cell? ⟨ba, 2, none⟩ = some _ := blk_cell Kaw4.out rfl
  have a_3 : w4.cell? ⟨ba, 3, none⟩ = some _ := blk_cell Kaw4.out rfl
  have a_4 : w4.cell? ⟨ba, 4, none⟩ = some _ := blk_cell Kaw4.out rfl
  have a_5 : w4.cell? ⟨ba, 5, none⟩ = some _ := blk_cell Kaw4.out rfl
  have a_6 : w4.cell? ⟨ba, 6, none⟩ = some _ := blk_cell Kaw4.out rfl
  have a_7 : w4.cell? ⟨ba, 7, none⟩ = some _ := blk_cell Kaw4.out rfl
  have a_8 : w4.cell? ⟨ba, 8, none⟩ = some _ := blk_cell Kaw4.out rfl
  have a_9 : w4.cell? ⟨ba, 9, none⟩ = some _ := blk_cell Kaw4.out rfl
  have a_l : ba < w4.heap.size := (Array.getElem?_eq_some_iff.1 Kaw4.out).1
  have b_0 : w4.cell? ⟨bb, 0, none⟩ = some _ := blk_cell Kbw4.out rfl
  have b_1 : w4.cell? ⟨bb, 1, none⟩ = some _ := blk_cell Kbw4.out rfl
  have b_2 : w4.cell? ⟨bb, 2, none⟩ = some _ := blk_cell Kbw4.out rfl
  have b_3 : w4.cell? ⟨bb, 3, none⟩ = some _ := blk_cell Kbw4.out rfl
  have b_4 : w4.cell? ⟨bb, 4, none⟩ = some _ := blk_cell Kbw4.out rfl
  have b_5 : w4.cell? ⟨bb, 5, none⟩ = some _ := blk_cell Kbw4.out rfl
  have b_6 : w4.cell? ⟨bb, 6, none⟩ = some _ := blk_cell Kbw4.out rfl
  have b_7 : w4.cell? ⟨bb, 7, none⟩ = some _ := blk_cell Kbw4.out rfl
  have b_8 : w4.cell? ⟨bb, 8, none⟩ = some _ := blk_cell Kbw4.out rfl
  have b_9 : w4.cell? ⟨bb, 9, none⟩ = some _ := blk_cell Kbw4.out rfl
  have b_l : bb < w4.heap.size := (Array.getElem?_eq_some_iff.1 Kbw4.out).1
  go_wp2_with fail
  refine (l_grown7 w4 T _ l HC.out (by omega)).mono ?_
  rintro e w5 ⟨p7, v7, m, rfl, hN, hr, hE⟩
  clear a_0 a_1 a_2 a_3 a_4 a_5 a_6 a_7 a_8 a_9 a_l b_0 b_1 b_2 b_3 b_4 b_5 b_6 b_7 b_8 b_9 b_l
  have Kaw5 := Lib.hid (hE.blk Kaw4.out id)
  have Kbw5 := Lib.hid (hE.blk Kbw4.out id)
  replace HC := Lib.hid (HC.out.ext hE)
  replace HX := Lib.hid (HX.out.ext hE)
  clear Kaw4
  clear Kbw4
  obtain ⟨A7, c7, rfl⟩ := own_form hN.1.1
  obtain ⟨B7, d7, rfl⟩ := own_form hN.2.1.1
  have HN7 := Lib.hid hN
  have Hr := Lib.hid hr
  clear hN hr
  clear hE
  have a_0 : w5.cell? ⟨ba, 0, none⟩ = some _ := blk_cell Kaw5.out rfl
  have a_1 : w5.cell? ⟨ba, 1, none⟩ = some _ := blk_cell Kaw5.out rfl
  have a_2 : w5.cell? ⟨ba, 2, none⟩ = some _ := blk_cell Kaw5.out rfl
  have a_3 : w5.cell? ⟨ba, 3, none⟩ = some _ := blk_cell Kaw5.out rfl
  have a_4 : w5.cell? ⟨ba, 4, none⟩ = some _ := blk_cell Kaw5.out rfl
  have a_5 : w5.cell? ⟨ba, 5, none⟩ = some _ := blk_cell Kaw5.out rfl
  have a_6 : w5.cell? ⟨ba, 6, none⟩ = some _ := blk_cell Kaw5.out rfl
  have a_7 : w5.cell? ⟨ba, 7, none⟩ = some _ := blk_cell Kaw5.out rfl
  have a_8 : w5.cell? ⟨ba, 8, none⟩ = some _ := blk_cell Kaw5.out rfl
  have a_9 : w5.cell? ⟨ba, 9, none⟩ = some _ := blk_cell Kaw5.out rfl
  have a_l : ba < w5.heap.size := (Array.getElem?_eq_some_iff.1 Kaw5.out).1
  have b_0 : w5.cell? ⟨bb, 0, none⟩ = some _ := blk_cell Kbw5.out rfl
  have b_1 : w5.cell? ⟨bb, 1, none⟩ = some _ := blk_cell Kbw5.out rfl
  have b_2 : w5.cell? ⟨bb, 2, none⟩ = some _ := blk_cell Kbw5.out rfl
  have b_3 : w5.cell? ⟨bb, 3, none⟩ = some _ := blk_cell Kbw5.out rfl
  have b_4 : w5.cell? ⟨bb, 4, none⟩ = some _ := blk_cell Kbw5.out rfl
  have b_5 : w5.cell? ⟨bb, 5, none⟩ = some _ := blk_cell Kbw5.out rfl
  have b_6 : w5.cell? ⟨bb, 6, none⟩ = some _ := blk_cell Kbw5.out rfl
  have b_7 : w5.cell? ⟨bb, 7, none⟩ = some _ := blk_cell Kbw5.out rfl
  have b_8 : w5.cell? ⟨bb, 8, none⟩ = some _ := blk_cell Kbw5.out rfl
  have b_9 : w5.cell? ⟨bb, 9, none⟩ = some _ := blk_cell Kbw5.out rfl
  have b_l : bb < w5.heap.size := (Array.getElem?_eq_some_iff.1 Kbw5.out).1
  clear HC
  by_cases h30 : 30 < m.pairs.length
  · have d30 : decide ((m.pairs.length : Int) > 30) = true := by simp; omega
    go_wp2_with fail
    obtain ⟨w6, hw6⟩ : ∃ w6, w6 = w5.alloc (.cells #[.slice A7 m.pairs.length c7, .slice B7 m.sess.length d7] 25) := ⟨_, rfl⟩
    obtain ⟨bm, hbm⟩ : ∃ bm, bm = w5.heap.size := ⟨_, rfl⟩
    have hzz : w5.heap.size = bm := hbm.symm
    have hE : Ext w5 w6 := by rw [hw6]; exact (Mod.refl _ w5).alloc _
    have hKn : w6.heap[bm]? = some (.cells #[.slice A7 m.pairs.length c7, .slice B7 m.sess.length d7] 25 (0, 0)) := by rw [hw6, ← hzz]; exact heap_alloc_new w5 _
    have hzn : w6.heap.size = bm + 1 := by rw [hw6, ← hzz]; simp
    rw [← hw6, ← hbm]
    have hltam : ba < bm := by have := (Array.getElem?_eq_some_iff.1 Kaw5.out).1; omega
    have hltbm : bb < bm := by have := (Array.getElem?_eq_some_iff.1 Kbw5.out).1; omega
    clear a_0 a_1 a_2 a_3 a_4 a_5 a_6 a_7 a_8 a_9 a_l b_0 b_1 b_2 b_3 b_4 b_5 b_6 b_7 b_8 b_9 b_l
    have HXo := HX
    have Kaw6 := Lib.hid (hE.blk Kaw5.out id)
    have Kbw6 := Lib.hid (hE.blk Kbw5.out id)
    replace HN7 := Lib.hid (newM_mod HN7.out hE (fun _ _ => id) (fun _ _ => id))
    replace HX := Lib.hid (HX.out.ext hE)
    clear Kaw5
    clear Kbw5
    have Kmw6 := Lib.hid hKn
    have hbz : w.heap.size ≤ bm := by have := HXo.out.size; omega
    clear hKn hE hw6 hbm HXo hzz
    have hbm := hbz
    clear hbz
    clear hzn
    refine (l_wakes7 w6).mono ?_
    rintro e w7 ⟨rfl, hE⟩
    have Kaw7 := Lib.hid (hE.blk Kaw6.out id)
    have Kbw7 := Lib.hid (hE.blk Kbw6.out id)
    have Kmw7 := Lib.hid (hE.blk Kmw6.out id)
    replace HN7 := Lib.hid (newM_mod HN7.out hE (fun _ _ => id) (fun _ _ => id))
    replace HX := Lib.hid (HX.out.ext hE)
    clear Kaw6
    clear Kbw6
    clear Kmw6
    clear hE
    have a_0 : w7.cell? ⟨ba, 0, none⟩ = some _ := blk_cell Kaw7.out rfl
    have a_1 : w7.cell? ⟨ba, 1, none⟩ = some _ := blk_cell Kaw7.out rfl
    have a_2 : w7.cell? ⟨ba, 2, none⟩ = some _ := blk_cell Kaw7.out rfl
    have a_3 : w7.cell? ⟨ba, 3, none⟩ = some _ := blk_cell Kaw7.out rfl
    have a_4 : w7.cell? ⟨ba, 4, none⟩ = some _ := blk_cell Kaw7.out rfl
    have a_5 : w7.cell? ⟨ba, 5, none⟩ = some _ := blk_cell Kaw7.out rfl
    have a_6 : w7.cell? ⟨ba, 6, none⟩ = some _ := blk_cell Kaw7.out rfl
    have a_7 : w7.cell? ⟨ba, 7, none⟩ = some _ := blk_cell Kaw7.out rfl
    have a_8 : w7.cell? ⟨ba, 8, none⟩ = some _ := blk_cell Kaw7.out rfl
    have a_9 : w7.cell? ⟨ba, 9, none⟩ = some _ := blk_cell Kaw7.out rfl
    have a_l : ba < w7.heap.size := (Array.getElem?_eq_some_iff.1 Kaw7.out).1
    have b_0 : w7.cell? ⟨bb, 0, none⟩ = some _ := blk_cell Kbw7.out rfl
    have b_1 : w7.cell? ⟨bb, 1, none⟩ = some _ := blk_cell Kbw7.out rfl
    have b_2 : w7.cell? ⟨bb, 2, none⟩ = some _ := blk_cell Kbw7.out rfl
    have b_3 : w7.cell? ⟨bb, 3, none⟩ = some _ := blk_cell Kbw7.out rfl
    have b_4 : w7.cell? ⟨bb, 4, none⟩ = some _ := blk_cell Kbw7.out rfl
    have b_5 : w7.cell? ⟨bb, 5, none⟩ = some _ := blk_cell Kbw7.out rfl
    have b_6 : w7.cell? ⟨bb, 6, none⟩ = some _ := blk_cell Kbw7.out rfl
    have b_7 : w7.cell? ⟨bb, 7, none⟩ = some _ := blk_cell Kbw7.out rfl
    have b_8 : w7.cell? ⟨bb, 8, none⟩ = some _ := blk_cell Kbw7.out rfl
    have b_9 : w7.cell? ⟨bb, 9, none⟩ = some _ := blk_cell Kbw7.out rfl
    have b_l : bb < w7.heap.size := (Array.getElem?_eq_some_iff.1 Kbw7.out).1
    have m_0 : w7.cell? ⟨bm, 0, none⟩ = some _ := blk_cell Kmw7.out rfl
    have m_1 : w7.cell? ⟨bm, 1, none⟩ = some _ := blk_cell Kmw7.out rfl
    have m_l : bm < w7.heap.size := (Array.getElem?_eq_some_iff.1 Kmw7.out).1
    go_wp2
    go_ret
    exact ⟨rfl, Ext.below HX.out⟩
  have d30 : decide ((m.pairs.length : Int) > 30) = false := by simp; omega
  go_wp2_with fail
  obtain ⟨w6, hw6⟩ : ∃ w6, w6 = w5.alloc (.cells #[.slice A7 m.pairs.length c7, .slice B7 m.sess.length d7] 25) := ⟨_, rfl⟩
  obtain ⟨bm, hbm⟩ : ∃ bm, bm = w5.heap.size := ⟨_, rfl⟩
  have hzz : w5.heap.size = bm := hbm.symm
  have hE : Ext w5 w6 := by rw [hw6]; exact (Mod.refl _ w5).alloc _
  have hKn : w6.heap[bm]? = some (.cells #[.slice A7 m.pairs.length c7, .slice B7 m.sess.length d7] 25 (0, 0)) := by rw [hw6, ← hzz]; exact heap_alloc_new w5 _
  have hzn : w6.heap.size = bm + 1 := by rw [hw6, ← hzz]; simp
  rw [← hw6, ← hbm]
  have hltam : ba < bm := by have := (Array.getElem?_eq_some_iff.1 Kaw5.out).1; omega
  have hltbm : bb < bm := by have := (Array.getElem?_eq_some_iff.1 Kbw5.out).1; omega
  clear a_0 a_1 a_2 a_3 a_4 a_5 a_6 a_7 a_8 a_9 a_l b_0 b_1 b_2 b_3 b_4 b_5 b_6 b_7 b_8 b_9 b_l
  have HXo := HX
  have Kaw6 := Lib.hid (hE.blk Kaw5.out id)
  have Kbw6 := Lib.hid (hE.blk Kbw5.out id)
  replace HN7 := Lib.hid (newM_mod HN7.out hE (fun _ _ => id) (fun _ _ => id))
  replace HX := Lib.hid (HX.out.ext hE)
  clear Kaw5
  clear Kbw5
  have Kmw6 := Lib.hid hKn
  have hbz : w.heap.size ≤ bm := by have := HXo.out.size; omega
  clear hKn hE hw6 hbm HXo hzz
  have hbm := hbz
  clear hbz
  clear hzn
  have hso := HX.out.size
  rcases hr : onceP m a with ⟨X1, r⟩
  refine (s_do_at w6 _ _ _ _ m a (HN7.out.prs) (HN7.out.ses) (mach_small Hr.out) ha.2.2.2.2.2 hr).mono ?_
  rintro e w7 ⟨p1, v1, rfl, hN, hE⟩
  have Kaw7 := Lib.hid (hE.blk Kaw6.out id)
  have Kbw7 := Lib.hid (hE.blk Kbw6.out id)
  have Kmw7 := Lib.hid (hE.blk Kmw6.out id)
  replace HN7 := Lib.hid (newM_mod HN7.out hE (fun _ _ => id) (fun _ _ => id))
  replace HX := Lib.hid (HX.out.ext hE)
  clear Kaw6
  clear Kbw6
  clear Kmw6
  obtain ⟨A1, c1, rfl⟩ := own_form hN.1.1
  obtain ⟨B1, d1, rfl⟩ := own_form hN.2.1.1
  have HN1 := Lib.hid (newM_up hN hso)
  clear hN hso
  have HEr := Lib.hid hr
  clear hr
  clear hE
  have a_0 : w7.cell? ⟨ba, 0, none⟩ = some _ := blk_cell Kaw7.out rfl
  have a_1 : w7.cell? ⟨ba, 1, none⟩ = some _ := blk_cell Kaw7.out rfl
  have a_2 : w7.cell? ⟨ba, 2, none⟩ = some _ := blk_cell Kaw7.out rfl
  have a_3 : w7.cell? ⟨ba, 3, none⟩ = some _ := blk_cell Kaw7.out rfl
  have a_4 : w7.cell? ⟨ba, 4, none⟩ = some _ := blk_cell Kaw7.out rfl
  have a_5 : w7.cell? ⟨ba, 5, none⟩ = some _ := blk_cell Kaw7.out rfl
  have a_6 : w7.cell? ⟨ba, 6, none⟩ = some _ := blk_cell Kaw7.out rfl
  have a_7 : w7.cell? ⟨ba, 7, none⟩ = some _ := blk_cell Kaw7.out rfl
  have a_8 : w7.cell? ⟨ba, 8, none⟩ = some _ := blk_cell Kaw7.out rfl
  have a_9 : w7.cell? ⟨ba, 9, none⟩ = some _ := blk_cell Kaw7.out rfl
  have a_l : ba < w7.heap.size := (Array.getElem?_eq_some_iff.1 Kaw7.out).1
  have b_0 : w7.cell? ⟨bb, 0, none⟩ = some _ := blk_cell Kbw7.out rfl
  have b_1 : w7.cell? ⟨bb, 1, none⟩ = some _ := blk_cell Kbw7.out rfl
  have b_2 : w7.cell? ⟨bb, 2, none⟩ = some _ := blk_cell Kbw7.out rfl
  have b_3 : w7.cell? ⟨bb, 3, none⟩ = some _ := blk_cell Kbw7.out rfl
  have b_4 : w7.cell? ⟨bb, 4, none⟩ = some _ := blk_cell Kbw7.out rfl
  have b_5 : w7.cell? ⟨bb, 5, none⟩ = some _ := blk_cell Kbw7.out rfl
  have b_6 : w7.cell? ⟨bb, 6, none⟩ = some _ := blk_cell Kbw7.out rfl
  have b_7 : w7.cell? ⟨bb, 7, none⟩ = some _ := blk_cell Kbw7.out rfl
  have b_8 : w7.cell? ⟨bb, 8, none⟩ = some _ := blk_cell Kbw7.out rfl
  have b_9 : w7.cell? ⟨bb, 9, none⟩ = some _ := blk_cell Kbw7.out rfl
  have b_l : bb < w7.heap.size := (Array.getElem?_eq_some_iff.1 Kbw7.out).1
  have m_0 : w7.cell? ⟨bm, 0, none⟩ = some _ := blk_cell Kmw7.out rfl
  have m_1 : w7.cell? ⟨bm, 1, none⟩ = some _ := blk_cell Kmw7.out rfl
  have m_l : bm < w7.heap.size := (Array.getElem?_eq_some_iff.1 Kmw7.out).1
  have RX1 : machB X1 = true := by have := once_right a Hr.out; rw [HEr.out] at this; exact this
  go_wp2_with fail
  obtain ⟨w8, hw8⟩ : ∃ w8, w8 = w7.alloc (.cells #[.slice A1 X1.pairs.length c1, .slice B1 X1.sess.length d1] 25) := ⟨_, rfl⟩
  obtain ⟨bx, hbx⟩ : ∃ bx, bx = w7.heap.size := ⟨_, rfl⟩
  have hzz : w7.heap.size = bx := hbx.symm
  have hE : Ext w7 w8 := by rw [hw8]; exact (Mod.refl _ w7).alloc _
  have hKn : w8.heap[bx]? = some (.cells #[.slice A1 X1.pairs.length c1, .slice B1 X1.sess.length d1] 25 (0, 0)) := by rw [hw8, ← hzz]; exact heap_alloc_new w7 _
  have hzn : w8.heap.size = bx + 1 := by rw [hw8, ← hzz]; simp
  rw [← hw8, ← hbx]
  have hltax : ba < bx := by have := (Array.getElem?_eq_some_iff.1 Kaw7.out).1; omega
  have hltbx : bb < bx := by have := (Array.getElem?_eq_some_iff.1 Kbw7.out).1; omega
  have hltmx : bm < bx := by have := (Array.getElem?_eq_some_iff.1 Kmw7.out).1; omega
  clear a_0 a_1 a_2 a_3 a_4 a_5 a_6 a_7 a_8 a_9 a_l b_0 b_1 b_2 b_3 b_4 b_5 b_6 b_7 b_8 b_9 b_l m_0 m_1 m_l
  have HXo := HX
  have Kaw8 := Lib.hid (hE.blk Kaw7.out id)
  have Kbw8 := Lib.hid (hE.blk Kbw7.out id)
  have Kmw8 := Lib.hid (hE.blk Kmw7.out id)
  replace HN7 := Lib.hid (newM_mod HN7.out hE (fun _ _ => id) (fun _ _ => id))
  replace HN1 := Lib.hid (newM_mod HN1.out hE (fun _ _ => id) (fun _ _ => id))
  replace HX := Lib.hid (HX.out.ext hE)
  clear Kaw7
  clear Kbw7
  clear Kmw7
  have Kxw8 := Lib.hid hKn
  have hbz : w.heap.size ≤ bx := by have := HXo.out.size; omega
  clear hKn hE hw8 hbx HXo hzz
  have hbx := hbz
  clear hbz
  obtain ⟨w9, hw9⟩ : ∃ w9, w9 = w8.alloc (.cells #[.int .i64 r.code, .int .i64 r.val.kind, .float .f64 r.val.num, .string r.val.text] 38) := ⟨_, rfl⟩
  obtain ⟨br, hbr⟩ : ∃ br, br = bx + 1 := ⟨_, rfl⟩
  have hzz : w8.heap.size = br := hzn.trans hbr.symm
  clear hzn
  have hE : Ext w8 w9 := by rw [hw9]; exact (Mod.refl _ w8).alloc _
  have hKn : w9.heap[br]? = some (.cells #[.int .i64 r.code, .int .i64 r.val.kind, .float .f64 r.val.num, .string r.val.text] 38 (0, 0)) := by rw [hw9, ← hzz]; exact heap_alloc_new w8 _
  have hzn : w9.heap.size = br + 1 := by rw [hw9, ← hzz]; simp
  rw [← hw9, ← hbr]
  have hltar : ba < br := by have := (Array.getElem?_eq_some_iff.1 Kaw8.out).1; omega
  have hltbr : bb < br := by have := (Array.getElem?_eq_some_iff.1 Kbw8.out).1; omega
  have hltmr : bm < br := by have := (Array.getElem?_eq_some_iff.1 Kmw8.out).1; omega
  have hltxr : bx < br := by have := (Array.getElem?_eq_some_iff.1 Kxw8.out).1; omega
  have HXo := HX
  have Kaw9 := Lib.hid (hE.blk Kaw8.out id)
  have Kbw9 := Lib.hid (hE.blk Kbw8.out id)
  have Kmw9 := Lib.hid (hE.blk Kmw8.out id)
  have Kxw9 := Lib.hid (hE.blk Kxw8.out id)
  replace HN7 := Lib.hid (newM_mod HN7.out hE (fun _ _ => id) (fun _ _ => id))
  replace HN1 := Lib.hid (newM_mod HN1.out hE (fun _ _ => id) (fun _ _ => id))
  replace HX := Lib.hid (HX.out.ext hE)
  clear Kaw8
  clear Kbw8
  clear Kmw8
  clear Kxw8
  have Krw9 := Lib.hid hKn
  have hbz : w.heap.size ≤ br := by have := HXo.out.size; omega
  clear hKn hE hw9 hbr HXo hzz
  have hbr := hbz
  clear hbz
  clear hzn
  have hso := HX.out.size
  rcases hs : onceP X1 b with ⟨X2, s⟩
  refine (s_do_at w9 _ _ _ _ X1 b (HN1.out.prs) (HN1.out.ses) (mach_small RX1) hb.2.2.2.2.2 hs).mono ?_
  rintro e w10 ⟨p2, v2, rfl, hN, hE⟩
  have Kaw10 := Lib.hid (hE.blk Kaw9.out id)
  have Kbw10 := Lib.hid (hE.blk Kbw9.out id)
  have Kmw10 := Lib.hid (hE.blk Kmw9.out id)
  have Kxw10 := Lib.hid (hE.blk Kxw9.out id)
  have Krw10 := Lib.hid (hE.blk Krw9.out id)
  replace HN7 := Lib.hid (newM_mod HN7.out hE (fun _ _ => id) (fun _ _ => id))
  replace HN1 := Lib.hid (newM_mod HN1.out hE (fun _ _ => id) (fun _ _ => id))
  replace HX := Lib.hid (HX.out.ext hE)
  clear Kaw9
  clear Kbw9
  clear Kmw9
  clear Kxw9
  clear Krw9
  obtain ⟨A2, c2, rfl⟩ := own_form hN.1.1
  obtain ⟨B2, d2, rfl⟩ := own_form hN.2.1.1
  have HN2 := Lib.hid (newM_up hN hso)
  clear hN hso
  have HEs := Lib.hid hs
  clear hs
  clear hE
  have a_0 : w10.cell? ⟨ba, 0, none⟩ = some _ := blk_cell Kaw10.out rfl
  have a_1 : w10.cell? ⟨ba, 1, none⟩ = some _ := blk_cell Kaw10.out rfl
  have a_2 : w10.cell? ⟨ba, 2, none⟩ = some _ := blk_cell Kaw10.out rfl
  have a_3 : w10.cell? ⟨ba, 3, none⟩ = some _ := blk_cell Kaw10.out rfl
  have a_4 : w10.cell? ⟨ba, 4, none⟩ = some _ := blk_cell Kaw10.out rfl
  have a_5 : w10.cell? ⟨ba, 5, none⟩ = some _ := blk_cell Kaw10.out rfl
  have a_6 : w10.cell? ⟨ba, 6, none⟩ = some _ := blk_cell Kaw10.out rfl
  have a_7 : w10.cell? ⟨ba, 7, none⟩ = some _ := blk_cell Kaw10.out rfl
  have a_8 : w10.cell? ⟨ba, 8, none⟩ = some _ := blk_cell Kaw10.out rfl
  have a_9 : w10.cell? ⟨ba, 9, none⟩ = some _ := blk_cell Kaw10.out rfl
  have a_l : ba < w10.heap.size := (Array.getElem?_eq_some_iff.1 Kaw10.out).1
  have b_0 : w10.cell? ⟨bb, 0, none⟩ = some _ := blk_cell Kbw10.out rfl
  have b_1 : w10.cell? ⟨bb, 1, none⟩ = some _ := blk_cell Kbw10.out rfl
  have b_2 : w10.cell? ⟨bb, 2, none⟩ = some _ := blk_cell Kbw10.out rfl
  have b_3 : w10.cell? ⟨bb, 3, none⟩ = some _ := blk_cell Kbw10.out rfl
  have b_4 : w10.cell? ⟨bb, 4, none⟩ = some _ := blk_cell Kbw10.out rfl
  have b_5 : w10.cell? ⟨bb, 5, none⟩ = some _ := blk_cell Kbw10.out rfl
  have b_6 : w10.cell? ⟨bb, 6, none⟩ = some _ := blk_cell Kbw10.out rfl
  have b_7 : w10.cell? ⟨bb, 7, none⟩ = some _ := blk_cell Kbw10.out rfl
  have b_8 : w10.cell? ⟨bb, 8, none⟩ = some _ := blk_cell Kbw10.out rfl
  have b_9 : w10.cell? ⟨bb, 9, none⟩ = some _ := blk_cell Kbw10.out rfl
  have b_l : bb < w10.heap.size := (Array.getElem?_eq_some_iff.1 Kbw10.out).1
  have m_0 : w10.cell? ⟨bm, 0, none⟩ = some _ := blk_cell Kmw10.out rfl
  have m_1 : w10.cell? ⟨bm, 1, none⟩ = some _ := blk_cell Kmw10.out rfl
  have m_l : bm < w10.heap.size := (Array.getElem?_eq_some_iff.1 Kmw10.out).1
  have x_0 : w10.cell? ⟨bx, 0, none⟩ = some _ := blk_cell Kxw10.out rfl
  have x_1 : w10.cell? ⟨bx, 1, none⟩ = some _ := blk_cell Kxw10.out rfl
  have x_l : bx < w10.heap.size := (Array.getElem?_eq_some_iff.1 Kxw10.out).1
  have r_0 : w10.cell? ⟨br, 0, none⟩ = some _ := blk_cell Krw10.out rfl
  have r_1 : w10.cell? ⟨br, 1, none⟩ = some _ := blk_cell Krw10.out rfl
  have r_2 : w10.cell? ⟨br, 2, none⟩ = some _ := blk_cell Krw10.out rfl
  have r_3 : w10.cell? ⟨br, 3, none⟩ = some _ := blk_cell Krw10.out rfl
  have r_l : br < w10.heap.size := (Array.getElem?_eq_some_iff.1 Krw10.out).1
  have fz0 := blk_free 0 Kxw10.out
  have fz1 := blk_free 1 Kxw10.out
  go_wp2_with fail
  clear a_0 a_1 a_2 a_3 a_4 a_5 a_6 a_7 a_8 a_9 a_l b_0 b_1 b_2 b_3 b_4 b_5 b_6 b_7 b_8 b_9 b_l m_0 m_1 m_l x_0 x_1 x_l r_0 r_1 r_2 r_3 r_l
  clear fz0 fz1
  obtain ⟨w11, hw11⟩ : ∃ w11, ((w10.setCell ⟨bx, 0, none⟩ (.slice A2 X2.pairs.length c2)).setCell ⟨bx, 1, none⟩ (.slice B2 X2.sess.length d2)) = w11 := ⟨_, rfl⟩
  have hKn : w11.heap[bx]? = some (.cells #[.slice A2 X2.pairs.length c2, .slice B2 X2.sess.length d2] 25 (0, 0)) := by
    rw [← hw11]
    have := Kxw10.out
    simp [World.setCell, Array.getElem?_modify, this]
  have hM : Mod (fun k => k = bx) w10 w11 := by rw [← hw11]; exact mod_same (mod_same (Mod.refl _ _) _ _) _ _
  rw [hw11]
  have hsz : w10.heap.size = w11.heap.size := by rw [← hw11]; simp [World.setCell]
  rw [hsz]
  clear hsz
  have Kaw11 := Lib.hid (hM.blk Kaw10.out (by omega))
  have Kbw11 := Lib.hid (hM.blk Kbw10.out (by omega))
  have Kmw11 := Lib.hid (hM.blk Kmw10.out (by omega))
  have Kxw11 := Lib.hid hKn
  have Krw11 := Lib.hid (hM.blk Krw10.out (by omega))
  replace HN7 := Lib.hid (newM_box HN7.out Kxw10.out hM (by decide) (by decide))
  replace HN1 := Lib.hid (newM_box HN1.out Kxw10.out hM (by decide) (by decide))
  replace HN2 := Lib.hid (newM_box HN2.out Kxw10.out hM (by decide) (by decide))
  replace HX : Hid (Ext w w11) := Lib.hid (Mod.toExt ((Ext.mod HX.out (Since w.heap.size)).trans hM (fun k _ e => by rw [e]; exact hbx)))
  clear hKn hM hw11
  clear Kaw10
  clear Kbw10
  clear Kmw10
  clear Kxw10
  clear Krw10
  obtain ⟨w12, hw12⟩ : ∃ w12, w12 = w11.alloc (.cells #[.int .i64 s.code, .int .i64 s.val.kind, .float .f64 s.val.num, .string s.val.text] 38) := ⟨_, rfl⟩
  obtain ⟨bs, hbs⟩ : ∃ bs, bs = w11.heap.size := ⟨_, rfl⟩
  have hzz : w11.heap.size = bs := hbs.symm
  have hE : Ext w11 w12 := by rw [hw12]; exact (Mod.refl _ w11).alloc _
  have hKn : w12.heap[bs]? = some (.cells #[.int .i64 s.code, .int .i64 s.val.kind, .float .f64 s.val.num, .string s.val.text] 38 (0, 0)) := by rw [hw12, ← hzz]; exact heap_alloc_new w11 _
  have hzn : w12.heap.size = bs + 1 := by rw [hw12, ← hzz]; simp
  rw [← hw12, ← hbs]
  have hltas : ba < bs := by have := (Array.getElem?_eq_some_iff.1 Kaw11.out).1; omega
  have hltbs : bb < bs := by have := (Array.getElem?_eq_some_iff.1 Kbw11.out).1; omega
  have hltms : bm < bs := by have := (Array.getElem?_eq_some_iff.1 Kmw11.out).1; omega
  have hltxs : bx < bs := by have := (Array.getElem?_eq_some_iff.1 Kxw11.out).1; omega
  have hltrs : br < bs := by have := (Array.getElem?_eq_some_iff.1 Krw11.out).1; omega
  have HXo := HX
  have Kaw12 := Lib.hid (hE.blk Kaw11.out id)
  have Kbw12 := Lib.hid (hE.blk Kbw11.out id)
  have Kmw12 := Lib.hid (hE.blk Kmw11.out id)
  have Kxw12 := Lib.hid (hE.blk Kxw11.out id)
  have Krw12 := Lib.hid (hE.blk Krw11.out id)
  replace HN7 := Lib.hid (newM_mod HN7.out hE (fun _ _ => id) (fun _ _ => id))
  replace HN1 := Lib.hid (newM_mod HN1.out hE (fun _ _ => id) (fun _ _ => id))
  replace HN2 := Lib.hid (newM_mod HN2.out hE (fun _ _ => id) (fun _ _ => id))
  replace HX := Lib.hid (HX.out.ext hE)
  clear Kaw11
  clear Kbw11
  clear Kmw11
  clear Kxw11
  clear Krw11
  have Ksw12 := Lib.hid hKn
  have hbz : w.heap.size ≤ bs := by have := HXo.out.size; omega
  clear hKn hE hw12 hbs HXo hzz
  have hbs := hbz
  clear hbz
  clear hzn
  have a_0 : w12.cell? ⟨ba, 0, none⟩ = some _ := blk_cell Kaw12.out rfl
  have a_1 : w12.cell? ⟨ba, 1, none⟩ = some _ := blk_cell Kaw12.out rfl
  have a_2 : w12.cell? ⟨ba, 2, none⟩ = some _ := blk_cell Kaw12.out rfl
  have a_3 : w12.cell? ⟨ba, 3, none⟩ = some _ := blk_cell Kaw12.out rfl
  have a_4 : w12.cell? ⟨ba, 4, none⟩ = some _ := blk_cell Kaw12.out rfl
  have a_5 : w12.cell? ⟨ba, 5, none⟩ = some _ := blk_cell Kaw12.out rfl
  have a_6 : w12.cell? ⟨ba, 6, none⟩ = some _ := blk_cell Kaw12.out rfl
  have a_7 : w12.cell? ⟨ba, 7, none⟩ = some _ := blk_cell Kaw12.out rfl
  have a_8 : w12.cell? ⟨ba, 8, none⟩ = some _ := blk_cell Kaw12.out rfl
  have a_9 : w12.cell? ⟨ba, 9, none⟩ = some _ := blk_cell Kaw12.out rfl
  have a_l : ba < w12.heap.size := (Array.getElem?_eq_some_iff.1 Kaw12.out).1
  have b_0 : w12.cell? ⟨bb, 0, none⟩ = some _ := blk_cell Kbw12.out rfl
  have b_1 : w12.cell? ⟨bb, 1, none⟩ = some _ := blk_cell Kbw12.out rfl
  have b_2 : w12.cell? ⟨bb, 2, none⟩ = some _ := blk_cell Kbw12.out rfl
  have b_3 : w12.cell? ⟨bb, 3, none⟩ = some _ := blk_cell Kbw12.out rfl
  have b_4 : w12.cell? ⟨bb, 4, none⟩ = some _ := blk_cell Kbw12.out rfl
  have b_5 : w12.cell? ⟨bb, 5, none⟩ = some _ := blk_cell Kbw12.out rfl
  have b_6 : w12.cell? ⟨bb, 6, none⟩ = some _ := blk_cell Kbw12.out rfl
  have b_7 : w12.cell? ⟨bb, 7, none⟩ = some _ := blk_cell Kbw12.out rfl
  have b_8 : w12.cell? ⟨bb, 8, none⟩ = some _ := blk_cell Kbw12.out rfl
  have b_9 : w12.cell? ⟨bb, 9, none⟩ = some _ := blk_cell Kbw12.out rfl
  have b_l : bb < w12.heap.size := (Array.getElem?_eq_some_iff.1 Kbw12.out).1
  have m_0 : w12.cell? ⟨bm, 0, none⟩ = some _ := blk_cell Kmw12.out rfl
  have m_1 : w12.cell? ⟨bm, 1, none⟩ = some _ := blk_cell Kmw12.out rfl
  have m_l : bm < w12.heap.size := (Array.getElem?_eq_some_iff.1 Kmw12.out).1
  have x_0 : w12.cell? ⟨bx, 0, none⟩ = some _ := blk_cell Kxw12.out rfl
  have x_1 : w12.cell? ⟨bx, 1, none⟩ = some _ := blk_cell Kxw12.out rfl
  have x_l : bx < w12.heap.size := (Array.getElem?_eq_some_iff.1 Kxw12.out).1
  have r_0 : w12.cell? ⟨br, 0, none⟩ = some _ := blk_cell Krw12.out rfl
  have r_1 : w12.cell? ⟨br, 1, none⟩ = some _ := blk_cell Krw12.out rfl
  have r_2 : w12.cell? ⟨br, 2, none⟩ = some _ := blk_cell Krw12.out rfl
  have r_3 : w12.cell? ⟨br, 3, none⟩ = some _ := blk_cell Krw12.out rfl
  have r_l : br < w12.heap.size := (Array.getElem?_eq_some_iff.1 Krw12.out).1
  have s_0 : w12.cell? ⟨bs, 0, none⟩ = some _ := blk_cell Ksw12.out rfl
  have s_1 : w12.cell? ⟨bs, 1, none⟩ = some _ := blk_cell Ksw12.out rfl
  have s_2 : w12.cell? ⟨bs, 2, none⟩ = some _ := blk_cell Ksw12.out rfl
  have s_3 : w12.cell? ⟨bs, 3, none⟩ = some _ := blk_cell Ksw12.out rfl
  have s_l : bs < w12.heap.size := (Array.getElem?_eq_some_iff.1 Ksw12.out).1
  go_wp2_with fail
  have hso := HX.out.size
  rcases ht : onceP m b with ⟨Y1, t⟩
  refine (s_do_at w12 _ _ _ _ m b (HN7.out.prs) (HN7.out.ses) (mach_small Hr.out) hb.2.2.2.2.2 ht).mono ?_
  rintro e w13 ⟨p3, v3, rfl, hN, hE⟩
  clear a_0 a_1 a_2 a_3 a_4 a_5 a_6 a_7 a_8 a_9 a_l b_0 b_1 b_2 b_3 b_4 b_5 b_6 b_7 b_8 b_9 b_l m_0 m_1 m_l x_0 x_1 x_l r_0 r_1 r_2 r_3 r_l s_0 s_1 s_2 s_3 s_l
  have Kaw13 := Lib.hid (hE.blk Kaw12.out id)
  have Kbw13 := Lib.hid (hE.blk Kbw12.out id)
  have Kmw13 := Lib.hid (hE.blk Kmw12.out id)
  have Kxw13 := Lib.hid (hE.blk Kxw12.out id)
  have Krw13 := Lib.hid (hE.blk Krw12.out id)
  have Ksw13 := Lib.hid (hE.blk Ksw12.out id)
  replace HN7 := Lib.hid (newM_mod HN7.out hE (fun _ _ => id) (fun _ _ => id))
  replace HN1 := Lib.hid (newM_mod HN1.out hE (fun _ _ => id) (fun _ _ => id))
  replace HN2 := Lib.hid (newM_mod HN2.out hE (fun _ _ => id) (fun _ _ => id))
  replace HX := Lib.hid (HX.out.ext hE)
  clear Kaw12
  clear Kbw12
  clear Kmw12
  clear Kxw12
  clear Krw12
  clear Ksw12
  obtain ⟨A3, c3, rfl⟩ := own_form hN.1.1
  obtain ⟨B3, d3, rfl⟩ := own_form hN.2.1.1
  have HN3 := Lib.hid (newM_up hN hso)
  clear hN hso
  have HEt := Lib.hid ht
  clear ht
  clear hE
  have a_0 : w13.cell? ⟨ba, 0, none⟩ = some _ := blk_cell Kaw13.out rfl
  have a_1 : w13.cell? ⟨ba, 1, none⟩ = some _ := blk_cell Kaw13.out rfl
  have a_2 : w13.cell? ⟨ba, 2, none⟩ = some _ := blk_cell Kaw13.out rfl
  have a_3 : w13.cell? ⟨ba, 3, none⟩ = some _ := blk_cell Kaw13.out rfl
  have a_4 : w13.cell? ⟨ba, 4, none⟩ = some _ := blk_cell Kaw13.out rfl
  have a_5 : w13.cell? ⟨ba, 5, none⟩ = some _ := blk_cell Kaw13.out rfl
  have a_6 : w13.cell? ⟨ba, 6, none⟩ = some _ := blk_cell Kaw13.out rfl
  have a_7 : w13.cell? ⟨ba, 7, none⟩ = some _ := blk_cell Kaw13.out rfl
  have a_8 : w13.cell? ⟨ba, 8, none⟩ = some _ := blk_cell Kaw13.out rfl
  have a_9 : w13.cell? ⟨ba, 9, none⟩ = some _ := blk_cell Kaw13.out rfl
  have a_l : ba < w13.heap.size := (Array.getElem?_eq_some_iff.1 Kaw13.out).1
  have b_0 : w13.cell? ⟨bb, 0, none⟩ = some _ := blk_cell Kbw13.out rfl
  have b_1 : w13.cell? ⟨bb, 1, none⟩ = some _ := blk_cell Kbw13.out rfl
  have b_2 : w13.cell? ⟨bb, 2, none⟩ = some _ := blk_cell Kbw13.out rfl
  have b_3 : w13.cell? ⟨bb, 3, none⟩ = some _ := blk_cell Kbw13.out rfl
  have b_4 : w13.cell? ⟨bb, 4, none⟩ = some _ := blk_cell Kbw13.out rfl
  have b_5 : w13.cell? ⟨bb, 5, none⟩ = some _ := blk_cell Kbw13.out rfl
  have b_6 : w13.cell? ⟨bb, 6, none⟩ = some _ := blk_cell Kbw13.out rfl
  have b_7 : w13.cell? ⟨bb, 7, none⟩ = some _ := blk_cell Kbw13.out rfl
  have b_8 : w13.cell? ⟨bb, 8, none⟩ = some _ := blk_cell Kbw13.out rfl
  have b_9 : w13.cell? ⟨bb, 9, none⟩ = some _ := blk_cell Kbw13.out rfl
  have b_l : bb < w13.heap.size := (Array.getElem?_eq_some_iff.1 Kbw13.out).1
  have m_0 : w13.cell? ⟨bm, 0, none⟩ = some _ := blk_cell Kmw13.out rfl
  have m_1 : w13.cell? ⟨bm, 1, none⟩ = some _ := blk_cell Kmw13.out rfl
  have m_l : bm < w13.heap.size := (Array.getElem?_eq_some_iff.1 Kmw13.out).1
  have x_0 : w13.cell? ⟨bx, 0, none⟩ = some _ := blk_cell Kxw13.out rfl
  have x_1 : w13.cell? ⟨bx, 1, none⟩ = some _ := blk_cell Kxw13.out rfl
  have x_l : bx < w13.heap.size := (Array.getElem?_eq_some_iff.1 Kxw13.out).1
  have r_0 : w13.cell? ⟨br, 0, none⟩ = some _ := blk_cell Krw13.out rfl
  have r_1 : w13.cell? ⟨br, 1, none⟩ = some _ := blk_cell Krw13.out rfl
  have r_2 : w13.cell? ⟨br, 2, none⟩ = some _ := blk_cell Krw13.out rfl
  have r_3 : w13.cell? ⟨br, 3, none⟩ = some _ := blk_cell Krw13.out rfl
  have r_l : br < w13.heap.size := (Array.getElem?_eq_some_iff.1 Krw13.out).1
  have s_0 : w13.cell? ⟨bs, 0, none⟩ = some _ := blk_cell Ksw13.out rfl
  have s_1 : w13.cell? ⟨bs, 1, none⟩ = some _ := blk_cell Ksw13.out rfl
  have s_2 : w13.cell? ⟨bs, 2, none⟩ = some _ := blk_cell Ksw13.out rfl
  have s_3 : w13.cell? ⟨bs, 3, none⟩ = some _ := blk_cell Ksw13.out rfl
  have s_l : bs < w13.heap.size := (Array.getElem?_eq_some_iff.1 Ksw13.out).1
  have RY1 : machB Y1 = true := by have := once_right b Hr.out; rw [HEt.out] at this; exact this
  go_wp2_with fail
  obtain ⟨w14, hw14⟩ : ∃ w14, w14 = w13.alloc (.cells #[.slice A3 Y1.pairs.length c3, .slice B3 Y1.sess.length d3] 25) := ⟨_, rfl⟩
  obtain ⟨byy, hbyy⟩ : ∃ byy, byy = w13.heap.size := ⟨_, rfl⟩
  have hzz : w13.heap.size = byy := hbyy.symm
  have hE : Ext w13 w14 := by rw [hw14]; exact (Mod.refl _ w13).alloc _
  have hKn : w14.heap[byy]? = some (.cells #[.slice A3 Y1.pairs.length c3, .slice B3 Y1.sess.length d3] 25 (0, 0)) := by rw [hw14, ← hzz]; exact heap_alloc_new w13 _
  have hzn : w14.heap.size = byy + 1 := by rw [hw14, ← hzz]; simp
  rw [← hw14, ← hbyy]
  have hltayy : ba < byy := by have := (Array.getElem?_eq_some_iff.1 Kaw13.out).1; omega
  have hltbyy : bb < byy := by have := (Array.getElem?_eq_some_iff.1 Kbw13.out).1; omega
  have hltmyy : bm < byy := by have := (Array.getElem?_eq_some_iff.1 Kmw13.out).1; omega
  have hltxyy : bx < byy := by have := (Array.getElem?_eq_some_iff.1 Kxw13.out).1; omega
  have hltryy : br < byy := by have := (Array.getElem?_eq_some_iff.1 Krw13.out).1; omega
  have hltsyy : bs < byy := by have := (Array.getElem?_eq_some_iff.1 Ksw13.out).1; omega
  clear a_0 a_1 a_2 a_3 a_4 a_5 a_6 a_7 a_8 a_9 a_l b_0 b_1 b_2 b_3 b_4 b_5 b_6 b_7 b_8 b_9 b_l m_0 m_1 m_l x_0 x_1 x_l r_0 r_1 r_2 r_3 r_l s_0 s_1 s_2 s_3 s_l
  have HXo := HX
  have Kaw14 := Lib.hid (hE.blk Kaw13.out id)
  have Kbw14 := Lib.hid (hE.blk Kbw13.out id)
  have Kmw14 := Lib.hid (hE.blk Kmw13.out id)
  have Kxw14 := Lib.hid (hE.blk Kxw13.out id)
  have Krw14 := Lib.hid (hE.blk Krw13.out id)
  have Ksw14 := Lib.hid (hE.blk Ksw13.out id)
  replace HN7 := Lib.hid (newM_mod HN7.out hE (fun _ _ => id) (fun _ _ => id))
  replace HN1 := Lib.hid (newM_mod HN1.out hE (fun _ _ => id) (fun _ _ => id))
  replace HN2 := Lib.hid (newM_mod HN2.out hE (fun _ _ => id) (fun _ _ => id))
  replace HN3 := Lib.hid (newM_mod HN3.out hE (fun _ _ => id) (fun _ _ => id))
  replace HX := Lib.hid (HX.out.ext hE)
  clear Kaw13
  clear Kbw13
  clear Kmw13
  clear Kxw13
  clear Krw13
  clear Ksw13
  have Kyyw14 := Lib.hid hKn
  have hbz : w.heap.size ≤ byy := by have := HXo.out.size; omega
  clear hKn hE hw14 hbyy HXo hzz
  have hbyy := hbz
  clear hbz
  obtain ⟨w15, hw15⟩ : ∃ w15, w15 = w14.alloc (.cells #[.int .i64 t.code, .int .i64 t.val.kind, .float .f64 t.val.num, .string t.val.text] 38) := ⟨_, rfl⟩
  obtain ⟨bt, hbt⟩ : ∃ bt, bt = byy + 1 := ⟨_, rfl⟩
  have hzz : w14.heap.size = bt := hzn.trans hbt.symm
  clear hzn
  have hE : Ext w14 w15 := by rw [hw15]; exact (Mod.refl _ w14).alloc _
  have hKn : w15.heap[bt]? = some (.cells #[.int .i64 t.code, .int .i64 t.val.kind, .float .f64 t.val.num, .string t.val.text] 38 (0, 0)) := by rw [hw15, ← hzz]; exact heap_alloc_new w14 _
  have hzn : w15.heap.size = bt + 1 := by rw [hw15, ← hzz]; simp
  rw [← hw15, ← hbt]
  have hltat : ba < bt := by have := (Array.getElem?_eq_some_iff.1 Kaw14.out).1; omega
  have hltbt : bb < bt := by have := (Array.getElem?_eq_some_iff.1 Kbw14.out).1; omega
  have hltmt : bm < bt := by have := (Array.getElem?_eq_some_iff.1 Kmw14.out).1; omega
  have hltxt : bx < bt := by have := (Array.getElem?_eq_some_iff.1 Kxw14.out).1; omega
  have hltrt : br < bt := by have := (Array.getElem?_eq_some_iff.1 Krw14.out).1; omega
  have hltst : bs < bt := by have := (Array.getElem?_eq_some_iff.1 Ksw14.out).1; omega
  have hltyyt : byy < bt := by have := (Array.getElem?_eq_some_iff.1 Kyyw14.out).1; omega
  have HXo := HX
  have Kaw15 := Lib.hid (hE.blk Kaw14.out id)
  have Kbw15 := Lib.hid (hE.blk Kbw14.out id)
  have Kmw15 := Lib.hid (hE.blk Kmw14.out id)
  have Kxw15 := Lib.hid (hE.blk Kxw14.out id)
  have Krw15 := Lib.hid (hE.blk Krw14.out id)
  have Ksw15 := Lib.hid (hE.blk Ksw14.out id)
  have Kyyw15 := Lib.hid (hE.blk Kyyw14.out id)
  replace HN7 := Lib.hid (newM_mod HN7.out hE (fun _ _ => id) (fun _ _ => id))
  replace HN1 := Lib.hid (newM_mod HN1.out hE (fun _ _ => id) (fun _ _ => id))
  replace HN2 := Lib.hid (newM_mod HN2.out hE (fun _ _ => id) (fun _ _ => id))
  replace HN3 := Lib.hid (newM_mod HN3.out hE (fun _ _ => id) (fun _ _ => id))
  replace HX := Lib.hid (HX.out.ext hE)
  clear Kaw14
  clear Kbw14
  clear Kmw14
  clear Kxw14
  clear Krw14
  clear Ksw14
  clear Kyyw14
  have Ktw15 := Lib.hid hKn
  have hbz : w.heap.size ≤ bt := by have := HXo.out.size; omega
  clear hKn hE hw15 hbt HXo hzz
  have hbt := hbz
  clear hbz
  clear hzn
  have hso := HX.out.size
  rcases hu : onceP Y1 a with ⟨Y2, u⟩
  refine (s_do_at w15 _ _ _ _ Y1 a (HN3.out.prs) (HN3.out.ses) (mach_small RY1) ha.2.2.2.2.2 hu).mono ?_
  rintro e w16 ⟨p4, v4, rfl, hN, hE⟩
  have Kaw16 := Lib.hid (hE.blk Kaw15.out id)
  have Kbw16 := Lib.hid (hE.blk Kbw15.out id)
  have Kmw16 := Lib.hid (hE.blk Kmw15.out id)
  have Kxw16 := Lib.hid (hE.blk Kxw15.out id)
  have Krw16 := Lib.hid (hE.blk Krw15.out id)
  have Ksw16 := Lib.hid (hE.blk Ksw15.out id)
  have Kyyw16 := Lib.hid (hE.blk Kyyw15.out id)
  have Ktw16 := Lib.hid (hE.blk Ktw15.out id)
  replace HN7 := Lib.hid (newM_mod HN7.out hE (fun _ _ => id) (fun _ _ => id))
  replace HN1 := Lib.hid (newM_mod HN1.out hE (fun _ _ => id) (fun _ _ => id))
  replace HN2 := Lib.hid (newM_mod HN2.out hE (fun _ _ => id) (fun _ _ => id))
  replace HN3 := Lib.hid (newM_mod HN3.out hE (fun _ _ => id) (fun _ _ => id))
  replace HX := Lib.hid (HX.out.ext hE)
  clear Kaw15
  clear Kbw15
  clear Kmw15
  clear Kxw15
  clear Krw15
  clear Ksw15
  clear Kyyw15
  clear Ktw15
  obtain ⟨A4, c4, rfl⟩ := own_form hN.1.1
  obtain ⟨B4, d4, rfl⟩ := own_form hN.2.1.1
  have HN4 := Lib.hid (newM_up hN hso)
  clear hN hso
  have HEu := Lib.hid hu
  clear hu
  clear hE
  have a_0 : w16.cell? ⟨ba, 0, none⟩ = some _ := blk_cell Kaw16.out rfl
  have a_1 : w16.cell? ⟨ba, 1, none⟩ = some _ := blk_cell Kaw16.out rfl
  have a_2 : w16.cell? ⟨ba, 2, none⟩ = some _ := blk_cell Kaw16.out rfl
  have a_3 : w16.cell? ⟨ba, 3, none⟩ = some _ := blk_cell Kaw16.out rfl
  have a_4 : w16.cell? ⟨ba, 4, none⟩ = some _ := blk_cell Kaw16.out rfl
  have a_5 : w16.cell? ⟨ba, 5, none⟩ = some _ := blk_cell Kaw16.out rfl
  have a_6 : w16.cell? ⟨ba, 6, none⟩ = some _ := blk_cell Kaw16.out rfl
  have a_7 : w16.cell? ⟨ba, 7, none⟩ = some _ := blk_cell Kaw16.out rfl
  have a_8 : w16.cell? ⟨ba, 8, none⟩ = some _ := blk_cell Kaw16.out rfl
  have a_9 : w16.cell? ⟨ba, 9, none⟩ = some _ := blk_cell Kaw16.out rfl
  have a_l : ba < w16.heap.size := (Array.getElem?_eq_some_iff.1 Kaw16.out).1
  have b_0 : w16.cell? ⟨bb, 0, none⟩ = some _ := blk_cell Kbw16.out rfl
  have b_1 : w16.cell? ⟨bb, 1, none⟩ = some _ := blk_cell Kbw16.out rfl
  have b_2 : w16.cell? ⟨bb, 2, none⟩ = some _ := blk_cell Kbw16.out rfl
  have b_3 : w16.cell? ⟨bb, 3, none⟩ = some _ := blk_cell Kbw16.out rfl
  have b_4 : w16.cell? ⟨bb, 4, none⟩ = some _ := blk_cell Kbw16.out rfl
  have b_5 : w16.cell? ⟨bb, 5, none⟩ = some _ := blk_cell Kbw16.out rfl
  have b_6 : w16.cell? ⟨bb, 6, none⟩ = some _ := blk_cell Kbw16.out rfl
  have b_7 : w16.cell? ⟨bb, 7, none⟩ = some _ := blk_cell Kbw16.out rfl
  have b_8 : w16.cell? ⟨bb, 8, none⟩ = some _ := blk_cell Kbw16.out rfl
  have b_9 : w16.cell? ⟨bb, 9, none⟩ = some _ := blk_cell Kbw16.out rfl
  have b_l : bb < w16.heap.size := (Array.getElem?_eq_some_iff.1 Kbw16.out).1
  have m_0 : w16.cell? ⟨bm, 0, none⟩ = some _ := blk_cell Kmw16.out rfl
  have m_1 : w16.cell? ⟨bm, 1, none⟩ = some _ := blk_cell Kmw16.out rfl
  have m_l : bm < w16.heap.size := (Array.getElem?_eq_some_iff.1 Kmw16.out).1
  have x_0 : w16.cell? ⟨bx, 0, none⟩ = some _ := blk_cell Kxw16.out rfl
  have x_1 : w16.cell? ⟨bx, 1, none⟩ = some _ := blk_cell Kxw16.out rfl
  have x_l : bx < w16.heap.size := (Array.getElem?_eq_some_iff.1 Kxw16.out).1
  have r_0 : w16.cell? ⟨br, 0, none⟩ = some _ := blk_cell Krw16.out rfl
  have r_1 : w16.cell? ⟨br, 1, none⟩ = some _ := blk_cell Krw16.out rfl
  have r_2 : w16.cell? ⟨br, 2, none⟩ = some _ := blk_cell Krw16.out rfl
  have r_3 : w16.cell? ⟨br, 3, none⟩ = some _ := blk_cell Krw16.out rfl
  have r_l : br < w16.heap.size := (Array.getElem?_eq_some_iff.1 Krw16.out).1
  have s_0 : w16.cell? ⟨bs, 0, none⟩ = some _ := blk_cell Ksw16.out rfl
  have s_1 : w16.cell? ⟨bs, 1, none⟩ = some _ := blk_cell Ksw16.out rfl
  have s_2 : w16.cell? ⟨bs, 2, none⟩ = some _ := blk_cell Ksw16.out rfl
  have s_3 : w16.cell? ⟨bs, 3, none⟩ = some _ := blk_cell Ksw16.out rfl
  have s_l : bs < w16.heap.size := (Array.getElem?_eq_some_iff.1 Ksw16.out).1
  have yy_0 : w16.cell? ⟨byy, 0, none⟩ = some _ := blk_cell Kyyw16.out rfl
  have yy_1 : w16.cell? ⟨byy, 1, none⟩ = some _ := blk_cell Kyyw16.out rfl
  have yy_l : byy < w16.heap.size := (Array.getElem?_eq_some_iff.1 Kyyw16.out).1
  have t_0 : w16.cell? ⟨bt, 0, none⟩ = some _ := blk_cell Ktw16.out rfl
  have t_1 : w16.cell? ⟨bt, 1, none⟩ = some _ := blk_cell Ktw16.out rfl
  have t_2 : w16.cell? ⟨bt, 2, none⟩ = some _ := blk_cell Ktw16.out rfl
  have t_3 : w16.cell? ⟨bt, 3, none⟩ = some _ := blk_cell Ktw16.out rfl
  have t_l : bt < w16.heap.size := (Array.getElem?_eq_some_iff.1 Ktw16.out).1
  have fz0 := blk_free 0 Kyyw16.out
  have fz1 := blk_free 1 Kyyw16.out
  go_wp2_with fail
  clear a_0 a_1 a_2 a_3 a_4 a_5 a_6 a_7 a_8 a_9 a_l b_0 b_1 b_2 b_3 b_4 b_5 b_6 b_7 b_8 b_9 b_l m_0 m_1 m_l x_0 x_1 x_l r_0 r_1 r_2 r_3 r_l s_0 s_1 s_2 s_3 s_l yy_0 yy_1 yy_l t_0 t_1 t_2 t_3 t_l
  clear fz0 fz1
  obtain ⟨w17, hw17⟩ : ∃ w17, ((w16.setCell ⟨byy, 0, none⟩ (.slice A4 Y2.pairs.length c4)).setCell ⟨byy, 1, none⟩ (.slice B4 Y2.sess.length d4)) = w17 := ⟨_, rfl⟩
  have hKn : w17.heap[byy]? = some (.cells #[.slice A4 Y2.pairs.length c4, .slice B4 Y2.sess.length d4] 25 (0, 0)) := by
    rw [← hw17]
    have := Kyyw16.out
    simp [World.setCell, Array.getElem?_modify, this]
  have hM : Mod (fun k => k = byy) w16 w17 := by rw [← hw17]; exact mod_same (mod_same (Mod.refl _ _) _ _) _ _
  rw [hw17]
  have hsz : w16.heap.size = w17.heap.size := by rw [← hw17]; simp [World.setCell]
  rw [hsz]
  clear hsz
  have Kaw17 := Lib.hid (hM.blk Kaw16.out (by omega))
  have Kbw17 := Lib.hid (hM.blk Kbw16.out (by omega))
  have Kmw17 := Lib.hid (hM.blk Kmw16.out (by omega))
  have Kxw17 := Lib.hid (hM.blk Kxw16.out (by omega))
  have Krw17 := Lib.hid (hM.blk Krw16.out (by omega))
  have Ksw17 := Lib.hid (hM.blk Ksw16.out (by omega))
  have Kyyw17 := Lib.hid hKn
  have Ktw17 := Lib.hid (hM.blk Ktw16.out (by omega))
  replace HN7 := Lib.hid (newM_box HN7.out Kyyw16.out hM (by decide) (by decide))
  replace HN1 := Lib.hid (newM_box HN1.out Kyyw16.out hM (by decide) (by decide))
  replace HN2 := Lib.hid (newM_box HN2.out Kyyw16.out hM (by decide) (by decide))
  replace HN3 := Lib.hid (newM_box HN3.out Kyyw16.out hM (by decide) (by decide))
  replace HN4 := Lib.hid (newM_box HN4.out Kyyw16.out hM (by decide) (by decide))
  replace HX : Hid (Ext w w17) := Lib.hid (Mod.toExt ((Ext.mod HX.out (Since w.heap.size)).trans hM (fun k _ e => by rw [e]; exact hbyy)))
  clear hKn hM hw17
  clear Kaw16
  clear Kbw16
  clear Kmw16
  clear Kxw16
  clear Krw16
  clear Ksw16
  clear Kyyw16
  clear Ktw16
  obtain ⟨w18, hw18⟩ : ∃ w18, w18 = w17.alloc (.cells #[.int .i64 u.code, .int .i64 u.val.kind, .float .f64 u.val.num, .string u.val.text] 38) := ⟨_, rfl⟩
  obtain ⟨bu, hbu⟩ : ∃ bu, bu = w17.heap.size := ⟨_, rfl⟩
  have hzz : w17.heap.size = bu := hbu.symm
  have hE : Ext w17 w18 := by rw [hw18]; exact (Mod.refl _ w17).alloc _
  have hKn : w18.heap[bu]? = some (.cells #[.int .i64 u.code, .int .i64 u.val.kind, .float .f64 u.val.num, .string u.val.text] 38 (0, 0)) := by rw [hw18, ← hzz]; exact heap_alloc_new w17 _
  have hzn : w18.heap.size = bu + 1 := by rw [hw18, ← hzz]; simp
  rw [← hw18, ← hbu]
  have hltau : ba < bu := by have := (Array.getElem?_eq_some_iff.1 Kaw17.out).1; omega
  have hltbu : bb < bu := by have := (Array.getElem?_eq_some_iff.1 Kbw17.out).1; omega
  have hltmu : bm < bu := by have := (Array.getElem?_eq_some_iff.1 Kmw17.out).1; omega
  have hltxu : bx < bu := by have := (Array.getElem?_eq_some_iff.1 Kxw17.out).1; omega
  have hltru : br < bu := by have := (Array.getElem?_eq_some_iff.1 Krw17.out).1; omega
  have hltsu : bs < bu := by have := (Array.getElem?_eq_some_iff.1 Ksw17.out).1; omega
  have hltyyu : byy < bu := by have := (Array.getElem?_eq_some_iff.1 Kyyw17.out).1; omega
  have hlttu : bt < bu := by have := (Array.getElem?_eq_some_iff.1 Ktw17.out).1; omega
  have HXo := HX
  have Kaw18 := Lib.hid (hE.blk Kaw17.out id)
  have Kbw18 := Lib.hid (hE.blk Kbw17.out id)
  have Kmw18 := Lib.hid (hE.blk Kmw17.out id)
  have Kxw18 := Lib.hid (hE.blk Kxw17.out id)
  have Krw18 := Lib.hid (hE.blk Krw17.out id)
  have Ksw18 := Lib.hid (hE.blk Ksw17.out id)
  have Kyyw18 := Lib.hid (hE.blk Kyyw17.out id)
  have Ktw18 := Lib.hid (hE.blk Ktw17.out id)
  replace HN7 := Lib.hid (newM_mod HN7.out hE (fun _ _ => id) (fun _ _ => id))
  replace HN1 := Lib.hid (newM_mod HN1.out hE (fun _ _ => id) (fun _ _ => id))
  replace HN2 := Lib.hid (newM_mod HN2.out hE (fun _ _ => id) (fun _ _ => id))
  replace HN3 := Lib.hid (newM_mod HN3.out hE (fun _ _ => id) (fun _ _ => id))
  replace HN4 := Lib.hid (newM_mod HN4.out hE (fun _ _ => id) (fun _ _ => id))
  replace HX := Lib.hid (HX.out.ext hE)
  clear Kaw17
  clear Kbw17
  clear Kmw17
  clear Kxw17
  clear Krw17
  clear Ksw17
  clear Kyyw17
  clear Ktw17
  have Kuw18 := Lib.hid hKn
  have hbz : w.heap.size ≤ bu := by have := HXo.out.size; omega
  clear hKn hE hw18 hbu HXo hzz
  have hbu := hbz
  clear hbz
  clear hzn
  have a_0 : w18.cell? ⟨ba, 0, none⟩ = some _ := blk_cell Kaw18.out rfl
  have a_1 : w18.cell? ⟨ba, 1, none⟩ = some _ := blk_cell Kaw18.out rfl
  have a_2 : w18.cell? ⟨ba, 2, none⟩ = some _ := blk_cell Kaw18.out rfl
  have a_3 : w18.cell? ⟨ba, 3, none⟩ = some _ := blk_cell Kaw18.out rfl
  have a_4 : w18.cell? ⟨ba, 4, none⟩ = some _ := blk_cell Kaw18.out rfl
  have a_5 : w18.cell? ⟨ba, 5, none⟩ = some _ := blk_cell Kaw18.out rfl
  have a_6 : w18.cell? ⟨ba, 6, none⟩ = some _ := blk_cell Kaw18.out rfl
  have a_7 : w18.cell? ⟨ba, 7, none⟩ = some _ := blk_cell Kaw18.out rfl
  have a_8 : w18.cell? ⟨ba, 8, none⟩ = some _ := blk_cell Kaw18.out rfl
  have a_9 : w18.cell? ⟨ba, 9, none⟩ = some _ := blk_cell Kaw18.out rfl
  have a_l : ba < w18.heap.size := (Array.getElem?_eq_some_iff.1 Kaw18.out).1
  have b_0 : w18.cell? ⟨bb, 0, none⟩ = some _ := blk_cell Kbw18.out rfl
  have b_1 : w18.cell? ⟨bb, 1, none⟩ = some _ := blk_cell Kbw18.out rfl
  have b_2 : w18.cell? ⟨bb, 2, none⟩ = some _ := blk_cell Kbw18.out rfl
  have b_3 : w18.cell? ⟨bb, 3, none⟩ = some _ := blk_cell Kbw18.out rfl
  have b_4 : w18.cell? ⟨bb, 4, none⟩ = some _ := blk_cell Kbw18.out rfl
  have b_5 : w18.cell? ⟨bb, 5, none⟩ = some _ := blk_cell Kbw18.out rfl
  have b_6 : w18.cell? ⟨bb, 6, none⟩ = some _ := blk_cell Kbw18.out rfl
  have b_7 : w18.cell? ⟨bb, 7, none⟩ = some _ := blk_cell Kbw18.out rfl
  have b_8 : w18.cell? ⟨bb, 8, none⟩ = some _ := blk_cell Kbw18.out rfl
  have b_9 : w18.cell? ⟨bb, 9, none⟩ = some _ := blk_cell Kbw18.out rfl
  have b_l : bb < w18.heap.size := (Array.getElem?_eq_some_iff.1 Kbw18.out).1
  have m_0 : w18.cell? ⟨bm, 0, none⟩ = some _ := blk_cell Kmw18.out rfl
  have m_1 : w18.cell? ⟨bm, 1, none⟩ = some _ := blk_cell Kmw18.out rfl
  have m_l : bm < w18.heap.size := (Array.getElem?_eq_some_iff.1 Kmw18.out).1
  have x_0 : w18.cell? ⟨bx, 0, none⟩ = some _ := blk_cell Kxw18.out rfl
  have x_1 : w18.cell? ⟨bx, 1, none⟩ = some _ := blk_cell Kxw18.out rfl
  have x_l : bx < w18.heap.size := (Array.getElem?_eq_some_iff.1 Kxw18.out).1
  have r_0 : w18.cell? ⟨br, 0, none⟩ = some _ := blk_cell Krw18.out rfl
  have r_1 : w18.cell? ⟨br, 1, none⟩ = some _ := blk_cell Krw18.out rfl
  have r_2 : w18.cell? ⟨br, 2, none⟩ = some _ := blk_cell Krw18.out rfl
  have r_3 : w18.cell? ⟨br, 3, none⟩ = some _ := blk_cell Krw18.out rfl
  have r_l : br < w18.heap.size := (Array.getElem?_eq_some_iff.1 Krw18.out).1
  have s_0 : w18.cell? ⟨bs, 0, none⟩ = some _ := blk_cell Ksw18.out rfl
  have s_1 : w18.cell? ⟨bs, 1, none⟩ = some _ := blk_cell Ksw18.out rfl
  have s_2 : w18.cell? ⟨bs, 2, none⟩ = some _ := blk_cell Ksw18.out rfl
  have s_3 : w18.cell? ⟨bs, 3, none⟩ = some _ := blk_cell Ksw18.out rfl
  have s_l : bs < w18.heap.size := (Array.getElem?_eq_some_iff.1 Ksw18.out).1
  have yy_0 : w18.cell? ⟨byy, 0, none⟩ = some _ := blk_cell Kyyw18.out rfl
  have yy_1 : w18.cell? ⟨byy, 1, none⟩ = some _ := blk_cell Kyyw18.out rfl
  have yy_l : byy < w18.heap.size := (Array.getElem?_eq_some_iff.1 Kyyw18.out).1
  have t_0 : w18.cell? ⟨bt, 0, none⟩ = some _ := blk_cell Ktw18.out rfl
  have t_1 : w18.cell? ⟨bt, 1, none⟩ = some _ := blk_cell Ktw18.out rfl
  have t_2 : w18.cell? ⟨bt, 2, none⟩ = some _ := blk_cell Ktw18.out rfl
  have t_3 : w18.cell? ⟨bt, 3, none⟩ = some _ := blk_cell Ktw18.out rfl
  have t_l : bt < w18.heap.size := (Array.getElem?_eq_some_iff.1 Ktw18.out).1
  have u_0 : w18.cell? ⟨bu, 0, none⟩ = some _ := blk_cell Kuw18.out rfl
  have u_1 : w18.cell? ⟨bu, 1, none⟩ = some _ := blk_cell Kuw18.out rfl
  have u_2 : w18.cell? ⟨bu, 2, none⟩ = some _ := blk_cell Kuw18.out rfl
  have u_3 : w18.cell? ⟨bu, 3, none⟩ = some _ := blk_cell Kuw18.out rfl
  have u_l : bu < w18.heap.size := (Array.getElem?_eq_some_iff.1 Kuw18.out).1
  have hall : X2 = Y2 ∧ r = u ∧ s = t := by
    have := once_comm (a := a) (b := b) Hr.out (by omega) Hcl.out h4
    rw [HEr.out, HEt.out] at this
    simp only at this
    rw [HEs.out, HEu.out] at this
    exact this
  have RX2 : machB X2 = true := by have := once_right b RX1; rw [HEs.out] at this; exact this
  have Hall := Lib.hid hall
  have RX2 := Lib.hid RX2
  clear hall
  go_wp2_with fail
  refine (k_machine w18 _ _ _ _ _ _ _ _ X2.pairs Y2.pairs X2.sess Y2.sess HN2.out.prs HN4.out.prs HN2.out.ses HN4.out.ses).mono ?_
  rintro e w19 ⟨rfl, hE⟩
  clear a_0 a_1 a_2 a_3 a_4 a_5 a_6 a_7 a_8 a_9 a_l b_0 b_1 b_2 b_3 b_4 b_5 b_6 b_7 b_8 b_9 b_l m_0 m_1 m_l x_0 x_1 x_l r_0 r_1 r_2 r_3 r_l s_0 s_1 s_2 s_3 s_l yy_0 yy_1 yy_l t_0 t_1 t_2 t_3 t_l u_0 u_1 u_2 u_3 u_l
  have Kaw19 := Lib.hid (hE.blk Kaw18.out id)
  have Kbw19 := Lib.hid (hE.blk Kbw18.out id)
  have Kmw19 := Lib.hid (hE.blk Kmw18.out id)
  have Kxw19 := Lib.hid (hE.blk Kxw18.out id)
  have Krw19 := Lib.hid (hE.blk Krw18.out id)
  have Ksw19 := Lib.hid (hE.blk Ksw18.out id)
  have Kyyw19 := Lib.hid (hE.blk Kyyw18.out id)
  have Ktw19 := Lib.hid (hE.blk Ktw18.out id)
  have Kuw19 := Lib.hid (hE.blk Kuw18.out id)
  replace HN7 := Lib.hid (newM_mod HN7.out hE (fun _ _ => id) (fun _ _ => id))
  replace HN1 := Lib.hid (newM_mod HN1.out hE (fun _ _ => id) (fun _ _ => id))
  replace HN2 := Lib.hid (newM_mod HN2.out hE (fun _ _ => id) (fun _ _ => id))
  replace HN3 := Lib.hid (newM_mod HN3.out hE (fun _ _ => id) (fun _ _ => id))
  replace HN4 := Lib.hid (newM_mod HN4.out hE (fun _ _ => id) (fun _ _ => id))
  replace HX := Lib.hid (HX.out.ext hE)
  clear Kaw18
  clear Kbw18
  clear Kmw18
  clear Kxw18
  clear Krw18
  clear Ksw18
  clear Kyyw18
  clear Ktw18
  clear Kuw18
  rw [show eqM ⟨X2.pairs, X2.sess⟩ ⟨Y2.pairs, Y2.sess⟩ = true by rw [Hall.out.1]; exact eqM_refl _]
  clear hE
  have a_0 : w19.cell? ⟨ba, 0, none⟩ = some _ := blk_cell Kaw19.out rfl
  have a_1 : w19.cell? ⟨ba, 1, none⟩ = some _ := blk_cell Kaw19.out rfl
  have a_2 : w19.cell? ⟨ba, 2, none⟩ = some _ := blk_cell Kaw19.out rfl
  have a_3 : w19.cell? ⟨ba, 3, none⟩ = some _ := blk_cell Kaw19.out rfl
  have a_4 : w19.cell? ⟨ba, 4, none⟩ = some _ := blk_cell Kaw19.out rfl
  have a_5 : w19.cell? ⟨ba, 5, none⟩ = some _ := blk_cell Kaw19.out rfl
  have a_6 : w19.cell? ⟨ba, 6, none⟩ = some _ := blk_cell Kaw19.out rfl
  have a_7 : w19.cell? ⟨ba, 7, none⟩ = some _ := blk_cell Kaw19.out rfl
  have a_8 : w19.cell? ⟨ba, 8, none⟩ = some _ := blk_cell Kaw19.out rfl
  have a_9 : w19.cell? ⟨ba, 9, none⟩ = some _ := blk_cell Kaw19.out rfl
  have a_l : ba < w19.heap.size := (Array.getElem?_eq_some_iff.1 Kaw19.out).1
  have b_0 : w19.cell? ⟨bb, 0, none⟩ = some _ := blk_cell Kbw19.out rfl
  have b_1 : w19.cell? ⟨bb, 1, none⟩ = some _ := blk_cell Kbw19.out rfl
  have b_2 : w19.cell? ⟨bb, 2, none⟩ = some _ := blk_cell Kbw19.out rfl
  have b_3 : w19.cell? ⟨bb, 3, none⟩ = some _ := blk_cell Kbw19.out rfl
  have b_4 : w19.cell? ⟨bb, 4, none⟩ = some _ := blk_cell Kbw19.out rfl
  have b_5 : w19.cell? ⟨bb, 5, none⟩ = some _ := blk_cell Kbw19.out rfl
  have b_6 : w19.cell? ⟨bb, 6, none⟩ = some _ := blk_cell Kbw19.out rfl
  have b_7 : w19.cell? ⟨bb, 7, none⟩ = some _ := blk_cell Kbw19.out rfl
  have b_8 : w19.cell? ⟨bb, 8, none⟩ = some _ := blk_cell Kbw19.out rfl
  have b_9 : w19.cell? ⟨bb, 9, none⟩ = some _ := blk_cell Kbw19.out rfl
  have b_l : bb < w19.heap.size := (Array.getElem?_eq_some_iff.1 Kbw19.out).1
  have m_0 : w19.cell? ⟨bm, 0, none⟩ = some _ := blk_cell Kmw19.out rfl
  have m_1 : w19.cell? ⟨bm, 1, none⟩ = some _ := blk_cell Kmw19.out rfl
  have m_l : bm < w19.heap.size := (Array.getElem?_eq_some_iff.1 Kmw19.out).1
  have x_0 : w19.cell? ⟨bx, 0, none⟩ = some _ := blk_cell Kxw19.out rfl
  have x_1 : w19.cell? ⟨bx, 1, none⟩ = some _ := blk_cell Kxw19.out rfl
  have x_l : bx < w19.heap.size := (Array.getElem?_eq_some_iff.1 Kxw19.out).1
  have r_0 : w19.cell? ⟨br, 0, none⟩ = some _ := blk_cell Krw19.out rfl
  have r_1 : w19.cell? ⟨br, 1, none⟩ = some _ := blk_cell Krw19.out rfl
  have r_2 : w19.cell? ⟨br, 2, none⟩ = some _ := blk_cell Krw19.out rfl
  have r_3 : w19.cell? ⟨br, 3, none⟩ = some _ := blk_cell Krw19.out rfl
  have r_l : br < w19.heap.size := (Array.getElem?_eq_some_iff.1 Krw19.out).1
  have s_0 : w19.cell? ⟨bs, 0, none⟩ = some _ := blk_cell Ksw19.out rfl
  have s_1 : w19.cell? ⟨bs, 1, none⟩ = some _ := blk_cell Ksw19.out rfl
  have s_2 : w19.cell? ⟨bs, 2, none⟩ = some _ := blk_cell Ksw19.out rfl
  have s_3 : w19.cell? ⟨bs, 3, none⟩ = some _ := blk_cell Ksw19.out rfl
  have s_l : bs < w19.heap.size := (Array.getElem?_eq_some_iff.1 Ksw19.out).1
  have yy_0 : w19.cell? ⟨byy, 0, none⟩ = some _ := blk_cell Kyyw19.out rfl
  have yy_1 : w19.cell? ⟨byy, 1, none⟩ = some _ := blk_cell Kyyw19.out rfl
  have yy_l : byy < w19.heap.size := (Array.getElem?_eq_some_iff.1 Kyyw19.out).1
  have t_0 : w19.cell? ⟨bt, 0, none⟩ = some _ := blk_cell Ktw19.out rfl
  have t_1 : w19.cell? ⟨bt, 1, none⟩ = some _ := blk_cell Ktw19.out rfl
  have t_2 : w19.cell? ⟨bt, 2, none⟩ = some _ := blk_cell Ktw19.out rfl
  have t_3 : w19.cell? ⟨bt, 3, none⟩ = some _ := blk_cell Ktw19.out rfl
  have t_l : bt < w19.heap.size := (Array.getElem?_eq_some_iff.1 Ktw19.out).1
  have u_0 : w19.cell? ⟨bu, 0, none⟩ = some _ := blk_cell Kuw19.out rfl
  have u_1 : w19.cell? ⟨bu, 1, none⟩ = some _ := blk_cell Kuw19.out rfl
  have u_2 : w19.cell? ⟨bu, 2, none⟩ = some _ := blk_cell Kuw19.out rfl
  have u_3 : w19.cell? ⟨bu, 3, none⟩ = some _ := blk_cell Kuw19.out rfl
  have u_l : bu < w19.heap.size := (Array.getElem?_eq_some_iff.1 Kuw19.out).1
  go_wp2_with fail
  refine (k_reply r u w19).mono ?_
  rintro e w20 ⟨rfl, hE⟩
  clear a_0 a_1 a_2 a_3 a_4 a_5 a_6 a_7 a_8 a_9 a_l b_0 b_1 b_2 b_3 b_4 b_5 b_6 b_7 b_8 b_9 b_l m_0 m_1 m_l x_0 x_1 x_l r_0 r_1 r_2 r_3 r_l s_0 s_1 s_2 s_3 s_l yy_0 yy_1 yy_l t_0 t_1 t_2 t_3 t_l u_0 u_1 u_2 u_3 u_l
  have Kaw20 := Lib.hid (hE.blk Kaw19.out id)
  have Kbw20 := Lib.hid (hE.blk Kbw19.out id)
  have Kmw20 := Lib.hid (hE.blk Kmw19.out id)
  have Kxw20 := Lib.hid (hE.blk Kxw19.out id)
  have Krw20 := Lib.hid (hE.blk Krw19.out id)
  have Ksw20 := Lib.hid (hE.blk Ksw19.out id)
  have Kyyw20 := Lib.hid (hE.blk Kyyw19.out id)
  have Ktw20 := Lib.hid (hE.blk Ktw19.out id)
  have Kuw20 := Lib.hid (hE.blk Kuw19.out id)
  replace HN7 := Lib.hid (newM_mod HN7.out hE (fun _ _ => id) (fun _ _ => id))
  replace HN1 := Lib.hid (newM_mod HN1.out hE (fun _ _ => id) (fun _ _ => id))
  replace HN2 := Lib.hid (newM_mod HN2.out hE (fun _ _ => id) (fun _ _ => id))
  replace HN3 := Lib.hid (newM_mod HN3.out hE (fun _ _ => id) (fun _ _ => id))
  replace HN4 := Lib.hid (newM_mod HN4.out hE (fun _ _ => id) (fun _ _ => id))
  replace HX := Lib.hid (HX.out.ext hE)
  clear Kaw19
  clear Kbw19
  clear Kmw19
  clear Kxw19
  clear Krw19
  clear Ksw19
  clear Kyyw19
  clear Ktw19
  clear Kuw19
  rw [show eqReply r u = true by rw [Hall.out.2.1]; exact eqReply_refl _]
  clear hE
  have a_0 : w20.cell? ⟨ba, 0, none⟩ = some _ := blk_cell Kaw20.out rfl
  have a_1 : w20.cell? ⟨ba, 1, none⟩ = some _ := blk_cell Kaw20.out rfl
  have a_2 : w20.cell? ⟨ba, 2, none⟩ = some _ := blk_cell Kaw20.out rfl
  have a_3 : w20.cell? ⟨ba, 3, none⟩ = some _ := blk_cell Kaw20.out rfl
  have a_4 : w20.cell? ⟨ba, 4, none⟩ = some _ := blk_cell Kaw20.out rfl
  have a_5 : w20.cell? ⟨ba, 5, none⟩ = some _ := blk_cell Kaw20.out rfl
  have a_6 : w20.cell? ⟨ba, 6, none⟩ = some _ := blk_cell Kaw20.out rfl
  have a_7 : w20.cell? ⟨ba, 7, none⟩ = some _ := blk_cell Kaw20.out rfl
  have a_8 : w20.cell? ⟨ba, 8, none⟩ = some _ := blk_cell Kaw20.out rfl
  have a_9 : w20.cell? ⟨ba, 9, none⟩ = some _ := blk_cell Kaw20.out rfl
  have a_l : ba < w20.heap.size := (Array.getElem?_eq_some_iff.1 Kaw20.out).1
  have b_0 : w20.cell? ⟨bb, 0, none⟩ = some _ := blk_cell Kbw20.out rfl
  have b_1 : w20.cell? ⟨bb, 1, none⟩ = some _ := blk_cell Kbw20.out rfl
  have b_2 : w20.cell? ⟨bb, 2, none⟩ = some _ := blk_cell Kbw20.out rfl
  have b_3 : w20.cell? ⟨bb, 3, none⟩ = some _ := blk_cell Kbw20.out rfl
  have b_4 : w20.cell? ⟨bb, 4, none⟩ = some _ := blk_cell Kbw20.out rfl
  have b_5 : w20.cell? ⟨bb, 5, none⟩ = some _ := blk_cell Kbw20.out rfl
  have b_6 : w20.cell? ⟨bb, 6, none⟩ = some _ := blk_cell Kbw20.out rfl
  have b_7 : w20.cell? ⟨bb, 7, none⟩ = some _ := blk_cell Kbw20.out rfl
  have b_8 : w20.cell? ⟨bb, 8, none⟩ = some _ := blk_cell Kbw20.out rfl
  have b_9 : w20.cell? ⟨bb, 9, none⟩ = some _ := blk_cell Kbw20.out rfl
  have b_l : bb < w20.heap.size := (Array.getElem?_eq_some_iff.1 Kbw20.out).1
  have m_0 : w20.cell? ⟨bm, 0, none⟩ = some _ := blk_cell Kmw20.out rfl
  have m_1 : w20.cell? ⟨bm, 1, none⟩ = some _ := blk_cell Kmw20.out rfl
  have m_l : bm < w20.heap.size := (Array.getElem?_eq_some_iff.1 Kmw20.out).1
  have x_0 : w20.cell? ⟨bx, 0, none⟩ = some _ := blk_cell Kxw20.out rfl
  have x_1 : w20.cell? ⟨bx, 1, none⟩ = some _ := blk_cell Kxw20.out rfl
  have x_l : bx < w20.heap.size := (Array.getElem?_eq_some_iff.1 Kxw20.out).1
  have r_0 : w20.cell? ⟨br, 0, none⟩ = some _ := blk_cell Krw20.out rfl
  have r_1 : w20.cell? ⟨br, 1, none⟩ = some _ := blk_cell Krw20.out rfl
  have r_2 : w20.cell? ⟨br, 2, none⟩ = some _ := blk_cell Krw20.out rfl
  have r_3 : w20.cell? ⟨br, 3, none⟩ = some _ := blk_cell Krw20.out rfl
  have r_l : br < w20.heap.size := (Array.getElem?_eq_some_iff.1 Krw20.out).1
  have s_0 : w20.cell? ⟨bs, 0, none⟩ = some _ := blk_cell Ksw20.out rfl
  have s_1 : w20.cell? ⟨bs, 1, none⟩ = some _ := blk_cell Ksw20.out rfl
  have s_2 : w20.cell? ⟨bs, 2, none⟩ = some _ := blk_cell Ksw20.out rfl
  have s_3 : w20.cell? ⟨bs, 3, none⟩ = some _ := blk_cell Ksw20.out rfl
  have s_l : bs < w20.heap.size := (Array.getElem?_eq_some_iff.1 Ksw20.out).1
  have yy_0 : w20.cell? ⟨byy, 0, none⟩ = some _ := blk_cell Kyyw20.out rfl
  have yy_1 : w20.cell? ⟨byy, 1, none⟩ = some _ := blk_cell Kyyw20.out rfl
  have yy_l : byy < w20.heap.size := (Array.getElem?_eq_some_iff.1 Kyyw20.out).1
  have t_0 : w20.cell? ⟨bt, 0, none⟩ = some _ := blk_cell Ktw20.out rfl
  have t_1 : w20.cell? ⟨bt, 1, none⟩ = some _ := blk_cell Ktw20.out rfl
  have t_2 : w20.cell? ⟨bt, 2, none⟩ = some _ := blk_cell Ktw20.out rfl
  have t_3 : w20.cell? ⟨bt, 3, none⟩ = some _ := blk_cell Ktw20.out rfl
  have t_l : bt < w20.heap.size := (Array.getElem?_eq_some_iff.1 Ktw20.out).1
  have u_0 : w20.cell? ⟨bu, 0, none⟩ = some _ := blk_cell Kuw20.out rfl
  have u_1 : w20.cell? ⟨bu, 1, none⟩ = some _ := blk_cell Kuw20.out rfl
  have u_2 : w20.cell? ⟨bu, 2, none⟩ = some _ := blk_cell Kuw20.out rfl
  have u_3 : w20.cell? ⟨bu, 3, none⟩ = some _ := blk_cell Kuw20.out rfl
  have u_l : bu < w20.heap.size := (Array.getElem?_eq_some_iff.1 Kuw20.out).1
  go_wp2_with fail
  refine (k_reply s t w20).mono ?_
  rintro e w21 ⟨rfl, hE⟩
  clear a_0 a_1 a_2 a_3 a_4 a_5 a_6 a_7 a_8 a_9 a_l b_0 b_1 b_2 b_3 b_4 b_5 b_6 b_7 b_8 b_9 b_l m_0 m_1 m_l x_0 x_1 x_l r_0 r_1 r_2 r_3 r_l s_0 s_1 s_2 s_3 s_l yy_0 yy_1 yy_l t_0 t_1 t_2 t_3 t_l u_0 u_1 u_2 u_3 u_l
  have Kaw21 := Lib.hid (hE.blk Kaw20.out id)
  have Kbw21 := Lib.hid (hE.blk Kbw20.out id)
  have Kmw21 := Lib.hid (hE.blk Kmw20.out id)
  have Kxw21 := Lib.hid (hE.blk Kxw20.out id)
  have Krw21 := Lib.hid (hE.blk Krw20.out id)
  have Ksw21 := Lib.hid (hE.blk Ksw20.out id)
  have Kyyw21 := Lib.hid (hE.blk Kyyw20.out id)
  have Ktw21 := Lib.hid (hE.blk Ktw20.out id)
  have Kuw21 := Lib.hid (hE.blk Kuw20.out id)
  replace HN7 := Lib.hid (newM_mod HN7.out hE (fun _ _ => id) (fun _ _ => id))
  replace HN1 := Lib.hid (newM_mod HN1.out hE (fun _ _ => id) (fun _ _ => id))
  replace HN2 := Lib.hid (newM_mod HN2.out hE (fun _ _ => id) (fun _ _ => id))
  replace HN3 := Lib.hid (newM_mod HN3.out hE (fun _ _ => id) (fun _ _ => id))
  replace HN4 := Lib.hid (newM_mod HN4.out hE (fun _ _ => id) (fun _ _ => id))
  replace HX := Lib.hid (HX.out.ext hE)
  clear Kaw20
  clear Kbw20
  clear Kmw20
  clear Kxw20
  clear Krw20
  clear Ksw20
  clear Kyyw20
  clear Ktw20
  clear Kuw20
  rw [show eqReply s t = true by rw [Hall.out.2.2]; exact eqReply_refl _]
  clear hE
  have a_0 : w21.cell? ⟨ba, 0, none⟩ = some _ := blk_cell Kaw21.out rfl
  have a_1 : w21.cell? ⟨ba, 1, none⟩ = some _ := blk_cell Kaw21.out rfl
  have a_2 : w21.cell? ⟨ba, 2, none⟩ = some _ := blk_cell Kaw21.out rfl
  have a_3 : w21.cell? ⟨ba, 3, none⟩ = some _ := blk_cell Kaw21.out rfl
  have a_4 : w21.cell? ⟨ba, 4, none⟩ = some _ := blk_cell Kaw21.out rfl
  have a_5 : w21.cell? ⟨ba, 5, none⟩ = some _ := blk_cell Kaw21.out rfl
  have a_6 : w21.cell? ⟨ba, 6, none⟩ = some _ := blk_cell Kaw21.out rfl
  have a_7 : w21.cell? ⟨ba, 7, none⟩ = some _ := blk_cell Kaw21.out rfl
  have a_8 : w21.cell? ⟨ba, 8, none⟩ = some _ := blk_cell Kaw21.out rfl
  have a_9 : w21.cell? ⟨ba, 9, none⟩ = some _ := blk_cell Kaw21.out rfl
  have a_l : ba < w21.heap.size := (Array.getElem?_eq_some_iff.1 Kaw21.out).1
  have b_0 : w21.cell? ⟨bb, 0, none⟩ = some _ := blk_cell Kbw21.out rfl
  have b_1 : w21.cell? ⟨bb, 1, none⟩ = some _ := blk_cell Kbw21.out rfl
  have b_2 : w21.cell? ⟨bb, 2, none⟩ = some _ := blk_cell Kbw21.out rfl
  have b_3 : w21.cell? ⟨bb, 3, none⟩ = some _ := blk_cell Kbw21.out rfl
  have b_4 : w21.cell? ⟨bb, 4, none⟩ = some _ := blk_cell Kbw21.out rfl
  have b_5 : w21.cell? ⟨bb, 5, none⟩ = some _ := blk_cell Kbw21.out rfl
  have b_6 : w21.cell? ⟨bb, 6, none⟩ = some _ := blk_cell Kbw21.out rfl
  have b_7 : w21.cell? ⟨bb, 7, none⟩ = some _ := blk_cell Kbw21.out rfl
  have b_8 : w21.cell? ⟨bb, 8, none⟩ = some _ := blk_cell Kbw21.out rfl
  have b_9 : w21.cell? ⟨bb, 9, none⟩ = some _ := blk_cell Kbw21.out rfl
  have b_l : bb < w21.heap.size := (Array.getElem?_eq_some_iff.1 Kbw21.out).1
  have m_0 : w21.cell? ⟨bm, 0, none⟩ = some _ := blk_cell Kmw21.out rfl
  have m_1 : w21.cell? ⟨bm, 1, none⟩ = some _ := blk_cell Kmw21.out rfl
  have m_l : bm < w21.heap.size := (Array.getElem?_eq_some_iff.1 Kmw21.out).1
  have x_0 : w21.cell? ⟨bx, 0, none⟩ = some _ := blk_cell Kxw21.out rfl
  have x_1 : w21.cell? ⟨bx, 1, none⟩ = some _ := blk_cell Kxw21.out rfl
  have x_l : bx < w21.heap.size := (Array.getElem?_eq_some_iff.1 Kxw21.out).1
  have r_0 : w21.cell? ⟨br, 0, none⟩ = some _ := blk_cell Krw21.out rfl
  have r_1 : w21.cell? ⟨br, 1, none⟩ = some _ := blk_cell Krw21.out rfl
  have r_2 : w21.cell? ⟨br, 2, none⟩ = some _ := blk_cell Krw21.out rfl
  have r_3 : w21.cell? ⟨br, 3, none⟩ = some _ := blk_cell Krw21.out rfl
  have r_l : br < w21.heap.size := (Array.getElem?_eq_some_iff.1 Krw21.out).1
  have s_0 : w21.cell? ⟨bs, 0, none⟩ = some _ := blk_cell Ksw21.out rfl
  have s_1 : w21.cell? ⟨bs, 1, none⟩ = some _ := blk_cell Ksw21.out rfl
  have s_2 : w21.cell? ⟨bs, 2, none⟩ = some _ := blk_cell Ksw21.out rfl
  have s_3 : w21.cell? ⟨bs, 3, none⟩ = some _ := blk_cell Ksw21.out rfl
  have s_l : bs < w21.heap.size := (Array.getElem?_eq_some_iff.1 Ksw21.out).1
  have yy_0 : w21.cell? ⟨byy, 0, none⟩ = some _ := blk_cell Kyyw21.out rfl
  have yy_1 : w21.cell? ⟨byy, 1, none⟩ = some _ := blk_cell Kyyw21.out rfl
  have yy_l : byy < w21.heap.size := (Array.getElem?_eq_some_iff.1 Kyyw21.out).1
  have t_0 : w21.cell? ⟨bt, 0, none⟩ = some _ := blk_cell Ktw21.out rfl
  have t_1 : w21.cell? ⟨bt, 1, none⟩ = some _ := blk_cell Ktw21.out rfl
  have t_2 : w21.cell? ⟨bt, 2, none⟩ = some _ := blk_cell Ktw21.out rfl
  have t_3 : w21.cell? ⟨bt, 3, none⟩ = some _ := blk_cell Ktw21.out rfl
  have t_l : bt < w21.heap.size := (Array.getElem?_eq_some_iff.1 Ktw21.out).1
  have u_0 : w21.cell? ⟨bu, 0, none⟩ = some _ := blk_cell Kuw21.out rfl
  have u_1 : w21.cell? ⟨bu, 1, none⟩ = some _ := blk_cell Kuw21.out rfl
  have u_2 : w21.cell? ⟨bu, 2, none⟩ = some _ := blk_cell Kuw21.out rfl
  have u_3 : w21.cell? ⟨bu, 3, none⟩ = some _ := blk_cell Kuw21.out rfl
  have u_l : bu < w21.heap.size := (Array.getElem?_eq_some_iff.1 Kuw21.out).1
  go_wp2_with fail
  refine (s_check w21 _ _ _ _ X2.pairs X2.sess HN2.out.prs HN2.out.ses).mono ?_
  rintro e w22 ⟨rfl, hE⟩
  clear a_0 a_1 a_2 a_3 a_4 a_5 a_6 a_7 a_8 a_9 a_l b_0 b_1 b_2 b_3 b_4 b_5 b_6 b_7 b_8 b_9 b_l m_0 m_1 m_l x_0 x_1 x_l r_0 r_1 r_2 r_3 r_l s_0 s_1 s_2 s_3 s_l yy_0 yy_1 yy_l t_0 t_1 t_2 t_3 t_l u_0 u_1 u_2 u_3 u_l
  have Kaw22 := Lib.hid (hE.blk Kaw21.out id)
  have Kbw22 := Lib.hid (hE.blk Kbw21.out id)
  have Kmw22 := Lib.hid (hE.blk Kmw21.out id)
  have Kxw22 := Lib.hid (hE.blk Kxw21.out id)
  have Krw22 := Lib.hid (hE.blk Krw21.out id)
  have Ksw22 := Lib.hid (hE.blk Ksw21.out id)
  have Kyyw22 := Lib.hid (hE.blk Kyyw21.out id)
  have Ktw22 := Lib.hid (hE.blk Ktw21.out id)
  have Kuw22 := Lib.hid (hE.blk Kuw21.out id)
  replace HN7 := Lib.hid (newM_mod HN7.out hE (fun _ _ => id) (fun _ _ => id))
  replace HN1 := Lib.hid (newM_mod HN1.out hE (fun _ _ => id) (fun _ _ => id))
  replace HN2 := Lib.hid (newM_mod HN2.out hE (fun _ _ => id) (fun _ _ => id))
  replace HN3 := Lib.hid (newM_mod HN3.out hE (fun _ _ => id) (fun _ _ => id))
  replace HN4 := Lib.hid (newM_mod HN4.out hE (fun _ _ => id) (fun _ _ => id))
  replace HX := Lib.hid (HX.out.ext hE)
  clear Kaw21
  clear Kbw21
  clear Kmw21
  clear Kxw21
  clear Krw21
  clear Ksw21
  clear Kyyw21
  clear Ktw21
  clear Kuw21
  rw [show chkM ⟨X2.pairs, X2.sess⟩ = 0 from chkM_ok RX2.out]
  clear hE
  have a_0 : w22.cell? ⟨ba, 0, none⟩ = some _ := blk_cell Kaw22.out rfl
  have a_1 : w22.cell? ⟨ba, 1, none⟩ = some _ := blk_cell Kaw22.out rfl
  have a_2 : w22.cell? ⟨ba, 2, none⟩ = some _ := blk_cell Kaw22.out rfl
  have a_3 : w22.cell? ⟨ba, 3, none⟩ = some _ := blk_cell Kaw22.out rfl
  have a_4 : w22.cell? ⟨ba, 4, none⟩ = some _ := blk_cell Kaw22.out rfl
  have a_5 : w22.cell? ⟨ba, 5, none⟩ = some _ := blk_cell Kaw22.out rfl
  have a_6 : w22.cell? ⟨ba, 6, none⟩ = some _ := blk_cell Kaw22.out rfl
  have a_7 : w22.cell? ⟨ba, 7, none⟩ = some _ := blk_cell Kaw22.out rfl
  have a_8 : w22.cell? ⟨ba, 8, none⟩ = some _ := blk_cell Kaw22.out rfl
  have a_9 : w22.cell? ⟨ba, 9, none⟩ = some _ := blk_cell Kaw22.out rfl
  have a_l : ba < w22.heap.size := (Array.getElem?_eq_some_iff.1 Kaw22.out).1
  have b_0 : w22.cell? ⟨bb, 0, none⟩ = some _ := blk_cell Kbw22.out rfl
  have b_1 : w22.cell? ⟨bb, 1, none⟩ = some _ := blk_cell Kbw22.out rfl
  have b_2 : w22.cell? ⟨bb, 2, none⟩ = some _ := blk_cell Kbw22.out rfl
  have b_3 : w22.cell? ⟨bb, 3, none⟩ = some _ := blk_cell Kbw22.out rfl
  have b_4 : w22.cell? ⟨bb, 4, none⟩ = some _ := blk_cell Kbw22.out rfl
  have b_5 : w22.cell? ⟨bb, 5, none⟩ = some _ := blk_cell Kbw22.out rfl
  have b_6 : w22.cell? ⟨bb, 6, none⟩ = some _ := blk_cell Kbw22.out rfl
  have b_7 : w22.cell? ⟨bb, 7, none⟩ = some _ := blk_cell Kbw22.out rfl
  have b_8 : w22.cell? ⟨bb, 8, none⟩ = some _ := blk_cell Kbw22.out rfl
  have b_9 : w22.cell? ⟨bb, 9, none⟩ = some _ := blk_cell Kbw22.out rfl
  have b_l : bb < w22.heap.size := (Array.getElem?_eq_some_iff.1 Kbw22.out).1
  have m_0 : w22.cell? ⟨bm, 0, none⟩ = some _ := blk_cell Kmw22.out rfl
  have m_1 : w22.cell? ⟨bm, 1, none⟩ = some _ := blk_cell Kmw22.out rfl
  have m_l : bm < w22.heap.size := (Array.getElem?_eq_some_iff.1 Kmw22.out).1
  have x_0 : w22.cell? ⟨bx, 0, none⟩ = some _ := blk_cell Kxw22.out rfl
  have x_1 : w22.cell? ⟨bx, 1, none⟩ = some _ := blk_cell Kxw22.out rfl
  have x_l : bx < w22.heap.size := (Array.getElem?_eq_some_iff.1 Kxw22.out).1
  have r_0 : w22.cell? ⟨br, 0, none⟩ = some _ := blk_cell Krw22.out rfl
  have r_1 : w22.cell? ⟨br, 1, none⟩ = some _ := blk_cell Krw22.out rfl
  have r_2 : w22.cell? ⟨br, 2, none⟩ = some _ := blk_cell Krw22.out rfl
  have r_3 : w22.cell? ⟨br, 3, none⟩ = some _ := blk_cell Krw22.out rfl
  have r_l : br < w22.heap.size := (Array.getElem?_eq_some_iff.1 Krw22.out).1
  have s_0 : w22.cell? ⟨bs, 0, none⟩ = some _ := blk_cell Ksw22.out rfl
  have s_1 : w22.cell? ⟨bs, 1, none⟩ = some _ := blk_cell Ksw22.out rfl
  have s_2 : w22.cell? ⟨bs, 2, none⟩ = some _ := blk_cell Ksw22.out rfl
  have s_3 : w22.cell? ⟨bs, 3, none⟩ = some _ := blk_cell Ksw22.out rfl
  have s_l : bs < w22.heap.size := (Array.getElem?_eq_some_iff.1 Ksw22.out).1
  have yy_0 : w22.cell? ⟨byy, 0, none⟩ = some _ := blk_cell Kyyw22.out rfl
  have yy_1 : w22.cell? ⟨byy, 1, none⟩ = some _ := blk_cell Kyyw22.out rfl
  have yy_l : byy < w22.heap.size := (Array.getElem?_eq_some_iff.1 Kyyw22.out).1
  have t_0 : w22.cell? ⟨bt, 0, none⟩ = some _ := blk_cell Ktw22.out rfl
  have t_1 : w22.cell? ⟨bt, 1, none⟩ = some _ := blk_cell Ktw22.out rfl
  have t_2 : w22.cell? ⟨bt, 2, none⟩ = some _ := blk_cell Ktw22.out rfl
  have t_3 : w22.cell? ⟨bt, 3, none⟩ = some _ := blk_cell Ktw22.out rfl
  have t_l : bt < w22.heap.size := (Array.getElem?_eq_some_iff.1 Ktw22.out).1
  have u_0 : w22.cell? ⟨bu, 0, none⟩ = some _ := blk_cell Kuw22.out rfl
  have u_1 : w22.cell? ⟨bu, 1, none⟩ = some _ := blk_cell Kuw22.out rfl
  have u_2 : w22.cell? ⟨bu, 2, none⟩ = some _ := blk_cell Kuw22.out rfl
  have u_3 : w22.cell? ⟨bu, 3, none⟩ = some _ := blk_cell Kuw22.out rfl
  have u_l : bu < w22.heap.size := (Array.getElem?_eq_some_iff.1 Kuw22.out).1
  go_wp2_with fail
  refine (l_wakes7 w22).mono ?_
  rintro e w23 ⟨rfl, hE⟩
  clear a_0 a_1 a_2 a_3 a_4 a_5 a_6 a_7 a_8 a_9 a_l b_0 b_1 b_2 b_3 b_4 b_5 b_6 b_7 b_8 b_9 b_l m_0 m_1 m_l x_0 x_1 x_l r_0 r_1 r_2 r_3 r_l s_0 s_1 s_2 s_3 s_l yy_0 yy_1 yy_l t_0 t_1 t_2 t_3 t_l u_0 u_1 u_2 u_3 u_l
  have Kaw23 := Lib.hid (hE.blk Kaw22.out id)
  have Kbw23 := Lib.hid (hE.blk Kbw22.out id)
  have Kmw23 := Lib.hid (hE.blk Kmw22.out id)
  have Kxw23 := Lib.hid (hE.blk Kxw22.out id)
  have Krw23 := Lib.hid (hE.blk Krw22.out id)
  have Ksw23 := Lib.hid (hE.blk Ksw22.out id)
  have Kyyw23 := Lib.hid (hE.blk Kyyw22.out id)
  have Ktw23 := Lib.hid (hE.blk Ktw22.out id)
  have Kuw23 := Lib.hid (hE.blk Kuw22.out id)
  replace HN7 := Lib.hid (newM_mod HN7.out hE (fun _ _ => id) (fun _ _ => id))
  replace HN1 := Lib.hid (newM_mod HN1.out hE (fun _ _ => id) (fun _ _ => id))
  replace HN2 := Lib.hid (newM_mod HN2.out hE (fun _ _ => id) (fun _ _ => id))
  replace HN3 := Lib.hid (newM_mod HN3.out hE (fun _ _ => id) (fun _ _ => id))
  replace HN4 := Lib.hid (newM_mod HN4.out hE (fun _ _ => id) (fun _ _ => id))
  replace HX := Lib.hid (HX.out.ext hE)
  clear Kaw22
  clear Kbw22
  clear Kmw22
  clear Kxw22
  clear Krw22
  clear Ksw22
  clear Kyyw22
  clear Ktw22
  clear Kuw22
  clear hE
  have a_0 : w23.cell? ⟨ba, 0, none⟩ = some _ := blk_cell Kaw23.out rfl
  have a_1 : w23.cell? ⟨ba, 1, none⟩ = some _ := blk_cell Kaw23.out rfl
  have a_2 : w23.cell? ⟨ba, 2, none⟩ = some _ := blk_cell Kaw23.out rfl
  have a_3 : w23.cell? ⟨ba, 3, none⟩ = some _ := blk_cell Kaw23.out rfl
  have a_4 : w23.cell? ⟨ba, 4, none⟩ = some _ := blk_cell Kaw23.out rfl
  have a_5 : w23.cell? ⟨ba, 5, none⟩ = some _ := blk_cell Kaw23.out rfl
  have a_6 : w23.cell? ⟨ba, 6, none⟩ = some _ := blk_cell Kaw23.out rfl
  have a_7 : w23.cell? ⟨ba, 7, none⟩ = some _ := blk_cell Kaw23.out rfl
  have a_8 : w23.cell? ⟨ba, 8, none⟩ = some _ := blk_cell Kaw23.out rfl
  have a_9 : w23.cell? ⟨ba, 9, none⟩ = some _ := blk_cell Kaw23.out rfl
  have a_l : ba < w23.heap.size := (Array.getElem?_eq_some_iff.1 Kaw23.out).1
  have b_0 : w23.cell? ⟨bb, 0, none⟩ = some _ := blk_cell Kbw23.out rfl
  have b_1 : w23.cell? ⟨bb, 1, none⟩ = some _ := blk_cell Kbw23.out rfl
  have b_2 : w23.cell? ⟨bb, 2, none⟩ = some _ := blk_cell Kbw23.out rfl
  have b_3 : w23.cell? ⟨bb, 3, none⟩ = some _ := blk_cell Kbw23.out rfl
  have b_4 : w23.cell? ⟨bb, 4, none⟩ = some _ := blk_cell Kbw23.out rfl
  have b_5 : w23.cell? ⟨bb, 5, none⟩ = some _ := blk_cell Kbw23.out rfl
  have b_6 : w23.cell? ⟨bb, 6, none⟩ = some _ := blk_cell Kbw23.out rfl
  have b_7 : w23.cell? ⟨bb, 7, none⟩ = some _ := blk_cell Kbw23.out rfl
  have b_8 : w23.cell? ⟨bb, 8, none⟩ = some _ := blk_cell Kbw23.out rfl
  have b_9 : w23.cell? ⟨bb, 9, none⟩ = some _ := blk_cell Kbw23.out rfl
  have b_l : bb < w23.heap.size := (Array.getElem?_eq_some_iff.1 Kbw23.out).1
  have m_0 : w23.cell? ⟨bm, 0, none⟩ = some _ := blk_cell Kmw23.out rfl
  have m_1 : w23.cell? ⟨bm, 1, none⟩ = some _ := blk_cell Kmw23.out rfl
  have m_l : bm < w23.heap.size := (Array.getElem?_eq_some_iff.1 Kmw23.out).1
  have x_0 : w23.cell? ⟨bx, 0, none⟩ = some _ := blk_cell Kxw23.out rfl
  have x_1 : w23.cell? ⟨bx, 1, none⟩ = some _ := blk_cell Kxw23.out rfl
  have x_l : bx < w23.heap.size := (Array.getElem?_eq_some_iff.1 Kxw23.out).1
  have r_0 : w23.cell? ⟨br, 0, none⟩ = some _ := blk_cell Krw23.out rfl
  have r_1 : w23.cell? ⟨br, 1, none⟩ = some _ := blk_cell Krw23.out rfl
  have r_2 : w23.cell? ⟨br, 2, none⟩ = some _ := blk_cell Krw23.out rfl
  have r_3 : w23.cell? ⟨br, 3, none⟩ = some _ := blk_cell Krw23.out rfl
  have r_l : br < w23.heap.size := (Array.getElem?_eq_some_iff.1 Krw23.out).1
  have s_0 : w23.cell? ⟨bs, 0, none⟩ = some _ := blk_cell Ksw23.out rfl
  have s_1 : w23.cell? ⟨bs, 1, none⟩ = some _ := blk_cell Ksw23.out rfl
  have s_2 : w23.cell? ⟨bs, 2, none⟩ = some _ := blk_cell Ksw23.out rfl
  have s_3 : w23.cell? ⟨bs, 3, none⟩ = some _ := blk_cell Ksw23.out rfl
  have s_l : bs < w23.heap.size := (Array.getElem?_eq_some_iff.1 Ksw23.out).1
  have yy_0 : w23.cell? ⟨byy, 0, none⟩ = some _ := blk_cell Kyyw23.out rfl
  have yy_1 : w23.cell? ⟨byy, 1, none⟩ = some _ := blk_cell Kyyw23.out rfl
  have yy_l : byy < w23.heap.size := (Array.getElem?_eq_some_iff.1 Kyyw23.out).1
  have t_0 : w23.cell? ⟨bt, 0, none⟩ = some _ := blk_cell Ktw23.out rfl
  have t_1 : w23.cell? ⟨bt, 1, none⟩ = some _ := blk_cell Ktw23.out rfl
  have t_2 : w23.cell? ⟨bt, 2, none⟩ = some _ := blk_cell Ktw23.out rfl
  have t_3 : w23.cell? ⟨bt, 3, none⟩ = some _ := blk_cell Ktw23.out rfl
  have t_l : bt < w23.heap.size := (Array.getElem?_eq_some_iff.1 Ktw23.out).1
  have u_0 : w23.cell? ⟨bu, 0, none⟩ = some _ := blk_cell Kuw23.out rfl
  have u_1 : w23.cell? ⟨bu, 1, none⟩ = some _ := blk_cell Kuw23.out rfl
  have u_2 : w23.cell? ⟨bu, 2, none⟩ = some _ := blk_cell Kuw23.out rfl
  have u_3 : w23.cell? ⟨bu, 3, none⟩ = some _ := blk_cell Kuw23.out rfl
  have u_l : bu < w23.heap.size := (Array.getElem?_eq_some_iff.1 Kuw23.out).1
  go_wp2
  go_ret
  exact ⟨rfl, Ext.below HX.out⟩
theorem sesClients_a (w : World) (v0 : Value) (l : List ACall) (a b : ACall) (hC : Cas w (fun g => g < w.heap.size) v0 l) (ha : a.ok) (hb : b.ok) :
    Calls Try.prog 5 #[v0, .agg #[.int .i64 a.client, .int .i64 a.seq, .int .i64 a.cmd.kind, .string a.cmd.key, .int .i64 a.cmd.old.kind, .float .f64 a.cmd.old.num, .string a.cmd.old.text, .int .i64 a.cmd.val.kind, .float .f64 a.cmd.val.num, .string a.cmd.val.text], .agg #[.int .i64 b.client, .int .i64 b.seq, .int .i64 b.cmd.kind, .string b.cmd.key, .int .i64 b.cmd.old.kind, .float .f64 b.cmd.old.num, .string b.cmd.old.text, .int .i64 b.cmd.val.kind, .float .f64 b.cmd.val.num, .string b.cmd.val.text]] w fun e w' => e = .returned (.bool true) ∧ Below w.heap.size w w' := by
  obtain ⟨A, cc, rfl⟩ := hC.form
  exact sesClients_walk w _ A _ cc l hC rfl a b ha hb
end Go.Proofs.Ytplpegjnmlabkaa
