/-
  The walk of SessExact. Conditions: as the theorems name them.
-/
import Derived.Test.YtplpegjnmlabkaaSesMore
import Derived.Test.YtplpegjnmlabkaaGOpen
namespace Go.Proofs.Ytplpegjnmlabkaa
set_option linter.unusedSimpArgs false
open Go.RowKit

set_option maxRecDepth 100000 in
set_option maxHeartbeats 2000000 in
theorem sesExact_heavy (w : World) (T U : Nat → Prop) (_ : ∀ g, T g → g < w.heap.size) (_ : ∀ g, U g → g < w.heap.size) (A B : Option Addr) (ca cb : Nat) (p : List APair) (l : List ASess) (hP : Prs w U (.slice A p.length ca) p) (hS : Ses w T (.slice B l.length cb) l) (c : ACall) (client : Int) (_ : c.ok) (hv : heavyM ⟨p, l⟩ = true ∨ (heavyM ⟨p, l⟩ = false ∧ heavyCmd c.cmd = true)) :
    Calls Try.prog 3 #[.agg #[.slice A p.length ca, .slice B l.length cb], .agg #[.int .i64 c.client, .int .i64 c.seq, .int .i64 c.cmd.kind, .string c.cmd.key, .int .i64 c.cmd.old.kind, .float .f64 c.cmd.old.num, .string c.cmd.old.text, .int .i64 c.cmd.val.kind, .float .f64 c.cmd.val.num, .string c.cmd.val.text], .int .i64 client] w fun e w' => e = .returned (.bool true) ∧ Below w.heap.size w w' := by
  rcases hv with h1 | ⟨h1, h2⟩
  · have HX : Hid (Ext w w) := Lib.hid (Mod.refl _ w)
    have HP := Lib.hid hP
    have HS := Lib.hid hS
    clear hP hS
    go_enter Try.func3, Try.ntmps3
    go_wp2_with fail
    obtain ⟨w1, hw1⟩ : ∃ w1, w1 = w.alloc (.cells #[.slice A p.length ca, .slice B l.length cb] 25) := ⟨_, rfl⟩
    obtain ⟨bm, hbm⟩ : ∃ bm, bm = w.heap.size := ⟨_, rfl⟩
    have hzz : w.heap.size = bm := hbm.symm
    have hE : Ext w w1 := by rw [hw1]; exact (Mod.refl _ w).alloc _
    have hKn : w1.heap[bm]? = some (.cells #[.slice A p.length ca, .slice B l.length cb] 25 (0, 0)) := by rw [hw1, ← hzz]; exact heap_alloc_new w _
    have hzn : w1.heap.size = bm + 1 := by rw [hw1, ← hzz]; simp
    rw [← hw1, ← hbm]
    have HXo := HX
    replace HP := Lib.hid (HP.out.ext hE)
    replace HS := Lib.hid (HS.out.ext hE)
    replace HX := Lib.hid (HX.out.ext hE)
    have Kmw1 := Lib.hid hKn
    have hbz : w.heap.size ≤ bm := by have := HXo.out.size; omega
    clear hKn hE hw1 hbm HXo hzz
    have hbm := hbz
    clear hbz
    obtain ⟨w2, hw2⟩ : ∃ w2, w2 = w1.alloc (.cells #[.int .i64 c.client, .int .i64 c.seq, .int .i64 c.cmd.kind, .string c.cmd.key, .int .i64 c.cmd.old.kind, .float .f64 c.cmd.old.num, .string c.cmd.old.text, .int .i64 c.cmd.val.kind, .float .f64 c.cmd.val.num, .string c.cmd.val.text] 32) := ⟨_, rfl⟩
    obtain ⟨bc, hbc⟩ : ∃ bc, bc = bm + 1 := ⟨_, rfl⟩
    have hzz : w1.heap.size = bc := hzn.trans hbc.symm
    clear hzn
    have hE : Ext w1 w2 := by rw [hw2]; exact (Mod.refl _ w1).alloc _
    have hKn : w2.heap[bc]? = some (.cells #[.int .i64 c.client, .int .i64 c.seq, .int .i64 c.cmd.kind, .string c.cmd.key, .int .i64 c.cmd.old.kind, .float .f64 c.cmd.old.num, .string c.cmd.old.text, .int .i64 c.cmd.val.kind, .float .f64 c.cmd.val.num, .string c.cmd.val.text] 32 (0, 0)) := by rw [hw2, ← hzz]; exact heap_alloc_new w1 _
    have hzn : w2.heap.size = bc + 1 := by rw [hw2, ← hzz]; simp
    rw [← hw2, ← hbc]
    have hltmc : bm < bc := by have := (Array.getElem?_eq_some_iff.1 Kmw1.out).1; omega
    have HXo := HX
    have Kmw2 := Lib.hid (hE.blk Kmw1.out id)
    replace HP := Lib.hid (HP.out.ext hE)
    replace HS := Lib.hid (HS.out.ext hE)
    replace HX := Lib.hid (HX.out.ext hE)
    clear Kmw1
    have Kcw2 := Lib.hid hKn
    have hbz : w.heap.size ≤ bc := by have := HXo.out.size; omega
    clear hKn hE hw2 hbc HXo hzz
    have hbc := hbz
    clear hbz
    clear hzn
    refine (hv_mach w2 _ _ _ _ p l HP.out HS.out).mono ?_
    rintro e w3 ⟨rfl, hE⟩
    have Kmw3 := Lib.hid (hE.blk Kmw2.out id)
    have Kcw3 := Lib.hid (hE.blk Kcw2.out id)
    replace HP := Lib.hid (HP.out.ext hE)
    replace HS := Lib.hid (HS.out.ext hE)
    replace HX := Lib.hid (HX.out.ext hE)
    clear Kmw2
    clear Kcw2
    rw [h1]
    clear hE
    have m_0 : w3.cell? ⟨bm, 0, none⟩ = some _ := blk_cell Kmw3.out rfl
    have m_1 : w3.cell? ⟨bm, 1, none⟩ = some _ := blk_cell Kmw3.out rfl
    have m_l : bm < w3.heap.size := (Array.getElem?_eq_some_iff.1 Kmw3.out).1
    have c_0 : w3.cell? ⟨bc, 0, none⟩ = some _ := blk_cell Kcw3.out rfl
    have c_1 : w3.cell? ⟨bc, 1, none⟩ = some _ := blk_cell Kcw3.out rfl
    have c_2 : w3.cell? ⟨bc, 2, none⟩ = some _ := blk_cell Kcw3.out rfl
    have c_3 : w3.cell? ⟨bc, 3, none⟩ = some _ := blk_cell Kcw3.out rfl
    have c_4 : w3.cell? ⟨bc, 4, none⟩ = some _ := blk_cell Kcw3.out rfl
    have c_5 : w3.cell? ⟨bc, 5, none⟩ = some _ := blk_cell Kcw3.out rfl
    have c_6 : w3.cell? ⟨bc, 6, none⟩ = some _ := blk_cell Kcw3.out rfl
    have c_7 : w3.cell? ⟨bc, 7, none⟩ = some _ := blk_cell Kcw3.out rfl
    have c_8 : w3.cell? ⟨bc, 8, none⟩ = some _ := blk_cell Kcw3.out rfl
    have c_9 : w3.cell? ⟨bc, 9, none⟩ = some _ := blk_cell Kcw3.out rfl
    have c_l : bc < w3.heap.size := (Array.getElem?_eq_some_iff.1 Kcw3.out).1
    go_wp2
    go_ret
    exact ⟨rfl, Ext.below HX.out⟩
  · have HX : Hid (Ext w w) := Lib.hid (Mod.refl _ w)
    have HP := Lib.hid hP
    have HS := Lib.hid hS
    clear hP hS
    go_enter Try.func3, Try.ntmps3
    go_wp2_with fail
    obtain ⟨w1, hw1⟩ : ∃ w1, w1 = w.alloc (.cells #[.slice A p.length ca, .slice B l.length cb] 25) := ⟨_, rfl⟩
    obtain ⟨bm, hbm⟩ : ∃ bm, bm = w.heap.size := ⟨_, rfl⟩
    have hzz : w.heap.size = bm := hbm.symm
    have hE : Ext w w1 := by rw [hw1]; exact (Mod.refl _ w).alloc _
    have hKn : w1.heap[bm]? = some (.cells #[.slice A p.length ca, .slice B l.length cb] 25 (0, 0)) := by rw [hw1, ← hzz]; exact heap_alloc_new w _
    have hzn : w1.heap.size = bm + 1 := by rw [hw1, ← hzz]; simp
    rw [← hw1, ← hbm]
    have HXo := HX
    replace HP := Lib.hid (HP.out.ext hE)
    replace HS := Lib.hid (HS.out.ext hE)
    replace HX := Lib.hid (HX.out.ext hE)
    have Kmw1 := Lib.hid hKn
    have hbz : w.heap.size ≤ bm := by have := HXo.out.size; omega
    clear hKn hE hw1 hbm HXo hzz
    have hbm := hbz
    clear hbz
    obtain ⟨w2, hw2⟩ : ∃ w2, w2 = w1.alloc (.cells #[.int .i64 c.client, .int .i64 c.seq, .int .i64 c.cmd.kind, .string c.cmd.key, .int .i64 c.cmd.old.kind, .float .f64 c.cmd.old.num, .string c.cmd.old.text, .int .i64 c.cmd.val.kind, .float .f64 c.cmd.val.num, .string c.cmd.val.text] 32) := ⟨_, rfl⟩
    obtain ⟨bc, hbc⟩ : ∃ bc, bc = bm + 1 := ⟨_, rfl⟩
    have hzz : w1.heap.size = bc := hzn.trans hbc.symm
    clear hzn
    have hE : Ext w1 w2 := by rw [hw2]; exact (Mod.refl _ w1).alloc _
    have hKn : w2.heap[bc]? = some (.cells #[.int .i64 c.client, .int .i64 c.seq, .int .i64 c.cmd.kind, .string c.cmd.key, .int .i64 c.cmd.old.kind, .float .f64 c.cmd.old.num, .string c.cmd.old.text, .int .i64 c.cmd.val.kind, .float .f64 c.cmd.val.num, .string c.cmd.val.text] 32 (0, 0)) := by rw [hw2, ← hzz]; exact heap_alloc_new w1 _
    have hzn : w2.heap.size = bc + 1 := by rw [hw2, ← hzz]; simp
    rw [← hw2, ← hbc]
    have hltmc : bm < bc := by have := (Array.getElem?_eq_some_iff.1 Kmw1.out).1; omega
    have HXo := HX
    have Kmw2 := Lib.hid (hE.blk Kmw1.out id)
    replace HP := Lib.hid (HP.out.ext hE)
    replace HS := Lib.hid (HS.out.ext hE)
    replace HX := Lib.hid (HX.out.ext hE)
    clear Kmw1
    have Kcw2 := Lib.hid hKn
    have hbz : w.heap.size ≤ bc := by have := HXo.out.size; omega
    clear hKn hE hw2 hbc HXo hzz
    have hbc := hbz
    clear hbz
    clear hzn
    refine (hv_mach w2 _ _ _ _ p l HP.out HS.out).mono ?_
    rintro e w3 ⟨rfl, hE⟩
    have Kmw3 := Lib.hid (hE.blk Kmw2.out id)
    have Kcw3 := Lib.hid (hE.blk Kcw2.out id)
    replace HP := Lib.hid (HP.out.ext hE)
    replace HS := Lib.hid (HS.out.ext hE)
    replace HX := Lib.hid (HX.out.ext hE)
    clear Kmw2
    clear Kcw2
    rw [h1]
    clear hE
    have m_0 : w3.cell? ⟨bm, 0, none⟩ = some _ := blk_cell Kmw3.out rfl
    have m_1 : w3.cell? ⟨bm, 1, none⟩ = some _ := blk_cell Kmw3.out rfl
    have m_l : bm < w3.heap.size := (Array.getElem?_eq_some_iff.1 Kmw3.out).1
    have c_0 : w3.cell? ⟨bc, 0, none⟩ = some _ := blk_cell Kcw3.out rfl
    have c_1 : w3.cell? ⟨bc, 1, none⟩ = some _ := blk_cell Kcw3.out rfl
    have c_2 : w3.cell? ⟨bc, 2, none⟩ = some _ := blk_cell Kcw3.out rfl
    have c_3 : w3.cell? ⟨bc, 3, none⟩ = some _ := blk_cell Kcw3.out rfl
    have c_4 : w3.cell? ⟨bc, 4, none⟩ = some _ := blk_cell Kcw3.out rfl
    have c_5 : w3.cell? ⟨bc, 5, none⟩ = some _ := blk_cell Kcw3.out rfl
    have c_6 : w3.cell? ⟨bc, 6, none⟩ = some _ := blk_cell Kcw3.out rfl
    have c_7 : w3.cell? ⟨bc, 7, none⟩ = some _ := blk_cell Kcw3.out rfl
    have c_8 : w3.cell? ⟨bc, 8, none⟩ = some _ := blk_cell Kcw3.out rfl
    have c_9 : w3.cell? ⟨bc, 9, none⟩ = some _ := blk_cell Kcw3.out rfl
    have c_l : bc < w3.heap.size := (Array.getElem?_eq_some_iff.1 Kcw3.out).1
    go_wp2_with fail
    refine (hv_cmd c.cmd w3).mono ?_
    rintro e w4 ⟨rfl, hE⟩
    clear m_0 m_1 m_l c_0 c_1 c_2 c_3 c_4 c_5 c_6 c_7 c_8 c_9 c_l
    have Kmw4 := Lib.hid (hE.blk Kmw3.out id)
    have Kcw4 := Lib.hid (hE.blk Kcw3.out id)
    replace HP := Lib.hid (HP.out.ext hE)
    replace HS := Lib.hid (HS.out.ext hE)
    replace HX := Lib.hid (HX.out.ext hE)
    clear Kmw3
    clear Kcw3
    rw [h2]
    clear hE
    have m_0 : w4.cell? ⟨bm, 0, none⟩ = some _ := blk_cell Kmw4.out rfl
    have m_1 : w4.cell? ⟨bm, 1, none⟩ = some _ := blk_cell Kmw4.out rfl
    have m_l : bm < w4.heap.size := (Array.getElem?_eq_some_iff.1 Kmw4.out).1
    have c_0 : w4.cell? ⟨bc, 0, none⟩ = some _ := blk_cell Kcw4.out rfl
    have c_1 : w4.cell? ⟨bc, 1, none⟩ = some _ := blk_cell Kcw4.out rfl
    have c_2 : w4.cell? ⟨bc, 2, none⟩ = some _ := blk_cell Kcw4.out rfl
    have c_3 : w4.cell? ⟨bc, 3, none⟩ = some _ := blk_cell Kcw4.out rfl
    have c_4 : w4.cell? ⟨bc, 4, none⟩ = some _ := blk_cell Kcw4.out rfl
    have c_5 : w4.cell? ⟨bc, 5, none⟩ = some _ := blk_cell Kcw4.out rfl
    have c_6 : w4.cell? ⟨bc, 6, none⟩ = some _ := blk_cell Kcw4.out rfl
    have c_7 : w4.cell? ⟨bc, 7, none⟩ = some _ := blk_cell Kcw4.out rfl
    have c_8 : w4.cell? ⟨bc, 8, none⟩ = some _ := blk_cell Kcw4.out rfl
    have c_9 : w4.cell? ⟨bc, 9, none⟩ = some _ := blk_cell Kcw4.out rfl
    have c_l : bc < w4.heap.size := (Array.getElem?_eq_some_iff.1 Kcw4.out).1
    go_wp2
    go_ret
    exact ⟨rfl, Ext.below HX.out⟩
set_option maxRecDepth 100000 in
set_option maxHeartbeats 2000000 in
theorem sesExact_right (w : World) (T U : Nat → Prop) (hT : ∀ g, T g → g < w.heap.size) (hU : ∀ g, U g → g < w.heap.size) (A B : Option Addr) (ca cb : Nat) (p : List APair) (l : List ASess) (hP : Prs w U (.slice A p.length ca) p) (hS : Ses w T (.slice B l.length cb) l) (c : ACall) (client : Int) (hc : c.ok) (h1 : heavyM ⟨p, l⟩ = false) (h2 : heavyCmd c.cmd = false) (hp : machB ⟨p, l⟩ = true) :
    Calls Try.prog 3 #[.agg #[.slice A p.length ca, .slice B l.length cb], .agg #[.int .i64 c.client, .int .i64 c.seq, .int .i64 c.cmd.kind, .string c.cmd.key, .int .i64 c.cmd.old.kind, .float .f64 c.cmd.old.num, .string c.cmd.old.text, .int .i64 c.cmd.val.kind, .float .f64 c.cmd.val.num, .string c.cmd.val.text], .int .i64 client] w fun e w' => e = .returned (.bool true) ∧ Below w.heap.size w w' := by
  have hlen : p.length ≤ 1000000 ∧ l.length ≤ 1000000 := by
    unfold heavyM heavyPairs at h1
    simp only [Bool.or_eq_false_iff, decide_eq_false_iff_not] at h1
    omega
  have Hp := Lib.hid hp
  have HT := Lib.hid hT
  have HU := Lib.hid hU
  clear hp hT hU
  have HX : Hid (Ext w w) := Lib.hid (Mod.refl _ w)
  have HP := Lib.hid hP
  have HS := Lib.hid hS
  clear hP hS
  go_enter Try.func3, Try.ntmps3
  go_wp2_with fail
  obtain ⟨w1, hw1⟩ : ∃ w1, w1 = w.alloc (.cells #[.slice A p.length ca, .slice B l.length cb] 25) := ⟨_, rfl⟩
  obtain ⟨bm, hbm⟩ : ∃ bm, bm = w.heap.size := ⟨_, rfl⟩
  have hzz : w.heap.size = bm := hbm.symm
  have hE : Ext w w1 := by rw [hw1]; exact (Mod.refl _ w).alloc _
  have hKn : w1.heap[bm]? = some (.cells #[.slice A p.length ca, .slice B l.length cb] 25 (0, 0)) := by rw [hw1, ← hzz]; exact heap_alloc_new w _
  have hzn : w1.heap.size = bm + 1 := by rw [hw1, ← hzz]; simp
  rw [← hw1, ← hbm]
  have HXo := HX
  replace HP := Lib.hid (HP.out.ext hE)
  replace HS := Lib.hid (HS.out.ext hE)
  replace HX := Lib.hid (HX.out.ext hE)
  have Kmw1 := Lib.hid hKn
  have hbz : w.heap.size ≤ bm := by have := HXo.out.size; omega
  clear hKn hE hw1 hbm HXo hzz
  have hbm := hbz
  clear hbz
  obtain ⟨w2, hw2⟩ : ∃ w2, w2 = w1.alloc (.cells #[.int .i64 c.client, .int .i64 c.seq, .int .i64 c.cmd.kind, .string c.cmd.key, .int .i64 c.cmd.old.kind, .float .f64 c.cmd.old.num, .string c.cmd.old.text, .int .i64 c.cmd.val.kind, .float .f64 c.cmd.val.num, .string c.cmd.val.text] 32) := ⟨_, rfl⟩
  obtain ⟨bc, hbc⟩ : ∃ bc, bc = bm + 1 := ⟨_, rfl⟩
  have hzz : w1.heap.size = bc := hzn.trans hbc.symm
  clear hzn
  have hE : Ext w1 w2 := by rw [hw2]; exact (Mod.refl _ w1).alloc _
  have hKn : w2.heap[bc]? = some (.cells #[.int .i64 c.client, .int .i64 c.seq, .int .i64 c.cmd.kind, .string c.cmd.key, .int .i64 c.cmd.old.kind, .float .f64 c.cmd.old.num, .string c.cmd.old.text, .int .i64 c.cmd.val.kind, .float .f64 c.cmd.val.num, .string c.cmd.val.text] 32 (0, 0)) := by rw [hw2, ← hzz]; exact heap_alloc_new w1 _
  have hzn : w2.heap.size = bc + 1 := by rw [hw2, ← hzz]; simp
  rw [← hw2, ← hbc]
  have hltmc : bm < bc := by have := (Array.getElem?_eq_some_iff.1 Kmw1.out).1; omega
  have HXo := HX
  have Kmw2 := Lib.hid (hE.blk Kmw1.out id)
  replace HP := Lib.hid (HP.out.ext hE)
  replace HS := Lib.hid (HS.out.ext hE)
  replace HX := Lib.hid (HX.out.ext hE)
  clear Kmw1
  have Kcw2 := Lib.hid hKn
  have hbz : w.heap.size ≤ bc := by have := HXo.out.size; omega
  clear hKn hE hw2 hbc HXo hzz
  have hbc := hbz
  clear hbz
  clear hzn
  refine (hv_mach w2 _ _ _ _ p l HP.out HS.out).mono ?_
  rintro e w3 ⟨rfl, hE⟩
  have Kmw3 := Lib.hid (hE.blk Kmw2.out id)
  have Kcw3 := Lib.hid (hE.blk Kcw2.out id)
  replace HP := Lib.hid (HP.out.ext hE)
  replace HS := Lib.hid (HS.out.ext hE)
  replace HX := Lib.hid (HX.out.ext hE)
  clear Kmw2
  clear Kcw2
  rw [h1]
  clear hE
  have m_0 : w3.cell? ⟨bm, 0, none⟩ = some _ := blk_cell Kmw3.out rfl
  have m_1 : w3.cell? ⟨bm, 1, none⟩ = some _ := blk_cell Kmw3.out rfl
  have m_l : bm < w3.heap.size := (Array.getElem?_eq_some_iff.1 Kmw3.out).1
  have c_0 : w3.cell? ⟨bc, 0, none⟩ = some _ := blk_cell Kcw3.out rfl
  have c_1 : w3.cell? ⟨bc, 1, none⟩ = some _ := blk_cell Kcw3.out rfl
  have c_2 : w3.cell? ⟨bc, 2, none⟩ = some _ := blk_cell Kcw3.out rfl
  have c_3 : w3.cell? ⟨bc, 3, none⟩ = some _ := blk_cell Kcw3.out rfl
  have c_4 : w3.cell? ⟨bc, 4, none⟩ = some _ := blk_cell Kcw3.out rfl
  have c_5 : w3.cell? ⟨bc, 5, none⟩ = some _ := blk_cell Kcw3.out rfl
  have c_6 : w3.cell? ⟨bc, 6, none⟩ = some _ := blk_cell Kcw3.out rfl
  have c_7 : w3.cell? ⟨bc, 7, none⟩ = some _ := blk_cell Kcw3.out rfl
  have c_8 : w3.cell? ⟨bc, 8, none⟩ = some _ := blk_cell Kcw3.out rfl
  have c_9 : w3.cell? ⟨bc, 9, none⟩ = some _ := blk_cell Kcw3.out rfl
  have c_l : bc < w3.heap.size := (Array.getElem?_eq_some_iff.1 Kcw3.out).1
  go_wp2_with fail
  refine (hv_cmd c.cmd w3).mono ?_
  rintro e w4 ⟨rfl, hE⟩
  clear m_0 m_1 m_l c_0 c_1 c_2 c_3 c_4 c_5 c_6 c_7 c_8 c_9 c_l
  have Kmw4 := Lib.hid (hE.blk Kmw3.out id)
  have Kcw4 := Lib.hid (hE.blk Kcw3.out id)
  replace HP := Lib.hid (HP.out.ext hE)
  replace HS := Lib.hid (HS.out.ext hE)
  replace HX := Lib.hid (HX.out.ext hE)
  clear Kmw3
  clear Kcw3
  rw [h2]
  clear hE
  have m_0 : w4.cell? ⟨bm, 0, none⟩ = some _ := blk_cell Kmw4.out rfl
  have m_1 : w4.cell? ⟨bm, 1, none⟩ = some _ := blk_cell Kmw4.out rfl
  have m_l : bm < w4.heap.size := (Array.getElem?_eq_some_iff.1 Kmw4.out).1
  have c_0 : w4.cell? ⟨bc, 0, none⟩ = some _ := blk_cell Kcw4.out rfl
  have c_1 : w4.cell? ⟨bc, 1, none⟩ = some _ := blk_cell Kcw4.out rfl
  have c_2 : w4.cell? ⟨bc, 2, none⟩ = some _ := blk_cell Kcw4.out rfl
  have c_3 : w4.cell? ⟨bc, 3, none⟩ = some _ := blk_cell Kcw4.out rfl
  have c_4 : w4.cell? ⟨bc, 4, none⟩ = some _ := blk_cell Kcw4.out rfl
  have c_5 : w4.cell? ⟨bc, 5, none⟩ = some _ := blk_cell Kcw4.out rfl
  have c_6 : w4.cell? ⟨bc, 6, none⟩ = some _ := blk_cell Kcw4.out rfl
  have c_7 : w4.cell? ⟨bc, 7, none⟩ = some _ := blk_cell Kcw4.out rfl
  have c_8 : w4.cell? ⟨bc, 8, none⟩ = some _ := blk_cell Kcw4.out rfl
  have c_9 : w4.cell? ⟨bc, 9, none⟩ = some _ := blk_cell Kcw4.out rfl
  have c_l : bc < w4.heap.size := (Array.getElem?_eq_some_iff.1 Kcw4.out).1
  clear h1 h2
  go_wp2_with fail
  have hso := HX.out.size
  refine (k_twinMachine w4 _ _ _ _ p l HP.out HS.out hlen.1 hlen.2).mono ?_
  rintro e w5 ⟨p7, v7, rfl, hN, hE⟩
  clear m_0 m_1 m_l c_0 c_1 c_2 c_3 c_4 c_5 c_6 c_7 c_8 c_9 c_l
  have Kmw5 := Lib.hid (hE.blk Kmw4.out id)
  have Kcw5 := Lib.hid (hE.blk Kcw4.out id)
  replace HP := Lib.hid (HP.out.ext hE)
  replace HS := Lib.hid (HS.out.ext hE)
  replace HX := Lib.hid (HX.out.ext hE)
  clear Kmw4
  clear Kcw4
  obtain ⟨A7, c7, rfl⟩ := own_form hN.1.1
  obtain ⟨B7, d7, rfl⟩ := own_form hN.2.1.1
  have HN7 := Lib.hid (newM_up hN hso)
  clear hN hso
  clear hE
  have m_0 : w5.cell? ⟨bm, 0, none⟩ = some _ := blk_cell Kmw5.out rfl
  have m_1 : w5.cell? ⟨bm, 1, none⟩ = some _ := blk_cell Kmw5.out rfl
  have m_l : bm < w5.heap.size := (Array.getElem?_eq_some_iff.1 Kmw5.out).1
  have c_0 : w5.cell? ⟨bc, 0, none⟩ = some _ := blk_cell Kcw5.out rfl
  have c_1 : w5.cell? ⟨bc, 1, none⟩ = some _ := blk_cell Kcw5.out rfl
  have c_2 : w5.cell? ⟨bc, 2, none⟩ = some _ := blk_cell Kcw5.out rfl
  have c_3 : w5.cell? ⟨bc, 3, none⟩ = some _ := blk_cell Kcw5.out rfl
  have c_4 : w5.cell? ⟨bc, 4, none⟩ = some _ := blk_cell Kcw5.out rfl
  have c_5 : w5.cell? ⟨bc, 5, none⟩ = some _ := blk_cell Kcw5.out rfl
  have c_6 : w5.cell? ⟨bc, 6, none⟩ = some _ := blk_cell Kcw5.out rfl
  have c_7 : w5.cell? ⟨bc, 7, none⟩ = some _ := blk_cell Kcw5.out rfl
  have c_8 : w5.cell? ⟨bc, 8, none⟩ = some _ := blk_cell Kcw5.out rfl
  have c_9 : w5.cell? ⟨bc, 9, none⟩ = some _ := blk_cell Kcw5.out rfl
  have c_l : bc < w5.heap.size := (Array.getElem?_eq_some_iff.1 Kcw5.out).1
  go_wp2_with fail
  obtain ⟨w6, hw6⟩ : ∃ w6, w6 = w5.alloc (.cells #[.slice A7 p.length c7, .slice B7 l.length d7] 25) := ⟨_, rfl⟩
  obtain ⟨bi, hbi⟩ : ∃ bi, bi = w5.heap.size := ⟨_, rfl⟩
  have hzz : w5.heap.size = bi := hbi.symm
  have hE : Ext w5 w6 := by rw [hw6]; exact (Mod.refl _ w5).alloc _
  have hKn : w6.heap[bi]? = some (.cells #[.slice A7 p.length c7, .slice B7 l.length d7] 25 (0, 0)) := by rw [hw6, ← hzz]; exact heap_alloc_new w5 _
  have hzn : w6.heap.size = bi + 1 := by rw [hw6, ← hzz]; simp
  rw [← hw6, ← hbi]
  have hltmi : bm < bi := by have := (Array.getElem?_eq_some_iff.1 Kmw5.out).1; omega
  have hltci : bc < bi := by have := (Array.getElem?_eq_some_iff.1 Kcw5.out).1; omega
  clear m_0 m_1 m_l c_0 c_1 c_2 c_3 c_4 c_5 c_6 c_7 c_8 c_9 c_l
  have HXo := HX
  have Kmw6 := Lib.hid (hE.blk Kmw5.out id)
  have Kcw6 := Lib.hid (hE.blk Kcw5.out id)
  replace HP := Lib.hid (HP.out.ext hE)
  replace HS := Lib.hid (HS.out.ext hE)
  replace HN7 := Lib.hid (newM_mod HN7.out hE (fun _ _ => id) (fun _ _ => id))
  replace HX := Lib.hid (HX.out.ext hE)
  clear Kmw5
  clear Kcw5
  have Kiw6 := Lib.hid hKn
  have hbz : w.heap.size ≤ bi := by have := HXo.out.size; omega
  clear hKn hE hw6 hbi HXo hzz
  have hbi := hbz
  clear hbz
  clear hzn
  refine (s_last w6 _ _ _ l client HN7.out.ses).mono ?_
  rintro e w7 ⟨rfl, hE⟩
  have Kmw7 := Lib.hid (hE.blk Kmw6.out id)
  have Kcw7 := Lib.hid (hE.blk Kcw6.out id)
  have Kiw7 := Lib.hid (hE.blk Kiw6.out id)
  replace HP := Lib.hid (HP.out.ext hE)
  replace HS := Lib.hid (HS.out.ext hE)
  replace HN7 := Lib.hid (newM_mod HN7.out hE (fun _ _ => id) (fun _ _ => id))
  replace HX := Lib.hid (HX.out.ext hE)
  clear Kmw6
  clear Kcw6
  clear Kiw6
  rcases hla : lastS l client with ⟨n, r⟩
  simp only
  have Hla := Lib.hid hla
  clear hla
  clear hE
  have m_0 : w7.cell? ⟨bm, 0, none⟩ = some _ := blk_cell Kmw7.out rfl
  have m_1 : w7.cell? ⟨bm, 1, none⟩ = some _ := blk_cell Kmw7.out rfl
  have m_l : bm < w7.heap.size := (Array.getElem?_eq_some_iff.1 Kmw7.out).1
  have c_0 : w7.cell? ⟨bc, 0, none⟩ = some _ := blk_cell Kcw7.out rfl
  have c_1 : w7.cell? ⟨bc, 1, none⟩ = some _ := blk_cell Kcw7.out rfl
  have c_2 : w7.cell? ⟨bc, 2, none⟩ = some _ := blk_cell Kcw7.out rfl
  have c_3 : w7.cell? ⟨bc, 3, none⟩ = some _ := blk_cell Kcw7.out rfl
  have c_4 : w7.cell? ⟨bc, 4, none⟩ = some _ := blk_cell Kcw7.out rfl
  have c_5 : w7.cell? ⟨bc, 5, none⟩ = some _ := blk_cell Kcw7.out rfl
  have c_6 : w7.cell? ⟨bc, 6, none⟩ = some _ := blk_cell Kcw7.out rfl
  have c_7 : w7.cell? ⟨bc, 7, none⟩ = some _ := blk_cell Kcw7.out rfl
  have c_8 : w7.cell? ⟨bc, 8, none⟩ = some _ := blk_cell Kcw7.out rfl
  have c_9 : w7.cell? ⟨bc, 9, none⟩ = some _ := blk_cell Kcw7.out rfl
  have c_l : bc < w7.heap.size := (Array.getElem?_eq_some_iff.1 Kcw7.out).1
  have i_0 : w7.cell? ⟨bi, 0, none⟩ = some _ := blk_cell Kiw7.out rfl
  have i_1 : w7.cell? ⟨bi, 1, none⟩ = some _ := blk_cell Kiw7.out rfl
  have i_l : bi < w7.heap.size := (Array.getElem?_eq_some_iff.1 Kiw7.out).1
  go_wp2_with fail
  obtain ⟨w8, hw8⟩ : ∃ w8, w8 = w7.alloc (.cells #[.int .i64 r.code, .int .i64 r.val.kind, .float .f64 r.val.num, .string r.val.text] 38) := ⟨_, rfl⟩
  obtain ⟨br, hbr⟩ : ∃ br, br = w7.heap.size := ⟨_, rfl⟩
  have hzz : w7.heap.size = br := hbr.symm
  have hE : Ext w7 w8 := by rw [hw8]; exact (Mod.refl _ w7).alloc _
  have hKn : w8.heap[br]? = some (.cells #[.int .i64 r.code, .int .i64 r.val.kind, .float .f64 r.val.num, .string r.val.text] 38 (0, 0)) := by rw [hw8, ← hzz]; exact heap_alloc_new w7 _
  have hzn : w8.heap.size = br + 1 := by rw [hw8, ← hzz]; simp
  rw [← hw8, ← hbr]
  have hltmr : bm < br := by have := (Array.getElem?_eq_some_iff.1 Kmw7.out).1; omega
  have hltcr : bc < br := by have := (Array.getElem?_eq_some_iff.1 Kcw7.out).1; omega
  have hltir : bi < br := by have := (Array.getElem?_eq_some_iff.1 Kiw7.out).1; omega
  clear m_0 m_1 m_l c_0 c_1 c_2 c_3 c_4 c_5 c_6 c_7 c_8 c_9 c_l i_0 i_1 i_l
  have HXo := HX
  have Kmw8 := Lib.hid (hE.blk Kmw7.out id)
  have Kcw8 := Lib.hid (hE.blk Kcw7.out id)
  have Kiw8 := Lib.hid (hE.blk Kiw7.out id)
  replace HP := Lib.hid (HP.out.ext hE)
  replace HS := Lib.hid (HS.out.ext hE)
  replace HN7 := Lib.hid (newM_mod HN7.out hE (fun _ _ => id) (fun _ _ => id))
  replace HX := Lib.hid (HX.out.ext hE)
  clear Kmw7
  clear Kcw7
  clear Kiw7
  have Krw8 := Lib.hid hKn
  have hbz : w.heap.size ≤ br := by have := HXo.out.size; omega
  clear hKn hE hw8 hbr HXo hzz
  have hbr := hbz
  clear hbz
  clear hzn
  refine (r_last w8 _ _ _ l client HS.out).mono ?_
  rintro e w9 ⟨rfl, hE⟩
  have Kmw9 := Lib.hid (hE.blk Kmw8.out id)
  have Kcw9 := Lib.hid (hE.blk Kcw8.out id)
  have Kiw9 := Lib.hid (hE.blk Kiw8.out id)
  have Krw9 := Lib.hid (hE.blk Krw8.out id)
  replace HP := Lib.hid (HP.out.ext hE)
  replace HS := Lib.hid (HS.out.ext hE)
  replace HN7 := Lib.hid (newM_mod HN7.out hE (fun _ _ => id) (fun _ _ => id))
  replace HX := Lib.hid (HX.out.ext hE)
  clear Kmw8
  clear Kcw8
  clear Kiw8
  clear Krw8
  rw [Hla.out]
  clear hE
  have m_0 : w9.cell? ⟨bm, 0, none⟩ = some _ := blk_cell Kmw9.out rfl
  have m_1 : w9.cell? ⟨bm, 1, none⟩ = some _ := blk_cell Kmw9.out rfl
  have m_l : bm < w9.heap.size := (Array.getElem?_eq_some_iff.1 Kmw9.out).1
  have c_0 : w9.cell? ⟨bc, 0, none⟩ = some _ := blk_cell Kcw9.out rfl
  have c_1 : w9.cell? ⟨bc, 1, none⟩ = some _ := blk_cell Kcw9.out rfl
  have c_2 : w9.cell? ⟨bc, 2, none⟩ = some _ := blk_cell Kcw9.out rfl
  have c_3 : w9.cell? ⟨bc, 3, none⟩ = some _ := blk_cell Kcw9.out rfl
  have c_4 : w9.cell? ⟨bc, 4, none⟩ = some _ := blk_cell Kcw9.out rfl
  have c_5 : w9.cell? ⟨bc, 5, none⟩ = some _ := blk_cell Kcw9.out rfl
  have c_6 : w9.cell? ⟨bc, 6, none⟩ = some _ := blk_cell Kcw9.out rfl
  have c_7 : w9.cell? ⟨bc, 7, none⟩ = some _ := blk_cell Kcw9.out rfl
  have c_8 : w9.cell? ⟨bc, 8, none⟩ = some _ := blk_cell Kcw9.out rfl
  have c_9 : w9.cell? ⟨bc, 9, none⟩ = some _ := blk_cell Kcw9.out rfl
  have c_l : bc < w9.heap.size := (Array.getElem?_eq_some_iff.1 Kcw9.out).1
  have i_0 : w9.cell? ⟨bi, 0, none⟩ = some _ := blk_cell Kiw9.out rfl
  have i_1 : w9.cell? ⟨bi, 1, none⟩ = some _ := blk_cell Kiw9.out rfl
  have i_l : bi < w9.heap.size := (Array.getElem?_eq_some_iff.1 Kiw9.out).1
  have r_0 : w9.cell? ⟨br, 0, none⟩ = some _ := blk_cell Krw9.out rfl
  have r_1 : w9.cell? ⟨br, 1, none⟩ = some _ := blk_cell Krw9.out rfl
  have r_2 : w9.cell? ⟨br, 2, none⟩ = some _ := blk_cell Krw9.out rfl
  have r_3 : w9.cell? ⟨br, 3, none⟩ = some _ := blk_cell Krw9.out rfl
  have r_l : br < w9.heap.size := (Array.getElem?_eq_some_iff.1 Krw9.out).1
  go_wp2_with fail
  obtain ⟨w10, hw10⟩ : ∃ w10, w10 = w9.alloc (.cells #[.int .i64 r.code, .int .i64 r.val.kind, .float .f64 r.val.num, .string r.val.text] 38) := ⟨_, rfl⟩
  obtain ⟨bs, hbs⟩ : ∃ bs, bs = w9.heap.size := ⟨_, rfl⟩
  have hzz : w9.heap.size = bs := hbs.symm
  have hE : Ext w9 w10 := by rw [hw10]; exact (Mod.refl _ w9).alloc _
  have hKn : w10.heap[bs]? = some (.cells #[.int .i64 r.code, .int .i64 r.val.kind, .float .f64 r.val.num, .string r.val.text] 38 (0, 0)) := by rw [hw10, ← hzz]; exact heap_alloc_new w9 _
  have hzn : w10.heap.size = bs + 1 := by rw [hw10, ← hzz]; simp
  rw [← hw10, ← hbs]
  have hltms : bm < bs := by have := (Array.getElem?_eq_some_iff.1 Kmw9.out).1; omega
  have hltcs : bc < bs := by have := (Array.getElem?_eq_some_iff.1 Kcw9.out).1; omega
  have hltis : bi < bs := by have := (Array.getElem?_eq_some_iff.1 Kiw9.out).1; omega
  have hltrs : br < bs := by have := (Array.getElem?_eq_some_iff.1 Krw9.out).1; omega
  clear m_0 m_1 m_l c_0 c_1 c_2 c_3 c_4 c_5 c_6 c_7 c_8 c_9 c_l i_0 i_1 i_l r_0 r_1 r_2 r_3 r_l
  have HXo := HX
  have Kmw10 := Lib.hid (hE.blk Kmw9.out id)
  have Kcw10 := Lib.hid (hE.blk Kcw9.out id)
  have Kiw10 := Lib.hid (hE.blk Kiw9.out id)
  have Krw10 := Lib.hid (hE.blk Krw9.out id)
  replace HP := Lib.hid (HP.out.ext hE)
  replace HS := Lib.hid (HS.out.ext hE)
  replace HN7 := Lib.hid (newM_mod HN7.out hE (fun _ _ => id) (fun _ _ => id))
  replace HX := Lib.hid (HX.out.ext hE)
  clear Kmw9
  clear Kcw9
  clear Kiw9
  clear Krw9
  have Ksw10 := Lib.hid hKn
  have hbz : w.heap.size ≤ bs := by have := HXo.out.size; omega
  clear hKn hE hw10 hbs HXo hzz
  have hbs := hbz
  clear hbz
  clear hzn
  have m_0 : w10.cell? ⟨bm, 0, none⟩ = some _ := blk_cell Kmw10.out rfl
  have m_1 : w10.cell? ⟨bm, 1, none⟩ = some _ := blk_cell Kmw10.out rfl
  have m_l : bm < w10.heap.size := (Array.getElem?_eq_some_iff.1 Kmw10.out).1
  have c_0 : w10.cell? ⟨bc, 0, none⟩ = some _ := blk_cell Kcw10.out rfl
  have c_1 : w10.cell? ⟨bc, 1, none⟩ = some _ := blk_cell Kcw10.out rfl
  have c_2 : w10.cell? ⟨bc, 2, none⟩ = some _ := blk_cell Kcw10.out rfl
  have c_3 : w10.cell? ⟨bc, 3, none⟩ = some _ := blk_cell Kcw10.out rfl
  have c_4 : w10.cell? ⟨bc, 4, none⟩ = some _ := blk_cell Kcw10.out rfl
  have c_5 : w10.cell? ⟨bc, 5, none⟩ = some _ := blk_cell Kcw10.out rfl
  have c_6 : w10.cell? ⟨bc, 6, none⟩ = some _ := blk_cell Kcw10.out rfl
  have c_7 : w10.cell? ⟨bc, 7, none⟩ = some _ := blk_cell Kcw10.out rfl
  have c_8 : w10.cell? ⟨bc, 8, none⟩ = some _ := blk_cell Kcw10.out rfl
  have c_9 : w10.cell? ⟨bc, 9, none⟩ = some _ := blk_cell Kcw10.out rfl
  have c_l : bc < w10.heap.size := (Array.getElem?_eq_some_iff.1 Kcw10.out).1
  have i_0 : w10.cell? ⟨bi, 0, none⟩ = some _ := blk_cell Kiw10.out rfl
  have i_1 : w10.cell? ⟨bi, 1, none⟩ = some _ := blk_cell Kiw10.out rfl
  have i_l : bi < w10.heap.size := (Array.getElem?_eq_some_iff.1 Kiw10.out).1
  have r_0 : w10.cell? ⟨br, 0, none⟩ = some _ := blk_cell Krw10.out rfl
  have r_1 : w10.cell? ⟨br, 1, none⟩ = some _ := blk_cell Krw10.out rfl
  have r_2 : w10.cell? ⟨br, 2, none⟩ = some _ := blk_cell Krw10.out rfl
  have r_3 : w10.cell? ⟨br, 3, none⟩ = some _ := blk_cell Krw10.out rfl
  have r_l : br < w10.heap.size := (Array.getElem?_eq_some_iff.1 Krw10.out).1
  have s_0 : w10.cell? ⟨bs, 0, none⟩ = some _ := blk_cell Ksw10.out rfl
  have s_1 : w10.cell? ⟨bs, 1, none⟩ = some _ := blk_cell Ksw10.out rfl
  have s_2 : w10.cell? ⟨bs, 2, none⟩ = some _ := blk_cell Ksw10.out rfl
  have s_3 : w10.cell? ⟨bs, 3, none⟩ = some _ := blk_cell Ksw10.out rfl
  have s_l : bs < w10.heap.size := (Array.getElem?_eq_some_iff.1 Ksw10.out).1
  refine wp_region_held_drew (S := fun W' => Ext w10 W') (by kernel_rfl) (Mod.refl _ w10).drew (fun hS => ?_)
  refine takeH (i := 0) (v := ?_) (some 35) rfl rfl (by kernel_rfl) (by kernel_rfl) (by kernel_rfl) (fun _ _ _ h => h) (Or.inl ⟨by kernel_rfl, ?_⟩) hS ?_
  rotate_left
  · rintro W' hW'
    obtain ⟨hbc, hbf⟩ := bcell hW'
    go_simp
    try with_reducible rfl
  try simp only [pL]
  refine takeH (i := 3) (v := ?_) (some 38) rfl rfl (by kernel_rfl) (by kernel_rfl) (by kernel_rfl) (fun _ _ _ h => h) (Or.inl ⟨by kernel_rfl, ?_⟩) hS ?_
  rotate_left
  · rintro W' hW'
    obtain ⟨hbc, hbf⟩ := bcell hW'
    go_simp
    try with_reducible rfl
  try simp only [pL]
  refine wpAnyH_ready (rs := [1]) (by kernel_rfl) (by simp) ?_
  refine AllReadyH.cons rfl (fun K hK => ?_) AllReadyH.nil
  go_simp
  go_wp2_with fail
  refine (s_check _ _ _ _ _ p l (HN7.out.prs.ext hS) (HN7.out.ses.ext hS)).mono ?_
  rintro e w11 ⟨rfl, hE⟩
  rw [chkM_ok Hp.out]
  have hX := Mod.ext hS hE
  clear hE hS
  go_simp
  refine hK.out _ _ hX (fun hS => ?_)
  clear hK K hX
  refine takeH (i := 2) (v := ?_) (some 37) rfl rfl (by kernel_rfl) (by kernel_rfl) (by kernel_rfl) (fun _ _ _ h => h) (Or.inl ⟨by kernel_rfl, ?_⟩) hS ?_
  rotate_left
  · rintro W' hW'
    obtain ⟨hbc, hbf⟩ := bcell hW'
    go_simp
    try with_reducible rfl
  try simp only [pL]
  refine wpAnyH_ready (rs := [4]) (by kernel_rfl) (by simp) ?_
  refine AllReadyH.cons rfl (fun K hK => ?_) AllReadyH.nil
  go_simp
  go_wp2_with fail
  refine (r_machine _ _ _ _ _ p l (HP.out.ext hS) (HS.out.ext hS)).mono ?_
  rintro e w12 ⟨rfl, hE⟩
  rw [Hp.out]
  have hX := Mod.ext hS hE
  clear hE hS
  go_simp
  refine hK.out _ _ hX (fun hS => ?_)
  clear hK K hX
  refine takeH (i := 5) (v := ?_) (some 40) rfl rfl (by kernel_rfl) (by kernel_rfl) (by kernel_rfl) (fun _ _ _ h => h) (Or.inl ⟨by kernel_rfl, ?_⟩) hS ?_
  rotate_left
  · rintro W' hW'
    obtain ⟨hbc, hbf⟩ := bcell hW'
    go_simp
    try with_reducible rfl
  try simp only [pL]
  refine takeH (i := 6) (v := ?_) (some 41) rfl rfl (by kernel_rfl) (by kernel_rfl) (by kernel_rfl) (fun _ _ _ h => h) (Or.inl ⟨by kernel_rfl, ?_⟩) hS ?_
  rotate_left
  · rintro W' hW'
    obtain ⟨hbc, hbf⟩ := bcell hW'
    go_simp
    try with_reducible rfl
  try simp only [pL]
  refine takeH (i := 7) (v := ?_) (some 42) rfl rfl (by kernel_rfl) (by kernel_rfl) (by kernel_rfl) (fun _ _ _ h => h) (Or.inl ⟨by kernel_rfl, ?_⟩) hS ?_
  rotate_left
  · rintro W' hW'
    obtain ⟨hbc, hbf⟩ := bcell hW'
    go_simp
    try with_reducible rfl
  try simp only [pL]
  refine takeH (i := 9) (v := ?_) (some 44) rfl rfl (by kernel_rfl) (by kernel_rfl) (by kernel_rfl) (fun _ _ _ h => h) (Or.inl ⟨by kernel_rfl, ?_⟩) hS ?_
  rotate_left
  · rintro W' hW'
    obtain ⟨hbc, hbf⟩ := bcell hW'
    go_simp
    try with_reducible rfl
  try simp only [pL]
  refine wpAnyH_ready (rs := [8]) (by kernel_rfl) (by simp) ?_
  refine AllReadyH.cons rfl (fun K hK => ?_) AllReadyH.nil
  go_simp
  go_wp2_with fail
  refine (s_right c _).mono ?_
  rintro e w13 ⟨rfl, hE⟩
  have hX := Mod.ext hS hE
  clear hE hS
  go_simp
  refine hK.out _ _ hX (fun hS => ?_)
  clear hK K hX
  refine wpAnyH_ready (rs := [10]) (by kernel_rfl) (by simp) ?_
  refine AllReadyH.cons rfl (fun K hK => ?_) AllReadyH.nil
  go_simp
  go_wp2_with fail
  refine (r_call c _).mono ?_
  rintro e w14 ⟨rfl, hE⟩
  have hX := Mod.ext hS hE
  clear hE hS
  go_simp
  refine hK.out _ _ hX (fun hS => ?_)
  clear hK K hX
  refine takeH (i := 11) (v := ?_) (some 46) rfl rfl (by kernel_rfl) (by kernel_rfl) (by kernel_rfl) (fun _ _ _ h => h) (Or.inl ⟨by kernel_rfl, ?_⟩) hS ?_
  rotate_left
  · rintro W' hW'
    obtain ⟨hbc, hbf⟩ := bcell hW'
    go_simp
    try with_reducible rfl
  try simp only [pL]
  refine takeH (i := 12) (v := ?_) (some 47) rfl rfl (by kernel_rfl) (by kernel_rfl) (by kernel_rfl) (fun _ _ _ h => h) (Or.inl ⟨by kernel_rfl, ?_⟩) hS ?_
  rotate_left
  · rintro W' hW'
    obtain ⟨hbc, hbf⟩ := bcell hW'
    go_simp
    try with_reducible rfl
  try simp only [pL]
  refine takeH (i := 13) (v := ?_) (some 48) rfl rfl (by kernel_rfl) (by kernel_rfl) (by kernel_rfl) (fun _ _ _ h => h) (Or.inl ⟨by kernel_rfl, ?_⟩) hS ?_
  rotate_left
  · rintro W' hW'
    obtain ⟨hbc, hbf⟩ := bcell hW'
    go_simp
    try with_reducible rfl
  try simp only [pL]
  refine takeH (i := 14) (v := ?_) (some 49) rfl rfl (by kernel_rfl) (by kernel_rfl) (by kernel_rfl) (fun _ _ _ h => h) (Or.inl ⟨by kernel_rfl, ?_⟩) hS ?_
  rotate_left
  · rintro W' hW'
    obtain ⟨hbc, hbf⟩ := bcell hW'
    go_simp
    try with_reducible rfl
  try simp only [pL]
  refine takeH (i := 15) (v := ?_) (some 50) rfl rfl (by kernel_rfl) (by kernel_rfl) (by kernel_rfl) (fun _ _ _ h => h) (Or.inl ⟨by kernel_rfl, ?_⟩) hS ?_
  rotate_left
  · rintro W' hW'
    obtain ⟨hbc, hbf⟩ := bcell hW'
    go_simp
    try with_reducible rfl
  try simp only [pL]
  refine takeH (i := 16) (v := ?_) (some 51) rfl rfl (by kernel_rfl) (by kernel_rfl) (by kernel_rfl) (fun _ _ _ h => h) (Or.inl ⟨by kernel_rfl, ?_⟩) hS ?_
  rotate_left
  · rintro W' hW'
    obtain ⟨hbc, hbf⟩ := bcell hW'
    go_simp
    try with_reducible rfl
  try simp only [pL]
  refine takeH (i := 17) (v := ?_) (some 52) rfl rfl (by kernel_rfl) (by kernel_rfl) (by kernel_rfl) (fun _ _ _ h => h) (Or.inl ⟨by kernel_rfl, ?_⟩) hS ?_
  rotate_left
  · rintro W' hW'
    obtain ⟨hbc, hbf⟩ := bcell hW'
    go_simp
    try with_reducible rfl
  try simp only [pL]
  refine takeH (i := 18) (v := ?_) (some 53) rfl rfl (by kernel_rfl) (by kernel_rfl) (by kernel_rfl) (fun _ _ _ h => h) (Or.inl ⟨by kernel_rfl, ?_⟩) hS ?_
  rotate_left
  · rintro W' hW'
    obtain ⟨hbc, hbf⟩ := bcell hW'
    go_simp
    try with_reducible rfl
  try simp only [pL]
  refine takeH (i := 19) (v := ?_) (some 54) rfl rfl (by kernel_rfl) (by kernel_rfl) (by kernel_rfl) (fun _ _ _ h => h) (Or.inl ⟨by kernel_rfl, ?_⟩) hS ?_
  rotate_left
  · rintro W' hW'
    obtain ⟨hbc, hbf⟩ := bcell hW'
    go_simp
    try with_reducible rfl
  try simp only [pL]
  refine takeH (i := 20) (v := ?_) (some 55) rfl rfl (by kernel_rfl) (by kernel_rfl) (by kernel_rfl) (fun _ _ _ h => h) (Or.inl ⟨by kernel_rfl, ?_⟩) hS ?_
  rotate_left
  · rintro W' hW'
    obtain ⟨hbc, hbf⟩ := bcell hW'
    go_simp
    try with_reducible rfl
  try simp only [pL]
  refine wpAnyH_ready (rs := [21]) (by kernel_rfl) (by simp) ?_
  refine AllReadyH.cons rfl (fun K hK => ?_) AllReadyH.nil
  go_simp
  go_wp2_with fail
  refine (k_reply r r _).mono ?_
  rintro e w15 ⟨rfl, hE⟩
  rw [eqReply_refl]
  have hX := Mod.ext hS hE
  clear hE hS
  go_simp
  refine hK.out _ _ hX (fun hS => ?_)
  clear hK K hX
  refine takeH (i := 22) (v := ?_) (some 57) rfl rfl (by kernel_rfl) (by kernel_rfl) (by kernel_rfl) (fun _ _ _ h => h) (Or.inl ⟨by kernel_rfl, ?_⟩) hS ?_
  rotate_left
  · rintro W' hW'
    obtain ⟨hbc, hbf⟩ := bcell hW'
    go_simp
    try with_reducible rfl
  try simp only [pL]
  refine takeH (i := 23) (v := ?_) (some 58) rfl rfl (by kernel_rfl) (by kernel_rfl) (by kernel_rfl) (fun _ _ _ h => h) (Or.inl ⟨by kernel_rfl, ?_⟩) hS ?_
  rotate_left
  · rintro W' hW'
    obtain ⟨hbc, hbf⟩ := bcell hW'
    go_simp
    try with_reducible rfl
  try simp only [pL]
  refine wpAnyH_done (by kernel_rfl) ?_ _
  have hE := hS
  clear hS
  clear m_0 m_1 m_l c_0 c_1 c_2 c_3 c_4 c_5 c_6 c_7 c_8 c_9 c_l i_0 i_1 i_l r_0 r_1 r_2 r_3 r_l s_0 s_1 s_2 s_3 s_l
  have Kmw15 := Lib.hid (hE.blk Kmw10.out id)
  have Kcw15 := Lib.hid (hE.blk Kcw10.out id)
  have Kiw15 := Lib.hid (hE.blk Kiw10.out id)
  have Krw15 := Lib.hid (hE.blk Krw10.out id)
  have Ksw15 := Lib.hid (hE.blk Ksw10.out id)
  replace HP := Lib.hid (HP.out.ext hE)
  replace HS := Lib.hid (HS.out.ext hE)
  replace HN7 := Lib.hid (newM_mod HN7.out hE (fun _ _ => id) (fun _ _ => id))
  replace HX := Lib.hid (HX.out.ext hE)
  clear Kmw10
  clear Kcw10
  clear Kiw10
  clear Krw10
  clear Ksw10
  clear hE
  have m_0 : w15.cell? ⟨bm, 0, none⟩ = some _ := blk_cell Kmw15.out rfl
  have m_1 : w15.cell? ⟨bm, 1, none⟩ = some _ := blk_cell Kmw15.out rfl
  have m_l : bm < w15.heap.size := (Array.getElem?_eq_some_iff.1 Kmw15.out).1
  have c_0 : w15.cell? ⟨bc, 0, none⟩ = some _ := blk_cell Kcw15.out rfl
  have c_1 : w15.cell? ⟨bc, 1, none⟩ = some _ := blk_cell Kcw15.out rfl
  have c_2 : w15.cell? ⟨bc, 2, none⟩ = some _ := blk_cell Kcw15.out rfl
  have c_3 : w15.cell? ⟨bc, 3, none⟩ = some _ := blk_cell Kcw15.out rfl
  have c_4 : w15.cell? ⟨bc, 4, none⟩ = some _ := blk_cell Kcw15.out rfl
  have c_5 : w15.cell? ⟨bc, 5, none⟩ = some _ := blk_cell Kcw15.out rfl
  have c_6 : w15.cell? ⟨bc, 6, none⟩ = some _ := blk_cell Kcw15.out rfl
  have c_7 : w15.cell? ⟨bc, 7, none⟩ = some _ := blk_cell Kcw15.out rfl
  have c_8 : w15.cell? ⟨bc, 8, none⟩ = some _ := blk_cell Kcw15.out rfl
  have c_9 : w15.cell? ⟨bc, 9, none⟩ = some _ := blk_cell Kcw15.out rfl
  have c_l : bc < w15.heap.size := (Array.getElem?_eq_some_iff.1 Kcw15.out).1
  have i_0 : w15.cell? ⟨bi, 0, none⟩ = some _ := blk_cell Kiw15.out rfl
  have i_1 : w15.cell? ⟨bi, 1, none⟩ = some _ := blk_cell Kiw15.out rfl
  have i_l : bi < w15.heap.size := (Array.getElem?_eq_some_iff.1 Kiw15.out).1
  have r_0 : w15.cell? ⟨br, 0, none⟩ = some _ := blk_cell Krw15.out rfl
  have r_1 : w15.cell? ⟨br, 1, none⟩ = some _ := blk_cell Krw15.out rfl
  have r_2 : w15.cell? ⟨br, 2, none⟩ = some _ := blk_cell Krw15.out rfl
  have r_3 : w15.cell? ⟨br, 3, none⟩ = some _ := blk_cell Krw15.out rfl
  have r_l : br < w15.heap.size := (Array.getElem?_eq_some_iff.1 Krw15.out).1
  have s_0 : w15.cell? ⟨bs, 0, none⟩ = some _ := blk_cell Ksw15.out rfl
  have s_1 : w15.cell? ⟨bs, 1, none⟩ = some _ := blk_cell Ksw15.out rfl
  have s_2 : w15.cell? ⟨bs, 2, none⟩ = some _ := blk_cell Ksw15.out rfl
  have s_3 : w15.cell? ⟨bs, 3, none⟩ = some _ := blk_cell Ksw15.out rfl
  have s_l : bs < w15.heap.size := (Array.getElem?_eq_some_iff.1 Ksw15.out).1
  go_wp2_with fail
  have hso := HX.out.size
  have hlo := HN7.out.1.1.lt
  have hlo2 := HN7.out.2.1.1.lt
  rcases hq : onceP ⟨p, l⟩ c with ⟨M, q⟩
  refine (s_do_at w15 _ _ _ _ ⟨p, l⟩ c (HN7.out.prs) (HN7.out.ses) (hlen) hc.2.2.2.2.2 hq).mono ?_
  rintro e w16 ⟨p1, v1, rfl, hN, hE⟩
  clear m_0 m_1 m_l c_0 c_1 c_2 c_3 c_4 c_5 c_6 c_7 c_8 c_9 c_l i_0 i_1 i_l r_0 r_1 r_2 r_3 r_l s_0 s_1 s_2 s_3 s_l
  have Kmw16 := Lib.hid (hE.blk Kmw15.out id)
  have Kcw16 := Lib.hid (hE.blk Kcw15.out id)
  have Kiw16 := Lib.hid (hE.blk Kiw15.out id)
  have Krw16 := Lib.hid (hE.blk Krw15.out id)
  have Ksw16 := Lib.hid (hE.blk Ksw15.out id)
  replace HP := Lib.hid (HP.out.ext hE)
  replace HS := Lib.hid (HS.out.ext hE)
  replace HN7 := Lib.hid (newM_mod HN7.out hE (fun _ _ => id) (fun _ _ => id))
  replace HX := Lib.hid (HX.out.ext hE)
  clear Kmw15
  clear Kcw15
  clear Kiw15
  clear Krw15
  clear Ksw15
  obtain ⟨A1, c1, rfl⟩ := own_form hN.1.1
  obtain ⟨B1, d1, rfl⟩ := own_form hN.2.1.1
  have Hfar : Hid (∀ g, ((Value.slice A1 M.pairs.length c1).ownBlock = some g ∨ (Value.slice B1 M.sess.length d1).ownBlock = some g) → (∀ h, ((Value.slice A7 p.length c7).ownBlock = some h ∨ (Value.slice B7 l.length d7).ownBlock = some h) → h < g) ∧ w.heap.size ≤ g) := Lib.hid (fun g hg => by
    have h1 : w15.heap.size ≤ g := by
      rcases hg with e | e
      · exact hN.1.2.2 g e
      · exact hN.2.1.2.2 g e
    refine ⟨fun h hh => ?_, by omega⟩
    rcases hh with e | e
    · have := (hlo h e).2; omega
    · have := (hlo2 h e).2; omega)
  clear hlo hlo2
  have HN1 := Lib.hid (newM_up hN hso)
  clear hN hso
  have HEq := Lib.hid hq
  clear hq
  clear hE
  have m_0 : w16.cell? ⟨bm, 0, none⟩ = some _ := blk_cell Kmw16.out rfl
  have m_1 : w16.cell? ⟨bm, 1, none⟩ = some _ := blk_cell Kmw16.out rfl
  have m_l : bm < w16.heap.size := (Array.getElem?_eq_some_iff.1 Kmw16.out).1
  have c_0 : w16.cell? ⟨bc, 0, none⟩ = some _ := blk_cell Kcw16.out rfl
  have c_1 : w16.cell? ⟨bc, 1, none⟩ = some _ := blk_cell Kcw16.out rfl
  have c_2 : w16.cell? ⟨bc, 2, none⟩ = some _ := blk_cell Kcw16.out rfl
  have c_3 : w16.cell? ⟨bc, 3, none⟩ = some _ := blk_cell Kcw16.out rfl
  have c_4 : w16.cell? ⟨bc, 4, none⟩ = some _ := blk_cell Kcw16.out rfl
  have c_5 : w16.cell? ⟨bc, 5, none⟩ = some _ := blk_cell Kcw16.out rfl
  have c_6 : w16.cell? ⟨bc, 6, none⟩ = some _ := blk_cell Kcw16.out rfl
  have c_7 : w16.cell? ⟨bc, 7, none⟩ = some _ := blk_cell Kcw16.out rfl
  have c_8 : w16.cell? ⟨bc, 8, none⟩ = some _ := blk_cell Kcw16.out rfl
  have c_9 : w16.cell? ⟨bc, 9, none⟩ = some _ := blk_cell Kcw16.out rfl
  have c_l : bc < w16.heap.size := (Array.getElem?_eq_some_iff.1 Kcw16.out).1
  have i_0 : w16.cell? ⟨bi, 0, none⟩ = some _ := blk_cell Kiw16.out rfl
  have i_1 : w16.cell? ⟨bi, 1, none⟩ = some _ := blk_cell Kiw16.out rfl
  have i_l : bi < w16.heap.size := (Array.getElem?_eq_some_iff.1 Kiw16.out).1
  have r_0 : w16.cell? ⟨br, 0, none⟩ = some _ := blk_cell Krw16.out rfl
  have r_1 : w16.cell? ⟨br, 1, none⟩ = some _ := blk_cell Krw16.out rfl
  have r_2 : w16.cell? ⟨br, 2, none⟩ = some _ := blk_cell Krw16.out rfl
  have r_3 : w16.cell? ⟨br, 3, none⟩ = some _ := blk_cell Krw16.out rfl
  have r_l : br < w16.heap.size := (Array.getElem?_eq_some_iff.1 Krw16.out).1
  have s_0 : w16.cell? ⟨bs, 0, none⟩ = some _ := blk_cell Ksw16.out rfl
  have s_1 : w16.cell? ⟨bs, 1, none⟩ = some _ := blk_cell Ksw16.out rfl
  have s_2 : w16.cell? ⟨bs, 2, none⟩ = some _ := blk_cell Ksw16.out rfl
  have s_3 : w16.cell? ⟨bs, 3, none⟩ = some _ := blk_cell Ksw16.out rfl
  have s_l : bs < w16.heap.size := (Array.getElem?_eq_some_iff.1 Ksw16.out).1
  have fz0 := blk_free 0 Krw16.out
  have fz1 := blk_free 1 Krw16.out
  have fz2 := blk_free 2 Krw16.out
  have fz3 := blk_free 3 Krw16.out
  go_wp2_with fail
  clear m_0 m_1 m_l c_0 c_1 c_2 c_3 c_4 c_5 c_6 c_7 c_8 c_9 c_l i_0 i_1 i_l r_0 r_1 r_2 r_3 r_l s_0 s_1 s_2 s_3 s_l
  clear fz0 fz1 fz2 fz3
  obtain ⟨w17, hw17⟩ : ∃ w17, ((((w16.setCell ⟨br, 0, none⟩ (.int .i64 q.code)).setCell ⟨br, 1, none⟩ (.int .i64 q.val.kind)).setCell ⟨br, 2, none⟩ (.float .f64 q.val.num)).setCell ⟨br, 3, none⟩ (.string q.val.text)) = w17 := ⟨_, rfl⟩
  have hKn : w17.heap[br]? = some (.cells #[.int .i64 q.code, .int .i64 q.val.kind, .float .f64 q.val.num, .string q.val.text] 38 (0, 0)) := by
    rw [← hw17]
    have := Krw16.out
    simp [World.setCell, Array.getElem?_modify, this]
  have hM : Mod (fun k => k = br) w16 w17 := by rw [← hw17]; exact mod_same (mod_same (mod_same (mod_same (Mod.refl _ _) _ _) _ _) _ _) _ _
  rw [hw17]
  have hsz : w16.heap.size = w17.heap.size := by rw [← hw17]; simp [World.setCell]
  rw [hsz]
  clear hsz
  have Kmw17 := Lib.hid (hM.blk Kmw16.out (by omega))
  have Kcw17 := Lib.hid (hM.blk Kcw16.out (by omega))
  have Kiw17 := Lib.hid (hM.blk Kiw16.out (by omega))
  have Krw17 := Lib.hid hKn
  have Ksw17 := Lib.hid (hM.blk Ksw16.out (by omega))
  replace HP := Lib.hid (HP.out.mod hM (fun g hg e => by have := HU.out g hg; have := hbr; omega))
  replace HS := Lib.hid (HS.out.mod hM (fun g hg e => by have := HT.out g hg; have := hbr; omega))
  replace HN7 := Lib.hid (newM_box HN7.out Krw16.out hM (by decide) (by decide))
  replace HN1 := Lib.hid (newM_box HN1.out Krw16.out hM (by decide) (by decide))
  replace HX : Hid (Ext w w17) := Lib.hid (Mod.toExt ((Ext.mod HX.out (Since w.heap.size)).trans hM (fun k _ e => by rw [e]; exact hbr)))
  clear hKn hM hw17
  clear Kmw16
  clear Kcw16
  clear Kiw16
  clear Krw16
  clear Ksw16
  obtain ⟨w18, hw18⟩ : ∃ w18, w18 = w17.alloc (.cells #[.slice A1 M.pairs.length c1, .slice B1 M.sess.length d1] 25) := ⟨_, rfl⟩
  obtain ⟨bx, hbx⟩ : ∃ bx, bx = w17.heap.size := ⟨_, rfl⟩
  have hzz : w17.heap.size = bx := hbx.symm
  have hE : Ext w17 w18 := by rw [hw18]; exact (Mod.refl _ w17).alloc _
  have hKn : w18.heap[bx]? = some (.cells #[.slice A1 M.pairs.length c1, .slice B1 M.sess.length d1] 25 (0, 0)) := by rw [hw18, ← hzz]; exact heap_alloc_new w17 _
  have hzn : w18.heap.size = bx + 1 := by rw [hw18, ← hzz]; simp
  rw [← hw18, ← hbx]
  have hltmx : bm < bx := by have := (Array.getElem?_eq_some_iff.1 Kmw17.out).1; omega
  have hltcx : bc < bx := by have := (Array.getElem?_eq_some_iff.1 Kcw17.out).1; omega
  have hltix : bi < bx := by have := (Array.getElem?_eq_some_iff.1 Kiw17.out).1; omega
  have hltrx : br < bx := by have := (Array.getElem?_eq_some_iff.1 Krw17.out).1; omega
  have hltsx : bs < bx := by have := (Array.getElem?_eq_some_iff.1 Ksw17.out).1; omega
  have HXo := HX
  have Kmw18 := Lib.hid (hE.blk Kmw17.out id)
  have Kcw18 := Lib.hid (hE.blk Kcw17.out id)
  have Kiw18 := Lib.hid (hE.blk Kiw17.out id)
  have Krw18 := Lib.hid (hE.blk Krw17.out id)
  have Ksw18 := Lib.hid (hE.blk Ksw17.out id)
  replace HP := Lib.hid (HP.out.ext hE)
  replace HS := Lib.hid (HS.out.ext hE)
  replace HN7 := Lib.hid (newM_mod HN7.out hE (fun _ _ => id) (fun _ _ => id))
  replace HN1 := Lib.hid (newM_mod HN1.out hE (fun _ _ => id) (fun _ _ => id))
  replace HX := Lib.hid (HX.out.ext hE)
  clear Kmw17
  clear Kcw17
  clear Kiw17
  clear Krw17
  clear Ksw17
  have Kxw18 := Lib.hid hKn
  have hbz : w.heap.size ≤ bx := by have := HXo.out.size; omega
  clear hKn hE hw18 hbx HXo hzz
  have hbx := hbz
  clear hbz
  clear hzn
  have m_0 : w18.cell? ⟨bm, 0, none⟩ = some _ := blk_cell Kmw18.out rfl
  have m_1 : w18.cell? ⟨bm, 1, none⟩ = some _ := blk_cell Kmw18.out rfl
  have m_l : bm < w18.heap.size := (Array.getElem?_eq_some_iff.1 Kmw18.out).1
  have c_0 : w18.cell? ⟨bc, 0, none⟩ = some _ := blk_cell Kcw18.out rfl
  have c_1 : w18.cell? ⟨bc, 1, none⟩ = some _ := blk_cell Kcw18.out rfl
  have c_2 : w18.cell? ⟨bc, 2, none⟩ = some _ := blk_cell Kcw18.out rfl
  have c_3 : w18.cell? ⟨bc, 3, none⟩ = some _ := blk_cell Kcw18.out rfl
  have c_4 : w18.cell? ⟨bc, 4, none⟩ = some _ := blk_cell Kcw18.out rfl
  have c_5 : w18.cell? ⟨bc, 5, none⟩ = some _ := blk_cell Kcw18.out rfl
  have c_6 : w18.cell? ⟨bc, 6, none⟩ = some _ := blk_cell Kcw18.out rfl
  have c_7 : w18.cell? ⟨bc, 7, none⟩ = some _ := blk_cell Kcw18.out rfl
  have c_8 : w18.cell? ⟨bc, 8, none⟩ = some _ := blk_cell Kcw18.out rfl
  have c_9 : w18.cell? ⟨bc, 9, none⟩ = some _ := blk_cell Kcw18.out rfl
  have c_l : bc < w18.heap.size := (Array.getElem?_eq_some_iff.1 Kcw18.out).1
  have i_0 : w18.cell? ⟨bi, 0, none⟩ = some _ := blk_cell Kiw18.out rfl
  have i_1 : w18.cell? ⟨bi, 1, none⟩ = some _ := blk_cell Kiw18.out rfl
  have i_l : bi < w18.heap.size := (Array.getElem?_eq_some_iff.1 Kiw18.out).1
  have r_0 : w18.cell? ⟨br, 0, none⟩ = some _ := blk_cell Krw18.out rfl
  have r_1 : w18.cell? ⟨br, 1, none⟩ = some _ := blk_cell Krw18.out rfl
  have r_2 : w18.cell? ⟨br, 2, none⟩ = some _ := blk_cell Krw18.out rfl
  have r_3 : w18.cell? ⟨br, 3, none⟩ = some _ := blk_cell Krw18.out rfl
  have r_l : br < w18.heap.size := (Array.getElem?_eq_some_iff.1 Krw18.out).1
  have s_0 : w18.cell? ⟨bs, 0, none⟩ = some _ := blk_cell Ksw18.out rfl
  have s_1 : w18.cell? ⟨bs, 1, none⟩ = some _ := blk_cell Ksw18.out rfl
  have s_2 : w18.cell? ⟨bs, 2, none⟩ = some _ := blk_cell Ksw18.out rfl
  have s_3 : w18.cell? ⟨bs, 3, none⟩ = some _ := blk_cell Ksw18.out rfl
  have s_l : bs < w18.heap.size := (Array.getElem?_eq_some_iff.1 Ksw18.out).1
  have x_0 : w18.cell? ⟨bx, 0, none⟩ = some _ := blk_cell Kxw18.out rfl
  have x_1 : w18.cell? ⟨bx, 1, none⟩ = some _ := blk_cell Kxw18.out rfl
  have x_l : bx < w18.heap.size := (Array.getElem?_eq_some_iff.1 Kxw18.out).1
  go_wp2_with fail
  have hso := HX.out.size
  refine (r_once_at w18 _ _ _ _ ⟨p, l⟩ c (HP.out) (HS.out) (hlen) hc.2.2.2.2.2 HEq.out).mono ?_
  rintro e w19 ⟨p2, v2, rfl, hN, hE⟩
  clear m_0 m_1 m_l c_0 c_1 c_2 c_3 c_4 c_5 c_6 c_7 c_8 c_9 c_l i_0 i_1 i_l r_0 r_1 r_2 r_3 r_l s_0 s_1 s_2 s_3 s_l x_0 x_1 x_l
  have Kmw19 := Lib.hid (hE.blk Kmw18.out id)
  have Kcw19 := Lib.hid (hE.blk Kcw18.out id)
  have Kiw19 := Lib.hid (hE.blk Kiw18.out id)
  have Krw19 := Lib.hid (hE.blk Krw18.out id)
  have Ksw19 := Lib.hid (hE.blk Ksw18.out id)
  have Kxw19 := Lib.hid (hE.blk Kxw18.out id)
  replace HP := Lib.hid (HP.out.ext hE)
  replace HS := Lib.hid (HS.out.ext hE)
  replace HN7 := Lib.hid (newM_mod HN7.out hE (fun _ _ => id) (fun _ _ => id))
  replace HN1 := Lib.hid (newM_mod HN1.out hE (fun _ _ => id) (fun _ _ => id))
  replace HX := Lib.hid (HX.out.ext hE)
  clear Kmw18
  clear Kcw18
  clear Kiw18
  clear Krw18
  clear Ksw18
  clear Kxw18
  obtain ⟨A2, c2, rfl⟩ := own_form hN.1.1
  obtain ⟨B2, d2, rfl⟩ := own_form hN.2.1.1
  have HN2 := Lib.hid (newM_up hN hso)
  clear hN hso
  clear hE
  have m_0 : w19.cell? ⟨bm, 0, none⟩ = some _ := blk_cell Kmw19.out rfl
  have m_1 : w19.cell? ⟨bm, 1, none⟩ = some _ := blk_cell Kmw19.out rfl
  have m_l : bm < w19.heap.size := (Array.getElem?_eq_some_iff.1 Kmw19.out).1
  have c_0 : w19.cell? ⟨bc, 0, none⟩ = some _ := blk_cell Kcw19.out rfl
  have c_1 : w19.cell? ⟨bc, 1, none⟩ = some _ := blk_cell Kcw19.out rfl
  have c_2 : w19.cell? ⟨bc, 2, none⟩ = some _ := blk_cell Kcw19.out rfl
  have c_3 : w19.cell? ⟨bc, 3, none⟩ = some _ := blk_cell Kcw19.out rfl
  have c_4 : w19.cell? ⟨bc, 4, none⟩ = some _ := blk_cell Kcw19.out rfl
  have c_5 : w19.cell? ⟨bc, 5, none⟩ = some _ := blk_cell Kcw19.out rfl
  have c_6 : w19.cell? ⟨bc, 6, none⟩ = some _ := blk_cell Kcw19.out rfl
  have c_7 : w19.cell? ⟨bc, 7, none⟩ = some _ := blk_cell Kcw19.out rfl
  have c_8 : w19.cell? ⟨bc, 8, none⟩ = some _ := blk_cell Kcw19.out rfl
  have c_9 : w19.cell? ⟨bc, 9, none⟩ = some _ := blk_cell Kcw19.out rfl
  have c_l : bc < w19.heap.size := (Array.getElem?_eq_some_iff.1 Kcw19.out).1
  have i_0 : w19.cell? ⟨bi, 0, none⟩ = some _ := blk_cell Kiw19.out rfl
  have i_1 : w19.cell? ⟨bi, 1, none⟩ = some _ := blk_cell Kiw19.out rfl
  have i_l : bi < w19.heap.size := (Array.getElem?_eq_some_iff.1 Kiw19.out).1
  have r_0 : w19.cell? ⟨br, 0, none⟩ = some _ := blk_cell Krw19.out rfl
  have r_1 : w19.cell? ⟨br, 1, none⟩ = some _ := blk_cell Krw19.out rfl
  have r_2 : w19.cell? ⟨br, 2, none⟩ = some _ := blk_cell Krw19.out rfl
  have r_3 : w19.cell? ⟨br, 3, none⟩ = some _ := blk_cell Krw19.out rfl
  have r_l : br < w19.heap.size := (Array.getElem?_eq_some_iff.1 Krw19.out).1
  have s_0 : w19.cell? ⟨bs, 0, none⟩ = some _ := blk_cell Ksw19.out rfl
  have s_1 : w19.cell? ⟨bs, 1, none⟩ = some _ := blk_cell Ksw19.out rfl
  have s_2 : w19.cell? ⟨bs, 2, none⟩ = some _ := blk_cell Ksw19.out rfl
  have s_3 : w19.cell? ⟨bs, 3, none⟩ = some _ := blk_cell Ksw19.out rfl
  have s_l : bs < w19.heap.size := (Array.getElem?_eq_some_iff.1 Ksw19.out).1
  have x_0 : w19.cell? ⟨bx, 0, none⟩ = some _ := blk_cell Kxw19.out rfl
  have x_1 : w19.cell? ⟨bx, 1, none⟩ = some _ := blk_cell Kxw19.out rfl
  have x_l : bx < w19.heap.size := (Array.getElem?_eq_some_iff.1 Kxw19.out).1
  have fz0 := blk_free 0 Ksw19.out
  have fz1 := blk_free 1 Ksw19.out
  have fz2 := blk_free 2 Ksw19.out
  have fz3 := blk_free 3 Ksw19.out
  go_wp2_with fail
  clear m_0 m_1 m_l c_0 c_1 c_2 c_3 c_4 c_5 c_6 c_7 c_8 c_9 c_l i_0 i_1 i_l r_0 r_1 r_2 r_3 r_l s_0 s_1 s_2 s_3 s_l x_0 x_1 x_l
  clear fz0 fz1 fz2 fz3
  obtain ⟨w20, hw20⟩ : ∃ w20, ((((w19.setCell ⟨bs, 0, none⟩ (.int .i64 q.code)).setCell ⟨bs, 1, none⟩ (.int .i64 q.val.kind)).setCell ⟨bs, 2, none⟩ (.float .f64 q.val.num)).setCell ⟨bs, 3, none⟩ (.string q.val.text)) = w20 := ⟨_, rfl⟩
  have hKn : w20.heap[bs]? = some (.cells #[.int .i64 q.code, .int .i64 q.val.kind, .float .f64 q.val.num, .string q.val.text] 38 (0, 0)) := by
    rw [← hw20]
    have := Ksw19.out
    simp [World.setCell, Array.getElem?_modify, this]
  have hM : Mod (fun k => k = bs) w19 w20 := by rw [← hw20]; exact mod_same (mod_same (mod_same (mod_same (Mod.refl _ _) _ _) _ _) _ _) _ _
  rw [hw20]
  have hsz : w19.heap.size = w20.heap.size := by rw [← hw20]; simp [World.setCell]
  rw [hsz]
  clear hsz
  have Kmw20 := Lib.hid (hM.blk Kmw19.out (by omega))
  have Kcw20 := Lib.hid (hM.blk Kcw19.out (by omega))
  have Kiw20 := Lib.hid (hM.blk Kiw19.out (by omega))
  have Krw20 := Lib.hid (hM.blk Krw19.out (by omega))
  have Ksw20 := Lib.hid hKn
  have Kxw20 := Lib.hid (hM.blk Kxw19.out (by omega))
  replace HP := Lib.hid (HP.out.mod hM (fun g hg e => by have := HU.out g hg; have := hbs; omega))
  replace HS := Lib.hid (HS.out.mod hM (fun g hg e => by have := HT.out g hg; have := hbs; omega))
  replace HN7 := Lib.hid (newM_box HN7.out Ksw19.out hM (by decide) (by decide))
  replace HN1 := Lib.hid (newM_box HN1.out Ksw19.out hM (by decide) (by decide))
  replace HN2 := Lib.hid (newM_box HN2.out Ksw19.out hM (by decide) (by decide))
  replace HX : Hid (Ext w w20) := Lib.hid (Mod.toExt ((Ext.mod HX.out (Since w.heap.size)).trans hM (fun k _ e => by rw [e]; exact hbs)))
  clear hKn hM hw20
  clear Kmw19
  clear Kcw19
  clear Kiw19
  clear Krw19
  clear Ksw19
  clear Kxw19
  obtain ⟨w21, hw21⟩ : ∃ w21, w21 = w20.alloc (.cells #[.slice A2 M.pairs.length c2, .slice B2 M.sess.length d2] 25) := ⟨_, rfl⟩
  obtain ⟨byy, hbyy⟩ : ∃ byy, byy = w20.heap.size := ⟨_, rfl⟩
  have hzz : w20.heap.size = byy := hbyy.symm
  have hE : Ext w20 w21 := by rw [hw21]; exact (Mod.refl _ w20).alloc _
  have hKn : w21.heap[byy]? = some (.cells #[.slice A2 M.pairs.length c2, .slice B2 M.sess.length d2] 25 (0, 0)) := by rw [hw21, ← hzz]; exact heap_alloc_new w20 _
  have hzn : w21.heap.size = byy + 1 := by rw [hw21, ← hzz]; simp
  rw [← hw21, ← hbyy]
  have hltmyy : bm < byy := by have := (Array.getElem?_eq_some_iff.1 Kmw20.out).1; omega
  have hltcyy : bc < byy := by have := (Array.getElem?_eq_some_iff.1 Kcw20.out).1; omega
  have hltiyy : bi < byy := by have := (Array.getElem?_eq_some_iff.1 Kiw20.out).1; omega
  have hltryy : br < byy := by have := (Array.getElem?_eq_some_iff.1 Krw20.out).1; omega
  have hltsyy : bs < byy := by have := (Array.getElem?_eq_some_iff.1 Ksw20.out).1; omega
  have hltxyy : bx < byy := by have := (Array.getElem?_eq_some_iff.1 Kxw20.out).1; omega
  have HXo := HX
  have Kmw21 := Lib.hid (hE.blk Kmw20.out id)
  have Kcw21 := Lib.hid (hE.blk Kcw20.out id)
  have Kiw21 := Lib.hid (hE.blk Kiw20.out id)
  have Krw21 := Lib.hid (hE.blk Krw20.out id)
  have Ksw21 := Lib.hid (hE.blk Ksw20.out id)
  have Kxw21 := Lib.hid (hE.blk Kxw20.out id)
  replace HP := Lib.hid (HP.out.ext hE)
  replace HS := Lib.hid (HS.out.ext hE)
  replace HN7 := Lib.hid (newM_mod HN7.out hE (fun _ _ => id) (fun _ _ => id))
  replace HN1 := Lib.hid (newM_mod HN1.out hE (fun _ _ => id) (fun _ _ => id))
  replace HN2 := Lib.hid (newM_mod HN2.out hE (fun _ _ => id) (fun _ _ => id))
  replace HX := Lib.hid (HX.out.ext hE)
  clear Kmw20
  clear Kcw20
  clear Kiw20
  clear Krw20
  clear Ksw20
  clear Kxw20
  have Kyyw21 := Lib.hid hKn
  have hbz : w.heap.size ≤ byy := by have := HXo.out.size; omega
  clear hKn hE hw21 hbyy HXo hzz
  have hbyy := hbz
  clear hbz
  clear hzn
  have m_0 : w21.cell? ⟨bm, 0, none⟩ = some _ := blk_cell Kmw21.out rfl
  have m_1 : w21.cell? ⟨bm, 1, none⟩ = some _ := blk_cell Kmw21.out rfl
  have m_l : bm < w21.heap.size := (Array.getElem?_eq_some_iff.1 Kmw21.out).1
  have c_0 : w21.cell? ⟨bc, 0, none⟩ = some _ := blk_cell Kcw21.out rfl
  have c_1 : w21.cell? ⟨bc, 1, none⟩ = some _ := blk_cell Kcw21.out rfl
  have c_2 : w21.cell? ⟨bc, 2, none⟩ = some _ := blk_cell Kcw21.out rfl
  have c_3 : w21.cell? ⟨bc, 3, none⟩ = some _ := blk_cell Kcw21.out rfl
  have c_4 : w21.cell? ⟨bc, 4, none⟩ = some _ := blk_cell Kcw21.out rfl
  have c_5 : w21.cell? ⟨bc, 5, none⟩ = some _ := blk_cell Kcw21.out rfl
  have c_6 : w21.cell? ⟨bc, 6, none⟩ = some _ := blk_cell Kcw21.out rfl
  have c_7 : w21.cell? ⟨bc, 7, none⟩ = some _ := blk_cell Kcw21.out rfl
  have c_8 : w21.cell? ⟨bc, 8, none⟩ = some _ := blk_cell Kcw21.out rfl
  have c_9 : w21.cell? ⟨bc, 9, none⟩ = some _ := blk_cell Kcw21.out rfl
  have c_l : bc < w21.heap.size := (Array.getElem?_eq_some_iff.1 Kcw21.out).1
  have i_0 : w21.cell? ⟨bi, 0, none⟩ = some _ := blk_cell Kiw21.out rfl
  have i_1 : w21.cell? ⟨bi, 1, none⟩ = some _ := blk_cell Kiw21.out rfl
  have i_l : bi < w21.heap.size := (Array.getElem?_eq_some_iff.1 Kiw21.out).1
  have r_0 : w21.cell? ⟨br, 0, none⟩ = some _ := blk_cell Krw21.out rfl
  have r_1 : w21.cell? ⟨br, 1, none⟩ = some _ := blk_cell Krw21.out rfl
  have r_2 : w21.cell? ⟨br, 2, none⟩ = some _ := blk_cell Krw21.out rfl
  have r_3 : w21.cell? ⟨br, 3, none⟩ = some _ := blk_cell Krw21.out rfl
  have r_l : br < w21.heap.size := (Array.getElem?_eq_some_iff.1 Krw21.out).1
  have s_0 : w21.cell? ⟨bs, 0, none⟩ = some _ := blk_cell Ksw21.out rfl
  have s_1 : w21.cell? ⟨bs, 1, none⟩ = some _ := blk_cell Ksw21.out rfl
  have s_2 : w21.cell? ⟨bs, 2, none⟩ = some _ := blk_cell Ksw21.out rfl
  have s_3 : w21.cell? ⟨bs, 3, none⟩ = some _ := blk_cell Ksw21.out rfl
  have s_l : bs < w21.heap.size := (Array.getElem?_eq_some_iff.1 Ksw21.out).1
  have x_0 : w21.cell? ⟨bx, 0, none⟩ = some _ := blk_cell Kxw21.out rfl
  have x_1 : w21.cell? ⟨bx, 1, none⟩ = some _ := blk_cell Kxw21.out rfl
  have x_l : bx < w21.heap.size := (Array.getElem?_eq_some_iff.1 Kxw21.out).1
  have yy_0 : w21.cell? ⟨byy, 0, none⟩ = some _ := blk_cell Kyyw21.out rfl
  have yy_1 : w21.cell? ⟨byy, 1, none⟩ = some _ := blk_cell Kyyw21.out rfl
  have yy_l : byy < w21.heap.size := (Array.getElem?_eq_some_iff.1 Kyyw21.out).1
  go_wp2_with fail
  refine (k_machine w21 _ _ _ _ _ _ _ _ M.pairs M.pairs M.sess M.sess HN1.out.prs HN2.out.prs HN1.out.ses HN2.out.ses).mono ?_
  rintro e w22 ⟨rfl, hE⟩
  clear m_0 m_1 m_l c_0 c_1 c_2 c_3 c_4 c_5 c_6 c_7 c_8 c_9 c_l i_0 i_1 i_l r_0 r_1 r_2 r_3 r_l s_0 s_1 s_2 s_3 s_l x_0 x_1 x_l yy_0 yy_1 yy_l
  have Kmw22 := Lib.hid (hE.blk Kmw21.out id)
  have Kcw22 := Lib.hid (hE.blk Kcw21.out id)
  have Kiw22 := Lib.hid (hE.blk Kiw21.out id)
  have Krw22 := Lib.hid (hE.blk Krw21.out id)
  have Ksw22 := Lib.hid (hE.blk Ksw21.out id)
  have Kxw22 := Lib.hid (hE.blk Kxw21.out id)
  have Kyyw22 := Lib.hid (hE.blk Kyyw21.out id)
  replace HP := Lib.hid (HP.out.ext hE)
  replace HS := Lib.hid (HS.out.ext hE)
  replace HN7 := Lib.hid (newM_mod HN7.out hE (fun _ _ => id) (fun _ _ => id))
  replace HN1 := Lib.hid (newM_mod HN1.out hE (fun _ _ => id) (fun _ _ => id))
  replace HN2 := Lib.hid (newM_mod HN2.out hE (fun _ _ => id) (fun _ _ => id))
  replace HX := Lib.hid (HX.out.ext hE)
  clear Kmw21
  clear Kcw21
  clear Kiw21
  clear Krw21
  clear Ksw21
  clear Kxw21
  clear Kyyw21
  rw [show eqM ⟨M.pairs, M.sess⟩ ⟨M.pairs, M.sess⟩ = true from eqM_refl _]
  clear hE
  have m_0 : w22.cell? ⟨bm, 0, none⟩ = some _ := blk_cell Kmw22.out rfl
  have m_1 : w22.cell? ⟨bm, 1, none⟩ = some _ := blk_cell Kmw22.out rfl
  have m_l : bm < w22.heap.size := (Array.getElem?_eq_some_iff.1 Kmw22.out).1
  have c_0 : w22.cell? ⟨bc, 0, none⟩ = some _ := blk_cell Kcw22.out rfl
  have c_1 : w22.cell? ⟨bc, 1, none⟩ = some _ := blk_cell Kcw22.out rfl
  have c_2 : w22.cell? ⟨bc, 2, none⟩ = some _ := blk_cell Kcw22.out rfl
  have c_3 : w22.cell? ⟨bc, 3, none⟩ = some _ := blk_cell Kcw22.out rfl
  have c_4 : w22.cell? ⟨bc, 4, none⟩ = some _ := blk_cell Kcw22.out rfl
  have c_5 : w22.cell? ⟨bc, 5, none⟩ = some _ := blk_cell Kcw22.out rfl
  have c_6 : w22.cell? ⟨bc, 6, none⟩ = some _ := blk_cell Kcw22.out rfl
  have c_7 : w22.cell? ⟨bc, 7, none⟩ = some _ := blk_cell Kcw22.out rfl
  have c_8 : w22.cell? ⟨bc, 8, none⟩ = some _ := blk_cell Kcw22.out rfl
  have c_9 : w22.cell? ⟨bc, 9, none⟩ = some _ := blk_cell Kcw22.out rfl
  have c_l : bc < w22.heap.size := (Array.getElem?_eq_some_iff.1 Kcw22.out).1
  have i_0 : w22.cell? ⟨bi, 0, none⟩ = some _ := blk_cell Kiw22.out rfl
  have i_1 : w22.cell? ⟨bi, 1, none⟩ = some _ := blk_cell Kiw22.out rfl
  have i_l : bi < w22.heap.size := (Array.getElem?_eq_some_iff.1 Kiw22.out).1
  have r_0 : w22.cell? ⟨br, 0, none⟩ = some _ := blk_cell Krw22.out rfl
  have r_1 : w22.cell? ⟨br, 1, none⟩ = some _ := blk_cell Krw22.out rfl
  have r_2 : w22.cell? ⟨br, 2, none⟩ = some _ := blk_cell Krw22.out rfl
  have r_3 : w22.cell? ⟨br, 3, none⟩ = some _ := blk_cell Krw22.out rfl
  have r_l : br < w22.heap.size := (Array.getElem?_eq_some_iff.1 Krw22.out).1
  have s_0 : w22.cell? ⟨bs, 0, none⟩ = some _ := blk_cell Ksw22.out rfl
  have s_1 : w22.cell? ⟨bs, 1, none⟩ = some _ := blk_cell Ksw22.out rfl
  have s_2 : w22.cell? ⟨bs, 2, none⟩ = some _ := blk_cell Ksw22.out rfl
  have s_3 : w22.cell? ⟨bs, 3, none⟩ = some _ := blk_cell Ksw22.out rfl
  have s_l : bs < w22.heap.size := (Array.getElem?_eq_some_iff.1 Ksw22.out).1
  have x_0 : w22.cell? ⟨bx, 0, none⟩ = some _ := blk_cell Kxw22.out rfl
  have x_1 : w22.cell? ⟨bx, 1, none⟩ = some _ := blk_cell Kxw22.out rfl
  have x_l : bx < w22.heap.size := (Array.getElem?_eq_some_iff.1 Kxw22.out).1
  have yy_0 : w22.cell? ⟨byy, 0, none⟩ = some _ := blk_cell Kyyw22.out rfl
  have yy_1 : w22.cell? ⟨byy, 1, none⟩ = some _ := blk_cell Kyyw22.out rfl
  have yy_l : byy < w22.heap.size := (Array.getElem?_eq_some_iff.1 Kyyw22.out).1
  go_wp2_with fail
  refine (k_reply q q w22).mono ?_
  rintro e w23 ⟨rfl, hE⟩
  clear m_0 m_1 m_l c_0 c_1 c_2 c_3 c_4 c_5 c_6 c_7 c_8 c_9 c_l i_0 i_1 i_l r_0 r_1 r_2 r_3 r_l s_0 s_1 s_2 s_3 s_l x_0 x_1 x_l yy_0 yy_1 yy_l
  have Kmw23 := Lib.hid (hE.blk Kmw22.out id)
  have Kcw23 := Lib.hid (hE.blk Kcw22.out id)
  have Kiw23 := Lib.hid (hE.blk Kiw22.out id)
  have Krw23 := Lib.hid (hE.blk Krw22.out id)
  have Ksw23 := Lib.hid (hE.blk Ksw22.out id)
  have Kxw23 := Lib.hid (hE.blk Kxw22.out id)
  have Kyyw23 := Lib.hid (hE.blk Kyyw22.out id)
  replace HP := Lib.hid (HP.out.ext hE)
  replace HS := Lib.hid (HS.out.ext hE)
  replace HN7 := Lib.hid (newM_mod HN7.out hE (fun _ _ => id) (fun _ _ => id))
  replace HN1 := Lib.hid (newM_mod HN1.out hE (fun _ _ => id) (fun _ _ => id))
  replace HN2 := Lib.hid (newM_mod HN2.out hE (fun _ _ => id) (fun _ _ => id))
  replace HX := Lib.hid (HX.out.ext hE)
  clear Kmw22
  clear Kcw22
  clear Kiw22
  clear Krw22
  clear Ksw22
  clear Kxw22
  clear Kyyw22
  rw [eqReply_refl]
  clear hE
  have m_0 : w23.cell? ⟨bm, 0, none⟩ = some _ := blk_cell Kmw23.out rfl
  have m_1 : w23.cell? ⟨bm, 1, none⟩ = some _ := blk_cell Kmw23.out rfl
  have m_l : bm < w23.heap.size := (Array.getElem?_eq_some_iff.1 Kmw23.out).1
  have c_0 : w23.cell? ⟨bc, 0, none⟩ = some _ := blk_cell Kcw23.out rfl
  have c_1 : w23.cell? ⟨bc, 1, none⟩ = some _ := blk_cell Kcw23.out rfl
  have c_2 : w23.cell? ⟨bc, 2, none⟩ = some _ := blk_cell Kcw23.out rfl
  have c_3 : w23.cell? ⟨bc, 3, none⟩ = some _ := blk_cell Kcw23.out rfl
  have c_4 : w23.cell? ⟨bc, 4, none⟩ = some _ := blk_cell Kcw23.out rfl
  have c_5 : w23.cell? ⟨bc, 5, none⟩ = some _ := blk_cell Kcw23.out rfl
  have c_6 : w23.cell? ⟨bc, 6, none⟩ = some _ := blk_cell Kcw23.out rfl
  have c_7 : w23.cell? ⟨bc, 7, none⟩ = some _ := blk_cell Kcw23.out rfl
  have c_8 : w23.cell? ⟨bc, 8, none⟩ = some _ := blk_cell Kcw23.out rfl
  have c_9 : w23.cell? ⟨bc, 9, none⟩ = some _ := blk_cell Kcw23.out rfl
  have c_l : bc < w23.heap.size := (Array.getElem?_eq_some_iff.1 Kcw23.out).1
  have i_0 : w23.cell? ⟨bi, 0, none⟩ = some _ := blk_cell Kiw23.out rfl
  have i_1 : w23.cell? ⟨bi, 1, none⟩ = some _ := blk_cell Kiw23.out rfl
  have i_l : bi < w23.heap.size := (Array.getElem?_eq_some_iff.1 Kiw23.out).1
  have r_0 : w23.cell? ⟨br, 0, none⟩ = some _ := blk_cell Krw23.out rfl
  have r_1 : w23.cell? ⟨br, 1, none⟩ = some _ := blk_cell Krw23.out rfl
  have r_2 : w23.cell? ⟨br, 2, none⟩ = some _ := blk_cell Krw23.out rfl
  have r_3 : w23.cell? ⟨br, 3, none⟩ = some _ := blk_cell Krw23.out rfl
  have r_l : br < w23.heap.size := (Array.getElem?_eq_some_iff.1 Krw23.out).1
  have s_0 : w23.cell? ⟨bs, 0, none⟩ = some _ := blk_cell Ksw23.out rfl
  have s_1 : w23.cell? ⟨bs, 1, none⟩ = some _ := blk_cell Ksw23.out rfl
  have s_2 : w23.cell? ⟨bs, 2, none⟩ = some _ := blk_cell Ksw23.out rfl
  have s_3 : w23.cell? ⟨bs, 3, none⟩ = some _ := blk_cell Ksw23.out rfl
  have s_l : bs < w23.heap.size := (Array.getElem?_eq_some_iff.1 Ksw23.out).1
  have x_0 : w23.cell? ⟨bx, 0, none⟩ = some _ := blk_cell Kxw23.out rfl
  have x_1 : w23.cell? ⟨bx, 1, none⟩ = some _ := blk_cell Kxw23.out rfl
  have x_l : bx < w23.heap.size := (Array.getElem?_eq_some_iff.1 Kxw23.out).1
  have yy_0 : w23.cell? ⟨byy, 0, none⟩ = some _ := blk_cell Kyyw23.out rfl
  have yy_1 : w23.cell? ⟨byy, 1, none⟩ = some _ := blk_cell Kyyw23.out rfl
  have yy_l : byy < w23.heap.size := (Array.getElem?_eq_some_iff.1 Kyyw23.out).1
  go_wp2_with fail
  clear m_0 m_1 m_l c_0 c_1 c_2 c_3 c_4 c_5 c_6 c_7 c_8 c_9 c_l i_0 i_1 i_l r_0 r_1 r_2 r_3 r_l s_0 s_1 s_2 s_3 s_l x_0 x_1 x_l yy_0 yy_1 yy_l
  refine (k_spoilM w w23 _ _ M HN1.out).mono ?_
  rintro e w24 ⟨rfl, hM⟩
  have Kmw24 := Lib.hid (hM.blk Kmw23.out (fun e => by rcases e with e | e; { exact own_apart HN1.out.1.1 e Kmw23.out (by decide) rfl }; { exact own_apart HN1.out.2.1.1 e Kmw23.out (by decide) rfl }))
  clear Kmw23
  have Kcw24 := Lib.hid (hM.blk Kcw23.out (fun e => by rcases e with e | e; { exact own_apart HN1.out.1.1 e Kcw23.out (by decide) rfl }; { exact own_apart HN1.out.2.1.1 e Kcw23.out (by decide) rfl }))
  clear Kcw23
  have Kiw24 := Lib.hid (hM.blk Kiw23.out (fun e => by rcases e with e | e; { exact own_apart HN1.out.1.1 e Kiw23.out (by decide) rfl }; { exact own_apart HN1.out.2.1.1 e Kiw23.out (by decide) rfl }))
  clear Kiw23
  have Krw24 := Lib.hid (hM.blk Krw23.out (fun e => by rcases e with e | e; { exact own_apart HN1.out.1.1 e Krw23.out (by decide) rfl }; { exact own_apart HN1.out.2.1.1 e Krw23.out (by decide) rfl }))
  clear Krw23
  have Ksw24 := Lib.hid (hM.blk Ksw23.out (fun e => by rcases e with e | e; { exact own_apart HN1.out.1.1 e Ksw23.out (by decide) rfl }; { exact own_apart HN1.out.2.1.1 e Ksw23.out (by decide) rfl }))
  clear Ksw23
  have Kxw24 := Lib.hid (hM.blk Kxw23.out (fun e => by rcases e with e | e; { exact own_apart HN1.out.1.1 e Kxw23.out (by decide) rfl }; { exact own_apart HN1.out.2.1.1 e Kxw23.out (by decide) rfl }))
  clear Kxw23
  have Kyyw24 := Lib.hid (hM.blk Kyyw23.out (fun e => by rcases e with e | e; { exact own_apart HN1.out.1.1 e Kyyw23.out (by decide) rfl }; { exact own_apart HN1.out.2.1.1 e Kyyw23.out (by decide) rfl }))
  clear Kyyw23
  replace HN7 := Lib.hid (newM_mod HN7.out hM (fun g hg e => by have := (Hfar.out g e).1 g (.inl hg); omega) (fun g hg e => by have := (Hfar.out g e).1 g (.inr hg); omega))
  replace HP := Lib.hid (HP.out.mod hM (fun g hg e => by have := (Hfar.out g e).2; have := HU.out g hg; omega))
  replace HS := Lib.hid (HS.out.mod hM (fun g hg e => by have := (Hfar.out g e).2; have := HT.out g hg; omega))
  replace HX : Hid (Ext w w24) := Lib.hid (Mod.toExt ((Ext.mod HX.out (Since w.heap.size)).trans hM (fun g _ e => (Hfar.out g e).2)))
  clear hM HN1 HN2
  have m_0 : w24.cell? ⟨bm, 0, none⟩ = some _ := blk_cell Kmw24.out rfl
  have m_1 : w24.cell? ⟨bm, 1, none⟩ = some _ := blk_cell Kmw24.out rfl
  have m_l : bm < w24.heap.size := (Array.getElem?_eq_some_iff.1 Kmw24.out).1
  have c_0 : w24.cell? ⟨bc, 0, none⟩ = some _ := blk_cell Kcw24.out rfl
  have c_1 : w24.cell? ⟨bc, 1, none⟩ = some _ := blk_cell Kcw24.out rfl
  have c_2 : w24.cell? ⟨bc, 2, none⟩ = some _ := blk_cell Kcw24.out rfl
  have c_3 : w24.cell? ⟨bc, 3, none⟩ = some _ := blk_cell Kcw24.out rfl
  have c_4 : w24.cell? ⟨bc, 4, none⟩ = some _ := blk_cell Kcw24.out rfl
  have c_5 : w24.cell? ⟨bc, 5, none⟩ = some _ := blk_cell Kcw24.out rfl
  have c_6 : w24.cell? ⟨bc, 6, none⟩ = some _ := blk_cell Kcw24.out rfl
  have c_7 : w24.cell? ⟨bc, 7, none⟩ = some _ := blk_cell Kcw24.out rfl
  have c_8 : w24.cell? ⟨bc, 8, none⟩ = some _ := blk_cell Kcw24.out rfl
  have c_9 : w24.cell? ⟨bc, 9, none⟩ = some _ := blk_cell Kcw24.out rfl
  have c_l : bc < w24.heap.size := (Array.getElem?_eq_some_iff.1 Kcw24.out).1
  have i_0 : w24.cell? ⟨bi, 0, none⟩ = some _ := blk_cell Kiw24.out rfl
  have i_1 : w24.cell? ⟨bi, 1, none⟩ = some _ := blk_cell Kiw24.out rfl
  have i_l : bi < w24.heap.size := (Array.getElem?_eq_some_iff.1 Kiw24.out).1
  have r_0 : w24.cell? ⟨br, 0, none⟩ = some _ := blk_cell Krw24.out rfl
  have r_1 : w24.cell? ⟨br, 1, none⟩ = some _ := blk_cell Krw24.out rfl
  have r_2 : w24.cell? ⟨br, 2, none⟩ = some _ := blk_cell Krw24.out rfl
  have r_3 : w24.cell? ⟨br, 3, none⟩ = some _ := blk_cell Krw24.out rfl
  have r_l : br < w24.heap.size := (Array.getElem?_eq_some_iff.1 Krw24.out).1
  have s_0 : w24.cell? ⟨bs, 0, none⟩ = some _ := blk_cell Ksw24.out rfl
  have s_1 : w24.cell? ⟨bs, 1, none⟩ = some _ := blk_cell Ksw24.out rfl
  have s_2 : w24.cell? ⟨bs, 2, none⟩ = some _ := blk_cell Ksw24.out rfl
  have s_3 : w24.cell? ⟨bs, 3, none⟩ = some _ := blk_cell Ksw24.out rfl
  have s_l : bs < w24.heap.size := (Array.getElem?_eq_some_iff.1 Ksw24.out).1
  have x_0 : w24.cell? ⟨bx, 0, none⟩ = some _ := blk_cell Kxw24.out rfl
  have x_1 : w24.cell? ⟨bx, 1, none⟩ = some _ := blk_cell Kxw24.out rfl
  have x_l : bx < w24.heap.size := (Array.getElem?_eq_some_iff.1 Kxw24.out).1
  have yy_0 : w24.cell? ⟨byy, 0, none⟩ = some _ := blk_cell Kyyw24.out rfl
  have yy_1 : w24.cell? ⟨byy, 1, none⟩ = some _ := blk_cell Kyyw24.out rfl
  have yy_l : byy < w24.heap.size := (Array.getElem?_eq_some_iff.1 Kyyw24.out).1
  go_wp2_with fail
  refine (k_machine w24 _ _ _ _ _ _ _ _ p p l l HN7.out.prs HP.out HN7.out.ses HS.out).mono ?_
  rintro e w25 ⟨rfl, hE⟩
  clear m_0 m_1 m_l c_0 c_1 c_2 c_3 c_4 c_5 c_6 c_7 c_8 c_9 c_l i_0 i_1 i_l r_0 r_1 r_2 r_3 r_l s_0 s_1 s_2 s_3 s_l x_0 x_1 x_l yy_0 yy_1 yy_l
  have Kmw25 := Lib.hid (hE.blk Kmw24.out id)
  have Kcw25 := Lib.hid (hE.blk Kcw24.out id)
  have Kiw25 := Lib.hid (hE.blk Kiw24.out id)
  have Krw25 := Lib.hid (hE.blk Krw24.out id)
  have Ksw25 := Lib.hid (hE.blk Ksw24.out id)
  have Kxw25 := Lib.hid (hE.blk Kxw24.out id)
  have Kyyw25 := Lib.hid (hE.blk Kyyw24.out id)
  replace HP := Lib.hid (HP.out.ext hE)
  replace HS := Lib.hid (HS.out.ext hE)
  replace HN7 := Lib.hid (newM_mod HN7.out hE (fun _ _ => id) (fun _ _ => id))
  replace HX := Lib.hid (HX.out.ext hE)
  clear Kmw24
  clear Kcw24
  clear Kiw24
  clear Krw24
  clear Ksw24
  clear Kxw24
  clear Kyyw24
  rw [show eqM ⟨p, l⟩ ⟨p, l⟩ = true from eqM_refl _]
  clear hE
  have m_0 : w25.cell? ⟨bm, 0, none⟩ = some _ := blk_cell Kmw25.out rfl
  have m_1 : w25.cell? ⟨bm, 1, none⟩ = some _ := blk_cell Kmw25.out rfl
  have m_l : bm < w25.heap.size := (Array.getElem?_eq_some_iff.1 Kmw25.out).1
  have c_0 : w25.cell? ⟨bc, 0, none⟩ = some _ := blk_cell Kcw25.out rfl
  have c_1 : w25.cell? ⟨bc, 1, none⟩ = some _ := blk_cell Kcw25.out rfl
  have c_2 : w25.cell? ⟨bc, 2, none⟩ = some _ := blk_cell Kcw25.out rfl
  have c_3 : w25.cell? ⟨bc, 3, none⟩ = some _ := blk_cell Kcw25.out rfl
  have c_4 : w25.cell? ⟨bc, 4, none⟩ = some _ := blk_cell Kcw25.out rfl
  have c_5 : w25.cell? ⟨bc, 5, none⟩ = some _ := blk_cell Kcw25.out rfl
  have c_6 : w25.cell? ⟨bc, 6, none⟩ = some _ := blk_cell Kcw25.out rfl
  have c_7 : w25.cell? ⟨bc, 7, none⟩ = some _ := blk_cell Kcw25.out rfl
  have c_8 : w25.cell? ⟨bc, 8, none⟩ = some _ := blk_cell Kcw25.out rfl
  have c_9 : w25.cell? ⟨bc, 9, none⟩ = some _ := blk_cell Kcw25.out rfl
  have c_l : bc < w25.heap.size := (Array.getElem?_eq_some_iff.1 Kcw25.out).1
  have i_0 : w25.cell? ⟨bi, 0, none⟩ = some _ := blk_cell Kiw25.out rfl
  have i_1 : w25.cell? ⟨bi, 1, none⟩ = some _ := blk_cell Kiw25.out rfl
  have i_l : bi < w25.heap.size := (Array.getElem?_eq_some_iff.1 Kiw25.out).1
  have r_0 : w25.cell? ⟨br, 0, none⟩ = some _ := blk_cell Krw25.out rfl
  have r_1 : w25.cell? ⟨br, 1, none⟩ = some _ := blk_cell Krw25.out rfl
  have r_2 : w25.cell? ⟨br, 2, none⟩ = some _ := blk_cell Krw25.out rfl
  have r_3 : w25.cell? ⟨br, 3, none⟩ = some _ := blk_cell Krw25.out rfl
  have r_l : br < w25.heap.size := (Array.getElem?_eq_some_iff.1 Krw25.out).1
  have s_0 : w25.cell? ⟨bs, 0, none⟩ = some _ := blk_cell Ksw25.out rfl
  have s_1 : w25.cell? ⟨bs, 1, none⟩ = some _ := blk_cell Ksw25.out rfl
  have s_2 : w25.cell? ⟨bs, 2, none⟩ = some _ := blk_cell Ksw25.out rfl
  have s_3 : w25.cell? ⟨bs, 3, none⟩ = some _ := blk_cell Ksw25.out rfl
  have s_l : bs < w25.heap.size := (Array.getElem?_eq_some_iff.1 Ksw25.out).1
  have x_0 : w25.cell? ⟨bx, 0, none⟩ = some _ := blk_cell Kxw25.out rfl
  have x_1 : w25.cell? ⟨bx, 1, none⟩ = some _ := blk_cell Kxw25.out rfl
  have x_l : bx < w25.heap.size := (Array.getElem?_eq_some_iff.1 Kxw25.out).1
  have yy_0 : w25.cell? ⟨byy, 0, none⟩ = some _ := blk_cell Kyyw25.out rfl
  have yy_1 : w25.cell? ⟨byy, 1, none⟩ = some _ := blk_cell Kyyw25.out rfl
  have yy_l : byy < w25.heap.size := (Array.getElem?_eq_some_iff.1 Kyyw25.out).1
  go_wp2_with fail
  refine (l_wakes7 w25).mono ?_
  rintro e w26 ⟨rfl, hE⟩
  clear m_0 m_1 m_l c_0 c_1 c_2 c_3 c_4 c_5 c_6 c_7 c_8 c_9 c_l i_0 i_1 i_l r_0 r_1 r_2 r_3 r_l s_0 s_1 s_2 s_3 s_l x_0 x_1 x_l yy_0 yy_1 yy_l
  have Kmw26 := Lib.hid (hE.blk Kmw25.out id)
  have Kcw26 := Lib.hid (hE.blk Kcw25.out id)
  have Kiw26 := Lib.hid (hE.blk Kiw25.out id)
  have Krw26 := Lib.hid (hE.blk Krw25.out id)
  have Ksw26 := Lib.hid (hE.blk Ksw25.out id)
  have Kxw26 := Lib.hid (hE.blk Kxw25.out id)
  have Kyyw26 := Lib.hid (hE.blk Kyyw25.out id)
  replace HP := Lib.hid (HP.out.ext hE)
  replace HS := Lib.hid (HS.out.ext hE)
  replace HN7 := Lib.hid (newM_mod HN7.out hE (fun _ _ => id) (fun _ _ => id))
  replace HX := Lib.hid (HX.out.ext hE)
  clear Kmw25
  clear Kcw25
  clear Kiw25
  clear Krw25
  clear Ksw25
  clear Kxw25
  clear Kyyw25
  clear hE
  have m_0 : w26.cell? ⟨bm, 0, none⟩ = some _ := blk_cell Kmw26.out rfl
  have m_1 : w26.cell? ⟨bm, 1, none⟩ = some _ := blk_cell Kmw26.out rfl
  have m_l : bm < w26.heap.size := (Array.getElem?_eq_some_iff.1 Kmw26.out).1
  have c_0 : w26.cell? ⟨bc, 0, none⟩ = some _ := blk_cell Kcw26.out rfl
  have c_1 : w26.cell? ⟨bc, 1, none⟩ = some _ := blk_cell Kcw26.out rfl
  have c_2 : w26.cell? ⟨bc, 2, none⟩ = some _ := blk_cell Kcw26.out rfl
  have c_3 : w26.cell? ⟨bc, 3, none⟩ = some _ := blk_cell Kcw26.out rfl
  have c_4 : w26.cell? ⟨bc, 4, none⟩ = some _ := blk_cell Kcw26.out rfl
  have c_5 : w26.cell? ⟨bc, 5, none⟩ = some _ := blk_cell Kcw26.out rfl
  have c_6 : w26.cell? ⟨bc, 6, none⟩ = some _ := blk_cell Kcw26.out rfl
  have c_7 : w26.cell? ⟨bc, 7, none⟩ = some _ := blk_cell Kcw26.out rfl
  have c_8 : w26.cell? ⟨bc, 8, none⟩ = some _ := blk_cell Kcw26.out rfl
  have c_9 : w26.cell? ⟨bc, 9, none⟩ = some _ := blk_cell Kcw26.out rfl
  have c_l : bc < w26.heap.size := (Array.getElem?_eq_some_iff.1 Kcw26.out).1
  have i_0 : w26.cell? ⟨bi, 0, none⟩ = some _ := blk_cell Kiw26.out rfl
  have i_1 : w26.cell? ⟨bi, 1, none⟩ = some _ := blk_cell Kiw26.out rfl
  have i_l : bi < w26.heap.size := (Array.getElem?_eq_some_iff.1 Kiw26.out).1
  have r_0 : w26.cell? ⟨br, 0, none⟩ = some _ := blk_cell Krw26.out rfl
  have r_1 : w26.cell? ⟨br, 1, none⟩ = some _ := blk_cell Krw26.out rfl
  have r_2 : w26.cell? ⟨br, 2, none⟩ = some _ := blk_cell Krw26.out rfl
  have r_3 : w26.cell? ⟨br, 3, none⟩ = some _ := blk_cell Krw26.out rfl
  have r_l : br < w26.heap.size := (Array.getElem?_eq_some_iff.1 Krw26.out).1
  have s_0 : w26.cell? ⟨bs, 0, none⟩ = some _ := blk_cell Ksw26.out rfl
  have s_1 : w26.cell? ⟨bs, 1, none⟩ = some _ := blk_cell Ksw26.out rfl
  have s_2 : w26.cell? ⟨bs, 2, none⟩ = some _ := blk_cell Ksw26.out rfl
  have s_3 : w26.cell? ⟨bs, 3, none⟩ = some _ := blk_cell Ksw26.out rfl
  have s_l : bs < w26.heap.size := (Array.getElem?_eq_some_iff.1 Ksw26.out).1
  have x_0 : w26.cell? ⟨bx, 0, none⟩ = some _ := blk_cell Kxw26.out rfl
  have x_1 : w26.cell? ⟨bx, 1, none⟩ = some _ := blk_cell Kxw26.out rfl
  have x_l : bx < w26.heap.size := (Array.getElem?_eq_some_iff.1 Kxw26.out).1
  have yy_0 : w26.cell? ⟨byy, 0, none⟩ = some _ := blk_cell Kyyw26.out rfl
  have yy_1 : w26.cell? ⟨byy, 1, none⟩ = some _ := blk_cell Kyyw26.out rfl
  have yy_l : byy < w26.heap.size := (Array.getElem?_eq_some_iff.1 Kyyw26.out).1
  go_wp2
  go_ret
  exact ⟨rfl, Ext.below HX.out⟩
set_option maxRecDepth 100000 in
set_option maxHeartbeats 2000000 in
theorem sesExact_wrong (w : World) (T U : Nat → Prop) (hT : ∀ g, T g → g < w.heap.size) (hU : ∀ g, U g → g < w.heap.size) (A B : Option Addr) (ca cb : Nat) (p : List APair) (l : List ASess) (hP : Prs w U (.slice A p.length ca) p) (hS : Ses w T (.slice B l.length cb) l) (c : ACall) (client : Int) (hc : c.ok) (h1 : heavyM ⟨p, l⟩ = false) (h2 : heavyCmd c.cmd = false) (hp : machB ⟨p, l⟩ = false) :
    Calls Try.prog 3 #[.agg #[.slice A p.length ca, .slice B l.length cb], .agg #[.int .i64 c.client, .int .i64 c.seq, .int .i64 c.cmd.kind, .string c.cmd.key, .int .i64 c.cmd.old.kind, .float .f64 c.cmd.old.num, .string c.cmd.old.text, .int .i64 c.cmd.val.kind, .float .f64 c.cmd.val.num, .string c.cmd.val.text], .int .i64 client] w fun e w' => e = .returned (.bool true) ∧ Below w.heap.size w w' := by
  have hlen : p.length ≤ 1000000 ∧ l.length ≤ 1000000 := by
    unfold heavyM heavyPairs at h1
    simp only [Bool.or_eq_false_iff, decide_eq_false_iff_not] at h1
    omega
  have Hp := Lib.hid hp
  have HT := Lib.hid hT
  have HU := Lib.hid hU
  clear hp hT hU
  have HX : Hid (Ext w w) := Lib.hid (Mod.refl _ w)
  have HP := Lib.hid hP
  have HS := Lib.hid hS
  clear hP hS
  go_enter Try.func3, Try.ntmps3
  go_wp2_with fail
  obtain ⟨w1, hw1⟩ : ∃ w1, w1 = w.alloc (.cells #[.slice A p.length ca, .slice B l.length cb] 25) := ⟨_, rfl⟩
  obtain ⟨bm, hbm⟩ : ∃ bm, bm = w.heap.size := ⟨_, rfl⟩
  have hzz : w.heap.size = bm := hbm.symm
  have hE : Ext w w1 := by rw [hw1]; exact (Mod.refl _ w).alloc _
  have hKn : w1.heap[bm]? = some (.cells #[.slice A p.length ca, .slice B l.length cb] 25 (0, 0)) := by rw [hw1, ← hzz]; exact heap_alloc_new w _
  have hzn : w1.heap.size = bm + 1 := by rw [hw1, ← hzz]; simp
  rw [← hw1, ← hbm]
  have HXo := HX
  replace HP := Lib.hid (HP.out.ext hE)
  replace HS := Lib.hid (HS.out.ext hE)
  replace HX := Lib.hid (HX.out.ext hE)
  have Kmw1 := Lib.hid hKn
  have hbz : w.heap.size ≤ bm := by have := HXo.out.size; omega
  clear hKn hE hw1 hbm HXo hzz
  have hbm := hbz
  clear hbz
  obtain ⟨w2, hw2⟩ : ∃ w2, w2 = w1.alloc (.cells #[.int .i64 c.client, .int .i64 c.seq, .int .i64 c.cmd.kind, .string c.cmd.key, .int .i64 c.cmd.old.kind, .float .f64 c.cmd.old.num, .string c.cmd.old.text, .int .i64 c.cmd.val.kind, .float .f64 c.cmd.val.num, .string c.cmd.val.text] 32) := ⟨_, rfl⟩
  obtain ⟨bc, hbc⟩ : ∃ bc, bc = bm + 1 := ⟨_, rfl⟩
  have hzz : w1.heap.size = bc := hzn.trans hbc.symm
  clear hzn
  have hE : Ext w1 w2 := by rw [hw2]; exact (Mod.refl _ w1).alloc _
  have hKn : w2.heap[bc]? = some (.cells #[.int .i64 c.client, .int .i64 c.seq, .int .i64 c.cmd.kind, .string c.cmd.key, .int .i64 c.cmd.old.kind, .float .f64 c.cmd.old.num, .string c.cmd.old.text, .int .i64 c.cmd.val.kind, .float .f64 c.cmd.val.num, .string c.cmd.val.text] 32 (0, 0)) := by rw [hw2, ← hzz]; exact heap_alloc_new w1 _
  have hzn : w2.heap.size = bc + 1 := by rw [hw2, ← hzz]; simp
  rw [← hw2, ← hbc]
  have hltmc : bm < bc := by have := (Array.getElem?_eq_some_iff.1 Kmw1.out).1; omega
  have HXo := HX
  have Kmw2 := Lib.hid (hE.blk Kmw1.out id)
  replace HP := Lib.hid (HP.out.ext hE)
  replace HS := Lib.hid (HS.out.ext hE)
  replace HX := Lib.hid (HX.out.ext hE)
  clear Kmw1
  have Kcw2 := Lib.hid hKn
  have hbz : w.heap.size ≤ bc := by have := HXo.out.size; omega
  clear hKn hE hw2 hbc HXo hzz
  have hbc := hbz
  clear hbz
  clear hzn
  refine (hv_mach w2 _ _ _ _ p l HP.out HS.out).mono ?_
  rintro e w3 ⟨rfl, hE⟩
  have Kmw3 := Lib.hid (hE.blk Kmw2.out id)
  have Kcw3 := Lib.hid (hE.blk Kcw2.out id)
  replace HP := Lib.hid (HP.out.ext hE)
  replace HS := Lib.hid (HS.out.ext hE)
  replace HX := Lib.hid (HX.out.ext hE)
  clear Kmw2
  clear Kcw2
  rw [h1]
  clear hE
  have m_0 : w3.cell? ⟨bm, 0, none⟩ = some _ := blk_cell Kmw3.out rfl
  have m_1 : w3.cell? ⟨bm, 1, none⟩ = some _ := blk_cell Kmw3.out rfl
  have m_l : bm < w3.heap.size := (Array.getElem?_eq_some_iff.1 Kmw3.out).1
  have c_0 : w3.cell? ⟨bc, 0, none⟩ = some _ := blk_cell Kcw3.out rfl
  have c_1 : w3.cell? ⟨bc, 1, none⟩ = some _ := blk_cell Kcw3.out rfl
  have c_2 : w3.cell? ⟨bc, 2, none⟩ = some _ := blk_cell Kcw3.out rfl
  have c_3 : w3.cell? ⟨bc, 3, none⟩ = some _ := blk_cell Kcw3.out rfl
  have c_4 : w3.cell? ⟨bc, 4, none⟩ = some _ := blk_cell Kcw3.out rfl
  have c_5 : w3.cell? ⟨bc, 5, none⟩ = some _ := blk_cell Kcw3.out rfl
  have c_6 : w3.cell? ⟨bc, 6, none⟩ = some _ := blk_cell Kcw3.out rfl
  have c_7 : w3.cell? ⟨bc, 7, none⟩ = some _ := blk_cell Kcw3.out rfl
  have c_8 : w3.cell? ⟨bc, 8, none⟩ = some _ := blk_cell Kcw3.out rfl
  have c_9 : w3.cell? ⟨bc, 9, none⟩ = some _ := blk_cell Kcw3.out rfl
  have c_l : bc < w3.heap.size := (Array.getElem?_eq_some_iff.1 Kcw3.out).1
  go_wp2_with fail
  refine (hv_cmd c.cmd w3).mono ?_
  rintro e w4 ⟨rfl, hE⟩
  clear m_0 m_1 m_l c_0 c_1 c_2 c_3 c_4 c_5 c_6 c_7 c_8 c_9 c_l
  have Kmw4 := Lib.hid (hE.blk Kmw3.out id)
  have Kcw4 := Lib.hid (hE.blk Kcw3.out id)
  replace HP := Lib.hid (HP.out.ext hE)
  replace HS := Lib.hid (HS.out.ext hE)
  replace HX := Lib.hid (HX.out.ext hE)
  clear Kmw3
  clear Kcw3
  rw [h2]
  clear hE
  have m_0 : w4.cell? ⟨bm, 0, none⟩ = some _ := blk_cell Kmw4.out rfl
  have m_1 : w4.cell? ⟨bm, 1, none⟩ = some _ := blk_cell Kmw4.out rfl
  have m_l : bm < w4.heap.size := (Array.getElem?_eq_some_iff.1 Kmw4.out).1
  have c_0 : w4.cell? ⟨bc, 0, none⟩ = some _ := blk_cell Kcw4.out rfl
  have c_1 : w4.cell? ⟨bc, 1, none⟩ = some _ := blk_cell Kcw4.out rfl
  have c_2 : w4.cell? ⟨bc, 2, none⟩ = some _ := blk_cell Kcw4.out rfl
  have c_3 : w4.cell? ⟨bc, 3, none⟩ = some _ := blk_cell Kcw4.out rfl
  have c_4 : w4.cell? ⟨bc, 4, none⟩ = some _ := blk_cell Kcw4.out rfl
  have c_5 : w4.cell? ⟨bc, 5, none⟩ = some _ := blk_cell Kcw4.out rfl
  have c_6 : w4.cell? ⟨bc, 6, none⟩ = some _ := blk_cell Kcw4.out rfl
  have c_7 : w4.cell? ⟨bc, 7, none⟩ = some _ := blk_cell Kcw4.out rfl
  have c_8 : w4.cell? ⟨bc, 8, none⟩ = some _ := blk_cell Kcw4.out rfl
  have c_9 : w4.cell? ⟨bc, 9, none⟩ = some _ := blk_cell Kcw4.out rfl
  have c_l : bc < w4.heap.size := (Array.getElem?_eq_some_iff.1 Kcw4.out).1
  clear h1 h2
  go_wp2_with fail
  have hso := HX.out.size
  refine (k_twinMachine w4 _ _ _ _ p l HP.out HS.out hlen.1 hlen.2).mono ?_
  rintro e w5 ⟨p7, v7, rfl, hN, hE⟩
  clear m_0 m_1 m_l c_0 c_1 c_2 c_3 c_4 c_5 c_6 c_7 c_8 c_9 c_l
  have Kmw5 := Lib.hid (hE.blk Kmw4.out id)
  have Kcw5 := Lib.hid (hE.blk Kcw4.out id)
  replace HP := Lib.hid (HP.out.ext hE)
  replace HS := Lib.hid (HS.out.ext hE)
  replace HX := Lib.hid (HX.out.ext hE)
  clear Kmw4
  clear Kcw4
  obtain ⟨A7, c7, rfl⟩ := own_form hN.1.1
  obtain ⟨B7, d7, rfl⟩ := own_form hN.2.1.1
  have HN7 := Lib.hid (newM_up hN hso)
  clear hN hso
  clear hE
  have m_0 : w5.cell? ⟨bm, 0, none⟩ = some _ := blk_cell Kmw5.out rfl
  have m_1 : w5.cell? ⟨bm, 1, none⟩ = some _ := blk_cell Kmw5.out rfl
  have m_l : bm < w5.heap.size := (Array.getElem?_eq_some_iff.1 Kmw5.out).1
  have c_0 : w5.cell? ⟨bc, 0, none⟩ = some _ := blk_cell Kcw5.out rfl
  have c_1 : w5.cell? ⟨bc, 1, none⟩ = some _ := blk_cell Kcw5.out rfl
  have c_2 : w5.cell? ⟨bc, 2, none⟩ = some _ := blk_cell Kcw5.out rfl
  have c_3 : w5.cell? ⟨bc, 3, none⟩ = some _ := blk_cell Kcw5.out rfl
  have c_4 : w5.cell? ⟨bc, 4, none⟩ = some _ := blk_cell Kcw5.out rfl
  have c_5 : w5.cell? ⟨bc, 5, none⟩ = some _ := blk_cell Kcw5.out rfl
  have c_6 : w5.cell? ⟨bc, 6, none⟩ = some _ := blk_cell Kcw5.out rfl
  have c_7 : w5.cell? ⟨bc, 7, none⟩ = some _ := blk_cell Kcw5.out rfl
  have c_8 : w5.cell? ⟨bc, 8, none⟩ = some _ := blk_cell Kcw5.out rfl
  have c_9 : w5.cell? ⟨bc, 9, none⟩ = some _ := blk_cell Kcw5.out rfl
  have c_l : bc < w5.heap.size := (Array.getElem?_eq_some_iff.1 Kcw5.out).1
  go_wp2_with fail
  obtain ⟨w6, hw6⟩ : ∃ w6, w6 = w5.alloc (.cells #[.slice A7 p.length c7, .slice B7 l.length d7] 25) := ⟨_, rfl⟩
  obtain ⟨bi, hbi⟩ : ∃ bi, bi = w5.heap.size := ⟨_, rfl⟩
  have hzz : w5.heap.size = bi := hbi.symm
  have hE : Ext w5 w6 := by rw [hw6]; exact (Mod.refl _ w5).alloc _
  have hKn : w6.heap[bi]? = some (.cells #[.slice A7 p.length c7, .slice B7 l.length d7] 25 (0, 0)) := by rw [hw6, ← hzz]; exact heap_alloc_new w5 _
  have hzn : w6.heap.size = bi + 1 := by rw [hw6, ← hzz]; simp
  rw [← hw6, ← hbi]
  have hltmi : bm < bi := by have := (Array.getElem?_eq_some_iff.1 Kmw5.out).1; omega
  have hltci : bc < bi := by have := (Array.getElem?_eq_some_iff.1 Kcw5.out).1; omega
  clear m_0 m_1 m_l c_0 c_1 c_2 c_3 c_4 c_5 c_6 c_7 c_8 c_9 c_l
  have HXo := HX
  have Kmw6 := Lib.hid (hE.blk Kmw5.out id)
  have Kcw6 := Lib.hid (hE.blk Kcw5.out id)
  replace HP := Lib.hid (HP.out.ext hE)
  replace HS := Lib.hid (HS.out.ext hE)
  replace HN7 := Lib.hid (newM_mod HN7.out hE (fun _ _ => id) (fun _ _ => id))
  replace HX := Lib.hid (HX.out.ext hE)
  clear Kmw5
  clear Kcw5
  have Kiw6 := Lib.hid hKn
  have hbz : w.heap.size ≤ bi := by have := HXo.out.size; omega
  clear hKn hE hw6 hbi HXo hzz
  have hbi := hbz
  clear hbz
  clear hzn
  refine (s_last w6 _ _ _ l client HN7.out.ses).mono ?_
  rintro e w7 ⟨rfl, hE⟩
  have Kmw7 := Lib.hid (hE.blk Kmw6.out id)
  have Kcw7 := Lib.hid (hE.blk Kcw6.out id)
  have Kiw7 := Lib.hid (hE.blk Kiw6.out id)
  replace HP := Lib.hid (HP.out.ext hE)
  replace HS := Lib.hid (HS.out.ext hE)
  replace HN7 := Lib.hid (newM_mod HN7.out hE (fun _ _ => id) (fun _ _ => id))
  replace HX := Lib.hid (HX.out.ext hE)
  clear Kmw6
  clear Kcw6
  clear Kiw6
  rcases hla : lastS l client with ⟨n, r⟩
  simp only
  have Hla := Lib.hid hla
  clear hla
  clear hE
  have m_0 : w7.cell? ⟨bm, 0, none⟩ = some _ := blk_cell Kmw7.out rfl
  have m_1 : w7.cell? ⟨bm, 1, none⟩ = some _ := blk_cell Kmw7.out rfl
  have m_l : bm < w7.heap.size := (Array.getElem?_eq_some_iff.1 Kmw7.out).1
  have c_0 : w7.cell? ⟨bc, 0, none⟩ = some _ := blk_cell Kcw7.out rfl
  have c_1 : w7.cell? ⟨bc, 1, none⟩ = some _ := blk_cell Kcw7.out rfl
  have c_2 : w7.cell? ⟨bc, 2, none⟩ = some _ := blk_cell Kcw7.out rfl
  have c_3 : w7.cell? ⟨bc, 3, none⟩ = some _ := blk_cell Kcw7.out rfl
  have c_4 : w7.cell? ⟨bc, 4, none⟩ = some _ := blk_cell Kcw7.out rfl
  have c_5 : w7.cell? ⟨bc, 5, none⟩ = some _ := blk_cell Kcw7.out rfl
  have c_6 : w7.cell? ⟨bc, 6, none⟩ = some _ := blk_cell Kcw7.out rfl
  have c_7 : w7.cell? ⟨bc, 7, none⟩ = some _ := blk_cell Kcw7.out rfl
  have c_8 : w7.cell? ⟨bc, 8, none⟩ = some _ := blk_cell Kcw7.out rfl
  have c_9 : w7.cell? ⟨bc, 9, none⟩ = some _ := blk_cell Kcw7.out rfl
  have c_l : bc < w7.heap.size := (Array.getElem?_eq_some_iff.1 Kcw7.out).1
  have i_0 : w7.cell? ⟨bi, 0, none⟩ = some _ := blk_cell Kiw7.out rfl
  have i_1 : w7.cell? ⟨bi, 1, none⟩ = some _ := blk_cell Kiw7.out rfl
  have i_l : bi < w7.heap.size := (Array.getElem?_eq_some_iff.1 Kiw7.out).1
  go_wp2_with fail
  obtain ⟨w8, hw8⟩ : ∃ w8, w8 = w7.alloc (.cells #[.int .i64 r.code, .int .i64 r.val.kind, .float .f64 r.val.num, .string r.val.text] 38) := ⟨_, rfl⟩
  obtain ⟨br, hbr⟩ : ∃ br, br = w7.heap.size := ⟨_, rfl⟩
  have hzz : w7.heap.size = br := hbr.symm
  have hE : Ext w7 w8 := by rw [hw8]; exact (Mod.refl _ w7).alloc _
  have hKn : w8.heap[br]? = some (.cells #[.int .i64 r.code, .int .i64 r.val.kind, .float .f64 r.val.num, .string r.val.text] 38 (0, 0)) := by rw [hw8, ← hzz]; exact heap_alloc_new w7 _
  have hzn : w8.heap.size = br + 1 := by rw [hw8, ← hzz]; simp
  rw [← hw8, ← hbr]
  have hltmr : bm < br := by have := (Array.getElem?_eq_some_iff.1 Kmw7.out).1; omega
  have hltcr : bc < br := by have := (Array.getElem?_eq_some_iff.1 Kcw7.out).1; omega
  have hltir : bi < br := by have := (Array.getElem?_eq_some_iff.1 Kiw7.out).1; omega
  clear m_0 m_1 m_l c_0 c_1 c_2 c_3 c_4 c_5 c_6 c_7 c_8 c_9 c_l i_0 i_1 i_l
  have HXo := HX
  have Kmw8 := Lib.hid (hE.blk Kmw7.out id)
  have Kcw8 := Lib.hid (hE.blk Kcw7.out id)
  have Kiw8 := Lib.hid (hE.blk Kiw7.out id)
  replace HP := Lib.hid (HP.out.ext hE)
  replace HS := Lib.hid (HS.out.ext hE)
  replace HN7 := Lib.hid (newM_mod HN7.out hE (fun _ _ => id) (fun _ _ => id))
  replace HX := Lib.hid (HX.out.ext hE)
  clear Kmw7
  clear Kcw7
  clear Kiw7
  have Krw8 := Lib.hid hKn
  have hbz : w.heap.size ≤ br := by have := HXo.out.size; omega
  clear hKn hE hw8 hbr HXo hzz
  have hbr := hbz
  clear hbz
  clear hzn
  refine (r_last w8 _ _ _ l client HS.out).mono ?_
  rintro e w9 ⟨rfl, hE⟩
  have Kmw9 := Lib.hid (hE.blk Kmw8.out id)
  have Kcw9 := Lib.hid (hE.blk Kcw8.out id)
  have Kiw9 := Lib.hid (hE.blk Kiw8.out id)
  have Krw9 := Lib.hid (hE.blk Krw8.out id)
  replace HP := Lib.hid (HP.out.ext hE)
  replace HS := Lib.hid (HS.out.ext hE)
  replace HN7 := Lib.hid (newM_mod HN7.out hE (fun _ _ => id) (fun _ _ => id))
  replace HX := Lib.hid (HX.out.ext hE)
  clear Kmw8
  clear Kcw8
  clear Kiw8
  clear Krw8
  rw [Hla.out]
  clear hE
  have m_0 : w9.cell? ⟨bm, 0, none⟩ = some _ := blk_cell Kmw9.out rfl
  have m_1 : w9.cell? ⟨bm, 1, none⟩ = some _ := blk_cell Kmw9.out rfl
  have m_l : bm < w9.heap.size := (Array.getElem?_eq_some_iff.1 Kmw9.out).1
  have c_0 : w9.cell? ⟨bc, 0, none⟩ = some _ := blk_cell Kcw9.out rfl
  have c_1 : w9.cell? ⟨bc, 1, none⟩ = some _ := blk_cell Kcw9.out rfl
  have c_2 : w9.cell? ⟨bc, 2, none⟩ = some _ := blk_cell Kcw9.out rfl
  have c_3 : w9.cell? ⟨bc, 3, none⟩ = some _ := blk_cell Kcw9.out rfl
  have c_4 : w9.cell? ⟨bc, 4, none⟩ = some _ := blk_cell Kcw9.out rfl
  have c_5 : w9.cell? ⟨bc, 5, none⟩ = some _ := blk_cell Kcw9.out rfl
  have c_6 : w9.cell? ⟨bc, 6, none⟩ = some _ := blk_cell Kcw9.out rfl
  have c_7 : w9.cell? ⟨bc, 7, none⟩ = some _ := blk_cell Kcw9.out rfl
  have c_8 : w9.cell? ⟨bc, 8, none⟩ = some _ := blk_cell Kcw9.out rfl
  have c_9 : w9.cell? ⟨bc, 9, none⟩ = some _ := blk_cell Kcw9.out rfl
  have c_l : bc < w9.heap.size := (Array.getElem?_eq_some_iff.1 Kcw9.out).1
  have i_0 : w9.cell? ⟨bi, 0, none⟩ = some _ := blk_cell Kiw9.out rfl
  have i_1 : w9.cell? ⟨bi, 1, none⟩ = some _ := blk_cell Kiw9.out rfl
  have i_l : bi < w9.heap.size := (Array.getElem?_eq_some_iff.1 Kiw9.out).1
  have r_0 : w9.cell? ⟨br, 0, none⟩ = some _ := blk_cell Krw9.out rfl
  have r_1 : w9.cell? ⟨br, 1, none⟩ = some _ := blk_cell Krw9.out rfl
  have r_2 : w9.cell? ⟨br, 2, none⟩ = some _ := blk_cell Krw9.out rfl
  have r_3 : w9.cell? ⟨br, 3, none⟩ = some _ := blk_cell Krw9.out rfl
  have r_l : br < w9.heap.size := (Array.getElem?_eq_some_iff.1 Krw9.out).1
  go_wp2_with fail
  obtain ⟨w10, hw10⟩ : ∃ w10, w10 = w9.alloc (.cells #[.int .i64 r.code, .int .i64 r.val.kind, .float .f64 r.val.num, .string r.val.text] 38) := ⟨_, rfl⟩
  obtain ⟨bs, hbs⟩ : ∃ bs, bs = w9.heap.size := ⟨_, rfl⟩
  have hzz : w9.heap.size = bs := hbs.symm
  have hE : Ext w9 w10 := by rw [hw10]; exact (Mod.refl _ w9).alloc _
  have hKn : w10.heap[bs]? = some (.cells #[.int .i64 r.code, .int .i64 r.val.kind, .float .f64 r.val.num, .string r.val.text] 38 (0, 0)) := by rw [hw10, ← hzz]; exact heap_alloc_new w9 _
  have hzn : w10.heap.size = bs + 1 := by rw [hw10, ← hzz]; simp
  rw [← hw10, ← hbs]
  have hltms : bm < bs := by have := (Array.getElem?_eq_some_iff.1 Kmw9.out).1; omega
  have hltcs : bc < bs := by have := (Array.getElem?_eq_some_iff.1 Kcw9.out).1; omega
  have hltis : bi < bs := by have := (Array.getElem?_eq_some_iff.1 Kiw9.out).1; omega
  have hltrs : br < bs := by have := (Array.getElem?_eq_some_iff.1 Krw9.out).1; omega
  clear m_0 m_1 m_l c_0 c_1 c_2 c_3 c_4 c_5 c_6 c_7 c_8 c_9 c_l i_0 i_1 i_l r_0 r_1 r_2 r_3 r_l
  have HXo := HX
  have Kmw10 := Lib.hid (hE.blk Kmw9.out id)
  have Kcw10 := Lib.hid (hE.blk Kcw9.out id)
  have Kiw10 := Lib.hid (hE.blk Kiw9.out id)
  have Krw10 := Lib.hid (hE.blk Krw9.out id)
  replace HP := Lib.hid (HP.out.ext hE)
  replace HS := Lib.hid (HS.out.ext hE)
  replace HN7 := Lib.hid (newM_mod HN7.out hE (fun _ _ => id) (fun _ _ => id))
  replace HX := Lib.hid (HX.out.ext hE)
  clear Kmw9
  clear Kcw9
  clear Kiw9
  clear Krw9
  have Ksw10 := Lib.hid hKn
  have hbz : w.heap.size ≤ bs := by have := HXo.out.size; omega
  clear hKn hE hw10 hbs HXo hzz
  have hbs := hbz
  clear hbz
  clear hzn
  have m_0 : w10.cell? ⟨bm, 0, none⟩ = some _ := blk_cell Kmw10.out rfl
  have m_1 : w10.cell? ⟨bm, 1, none⟩ = some _ := blk_cell Kmw10.out rfl
  have m_l : bm < w10.heap.size := (Array.getElem?_eq_some_iff.1 Kmw10.out).1
  have c_0 : w10.cell? ⟨bc, 0, none⟩ = some _ := blk_cell Kcw10.out rfl
  have c_1 : w10.cell? ⟨bc, 1, none⟩ = some _ := blk_cell Kcw10.out rfl
  have c_2 : w10.cell? ⟨bc, 2, none⟩ = some _ := blk_cell Kcw10.out rfl
  have c_3 : w10.cell? ⟨bc, 3, none⟩ = some _ := blk_cell Kcw10.out rfl
  have c_4 : w10.cell? ⟨bc, 4, none⟩ = some _ := blk_cell Kcw10.out rfl
  have c_5 : w10.cell? ⟨bc, 5, none⟩ = some _ := blk_cell Kcw10.out rfl
  have c_6 : w10.cell? ⟨bc, 6, none⟩ = some _ := blk_cell Kcw10.out rfl
  have c_7 : w10.cell? ⟨bc, 7, none⟩ = some _ := blk_cell Kcw10.out rfl
  have c_8 : w10.cell? ⟨bc, 8, none⟩ = some _ := blk_cell Kcw10.out rfl
  have c_9 : w10.cell? ⟨bc, 9, none⟩ = some _ := blk_cell Kcw10.out rfl
  have c_l : bc < w10.heap.size := (Array.getElem?_eq_some_iff.1 Kcw10.out).1
  have i_0 : w10.cell? ⟨bi, 0, none⟩ = some _ := blk_cell Kiw10.out rfl
  have i_1 : w10.cell? ⟨bi, 1, none⟩ = some _ := blk_cell Kiw10.out rfl
  have i_l : bi < w10.heap.size := (Array.getElem?_eq_some_iff.1 Kiw10.out).1
  have r_0 : w10.cell? ⟨br, 0, none⟩ = some _ := blk_cell Krw10.out rfl
  have r_1 : w10.cell? ⟨br, 1, none⟩ = some _ := blk_cell Krw10.out rfl
  have r_2 : w10.cell? ⟨br, 2, none⟩ = some _ := blk_cell Krw10.out rfl
  have r_3 : w10.cell? ⟨br, 3, none⟩ = some _ := blk_cell Krw10.out rfl
  have r_l : br < w10.heap.size := (Array.getElem?_eq_some_iff.1 Krw10.out).1
  have s_0 : w10.cell? ⟨bs, 0, none⟩ = some _ := blk_cell Ksw10.out rfl
  have s_1 : w10.cell? ⟨bs, 1, none⟩ = some _ := blk_cell Ksw10.out rfl
  have s_2 : w10.cell? ⟨bs, 2, none⟩ = some _ := blk_cell Ksw10.out rfl
  have s_3 : w10.cell? ⟨bs, 3, none⟩ = some _ := blk_cell Ksw10.out rfl
  have s_l : bs < w10.heap.size := (Array.getElem?_eq_some_iff.1 Ksw10.out).1
  refine wp_region_held_drew (S := fun W' => Ext w10 W') (by kernel_rfl) (Mod.refl _ w10).drew (fun hS => ?_)
  refine takeH (i := 0) (v := ?_) (some 35) rfl rfl (by kernel_rfl) (by kernel_rfl) (by kernel_rfl) (fun _ _ _ h => h) (Or.inl ⟨by kernel_rfl, ?_⟩) hS ?_
  rotate_left
  · rintro W' hW'
    obtain ⟨hbc, hbf⟩ := bcell hW'
    go_simp
    try with_reducible rfl
  try simp only [pL]
  refine takeH (i := 3) (v := ?_) (some 38) rfl rfl (by kernel_rfl) (by kernel_rfl) (by kernel_rfl) (fun _ _ _ h => h) (Or.inl ⟨by kernel_rfl, ?_⟩) hS ?_
  rotate_left
  · rintro W' hW'
    obtain ⟨hbc, hbf⟩ := bcell hW'
    go_simp
    try with_reducible rfl
  try simp only [pL]
  refine wpAnyH_ready (rs := [1]) (by kernel_rfl) (by simp) ?_
  refine AllReadyH.cons rfl (fun K hK => ?_) AllReadyH.nil
  go_simp
  go_wp2_with fail
  refine (s_check _ _ _ _ _ p l (HN7.out.prs.ext hS) (HN7.out.ses.ext hS)).mono ?_
  rintro e w11 ⟨rfl, hE⟩
  rw [chkM_bad Hp.out]
  have hX := Mod.ext hS hE
  clear hE hS
  go_simp
  refine hK.out _ _ hX (fun hS => ?_)
  clear hK K hX
  refine takeH (i := 2) (v := ?_) (some 37) rfl rfl (by kernel_rfl) (by kernel_rfl) (by kernel_rfl) (fun _ _ _ h => h) (Or.inl ⟨by kernel_rfl, ?_⟩) hS ?_
  rotate_left
  · rintro W' hW'
    obtain ⟨hbc, hbf⟩ := bcell hW'
    go_simp
    try with_reducible rfl
  try simp only [pL]
  refine wpAnyH_ready (rs := [4]) (by kernel_rfl) (by simp) ?_
  refine AllReadyH.cons rfl (fun K hK => ?_) AllReadyH.nil
  go_simp
  go_wp2_with fail
  refine (r_machine _ _ _ _ _ p l (HP.out.ext hS) (HS.out.ext hS)).mono ?_
  rintro e w12 ⟨rfl, hE⟩
  rw [Hp.out]
  have hX := Mod.ext hS hE
  clear hE hS
  go_simp
  refine hK.out _ _ hX (fun hS => ?_)
  clear hK K hX
  refine takeH (i := 5) (v := ?_) (some 40) rfl rfl (by kernel_rfl) (by kernel_rfl) (by kernel_rfl) (fun _ _ _ h => h) (Or.inl ⟨by kernel_rfl, ?_⟩) hS ?_
  rotate_left
  · rintro W' hW'
    obtain ⟨hbc, hbf⟩ := bcell hW'
    go_simp
    try with_reducible rfl
  try simp only [pL]
  refine takeH (i := 6) (v := ?_) (some 41) rfl rfl (by kernel_rfl) (by kernel_rfl) (by kernel_rfl) (fun _ _ _ h => h) (Or.inl ⟨by kernel_rfl, ?_⟩) hS ?_
  rotate_left
  · rintro W' hW'
    obtain ⟨hbc, hbf⟩ := bcell hW'
    go_simp
    try with_reducible rfl
  try simp only [pL]
  refine takeH (i := 7) (v := ?_) (some 42) rfl rfl (by kernel_rfl) (by kernel_rfl) (by kernel_rfl) (fun _ _ _ h => h) (Or.inl ⟨by kernel_rfl, ?_⟩) hS ?_
  rotate_left
  · rintro W' hW'
    obtain ⟨hbc, hbf⟩ := bcell hW'
    go_simp
    try with_reducible rfl
  try simp only [pL]
  refine takeH (i := 9) (v := ?_) (some 44) rfl rfl (by kernel_rfl) (by kernel_rfl) (by kernel_rfl) (fun _ _ _ h => h) (Or.inl ⟨by kernel_rfl, ?_⟩) hS ?_
  rotate_left
  · rintro W' hW'
    obtain ⟨hbc, hbf⟩ := bcell hW'
    go_simp
    try with_reducible rfl
  try simp only [pL]
  refine wpAnyH_ready (rs := [8]) (by kernel_rfl) (by simp) ?_
  refine AllReadyH.cons rfl (fun K hK => ?_) AllReadyH.nil
  go_simp
  go_wp2_with fail
  refine (s_right c _).mono ?_
  rintro e w13 ⟨rfl, hE⟩
  have hX := Mod.ext hS hE
  clear hE hS
  go_simp
  refine hK.out _ _ hX (fun hS => ?_)
  clear hK K hX
  refine wpAnyH_ready (rs := [10]) (by kernel_rfl) (by simp) ?_
  refine AllReadyH.cons rfl (fun K hK => ?_) AllReadyH.nil
  go_simp
  go_wp2_with fail
  refine (r_call c _).mono ?_
  rintro e w14 ⟨rfl, hE⟩
  have hX := Mod.ext hS hE
  clear hE hS
  go_simp
  refine hK.out _ _ hX (fun hS => ?_)
  clear hK K hX
  refine takeH (i := 11) (v := ?_) (some 46) rfl rfl (by kernel_rfl) (by kernel_rfl) (by kernel_rfl) (fun _ _ _ h => h) (Or.inl ⟨by kernel_rfl, ?_⟩) hS ?_
  rotate_left
  · rintro W' hW'
    obtain ⟨hbc, hbf⟩ := bcell hW'
    go_simp
    try with_reducible rfl
  try simp only [pL]
  refine takeH (i := 12) (v := ?_) (some 47) rfl rfl (by kernel_rfl) (by kernel_rfl) (by kernel_rfl) (fun _ _ _ h => h) (Or.inl ⟨by kernel_rfl, ?_⟩) hS ?_
  rotate_left
  · rintro W' hW'
    obtain ⟨hbc, hbf⟩ := bcell hW'
    go_simp
    try with_reducible rfl
  try simp only [pL]
  refine takeH (i := 13) (v := ?_) (some 48) rfl rfl (by kernel_rfl) (by kernel_rfl) (by kernel_rfl) (fun _ _ _ h => h) (Or.inl ⟨by kernel_rfl, ?_⟩) hS ?_
  rotate_left
  · rintro W' hW'
    obtain ⟨hbc, hbf⟩ := bcell hW'
    go_simp
    try with_reducible rfl
  try simp only [pL]
  refine takeH (i := 14) (v := ?_) (some 49) rfl rfl (by kernel_rfl) (by kernel_rfl) (by kernel_rfl) (fun _ _ _ h => h) (Or.inl ⟨by kernel_rfl, ?_⟩) hS ?_
  rotate_left
  · rintro W' hW'
    obtain ⟨hbc, hbf⟩ := bcell hW'
    go_simp
    try with_reducible rfl
  try simp only [pL]
  refine takeH (i := 15) (v := ?_) (some 50) rfl rfl (by kernel_rfl) (by kernel_rfl) (by kernel_rfl) (fun _ _ _ h => h) (Or.inl ⟨by kernel_rfl, ?_⟩) hS ?_
  rotate_left
  · rintro W' hW'
    obtain ⟨hbc, hbf⟩ := bcell hW'
    go_simp
    try with_reducible rfl
  try simp only [pL]
  refine takeH (i := 16) (v := ?_) (some 51) rfl rfl (by kernel_rfl) (by kernel_rfl) (by kernel_rfl) (fun _ _ _ h => h) (Or.inl ⟨by kernel_rfl, ?_⟩) hS ?_
  rotate_left
  · rintro W' hW'
    obtain ⟨hbc, hbf⟩ := bcell hW'
    go_simp
    try with_reducible rfl
  try simp only [pL]
  refine takeH (i := 17) (v := ?_) (some 52) rfl rfl (by kernel_rfl) (by kernel_rfl) (by kernel_rfl) (fun _ _ _ h => h) (Or.inl ⟨by kernel_rfl, ?_⟩) hS ?_
  rotate_left
  · rintro W' hW'
    obtain ⟨hbc, hbf⟩ := bcell hW'
    go_simp
    try with_reducible rfl
  try simp only [pL]
  refine takeH (i := 18) (v := ?_) (some 53) rfl rfl (by kernel_rfl) (by kernel_rfl) (by kernel_rfl) (fun _ _ _ h => h) (Or.inl ⟨by kernel_rfl, ?_⟩) hS ?_
  rotate_left
  · rintro W' hW'
    obtain ⟨hbc, hbf⟩ := bcell hW'
    go_simp
    try with_reducible rfl
  try simp only [pL]
  refine takeH (i := 19) (v := ?_) (some 54) rfl rfl (by kernel_rfl) (by kernel_rfl) (by kernel_rfl) (fun _ _ _ h => h) (Or.inl ⟨by kernel_rfl, ?_⟩) hS ?_
  rotate_left
  · rintro W' hW'
    obtain ⟨hbc, hbf⟩ := bcell hW'
    go_simp
    try with_reducible rfl
  try simp only [pL]
  refine takeH (i := 20) (v := ?_) (some 55) rfl rfl (by kernel_rfl) (by kernel_rfl) (by kernel_rfl) (fun _ _ _ h => h) (Or.inl ⟨by kernel_rfl, ?_⟩) hS ?_
  rotate_left
  · rintro W' hW'
    obtain ⟨hbc, hbf⟩ := bcell hW'
    go_simp
    try with_reducible rfl
  try simp only [pL]
  refine wpAnyH_ready (rs := [21]) (by kernel_rfl) (by simp) ?_
  refine AllReadyH.cons rfl (fun K hK => ?_) AllReadyH.nil
  go_simp
  go_wp2_with fail
  refine (k_reply r r _).mono ?_
  rintro e w15 ⟨rfl, hE⟩
  rw [eqReply_refl]
  have hX := Mod.ext hS hE
  clear hE hS
  go_simp
  refine hK.out _ _ hX (fun hS => ?_)
  clear hK K hX
  refine takeH (i := 22) (v := ?_) (some 57) rfl rfl (by kernel_rfl) (by kernel_rfl) (by kernel_rfl) (fun _ _ _ h => h) (Or.inl ⟨by kernel_rfl, ?_⟩) hS ?_
  rotate_left
  · rintro W' hW'
    obtain ⟨hbc, hbf⟩ := bcell hW'
    go_simp
    try with_reducible rfl
  try simp only [pL]
  refine takeH (i := 23) (v := ?_) (some 58) rfl rfl (by kernel_rfl) (by kernel_rfl) (by kernel_rfl) (fun _ _ _ h => h) (Or.inl ⟨by kernel_rfl, ?_⟩) hS ?_
  rotate_left
  · rintro W' hW'
    obtain ⟨hbc, hbf⟩ := bcell hW'
    go_simp
    try with_reducible rfl
  try simp only [pL]
  refine wpAnyH_done (by kernel_rfl) ?_ _
  have hE := hS
  clear hS
  clear m_0 m_1 m_l c_0 c_1 c_2 c_3 c_4 c_5 c_6 c_7 c_8 c_9 c_l i_0 i_1 i_l r_0 r_1 r_2 r_3 r_l s_0 s_1 s_2 s_3 s_l
  have Kmw15 := Lib.hid (hE.blk Kmw10.out id)
  have Kcw15 := Lib.hid (hE.blk Kcw10.out id)
  have Kiw15 := Lib.hid (hE.blk Kiw10.out id)
  have Krw15 := Lib.hid (hE.blk Krw10.out id)
  have Ksw15 := Lib.hid (hE.blk Ksw10.out id)
  replace HP := Lib.hid (HP.out.ext hE)
  replace HS := Lib.hid (HS.out.ext hE)
  replace HN7 := Lib.hid (newM_mod HN7.out hE (fun _ _ => id) (fun _ _ => id))
  replace HX := Lib.hid (HX.out.ext hE)
  clear Kmw10
  clear Kcw10
  clear Kiw10
  clear Krw10
  clear Ksw10
  clear hE
  have m_0 : w15.cell? ⟨bm, 0, none⟩ = some _ := blk_cell Kmw15.out rfl
  have m_1 : w15.cell? ⟨bm, 1, none⟩ = some _ := blk_cell Kmw15.out rfl
  have m_l : bm < w15.heap.size := (Array.getElem?_eq_some_iff.1 Kmw15.out).1
  have c_0 : w15.cell? ⟨bc, 0, none⟩ = some _ := blk_cell Kcw15.out rfl
  have c_1 : w15.cell? ⟨bc, 1, none⟩ = some _ := blk_cell Kcw15.out rfl
  have c_2 : w15.cell? ⟨bc, 2, none⟩ = some _ := blk_cell Kcw15.out rfl
  have c_3 : w15.cell? ⟨bc, 3, none⟩ = some _ := blk_cell Kcw15.out rfl
  have c_4 : w15.cell? ⟨bc, 4, none⟩ = some _ := blk_cell Kcw15.out rfl
  have c_5 : w15.cell? ⟨bc, 5, none⟩ = some _ := blk_cell Kcw15.out rfl
  have c_6 : w15.cell? ⟨bc, 6, none⟩ = some _ := blk_cell Kcw15.out rfl
  have c_7 : w15.cell? ⟨bc, 7, none⟩ = some _ := blk_cell Kcw15.out rfl
  have c_8 : w15.cell? ⟨bc, 8, none⟩ = some _ := blk_cell Kcw15.out rfl
  have c_9 : w15.cell? ⟨bc, 9, none⟩ = some _ := blk_cell Kcw15.out rfl
  have c_l : bc < w15.heap.size := (Array.getElem?_eq_some_iff.1 Kcw15.out).1
  have i_0 : w15.cell? ⟨bi, 0, none⟩ = some _ := blk_cell Kiw15.out rfl
  have i_1 : w15.cell? ⟨bi, 1, none⟩ = some _ := blk_cell Kiw15.out rfl
  have i_l : bi < w15.heap.size := (Array.getElem?_eq_some_iff.1 Kiw15.out).1
  have r_0 : w15.cell? ⟨br, 0, none⟩ = some _ := blk_cell Krw15.out rfl
  have r_1 : w15.cell? ⟨br, 1, none⟩ = some _ := blk_cell Krw15.out rfl
  have r_2 : w15.cell? ⟨br, 2, none⟩ = some _ := blk_cell Krw15.out rfl
  have r_3 : w15.cell? ⟨br, 3, none⟩ = some _ := blk_cell Krw15.out rfl
  have r_l : br < w15.heap.size := (Array.getElem?_eq_some_iff.1 Krw15.out).1
  have s_0 : w15.cell? ⟨bs, 0, none⟩ = some _ := blk_cell Ksw15.out rfl
  have s_1 : w15.cell? ⟨bs, 1, none⟩ = some _ := blk_cell Ksw15.out rfl
  have s_2 : w15.cell? ⟨bs, 2, none⟩ = some _ := blk_cell Ksw15.out rfl
  have s_3 : w15.cell? ⟨bs, 3, none⟩ = some _ := blk_cell Ksw15.out rfl
  have s_l : bs < w15.heap.size := (Array.getElem?_eq_some_iff.1 Ksw15.out).1
  go_wp2_with fail
  have hso := HX.out.size
  have hlo := HN7.out.1.1.lt
  have hlo2 := HN7.out.2.1.1.lt
  rcases hq : onceP ⟨p, l⟩ c with ⟨M, q⟩
  refine (s_do_at w15 _ _ _ _ ⟨p, l⟩ c (HN7.out.prs) (HN7.out.ses) (hlen) hc.2.2.2.2.2 hq).mono ?_
  rintro e w16 ⟨p1, v1, rfl, hN, hE⟩
  clear m_0 m_1 m_l c_0 c_1 c_2 c_3 c_4 c_5 c_6 c_7 c_8 c_9 c_l i_0 i_1 i_l r_0 r_1 r_2 r_3 r_l s_0 s_1 s_2 s_3 s_l
  have Kmw16 := Lib.hid (hE.blk Kmw15.out id)
  have Kcw16 := Lib.hid (hE.blk Kcw15.out id)
  have Kiw16 := Lib.hid (hE.blk Kiw15.out id)
  have Krw16 := Lib.hid (hE.blk Krw15.out id)
  have Ksw16 := Lib.hid (hE.blk Ksw15.out id)
  replace HP := Lib.hid (HP.out.ext hE)
  replace HS := Lib.hid (HS.out.ext hE)
  replace HN7 := Lib.hid (newM_mod HN7.out hE (fun _ _ => id) (fun _ _ => id))
  replace HX := Lib.hid (HX.out.ext hE)
  clear Kmw15
  clear Kcw15
  clear Kiw15
  clear Krw15
  clear Ksw15
  obtain ⟨A1, c1, rfl⟩ := own_form hN.1.1
  obtain ⟨B1, d1, rfl⟩ := own_form hN.2.1.1
  have Hfar : Hid (∀ g, ((Value.slice A1 M.pairs.length c1).ownBlock = some g ∨ (Value.slice B1 M.sess.length d1).ownBlock = some g) → (∀ h, ((Value.slice A7 p.length c7).ownBlock = some h ∨ (Value.slice B7 l.length d7).ownBlock = some h) → h < g) ∧ w.heap.size ≤ g) := Lib.hid (fun g hg => by
    have h1 : w15.heap.size ≤ g := by
      rcases hg with e | e
      · exact hN.1.2.2 g e
      · exact hN.2.1.2.2 g e
    refine ⟨fun h hh => ?_, by omega⟩
    rcases hh with e | e
    · have := (hlo h e).2; omega
    · have := (hlo2 h e).2; omega)
  clear hlo hlo2
  have HN1 := Lib.hid (newM_up hN hso)
  clear hN hso
  have HEq := Lib.hid hq
  clear hq
  clear hE
  have m_0 : w16.cell? ⟨bm, 0, none⟩ = some _ := blk_cell Kmw16.out rfl
  have m_1 : w16.cell? ⟨bm, 1, none⟩ = some _ := blk_cell Kmw16.out rfl
  have m_l : bm < w16.heap.size := (Array.getElem?_eq_some_iff.1 Kmw16.out).1
  have c_0 : w16.cell? ⟨bc, 0, none⟩ = some _ := blk_cell Kcw16.out rfl
  have c_1 : w16.cell? ⟨bc, 1, none⟩ = some _ := blk_cell Kcw16.out rfl
  have c_2 : w16.cell? ⟨bc, 2, none⟩ = some _ := blk_cell Kcw16.out rfl
  have c_3 : w16.cell? ⟨bc, 3, none⟩ = some _ := blk_cell Kcw16.out rfl
  have c_4 : w16.cell? ⟨bc, 4, none⟩ = some _ := blk_cell Kcw16.out rfl
  have c_5 : w16.cell? ⟨bc, 5, none⟩ = some _ := blk_cell Kcw16.out rfl
  have c_6 : w16.cell? ⟨bc, 6, none⟩ = some _ := blk_cell Kcw16.out rfl
  have c_7 : w16.cell? ⟨bc, 7, none⟩ = some _ := blk_cell Kcw16.out rfl
  have c_8 : w16.cell? ⟨bc, 8, none⟩ = some _ := blk_cell Kcw16.out rfl
  have c_9 : w16.cell? ⟨bc, 9, none⟩ = some _ := blk_cell Kcw16.out rfl
  have c_l : bc < w16.heap.size := (Array.getElem?_eq_some_iff.1 Kcw16.out).1
  have i_0 : w16.cell? ⟨bi, 0, none⟩ = some _ := blk_cell Kiw16.out rfl
  have i_1 : w16.cell? ⟨bi, 1, none⟩ = some _ := blk_cell Kiw16.out rfl
  have i_l : bi < w16.heap.size := (Array.getElem?_eq_some_iff.1 Kiw16.out).1
  have r_0 : w16.cell? ⟨br, 0, none⟩ = some _ := blk_cell Krw16.out rfl
  have r_1 : w16.cell? ⟨br, 1, none⟩ = some _ := blk_cell Krw16.out rfl
  have r_2 : w16.cell? ⟨br, 2, none⟩ = some _ := blk_cell Krw16.out rfl
  have r_3 : w16.cell? ⟨br, 3, none⟩ = some _ := blk_cell Krw16.out rfl
  have r_l : br < w16.heap.size := (Array.getElem?_eq_some_iff.1 Krw16.out).1
  have s_0 : w16.cell? ⟨bs, 0, none⟩ = some _ := blk_cell Ksw16.out rfl
  have s_1 : w16.cell? ⟨bs, 1, none⟩ = some _ := blk_cell Ksw16.out rfl
  have s_2 : w16.cell? ⟨bs, 2, none⟩ = some _ := blk_cell Ksw16.out rfl
  have s_3 : w16.cell? ⟨bs, 3, none⟩ = some _ := blk_cell Ksw16.out rfl
  have s_l : bs < w16.heap.size := (Array.getElem?_eq_some_iff.1 Ksw16.out).1
  have fz0 := blk_free 0 Krw16.out
  have fz1 := blk_free 1 Krw16.out
  have fz2 := blk_free 2 Krw16.out
  have fz3 := blk_free 3 Krw16.out
  go_wp2_with fail
  clear m_0 m_1 m_l c_0 c_1 c_2 c_3 c_4 c_5 c_6 c_7 c_8 c_9 c_l i_0 i_1 i_l r_0 r_1 r_2 r_3 r_l s_0 s_1 s_2 s_3 s_l
  clear fz0 fz1 fz2 fz3
  obtain ⟨w17, hw17⟩ : ∃ w17, ((((w16.setCell ⟨br, 0, none⟩ (.int .i64 q.code)).setCell ⟨br, 1, none⟩ (.int .i64 q.val.kind)).setCell ⟨br, 2, none⟩ (.float .f64 q.val.num)).setCell ⟨br, 3, none⟩ (.string q.val.text)) = w17 := ⟨_, rfl⟩
  have hKn : w17.heap[br]? = some (.cells #[.int .i64 q.code, .int .i64 q.val.kind, .float .f64 q.val.num, .string q.val.text] 38 (0, 0)) := by
    rw [← hw17]
    have := Krw16.out
    simp [World.setCell, Array.getElem?_modify, this]
  have hM : Mod (fun k => k = br) w16 w17 := by rw [← hw17]; exact mod_same (mod_same (mod_same (mod_same (Mod.refl _ _) _ _) _ _) _ _) _ _
  rw [hw17]
  have hsz : w16.heap.size = w17.heap.size := by rw [← hw17]; simp [World.setCell]
  rw [hsz]
  clear hsz
  have Kmw17 := Lib.hid (hM.blk Kmw16.out (by omega))
  have Kcw17 := Lib.hid (hM.blk Kcw16.out (by omega))
  have Kiw17 := Lib.hid (hM.blk Kiw16.out (by omega))
  have Krw17 := Lib.hid hKn
  have Ksw17 := Lib.hid (hM.blk Ksw16.out (by omega))
  replace HP := Lib.hid (HP.out.mod hM (fun g hg e => by have := HU.out g hg; have := hbr; omega))
  replace HS := Lib.hid (HS.out.mod hM (fun g hg e => by have := HT.out g hg; have := hbr; omega))
  replace HN7 := Lib.hid (newM_box HN7.out Krw16.out hM (by decide) (by decide))
  replace HN1 := Lib.hid (newM_box HN1.out Krw16.out hM (by decide) (by decide))
  replace HX : Hid (Ext w w17) := Lib.hid (Mod.toExt ((Ext.mod HX.out (Since w.heap.size)).trans hM (fun k _ e => by rw [e]; exact hbr)))
  clear hKn hM hw17
  clear Kmw16
  clear Kcw16
  clear Kiw16
  clear Krw16
  clear Ksw16
  obtain ⟨w18, hw18⟩ : ∃ w18, w18 = w17.alloc (.cells #[.slice A1 M.pairs.length c1, .slice B1 M.sess.length d1] 25) := ⟨_, rfl⟩
  obtain ⟨bx, hbx⟩ : ∃ bx, bx = w17.heap.size := ⟨_, rfl⟩
  have hzz : w17.heap.size = bx := hbx.symm
  have hE : Ext w17 w18 := by rw [hw18]; exact (Mod.refl _ w17).alloc _
  have hKn : w18.heap[bx]? = some (.cells #[.slice A1 M.pairs.length c1, .slice B1 M.sess.length d1] 25 (0, 0)) := by rw [hw18, ← hzz]; exact heap_alloc_new w17 _
  have hzn : w18.heap.size = bx + 1 := by rw [hw18, ← hzz]; simp
  rw [← hw18, ← hbx]
  have hltmx : bm < bx := by have := (Array.getElem?_eq_some_iff.1 Kmw17.out).1; omega
  have hltcx : bc < bx := by have := (Array.getElem?_eq_some_iff.1 Kcw17.out).1; omega
  have hltix : bi < bx := by have := (Array.getElem?_eq_some_iff.1 Kiw17.out).1; omega
  have hltrx : br < bx := by have := (Array.getElem?_eq_some_iff.1 Krw17.out).1; omega
  have hltsx : bs < bx := by have := (Array.getElem?_eq_some_iff.1 Ksw17.out).1; omega
  have HXo := HX
  have Kmw18 := Lib.hid (hE.blk Kmw17.out id)
  have Kcw18 := Lib.hid (hE.blk Kcw17.out id)
  have Kiw18 := Lib.hid (hE.blk Kiw17.out id)
  have Krw18 := Lib.hid (hE.blk Krw17.out id)
  have Ksw18 := Lib.hid (hE.blk Ksw17.out id)
  replace HP := Lib.hid (HP.out.ext hE)
  replace HS := Lib.hid (HS.out.ext hE)
  replace HN7 := Lib.hid (newM_mod HN7.out hE (fun _ _ => id) (fun _ _ => id))
  replace HN1 := Lib.hid (newM_mod HN1.out hE (fun _ _ => id) (fun _ _ => id))
  replace HX := Lib.hid (HX.out.ext hE)
  clear Kmw17
  clear Kcw17
  clear Kiw17
  clear Krw17
  clear Ksw17
  have Kxw18 := Lib.hid hKn
  have hbz : w.heap.size ≤ bx := by have := HXo.out.size; omega
  clear hKn hE hw18 hbx HXo hzz
  have hbx := hbz
  clear hbz
  clear hzn
  have m_0 : w18.cell? ⟨bm, 0, none⟩ = some _ := blk_cell Kmw18.out rfl
  have m_1 : w18.cell? ⟨bm, 1, none⟩ = some _ := blk_cell Kmw18.out rfl
  have m_l : bm < w18.heap.size := (Array.getElem?_eq_some_iff.1 Kmw18.out).1
  have c_0 : w18.cell? ⟨bc, 0, none⟩ = some _ := blk_cell Kcw18.out rfl
  have c_1 : w18.cell? ⟨bc, 1, none⟩ = some _ := blk_cell Kcw18.out rfl
  have c_2 : w18.cell? ⟨bc, 2, none⟩ = some _ := blk_cell Kcw18.out rfl
  have c_3 : w18.cell? ⟨bc, 3, none⟩ = some _ := blk_cell Kcw18.out rfl
  have c_4 : w18.cell? ⟨bc, 4, none⟩ = some _ := blk_cell Kcw18.out rfl
  have c_5 : w18.cell? ⟨bc, 5, none⟩ = some _ := blk_cell Kcw18.out rfl
  have c_6 : w18.cell? ⟨bc, 6, none⟩ = some _ := blk_cell Kcw18.out rfl
  have c_7 : w18.cell? ⟨bc, 7, none⟩ = some _ := blk_cell Kcw18.out rfl
  have c_8 : w18.cell? ⟨bc, 8, none⟩ = some _ := blk_cell Kcw18.out rfl
  have c_9 : w18.cell? ⟨bc, 9, none⟩ = some _ := blk_cell Kcw18.out rfl
  have c_l : bc < w18.heap.size := (Array.getElem?_eq_some_iff.1 Kcw18.out).1
  have i_0 : w18.cell? ⟨bi, 0, none⟩ = some _ := blk_cell Kiw18.out rfl
  have i_1 : w18.cell? ⟨bi, 1, none⟩ = some _ := blk_cell Kiw18.out rfl
  have i_l : bi < w18.heap.size := (Array.getElem?_eq_some_iff.1 Kiw18.out).1
  have r_0 : w18.cell? ⟨br, 0, none⟩ = some _ := blk_cell Krw18.out rfl
  have r_1 : w18.cell? ⟨br, 1, none⟩ = some _ := blk_cell Krw18.out rfl
  have r_2 : w18.cell? ⟨br, 2, none⟩ = some _ := blk_cell Krw18.out rfl
  have r_3 : w18.cell? ⟨br, 3, none⟩ = some _ := blk_cell Krw18.out rfl
  have r_l : br < w18.heap.size := (Array.getElem?_eq_some_iff.1 Krw18.out).1
  have s_0 : w18.cell? ⟨bs, 0, none⟩ = some _ := blk_cell Ksw18.out rfl
  have s_1 : w18.cell? ⟨bs, 1, none⟩ = some _ := blk_cell Ksw18.out rfl
  have s_2 : w18.cell? ⟨bs, 2, none⟩ = some _ := blk_cell Ksw18.out rfl
  have s_3 : w18.cell? ⟨bs, 3, none⟩ = some _ := blk_cell Ksw18.out rfl
  have s_l : bs < w18.heap.size := (Array.getElem?_eq_some_iff.1 Ksw18.out).1
  have x_0 : w18.cell? ⟨bx, 0, none⟩ = some _ := blk_cell Kxw18.out rfl
  have x_1 : w18.cell? ⟨bx, 1, none⟩ = some _ := blk_cell Kxw18.out rfl
  have x_l : bx < w18.heap.size := (Array.getElem?_eq_some_iff.1 Kxw18.out).1
  go_wp2_with fail
  have hso := HX.out.size
  refine (r_once_at w18 _ _ _ _ ⟨p, l⟩ c (HP.out) (HS.out) (hlen) hc.2.2.2.2.2 HEq.out).mono ?_
  rintro e w19 ⟨p2, v2, rfl, hN, hE⟩
  clear m_0 m_1 m_l c_0 c_1 c_2 c_3 c_4 c_5 c_6 c_7 c_8 c_9 c_l i_0 i_1 i_l r_0 r_1 r_2 r_3 r_l s_0 s_1 s_2 s_3 s_l x_0 x_1 x_l
  have Kmw19 := Lib.hid (hE.blk Kmw18.out id)
  have Kcw19 := Lib.hid (hE.blk Kcw18.out id)
  have Kiw19 := Lib.hid (hE.blk Kiw18.out id)
  have Krw19 := Lib.hid (hE.blk Krw18.out id)
  have Ksw19 := Lib.hid (hE.blk Ksw18.out id)
  have Kxw19 := Lib.hid (hE.blk Kxw18.out id)
  replace HP := Lib.hid (HP.out.ext hE)
  replace HS := Lib.hid (HS.out.ext hE)
  replace HN7 := Lib.hid (newM_mod HN7.out hE (fun _ _ => id) (fun _ _ => id))
  replace HN1 := Lib.hid (newM_mod HN1.out hE (fun _ _ => id) (fun _ _ => id))
  replace HX := Lib.hid (HX.out.ext hE)
  clear Kmw18
  clear Kcw18
  clear Kiw18
  clear Krw18
  clear Ksw18
  clear Kxw18
  obtain ⟨A2, c2, rfl⟩ := own_form hN.1.1
  obtain ⟨B2, d2, rfl⟩ := own_form hN.2.1.1
  have HN2 := Lib.hid (newM_up hN hso)
  clear hN hso
  clear hE
  have m_0 : w19.cell? ⟨bm, 0, none⟩ = some _ := blk_cell Kmw19.out rfl
  have m_1 : w19.cell? ⟨bm, 1, none⟩ = some _ := blk_cell Kmw19.out rfl
  have m_l : bm < w19.heap.size := (Array.getElem?_eq_some_iff.1 Kmw19.out).1
  have c_0 : w19.cell? ⟨bc, 0, none⟩ = some _ := blk_cell Kcw19.out rfl
  have c_1 : w19.cell? ⟨bc, 1, none⟩ = some _ := blk_cell Kcw19.out rfl
  have c_2 : w19.cell? ⟨bc, 2, none⟩ = some _ := blk_cell Kcw19.out rfl
  have c_3 : w19.cell? ⟨bc, 3, none⟩ = some _ := blk_cell Kcw19.out rfl
  have c_4 : w19.cell? ⟨bc, 4, none⟩ = some _ := blk_cell Kcw19.out rfl
  have c_5 : w19.cell? ⟨bc, 5, none⟩ = some _ := blk_cell Kcw19.out rfl
  have c_6 : w19.cell? ⟨bc, 6, none⟩ = some _ := blk_cell Kcw19.out rfl
  have c_7 : w19.cell? ⟨bc, 7, none⟩ = some _ := blk_cell Kcw19.out rfl
  have c_8 : w19.cell? ⟨bc, 8, none⟩ = some _ := blk_cell Kcw19.out rfl
  have c_9 : w19.cell? ⟨bc, 9, none⟩ = some _ := blk_cell Kcw19.out rfl
  have c_l : bc < w19.heap.size := (Array.getElem?_eq_some_iff.1 Kcw19.out).1
  have i_0 : w19.cell? ⟨bi, 0, none⟩ = some _ := blk_cell Kiw19.out rfl
  have i_1 : w19.cell? ⟨bi, 1, none⟩ = some _ := blk_cell Kiw19.out rfl
  have i_l : bi < w19.heap.size := (Array.getElem?_eq_some_iff.1 Kiw19.out).1
  have r_0 : w19.cell? ⟨br, 0, none⟩ = some _ := blk_cell Krw19.out rfl
  have r_1 : w19.cell? ⟨br, 1, none⟩ = some _ := blk_cell Krw19.out rfl
  have r_2 : w19.cell? ⟨br, 2, none⟩ = some _ := blk_cell Krw19.out rfl
  have r_3 : w19.cell? ⟨br, 3, none⟩ = some _ := blk_cell Krw19.out rfl
  have r_l : br < w19.heap.size := (Array.getElem?_eq_some_iff.1 Krw19.out).1
  have s_0 : w19.cell? ⟨bs, 0, none⟩ = some _ := blk_cell Ksw19.out rfl
  have s_1 : w19.cell? ⟨bs, 1, none⟩ = some _ := blk_cell Ksw19.out rfl
  have s_2 : w19.cell? ⟨bs, 2, none⟩ = some _ := blk_cell Ksw19.out rfl
  have s_3 : w19.cell? ⟨bs, 3, none⟩ = some _ := blk_cell Ksw19.out rfl
  have s_l : bs < w19.heap.size := (Array.getElem?_eq_some_iff.1 Ksw19.out).1
  have x_0 : w19.cell? ⟨bx, 0, none⟩ = some _ := blk_cell Kxw19.out rfl
  have x_1 : w19.cell? ⟨bx, 1, none⟩ = some _ := blk_cell Kxw19.out rfl
  have x_l : bx < w19.heap.size := (Array.getElem?_eq_some_iff.1 Kxw19.out).1
  have fz0 := blk_free 0 Ksw19.out
  have fz1 := blk_free 1 Ksw19.out
  have fz2 := blk_free 2 Ksw19.out
  have fz3 := blk_free 3 Ksw19.out
  go_wp2_with fail
  clear m_0 m_1 m_l c_0 c_1 c_2 c_3 c_4 c_5 c_6 c_7 c_8 c_9 c_l i_0 i_1 i_l r_0 r_1 r_2 r_3 r_l s_0 s_1 s_2 s_3 s_l x_0 x_1 x_l
  clear fz0 fz1 fz2 fz3
  obtain ⟨w20, hw20⟩ : ∃ w20, ((((w19.setCell ⟨bs, 0, none⟩ (.int .i64 q.code)).setCell ⟨bs, 1, none⟩ (.int .i64 q.val.kind)).setCell ⟨bs, 2, none⟩ (.float .f64 q.val.num)).setCell ⟨bs, 3, none⟩ (.string q.val.text)) = w20 := ⟨_, rfl⟩
  have hKn : w20.heap[bs]? = some (.cells #[.int .i64 q.code, .int .i64 q.val.kind, .float .f64 q.val.num, .string q.val.text] 38 (0, 0)) := by
    rw [← hw20]
    have := Ksw19.out
    simp [World.setCell, Array.getElem?_modify, this]
  have hM : Mod (fun k => k = bs) w19 w20 := by rw [← hw20]; exact mod_same (mod_same (mod_same (mod_same (Mod.refl _ _) _ _) _ _) _ _) _ _
  rw [hw20]
  have hsz : w19.heap.size = w20.heap.size := by rw [← hw20]; simp [World.setCell]
  rw [hsz]
  clear hsz
  have Kmw20 := Lib.hid (hM.blk Kmw19.out (by omega))
  have Kcw20 := Lib.hid (hM.blk Kcw19.out (by omega))
  have Kiw20 := Lib.hid (hM.blk Kiw19.out (by omega))
  have Krw20 := Lib.hid (hM.blk Krw19.out (by omega))
  have Ksw20 := Lib.hid hKn
  have Kxw20 := Lib.hid (hM.blk Kxw19.out (by omega))
  replace HP := Lib.hid (HP.out.mod hM (fun g hg e => by have := HU.out g hg; have := hbs; omega))
  replace HS := Lib.hid (HS.out.mod hM (fun g hg e => by have := HT.out g hg; have := hbs; omega))
  replace HN7 := Lib.hid (newM_box HN7.out Ksw19.out hM (by decide) (by decide))
  replace HN1 := Lib.hid (newM_box HN1.out Ksw19.out hM (by decide) (by decide))
  replace HN2 := Lib.hid (newM_box HN2.out Ksw19.out hM (by decide) (by decide))
  replace HX : Hid (Ext w w20) := Lib.hid (Mod.toExt ((Ext.mod HX.out (Since w.heap.size)).trans hM (fun k _ e => by rw [e]; exact hbs)))
  clear hKn hM hw20
  clear Kmw19
  clear Kcw19
  clear Kiw19
  clear Krw19
  clear Ksw19
  clear Kxw19
  obtain ⟨w21, hw21⟩ : ∃ w21, w21 = w20.alloc (.cells #[.slice A2 M.pairs.length c2, .slice B2 M.sess.length d2] 25) := ⟨_, rfl⟩
  obtain ⟨byy, hbyy⟩ : ∃ byy, byy = w20.heap.size := ⟨_, rfl⟩
  have hzz : w20.heap.size = byy := hbyy.symm
  have hE : Ext w20 w21 := by rw [hw21]; exact (Mod.refl _ w20).alloc _
  have hKn : w21.heap[byy]? = some (.cells #[.slice A2 M.pairs.length c2, .slice B2 M.sess.length d2] 25 (0, 0)) := by rw [hw21, ← hzz]; exact heap_alloc_new w20 _
  have hzn : w21.heap.size = byy + 1 := by rw [hw21, ← hzz]; simp
  rw [← hw21, ← hbyy]
  have hltmyy : bm < byy := by have := (Array.getElem?_eq_some_iff.1 Kmw20.out).1; omega
  have hltcyy : bc < byy := by have := (Array.getElem?_eq_some_iff.1 Kcw20.out).1; omega
  have hltiyy : bi < byy := by have := (Array.getElem?_eq_some_iff.1 Kiw20.out).1; omega
  have hltryy : br < byy := by have := (Array.getElem?_eq_some_iff.1 Krw20.out).1; omega
  have hltsyy : bs < byy := by have := (Array.getElem?_eq_some_iff.1 Ksw20.out).1; omega
  have hltxyy : bx < byy := by have := (Array.getElem?_eq_some_iff.1 Kxw20.out).1; omega
  have HXo := HX
  have Kmw21 := Lib.hid (hE.blk Kmw20.out id)
  have Kcw21 := Lib.hid (hE.blk Kcw20.out id)
  have Kiw21 := Lib.hid (hE.blk Kiw20.out id)
  have Krw21 := Lib.hid (hE.blk Krw20.out id)
  have Ksw21 := Lib.hid (hE.blk Ksw20.out id)
  have Kxw21 := Lib.hid (hE.blk Kxw20.out id)
  replace HP := Lib.hid (HP.out.ext hE)
  replace HS := Lib.hid (HS.out.ext hE)
  replace HN7 := Lib.hid (newM_mod HN7.out hE (fun _ _ => id) (fun _ _ => id))
  replace HN1 := Lib.hid (newM_mod HN1.out hE (fun _ _ => id) (fun _ _ => id))
  replace HN2 := Lib.hid (newM_mod HN2.out hE (fun _ _ => id) (fun _ _ => id))
  replace HX := Lib.hid (HX.out.ext hE)
  clear Kmw20
  clear Kcw20
  clear Kiw20
  clear Krw20
  clear Ksw20
  clear Kxw20
  have Kyyw21 := Lib.hid hKn
  have hbz : w.heap.size ≤ byy := by have := HXo.out.size; omega
  clear hKn hE hw21 hbyy HXo hzz
  have hbyy := hbz
  clear hbz
  clear hzn
  have m_0 : w21.cell? ⟨bm, 0, none⟩ = some _ := blk_cell Kmw21.out rfl
  have m_1 : w21.cell? ⟨bm, 1, none⟩ = some _ := blk_cell Kmw21.out rfl
  have m_l : bm < w21.heap.size := (Array.getElem?_eq_some_iff.1 Kmw21.out).1
  have c_0 : w21.cell? ⟨bc, 0, none⟩ = some _ := blk_cell Kcw21.out rfl
  have c_1 : w21.cell? ⟨bc, 1, none⟩ = some _ := blk_cell Kcw21.out rfl
  have c_2 : w21.cell? ⟨bc, 2, none⟩ = some _ := blk_cell Kcw21.out rfl
  have c_3 : w21.cell? ⟨bc, 3, none⟩ = some _ := blk_cell Kcw21.out rfl
  have c_4 : w21.cell? ⟨bc, 4, none⟩ = some _ := blk_cell Kcw21.out rfl
  have c_5 : w21.cell? ⟨bc, 5, none⟩ = some _ := blk_cell Kcw21.out rfl
  have c_6 : w21.cell? ⟨bc, 6, none⟩ = some _ := blk_cell Kcw21.out rfl
  have c_7 : w21.cell? ⟨bc, 7, none⟩ = some _ := blk_cell Kcw21.out rfl
  have c_8 : w21.cell? ⟨bc, 8, none⟩ = some _ := blk_cell Kcw21.out rfl
  have c_9 : w21.cell? ⟨bc, 9, none⟩ = some _ := blk_cell Kcw21.out rfl
  have c_l : bc < w21.heap.size := (Array.getElem?_eq_some_iff.1 Kcw21.out).1
  have i_0 : w21.cell? ⟨bi, 0, none⟩ = some _ := blk_cell Kiw21.out rfl
  have i_1 : w21.cell? ⟨bi, 1, none⟩ = some _ := blk_cell Kiw21.out rfl
  have i_l : bi < w21.heap.size := (Array.getElem?_eq_some_iff.1 Kiw21.out).1
  have r_0 : w21.cell? ⟨br, 0, none⟩ = some _ := blk_cell Krw21.out rfl
  have r_1 : w21.cell? ⟨br, 1, none⟩ = some _ := blk_cell Krw21.out rfl
  have r_2 : w21.cell? ⟨br, 2, none⟩ = some _ := blk_cell Krw21.out rfl
  have r_3 : w21.cell? ⟨br, 3, none⟩ = some _ := blk_cell Krw21.out rfl
  have r_l : br < w21.heap.size := (Array.getElem?_eq_some_iff.1 Krw21.out).1
  have s_0 : w21.cell? ⟨bs, 0, none⟩ = some _ := blk_cell Ksw21.out rfl
  have s_1 : w21.cell? ⟨bs, 1, none⟩ = some _ := blk_cell Ksw21.out rfl
  have s_2 : w21.cell? ⟨bs, 2, none⟩ = some _ := blk_cell Ksw21.out rfl
  have s_3 : w21.cell? ⟨bs, 3, none⟩ = some _ := blk_cell Ksw21.out rfl
  have s_l : bs < w21.heap.size := (Array.getElem?_eq_some_iff.1 Ksw21.out).1
  have x_0 : w21.cell? ⟨bx, 0, none⟩ = some _ := blk_cell Kxw21.out rfl
  have x_1 : w21.cell? ⟨bx, 1, none⟩ = some _ := blk_cell Kxw21.out rfl
  have x_l : bx < w21.heap.size := (Array.getElem?_eq_some_iff.1 Kxw21.out).1
  have yy_0 : w21.cell? ⟨byy, 0, none⟩ = some _ := blk_cell Kyyw21.out rfl
  have yy_1 : w21.cell? ⟨byy, 1, none⟩ = some _ := blk_cell Kyyw21.out rfl
  have yy_l : byy < w21.heap.size := (Array.getElem?_eq_some_iff.1 Kyyw21.out).1
  go_wp2_with fail
  refine (k_machine w21 _ _ _ _ _ _ _ _ M.pairs M.pairs M.sess M.sess HN1.out.prs HN2.out.prs HN1.out.ses HN2.out.ses).mono ?_
  rintro e w22 ⟨rfl, hE⟩
  clear m_0 m_1 m_l c_0 c_1 c_2 c_3 c_4 c_5 c_6 c_7 c_8 c_9 c_l i_0 i_1 i_l r_0 r_1 r_2 r_3 r_l s_0 s_1 s_2 s_3 s_l x_0 x_1 x_l yy_0 yy_1 yy_l
  have Kmw22 := Lib.hid (hE.blk Kmw21.out id)
  have Kcw22 := Lib.hid (hE.blk Kcw21.out id)
  have Kiw22 := Lib.hid (hE.blk Kiw21.out id)
  have Krw22 := Lib.hid (hE.blk Krw21.out id)
  have Ksw22 := Lib.hid (hE.blk Ksw21.out id)
  have Kxw22 := Lib.hid (hE.blk Kxw21.out id)
  have Kyyw22 := Lib.hid (hE.blk Kyyw21.out id)
  replace HP := Lib.hid (HP.out.ext hE)
  replace HS := Lib.hid (HS.out.ext hE)
  replace HN7 := Lib.hid (newM_mod HN7.out hE (fun _ _ => id) (fun _ _ => id))
  replace HN1 := Lib.hid (newM_mod HN1.out hE (fun _ _ => id) (fun _ _ => id))
  replace HN2 := Lib.hid (newM_mod HN2.out hE (fun _ _ => id) (fun _ _ => id))
  replace HX := Lib.hid (HX.out.ext hE)
  clear Kmw21
  clear Kcw21
  clear Kiw21
  clear Krw21
  clear Ksw21
  clear Kxw21
  clear Kyyw21
  rw [show eqM ⟨M.pairs, M.sess⟩ ⟨M.pairs, M.sess⟩ = true from eqM_refl _]
  clear hE
  have m_0 : w22.cell? ⟨bm, 0, none⟩ = some _ := blk_cell Kmw22.out rfl
  have m_1 : w22.cell? ⟨bm, 1, none⟩ = some _ := blk_cell Kmw22.out rfl
  have m_l : bm < w22.heap.size := (Array.getElem?_eq_some_iff.1 Kmw22.out).1
  have c_0 : w22.cell? ⟨bc, 0, none⟩ = some _ := blk_cell Kcw22.out rfl
  have c_1 : w22.cell? ⟨bc, 1, none⟩ = some _ := blk_cell Kcw22.out rfl
  have c_2 : w22.cell? ⟨bc, 2, none⟩ = some _ := blk_cell Kcw22.out rfl
  have c_3 : w22.cell? ⟨bc, 3, none⟩ = some _ := blk_cell Kcw22.out rfl
  have c_4 : w22.cell? ⟨bc, 4, none⟩ = some _ := blk_cell Kcw22.out rfl
  have c_5 : w22.cell? ⟨bc, 5, none⟩ = some _ := blk_cell Kcw22.out rfl
  have c_6 : w22.cell? ⟨bc, 6, none⟩ = some _ := blk_cell Kcw22.out rfl
  have c_7 : w22.cell? ⟨bc, 7, none⟩ = some _ := blk_cell Kcw22.out rfl
  have c_8 : w22.cell? ⟨bc, 8, none⟩ = some _ := blk_cell Kcw22.out rfl
  have c_9 : w22.cell? ⟨bc, 9, none⟩ = some _ := blk_cell Kcw22.out rfl
  have c_l : bc < w22.heap.size := (Array.getElem?_eq_some_iff.1 Kcw22.out).1
  have i_0 : w22.cell? ⟨bi, 0, none⟩ = some _ := blk_cell Kiw22.out rfl
  have i_1 : w22.cell? ⟨bi, 1, none⟩ = some _ := blk_cell Kiw22.out rfl
  have i_l : bi < w22.heap.size := (Array.getElem?_eq_some_iff.1 Kiw22.out).1
  have r_0 : w22.cell? ⟨br, 0, none⟩ = some _ := blk_cell Krw22.out rfl
  have r_1 : w22.cell? ⟨br, 1, none⟩ = some _ := blk_cell Krw22.out rfl
  have r_2 : w22.cell? ⟨br, 2, none⟩ = some _ := blk_cell Krw22.out rfl
  have r_3 : w22.cell? ⟨br, 3, none⟩ = some _ := blk_cell Krw22.out rfl
  have r_l : br < w22.heap.size := (Array.getElem?_eq_some_iff.1 Krw22.out).1
  have s_0 : w22.cell? ⟨bs, 0, none⟩ = some _ := blk_cell Ksw22.out rfl
  have s_1 : w22.cell? ⟨bs, 1, none⟩ = some _ := blk_cell Ksw22.out rfl
  have s_2 : w22.cell? ⟨bs, 2, none⟩ = some _ := blk_cell Ksw22.out rfl
  have s_3 : w22.cell? ⟨bs, 3, none⟩ = some _ := blk_cell Ksw22.out rfl
  have s_l : bs < w22.heap.size := (Array.getElem?_eq_some_iff.1 Ksw22.out).1
  have x_0 : w22.cell? ⟨bx, 0, none⟩ = some _ := blk_cell Kxw22.out rfl
  have x_1 : w22.cell? ⟨bx, 1, none⟩ = some _ := blk_cell Kxw22.out rfl
  have x_l : bx < w22.heap.size := (Array.getElem?_eq_some_iff.1 Kxw22.out).1
  have yy_0 : w22.cell? ⟨byy, 0, none⟩ = some _ := blk_cell Kyyw22.out rfl
  have yy_1 : w22.cell? ⟨byy, 1, none⟩ = some _ := blk_cell Kyyw22.out rfl
  have yy_l : byy < w22.heap.size := (Array.getElem?_eq_some_iff.1 Kyyw22.out).1
  go_wp2_with fail
  refine (k_reply q q w22).mono ?_
  rintro e w23 ⟨rfl, hE⟩
  clear m_0 m_1 m_l c_0 c_1 c_2 c_3 c_4 c_5 c_6 c_7 c_8 c_9 c_l i_0 i_1 i_l r_0 r_1 r_2 r_3 r_l s_0 s_1 s_2 s_3 s_l x_0 x_1 x_l yy_0 yy_1 yy_l
  have Kmw23 := Lib.hid (hE.blk Kmw22.out id)
  have Kcw23 := Lib.hid (hE.blk Kcw22.out id)
  have Kiw23 := Lib.hid (hE.blk Kiw22.out id)
  have Krw23 := Lib.hid (hE.blk Krw22.out id)
  have Ksw23 := Lib.hid (hE.blk Ksw22.out id)
  have Kxw23 := Lib.hid (hE.blk Kxw22.out id)
  have Kyyw23 := Lib.hid (hE.blk Kyyw22.out id)
  replace HP := Lib.hid (HP.out.ext hE)
  replace HS := Lib.hid (HS.out.ext hE)
  replace HN7 := Lib.hid (newM_mod HN7.out hE (fun _ _ => id) (fun _ _ => id))
  replace HN1 := Lib.hid (newM_mod HN1.out hE (fun _ _ => id) (fun _ _ => id))
  replace HN2 := Lib.hid (newM_mod HN2.out hE (fun _ _ => id) (fun _ _ => id))
  replace HX := Lib.hid (HX.out.ext hE)
  clear Kmw22
  clear Kcw22
  clear Kiw22
  clear Krw22
  clear Ksw22
  clear Kxw22
  clear Kyyw22
  rw [eqReply_refl]
  clear hE
  have m_0 : w23.cell? ⟨bm, 0, none⟩ = some _ := blk_cell Kmw23.out rfl
  have m_1 : w23.cell? ⟨bm, 1, none⟩ = some _ := blk_cell Kmw23.out rfl
  have m_l : bm < w23.heap.size := (Array.getElem?_eq_some_iff.1 Kmw23.out).1
  have c_0 : w23.cell? ⟨bc, 0, none⟩ = some _ := blk_cell Kcw23.out rfl
  have c_1 : w23.cell? ⟨bc, 1, none⟩ = some _ := blk_cell Kcw23.out rfl
  have c_2 : w23.cell? ⟨bc, 2, none⟩ = some _ := blk_cell Kcw23.out rfl
  have c_3 : w23.cell? ⟨bc, 3, none⟩ = some _ := blk_cell Kcw23.out rfl
  have c_4 : w23.cell? ⟨bc, 4, none⟩ = some _ := blk_cell Kcw23.out rfl
  have c_5 : w23.cell? ⟨bc, 5, none⟩ = some _ := blk_cell Kcw23.out rfl
  have c_6 : w23.cell? ⟨bc, 6, none⟩ = some _ := blk_cell Kcw23.out rfl
  have c_7 : w23.cell? ⟨bc, 7, none⟩ = some _ := blk_cell Kcw23.out rfl
  have c_8 : w23.cell? ⟨bc, 8, none⟩ = some _ := blk_cell Kcw23.out rfl
  have c_9 : w23.cell? ⟨bc, 9, none⟩ = some _ := blk_cell Kcw23.out rfl
  have c_l : bc < w23.heap.size := (Array.getElem?_eq_some_iff.1 Kcw23.out).1
  have i_0 : w23.cell? ⟨bi, 0, none⟩ = some _ := blk_cell Kiw23.out rfl
  have i_1 : w23.cell? ⟨bi, 1, none⟩ = some _ := blk_cell Kiw23.out rfl
  have i_l : bi < w23.heap.size := (Array.getElem?_eq_some_iff.1 Kiw23.out).1
  have r_0 : w23.cell? ⟨br, 0, none⟩ = some _ := blk_cell Krw23.out rfl
  have r_1 : w23.cell? ⟨br, 1, none⟩ = some _ := blk_cell Krw23.out rfl
  have r_2 : w23.cell? ⟨br, 2, none⟩ = some _ := blk_cell Krw23.out rfl
  have r_3 : w23.cell? ⟨br, 3, none⟩ = some _ := blk_cell Krw23.out rfl
  have r_l : br < w23.heap.size := (Array.getElem?_eq_some_iff.1 Krw23.out).1
  have s_0 : w23.cell? ⟨bs, 0, none⟩ = some _ := blk_cell Ksw23.out rfl
  have s_1 : w23.cell? ⟨bs, 1, none⟩ = some _ := blk_cell Ksw23.out rfl
  have s_2 : w23.cell? ⟨bs, 2, none⟩ = some _ := blk_cell Ksw23.out rfl
  have s_3 : w23.cell? ⟨bs, 3, none⟩ = some _ := blk_cell Ksw23.out rfl
  have s_l : bs < w23.heap.size := (Array.getElem?_eq_some_iff.1 Ksw23.out).1
  have x_0 : w23.cell? ⟨bx, 0, none⟩ = some _ := blk_cell Kxw23.out rfl
  have x_1 : w23.cell? ⟨bx, 1, none⟩ = some _ := blk_cell Kxw23.out rfl
  have x_l : bx < w23.heap.size := (Array.getElem?_eq_some_iff.1 Kxw23.out).1
  have yy_0 : w23.cell? ⟨byy, 0, none⟩ = some _ := blk_cell Kyyw23.out rfl
  have yy_1 : w23.cell? ⟨byy, 1, none⟩ = some _ := blk_cell Kyyw23.out rfl
  have yy_l : byy < w23.heap.size := (Array.getElem?_eq_some_iff.1 Kyyw23.out).1
  go_wp2_with fail
  clear m_0 m_1 m_l c_0 c_1 c_2 c_3 c_4 c_5 c_6 c_7 c_8 c_9 c_l i_0 i_1 i_l r_0 r_1 r_2 r_3 r_l s_0 s_1 s_2 s_3 s_l x_0 x_1 x_l yy_0 yy_1 yy_l
  refine (k_spoilM w w23 _ _ M HN1.out).mono ?_
  rintro e w24 ⟨rfl, hM⟩
  have Kmw24 := Lib.hid (hM.blk Kmw23.out (fun e => by rcases e with e | e; { exact own_apart HN1.out.1.1 e Kmw23.out (by decide) rfl }; { exact own_apart HN1.out.2.1.1 e Kmw23.out (by decide) rfl }))
  clear Kmw23
  have Kcw24 := Lib.hid (hM.blk Kcw23.out (fun e => by rcases e with e | e; { exact own_apart HN1.out.1.1 e Kcw23.out (by decide) rfl }; { exact own_apart HN1.out.2.1.1 e Kcw23.out (by decide) rfl }))
  clear Kcw23
  have Kiw24 := Lib.hid (hM.blk Kiw23.out (fun e => by rcases e with e | e; { exact own_apart HN1.out.1.1 e Kiw23.out (by decide) rfl }; { exact own_apart HN1.out.2.1.1 e Kiw23.out (by decide) rfl }))
  clear Kiw23
  have Krw24 := Lib.hid (hM.blk Krw23.out (fun e => by rcases e with e | e; { exact own_apart HN1.out.1.1 e Krw23.out (by decide) rfl }; { exact own_apart HN1.out.2.1.1 e Krw23.out (by decide) rfl }))
  clear Krw23
  have Ksw24 := Lib.hid (hM.blk Ksw23.out (fun e => by rcases e with e | e; { exact own_apart HN1.out.1.1 e Ksw23.out (by decide) rfl }; { exact own_apart HN1.out.2.1.1 e Ksw23.out (by decide) rfl }))
  clear Ksw23
  have Kxw24 := Lib.hid (hM.blk Kxw23.out (fun e => by rcases e with e | e; { exact own_apart HN1.out.1.1 e Kxw23.out (by decide) rfl }; { exact own_apart HN1.out.2.1.1 e Kxw23.out (by decide) rfl }))
  clear Kxw23
  have Kyyw24 := Lib.hid (hM.blk Kyyw23.out (fun e => by rcases e with e | e; { exact own_apart HN1.out.1.1 e Kyyw23.out (by decide) rfl }; { exact own_apart HN1.out.2.1.1 e Kyyw23.out (by decide) rfl }))
  clear Kyyw23
  replace HN7 := Lib.hid (newM_mod HN7.out hM (fun g hg e => by have := (Hfar.out g e).1 g (.inl hg); omega) (fun g hg e => by have := (Hfar.out g e).1 g (.inr hg); omega))
  replace HP := Lib.hid (HP.out.mod hM (fun g hg e => by have := (Hfar.out g e).2; have := HU.out g hg; omega))
  replace HS := Lib.hid (HS.out.mod hM (fun g hg e => by have := (Hfar.out g e).2; have := HT.out g hg; omega))
  replace HX : Hid (Ext w w24) := Lib.hid (Mod.toExt ((Ext.mod HX.out (Since w.heap.size)).trans hM (fun g _ e => (Hfar.out g e).2)))
  clear hM HN1 HN2
  have m_0 : w24.cell? ⟨bm, 0, none⟩ = some _ := blk_cell Kmw24.out rfl
  have m_1 : w24.cell? ⟨bm, 1, none⟩ = some _ := blk_cell Kmw24.out rfl
  have m_l : bm < w24.heap.size := (Array.getElem?_eq_some_iff.1 Kmw24.out).1
  have c_0 : w24.cell? ⟨bc, 0, none⟩ = some _ := blk_cell Kcw24.out rfl
  have c_1 : w24.cell? ⟨bc, 1, none⟩ = some _ := blk_cell Kcw24.out rfl
  have c_2 : w24.cell? ⟨bc, 2, none⟩ = some _ := blk_cell Kcw24.out rfl
  have c_3 : w24.cell? ⟨bc, 3, none⟩ = some _ := blk_cell Kcw24.out rfl
  have c_4 : w24.cell? ⟨bc, 4, none⟩ = some _ := blk_cell Kcw24.out rfl
  have c_5 : w24.cell? ⟨bc, 5, none⟩ = some _ := blk_cell Kcw24.out rfl
  have c_6 : w24.cell? ⟨bc, 6, none⟩ = some _ := blk_cell Kcw24.out rfl
  have c_7 : w24.cell? ⟨bc, 7, none⟩ = some _ := blk_cell Kcw24.out rfl
  have c_8 : w24.cell? ⟨bc, 8, none⟩ = some _ := blk_cell Kcw24.out rfl
  have c_9 : w24.cell? ⟨bc, 9, none⟩ = some _ := blk_cell Kcw24.out rfl
  have c_l : bc < w24.heap.size := (Array.getElem?_eq_some_iff.1 Kcw24.out).1
  have i_0 : w24.cell? ⟨bi, 0, none⟩ = some _ := blk_cell Kiw24.out rfl
  have i_1 : w24.cell? ⟨bi, 1, none⟩ = some _ := blk_cell Kiw24.out rfl
  have i_l : bi < w24.heap.size := (Array.getElem?_eq_some_iff.1 Kiw24.out).1
  have r_0 : w24.cell? ⟨br, 0, none⟩ = some _ := blk_cell Krw24.out rfl
  have r_1 : w24.cell? ⟨br, 1, none⟩ = some _ := blk_cell Krw24.out rfl
  have r_2 : w24.cell? ⟨br, 2, none⟩ = some _ := blk_cell Krw24.out rfl
  have r_3 : w24.cell? ⟨br, 3, none⟩ = some _ := blk_cell Krw24.out rfl
  have r_l : br < w24.heap.size := (Array.getElem?_eq_some_iff.1 Krw24.out).1
  have s_0 : w24.cell? ⟨bs, 0, none⟩ = some _ := blk_cell Ksw24.out rfl
  have s_1 : w24.cell? ⟨bs, 1, none⟩ = some _ := blk_cell Ksw24.out rfl
  have s_2 : w24.cell? ⟨bs, 2, none⟩ = some _ := blk_cell Ksw24.out rfl
  have s_3 : w24.cell? ⟨bs, 3, none⟩ = some _ := blk_cell Ksw24.out rfl
  have s_l : bs < w24.heap.size := (Array.getElem?_eq_some_iff.1 Ksw24.out).1
  have x_0 : w24.cell? ⟨bx, 0, none⟩ = some _ := blk_cell Kxw24.out rfl
  have x_1 : w24.cell? ⟨bx, 1, none⟩ = some _ := blk_cell Kxw24.out rfl
  have x_l : bx < w24.heap.size := (Array.getElem?_eq_some_iff.1 Kxw24.out).1
  have yy_0 : w24.cell? ⟨byy, 0, none⟩ = some _ := blk_cell Kyyw24.out rfl
  have yy_1 : w24.cell? ⟨byy, 1, none⟩ = some _ := blk_cell Kyyw24.out rfl
  have yy_l : byy < w24.heap.size := (Array.getElem?_eq_some_iff.1 Kyyw24.out).1
  go_wp2_with fail
  refine (k_machine w24 _ _ _ _ _ _ _ _ p p l l HN7.out.prs HP.out HN7.out.ses HS.out).mono ?_
  rintro e w25 ⟨rfl, hE⟩
  clear m_0 m_1 m_l c_0 c_1 c_2 c_3 c_4 c_5 c_6 c_7 c_8 c_9 c_l i_0 i_1 i_l r_0 r_1 r_2 r_3 r_l s_0 s_1 s_2 s_3 s_l x_0 x_1 x_l yy_0 yy_1 yy_l
  have Kmw25 := Lib.hid (hE.blk Kmw24.out id)
  have Kcw25 := Lib.hid (hE.blk Kcw24.out id)
  have Kiw25 := Lib.hid (hE.blk Kiw24.out id)
  have Krw25 := Lib.hid (hE.blk Krw24.out id)
  have Ksw25 := Lib.hid (hE.blk Ksw24.out id)
  have Kxw25 := Lib.hid (hE.blk Kxw24.out id)
  have Kyyw25 := Lib.hid (hE.blk Kyyw24.out id)
  replace HP := Lib.hid (HP.out.ext hE)
  replace HS := Lib.hid (HS.out.ext hE)
  replace HN7 := Lib.hid (newM_mod HN7.out hE (fun _ _ => id) (fun _ _ => id))
  replace HX := Lib.hid (HX.out.ext hE)
  clear Kmw24
  clear Kcw24
  clear Kiw24
  clear Krw24
  clear Ksw24
  clear Kxw24
  clear Kyyw24
  rw [show eqM ⟨p, l⟩ ⟨p, l⟩ = true from eqM_refl _]
  clear hE
  have m_0 : w25.cell? ⟨bm, 0, none⟩ = some _ := blk_cell Kmw25.out rfl
  have m_1 : w25.cell? ⟨bm, 1, none⟩ = some _ := blk_cell Kmw25.out rfl
  have m_l : bm < w25.heap.size := (Array.getElem?_eq_some_iff.1 Kmw25.out).1
  have c_0 : w25.cell? ⟨bc, 0, none⟩ = some _ := blk_cell Kcw25.out rfl
  have c_1 : w25.cell? ⟨bc, 1, none⟩ = some _ := blk_cell Kcw25.out rfl
  have c_2 : w25.cell? ⟨bc, 2, none⟩ = some _ := blk_cell Kcw25.out rfl
  have c_3 : w25.cell? ⟨bc, 3, none⟩ = some _ := blk_cell Kcw25.out rfl
  have c_4 : w25.cell? ⟨bc, 4, none⟩ = some _ := blk_cell Kcw25.out rfl
  have c_5 : w25.cell? ⟨bc, 5, none⟩ = some _ := blk_cell Kcw25.out rfl
  have c_6 : w25.cell? ⟨bc, 6, none⟩ = some _ := blk_cell Kcw25.out rfl
  have c_7 : w25.cell? ⟨bc, 7, none⟩ = some _ := blk_cell Kcw25.out rfl
  have c_8 : w25.cell? ⟨bc, 8, none⟩ = some _ := blk_cell Kcw25.out rfl
  have c_9 : w25.cell? ⟨bc, 9, none⟩ = some _ := blk_cell Kcw25.out rfl
  have c_l : bc < w25.heap.size := (Array.getElem?_eq_some_iff.1 Kcw25.out).1
  have i_0 : w25.cell? ⟨bi, 0, none⟩ = some _ := blk_cell Kiw25.out rfl
  have i_1 : w25.cell? ⟨bi, 1, none⟩ = some _ := blk_cell Kiw25.out rfl
  have i_l : bi < w25.heap.size := (Array.getElem?_eq_some_iff.1 Kiw25.out).1
  have r_0 : w25.cell? ⟨br, 0, none⟩ = some _ := blk_cell Krw25.out rfl
  have r_1 : w25.cell? ⟨br, 1, none⟩ = some _ := blk_cell Krw25.out rfl
  have r_2 : w25.cell? ⟨br, 2, none⟩ = some _ := blk_cell Krw25.out rfl
  have r_3 : w25.cell? ⟨br, 3, none⟩ = some _ := blk_cell Krw25.out rfl
  have r_l : br < w25.heap.size := (Array.getElem?_eq_some_iff.1 Krw25.out).1
  have s_0 : w25.cell? ⟨bs, 0, none⟩ = some _ := blk_cell Ksw25.out rfl
  have s_1 : w25.cell? ⟨bs, 1, none⟩ = some _ := blk_cell Ksw25.out rfl
  have s_2 : w25.cell? ⟨bs, 2, none⟩ = some _ := blk_cell Ksw25.out rfl
  have s_3 : w25.cell? ⟨bs, 3, none⟩ = some _ := blk_cell Ksw25.out rfl
  have s_l : bs < w25.heap.size := (Array.getElem?_eq_some_iff.1 Ksw25.out).1
  have x_0 : w25.cell? ⟨bx, 0, none⟩ = some _ := blk_cell Kxw25.out rfl
  have x_1 : w25.cell? ⟨bx, 1, none⟩ = some _ := blk_cell Kxw25.out rfl
  have x_l : bx < w25.heap.size := (Array.getElem?_eq_some_iff.1 Kxw25.out).1
  have yy_0 : w25.cell? ⟨byy, 0, none⟩ = some _ := blk_cell Kyyw25.out rfl
  have yy_1 : w25.cell? ⟨byy, 1, none⟩ = some _ := blk_cell Kyyw25.out rfl
  have yy_l : byy < w25.heap.size := (Array.getElem?_eq_some_iff.1 Kyyw25.out).1
  go_wp2_with fail
  refine (l_wakes7 w25).mono ?_
  rintro e w26 ⟨rfl, hE⟩
  clear m_0 m_1 m_l c_0 c_1 c_2 c_3 c_4 c_5 c_6 c_7 c_8 c_9 c_l i_0 i_1 i_l r_0 r_1 r_2 r_3 r_l s_0 s_1 s_2 s_3 s_l x_0 x_1 x_l yy_0 yy_1 yy_l
  have Kmw26 := Lib.hid (hE.blk Kmw25.out id)
  have Kcw26 := Lib.hid (hE.blk Kcw25.out id)
  have Kiw26 := Lib.hid (hE.blk Kiw25.out id)
  have Krw26 := Lib.hid (hE.blk Krw25.out id)
  have Ksw26 := Lib.hid (hE.blk Ksw25.out id)
  have Kxw26 := Lib.hid (hE.blk Kxw25.out id)
  have Kyyw26 := Lib.hid (hE.blk Kyyw25.out id)
  replace HP := Lib.hid (HP.out.ext hE)
  replace HS := Lib.hid (HS.out.ext hE)
  replace HN7 := Lib.hid (newM_mod HN7.out hE (fun _ _ => id) (fun _ _ => id))
  replace HX := Lib.hid (HX.out.ext hE)
  clear Kmw25
  clear Kcw25
  clear Kiw25
  clear Krw25
  clear Ksw25
  clear Kxw25
  clear Kyyw25
  clear hE
  have m_0 : w26.cell? ⟨bm, 0, none⟩ = some _ := blk_cell Kmw26.out rfl
  have m_1 : w26.cell? ⟨bm, 1, none⟩ = some _ := blk_cell Kmw26.out rfl
  have m_l : bm < w26.heap.size := (Array.getElem?_eq_some_iff.1 Kmw26.out).1
  have c_0 : w26.cell? ⟨bc, 0, none⟩ = some _ := blk_cell Kcw26.out rfl
  have c_1 : w26.cell? ⟨bc, 1, none⟩ = some _ := blk_cell Kcw26.out rfl
  have c_2 : w26.cell? ⟨bc, 2, none⟩ = some _ := blk_cell Kcw26.out rfl
  have c_3 : w26.cell? ⟨bc, 3, none⟩ = some _ := blk_cell Kcw26.out rfl
  have c_4 : w26.cell? ⟨bc, 4, none⟩ = some _ := blk_cell Kcw26.out rfl
  have c_5 : w26.cell? ⟨bc, 5, none⟩ = some _ := blk_cell Kcw26.out rfl
  have c_6 : w26.cell? ⟨bc, 6, none⟩ = some _ := blk_cell Kcw26.out rfl
  have c_7 : w26.cell? ⟨bc, 7, none⟩ = some _ := blk_cell Kcw26.out rfl
  have c_8 : w26.cell? ⟨bc, 8, none⟩ = some _ := blk_cell Kcw26.out rfl
  have c_9 : w26.cell? ⟨bc, 9, none⟩ = some _ := blk_cell Kcw26.out rfl
  have c_l : bc < w26.heap.size := (Array.getElem?_eq_some_iff.1 Kcw26.out).1
  have i_0 : w26.cell? ⟨bi, 0, none⟩ = some _ := blk_cell Kiw26.out rfl
  have i_1 : w26.cell? ⟨bi, 1, none⟩ = some _ := blk_cell Kiw26.out rfl
  have i_l : bi < w26.heap.size := (Array.getElem?_eq_some_iff.1 Kiw26.out).1
  have r_0 : w26.cell? ⟨br, 0, none⟩ = some _ := blk_cell Krw26.out rfl
  have r_1 : w26.cell? ⟨br, 1, none⟩ = some _ := blk_cell Krw26.out rfl
  have r_2 : w26.cell? ⟨br, 2, none⟩ = some _ := blk_cell Krw26.out rfl
  have r_3 : w26.cell? ⟨br, 3, none⟩ = some _ := blk_cell Krw26.out rfl
  have r_l : br < w26.heap.size := (Array.getElem?_eq_some_iff.1 Krw26.out).1
  have s_0 : w26.cell? ⟨bs, 0, none⟩ = some _ := blk_cell Ksw26.out rfl
  have s_1 : w26.cell? ⟨bs, 1, none⟩ = some _ := blk_cell Ksw26.out rfl
  have s_2 : w26.cell? ⟨bs, 2, none⟩ = some _ := blk_cell Ksw26.out rfl
  have s_3 : w26.cell? ⟨bs, 3, none⟩ = some _ := blk_cell Ksw26.out rfl
  have s_l : bs < w26.heap.size := (Array.getElem?_eq_some_iff.1 Ksw26.out).1
  have x_0 : w26.cell? ⟨bx, 0, none⟩ = some _ := blk_cell Kxw26.out rfl
  have x_1 : w26.cell? ⟨bx, 1, none⟩ = some _ := blk_cell Kxw26.out rfl
  have x_l : bx < w26.heap.size := (Array.getElem?_eq_some_iff.1 Kxw26.out).1
  have yy_0 : w26.cell? ⟨byy, 0, none⟩ = some _ := blk_cell Kyyw26.out rfl
  have yy_1 : w26.cell? ⟨byy, 1, none⟩ = some _ := blk_cell Kyyw26.out rfl
  have yy_l : byy < w26.heap.size := (Array.getElem?_eq_some_iff.1 Kyyw26.out).1
  go_wp2
  go_ret
  exact ⟨rfl, Ext.below HX.out⟩
theorem sesExact_a (w : World) (pv v : Value) (p : List APair) (l : List ASess) (c : ACall) (client : Int) (hP : Prs w (fun g => g < w.heap.size) pv p) (hS : Ses w (fun g => g < w.heap.size) v l) (hc : c.ok) :
    Calls Try.prog 3 #[.agg #[pv, v], .agg #[.int .i64 c.client, .int .i64 c.seq, .int .i64 c.cmd.kind, .string c.cmd.key, .int .i64 c.cmd.old.kind, .float .f64 c.cmd.old.num, .string c.cmd.old.text, .int .i64 c.cmd.val.kind, .float .f64 c.cmd.val.num, .string c.cmd.val.text], .int .i64 client] w fun e w' => e = .returned (.bool true) ∧ Below w.heap.size w w' := by
  obtain ⟨A, ca, rfl⟩ := hP.form
  obtain ⟨B, cb, rfl⟩ := hS.form
  rcases h1 : heavyM ⟨p, l⟩ with _ | _
  case true => exact sesExact_heavy w _ _ (fun _ h => h) (fun _ h => h) A B ca cb p l hP hS c client hc (.inl h1)
  rcases h2 : heavyCmd c.cmd with _ | _
  case true => exact sesExact_heavy w _ _ (fun _ h => h) (fun _ h => h) A B ca cb p l hP hS c client hc (.inr ⟨h1, h2⟩)
  rcases hp : machB ⟨p, l⟩ with _ | _
  · exact sesExact_wrong w _ _ (fun _ h => h) (fun _ h => h) A B ca cb p l hP hS c client hc h1 h2 hp
  · exact sesExact_right w _ _ (fun _ h => h) (fun _ h => h) A B ca cb p l hP hS c client hc h1 h2 hp
end Go.Proofs.Ytplpegjnmlabkaa
