/-
  The walk of KvFull. Conditions: as the theorem names them.
-/
import Derived.Test.YthhjaneadbkccaaKvFull0
import Derived.Test.YthhjaneadbkccaaTake
import Derived.Deep.DeepCutAuto
namespace Go.Proofs.Ythhjaneadbkccaa
set_option linter.unusedSimpArgs false
open Go.RowKit

set_option maxRecDepth 100000 in
set_option maxHeartbeats 1000000 in
theorem kvFull_walk (w : World) (v x : AVal) (hvok : v.ok) (hxok : x.ok) :
    Calls Try.prog 7 #[.agg #[.int .i64 v.kind, .float .f64 v.num, .string v.text], .agg #[.int .i64 x.kind, .float .f64 x.num, .string x.text]] w fun e w' => e = .returned (.bool true) ∧ Below w.heap.size w w' := by
  have hvo := Lib.hid hvok
  have hxo := Lib.hid hxok
  clear hvok hxok
  by_cases cv : chk v = 0
  case neg =>
    have nv : (chk v != 0) = true := by simpa using cv
    clear cv
    have HX : Hid (Ext w w) := Lib.hid (Mod.refl _ w)
    go_enter Try.func7, Try.ntmps7
    go_wp2_with fail
    obtain ⟨w1, hw1⟩ : ∃ w1, w1 = w.alloc (.cells #[.int .i64 v.kind, .float .f64 v.num, .string v.text] 25) := ⟨_, rfl⟩
    obtain ⟨bv, hbv⟩ : ∃ bv, bv = w.heap.size := ⟨_, rfl⟩
    have hzz : w.heap.size = bv := hbv.symm
    have hE : Ext w w1 := by rw [hw1]; exact (Mod.refl _ w).alloc _
    have hKn : w1.heap[bv]? = some (.cells #[.int .i64 v.kind, .float .f64 v.num, .string v.text] 25 (0, 0)) := by rw [hw1, ← hzz]; exact heap_alloc_new w _
    have hzn : w1.heap.size = bv + 1 := by rw [hw1, ← hzz]; simp
    rw [← hw1, ← hbv]
    have HXo := HX
    replace HX := Lib.hid (HX.out.ext hE)
    have Kvw1 := Lib.hid hKn
    have hbz : w.heap.size ≤ bv := by have := HXo.out.size; omega
    clear hKn hE hw1 hbv HXo hzz
    have hbv := hbz
    clear hbz
    obtain ⟨w2, hw2⟩ : ∃ w2, w2 = w1.alloc (.cells #[.int .i64 x.kind, .float .f64 x.num, .string x.text] 25) := ⟨_, rfl⟩
    obtain ⟨bx, hbx⟩ : ∃ bx, bx = bv + 1 := ⟨_, rfl⟩
    have hzz : w1.heap.size = bx := hzn.trans hbx.symm
    clear hzn
    have hE : Ext w1 w2 := by rw [hw2]; exact (Mod.refl _ w1).alloc _
    have hKn : w2.heap[bx]? = some (.cells #[.int .i64 x.kind, .float .f64 x.num, .string x.text] 25 (0, 0)) := by rw [hw2, ← hzz]; exact heap_alloc_new w1 _
    have hzn : w2.heap.size = bx + 1 := by rw [hw2, ← hzz]; simp
    rw [← hw2, ← hbx]
    have HXo := HX
    have Kvw2 := Lib.hid (hE.blk Kvw1.out id)
    replace HX := Lib.hid (HX.out.ext hE)
    clear Kvw1
    have Kxw2 := Lib.hid hKn
    have hbz : w.heap.size ≤ bx := by have := HXo.out.size; omega
    clear hKn hE hw2 hbx HXo hzz
    have hbx := hbz
    clear hbz
    clear hzn
    refine (r_check v w2).mono ?_
    rintro e w3 ⟨rfl, hE⟩
    have Kvw3 := Lib.hid (hE.blk Kvw2.out id)
    have Kxw3 := Lib.hid (hE.blk Kxw2.out id)
    replace HX := Lib.hid (HX.out.ext hE)
    clear Kvw2
    clear Kxw2
    clear hE
    have v_0 : w3.cell? ⟨bv, 0, none⟩ = some _ := blk_cell (cs := [.int .i64 v.kind, .float .f64 v.num, .string v.text]) Kvw3.out rfl
    have v_1 : w3.cell? ⟨bv, 1, none⟩ = some _ := blk_cell (cs := [.int .i64 v.kind, .float .f64 v.num, .string v.text]) Kvw3.out rfl
    have v_2 : w3.cell? ⟨bv, 2, none⟩ = some _ := blk_cell (cs := [.int .i64 v.kind, .float .f64 v.num, .string v.text]) Kvw3.out rfl
    have v_l : bv < w3.heap.size := (Array.getElem?_eq_some_iff.1 Kvw3.out).1
    have x_0 : w3.cell? ⟨bx, 0, none⟩ = some _ := blk_cell (cs := [.int .i64 x.kind, .float .f64 x.num, .string x.text]) Kxw3.out rfl
    have x_1 : w3.cell? ⟨bx, 1, none⟩ = some _ := blk_cell (cs := [.int .i64 x.kind, .float .f64 x.num, .string x.text]) Kxw3.out rfl
    have x_2 : w3.cell? ⟨bx, 2, none⟩ = some _ := blk_cell (cs := [.int .i64 x.kind, .float .f64 x.num, .string x.text]) Kxw3.out rfl
    have x_l : bx < w3.heap.size := (Array.getElem?_eq_some_iff.1 Kxw3.out).1
    go_wp2
    go_ret
    exact ⟨rfl, Ext.below HX.out⟩
  by_cases cx : chk x = 0
  case neg =>
    have nx : (chk x != 0) = true := by simpa using cx
    clear cx
    have HX : Hid (Ext w w) := Lib.hid (Mod.refl _ w)
    go_enter Try.func7, Try.ntmps7
    go_wp2_with fail
    obtain ⟨w1, hw1⟩ : ∃ w1, w1 = w.alloc (.cells #[.int .i64 v.kind, .float .f64 v.num, .string v.text] 25) := ⟨_, rfl⟩
    obtain ⟨bv, hbv⟩ : ∃ bv, bv = w.heap.size := ⟨_, rfl⟩
    have hzz : w.heap.size = bv := hbv.symm
    have hE : Ext w w1 := by rw [hw1]; exact (Mod.refl _ w).alloc _
    have hKn : w1.heap[bv]? = some (.cells #[.int .i64 v.kind, .float .f64 v.num, .string v.text] 25 (0, 0)) := by rw [hw1, ← hzz]; exact heap_alloc_new w _
    have hzn : w1.heap.size = bv + 1 := by rw [hw1, ← hzz]; simp
    rw [← hw1, ← hbv]
    have HXo := HX
    replace HX := Lib.hid (HX.out.ext hE)
    have Kvw1 := Lib.hid hKn
    have hbz : w.heap.size ≤ bv := by have := HXo.out.size; omega
    clear hKn hE hw1 hbv HXo hzz
    have hbv := hbz
    clear hbz
    obtain ⟨w2, hw2⟩ : ∃ w2, w2 = w1.alloc (.cells #[.int .i64 x.kind, .float .f64 x.num, .string x.text] 25) := ⟨_, rfl⟩
    obtain ⟨bx, hbx⟩ : ∃ bx, bx = bv + 1 := ⟨_, rfl⟩
    have hzz : w1.heap.size = bx := hzn.trans hbx.symm
    clear hzn
    have hE : Ext w1 w2 := by rw [hw2]; exact (Mod.refl _ w1).alloc _
    have hKn : w2.heap[bx]? = some (.cells #[.int .i64 x.kind, .float .f64 x.num, .string x.text] 25 (0, 0)) := by rw [hw2, ← hzz]; exact heap_alloc_new w1 _
    have hzn : w2.heap.size = bx + 1 := by rw [hw2, ← hzz]; simp
    rw [← hw2, ← hbx]
    have HXo := HX
    have Kvw2 := Lib.hid (hE.blk Kvw1.out id)
    replace HX := Lib.hid (HX.out.ext hE)
    clear Kvw1
    have Kxw2 := Lib.hid hKn
    have hbz : w.heap.size ≤ bx := by have := HXo.out.size; omega
    clear hKn hE hw2 hbx HXo hzz
    have hbx := hbz
    clear hbz
    clear hzn
    refine (r_check v w2).mono ?_
    rintro e w3 ⟨rfl, hE⟩
    have Kvw3 := Lib.hid (hE.blk Kvw2.out id)
    have Kxw3 := Lib.hid (hE.blk Kxw2.out id)
    replace HX := Lib.hid (HX.out.ext hE)
    clear Kvw2
    clear Kxw2
    rw [cv]
    clear hE
    have v_0 : w3.cell? ⟨bv, 0, none⟩ = some _ := blk_cell (cs := [.int .i64 v.kind, .float .f64 v.num, .string v.text]) Kvw3.out rfl
    have v_1 : w3.cell? ⟨bv, 1, none⟩ = some _ := blk_cell (cs := [.int .i64 v.kind, .float .f64 v.num, .string v.text]) Kvw3.out rfl
    have v_2 : w3.cell? ⟨bv, 2, none⟩ = some _ := blk_cell (cs := [.int .i64 v.kind, .float .f64 v.num, .string v.text]) Kvw3.out rfl
    have v_l : bv < w3.heap.size := (Array.getElem?_eq_some_iff.1 Kvw3.out).1
    have x_0 : w3.cell? ⟨bx, 0, none⟩ = some _ := blk_cell (cs := [.int .i64 x.kind, .float .f64 x.num, .string x.text]) Kxw3.out rfl
    have x_1 : w3.cell? ⟨bx, 1, none⟩ = some _ := blk_cell (cs := [.int .i64 x.kind, .float .f64 x.num, .string x.text]) Kxw3.out rfl
    have x_2 : w3.cell? ⟨bx, 2, none⟩ = some _ := blk_cell (cs := [.int .i64 x.kind, .float .f64 x.num, .string x.text]) Kxw3.out rfl
    have x_l : bx < w3.heap.size := (Array.getElem?_eq_some_iff.1 Kxw3.out).1
    go_wp2_with fail
    refine (r_check x w3).mono ?_
    rintro e w4 ⟨rfl, hE⟩
    clear v_0 v_1 v_2 v_l x_0 x_1 x_2 x_l
    have Kvw4 := Lib.hid (hE.blk Kvw3.out id)
    have Kxw4 := Lib.hid (hE.blk Kxw3.out id)
    replace HX := Lib.hid (HX.out.ext hE)
    clear Kvw3
    clear Kxw3
    clear hE
    have v_0 : w4.cell? ⟨bv, 0, none⟩ = some _ := blk_cell (cs := [.int .i64 v.kind, .float .f64 v.num, .string v.text]) Kvw4.out rfl
    have v_1 : w4.cell? ⟨bv, 1, none⟩ = some _ := blk_cell (cs := [.int .i64 v.kind, .float .f64 v.num, .string v.text]) Kvw4.out rfl
    have v_2 : w4.cell? ⟨bv, 2, none⟩ = some _ := blk_cell (cs := [.int .i64 v.kind, .float .f64 v.num, .string v.text]) Kvw4.out rfl
    have v_l : bv < w4.heap.size := (Array.getElem?_eq_some_iff.1 Kvw4.out).1
    have x_0 : w4.cell? ⟨bx, 0, none⟩ = some _ := blk_cell (cs := [.int .i64 x.kind, .float .f64 x.num, .string x.text]) Kxw4.out rfl
    have x_1 : w4.cell? ⟨bx, 1, none⟩ = some _ := blk_cell (cs := [.int .i64 x.kind, .float .f64 x.num, .string x.text]) Kxw4.out rfl
    have x_2 : w4.cell? ⟨bx, 2, none⟩ = some _ := blk_cell (cs := [.int .i64 x.kind, .float .f64 x.num, .string x.text]) Kxw4.out rfl
    have x_l : bx < w4.heap.size := (Array.getElem?_eq_some_iff.1 Kxw4.out).1
    go_wp2
    go_ret
    exact ⟨rfl, Ext.below HX.out⟩
  by_cases kv : v.kind = 0
  case pos =>
    have nk : (v.kind == 0) = true := by simpa using kv
    clear kv
    have HX : Hid (Ext w w) := Lib.hid (Mod.refl _ w)
    go_enter Try.func7, Try.ntmps7
    go_wp2_with fail
    obtain ⟨w1, hw1⟩ : ∃ w1, w1 = w.alloc (.cells #[.int .i64 v.kind, .float .f64 v.num, .string v.text] 25) := ⟨_, rfl⟩
    obtain ⟨bv, hbv⟩ : ∃ bv, bv = w.heap.size := ⟨_, rfl⟩
    have hzz : w.heap.size = bv := hbv.symm
    have hE : Ext w w1 := by rw [hw1]; exact (Mod.refl _ w).alloc _
    have hKn : w1.heap[bv]? = some (.cells #[.int .i64 v.kind, .float .f64 v.num, .string v.text] 25 (0, 0)) := by rw [hw1, ← hzz]; exact heap_alloc_new w _
    have hzn : w1.heap.size = bv + 1 := by rw [hw1, ← hzz]; simp
    rw [← hw1, ← hbv]
    have HXo := HX
    replace HX := Lib.hid (HX.out.ext hE)
    have Kvw1 := Lib.hid hKn
    have hbz : w.heap.size ≤ bv := by have := HXo.out.size; omega
    clear hKn hE hw1 hbv HXo hzz
    have hbv := hbz
    clear hbz
    obtain ⟨w2, hw2⟩ : ∃ w2, w2 = w1.alloc (.cells #[.int .i64 x.kind, .float .f64 x.num, .string x.text] 25) := ⟨_, rfl⟩
    obtain ⟨bx, hbx⟩ : ∃ bx, bx = bv + 1 := ⟨_, rfl⟩
    have hzz : w1.heap.size = bx := hzn.trans hbx.symm
    clear hzn
    have hE : Ext w1 w2 := by rw [hw2]; exact (Mod.refl _ w1).alloc _
    have hKn : w2.heap[bx]? = some (.cells #[.int .i64 x.kind, .float .f64 x.num, .string x.text] 25 (0, 0)) := by rw [hw2, ← hzz]; exact heap_alloc_new w1 _
    have hzn : w2.heap.size = bx + 1 := by rw [hw2, ← hzz]; simp
    rw [← hw2, ← hbx]
    have HXo := HX
    have Kvw2 := Lib.hid (hE.blk Kvw1.out id)
    replace HX := Lib.hid (HX.out.ext hE)
    clear Kvw1
    have Kxw2 := Lib.hid hKn
    have hbz : w.heap.size ≤ bx := by have := HXo.out.size; omega
    clear hKn hE hw2 hbx HXo hzz
    have hbx := hbz
    clear hbz
    clear hzn
    refine (r_check v w2).mono ?_
    rintro e w3 ⟨rfl, hE⟩
    have Kvw3 := Lib.hid (hE.blk Kvw2.out id)
    have Kxw3 := Lib.hid (hE.blk Kxw2.out id)
    replace HX := Lib.hid (HX.out.ext hE)
    clear Kvw2
    clear Kxw2
    rw [cv]
    clear hE
    have v_0 : w3.cell? ⟨bv, 0, none⟩ = some _ := blk_cell (cs := [.int .i64 v.kind, .float .f64 v.num, .string v.text]) Kvw3.out rfl
    have v_1 : w3.cell? ⟨bv, 1, none⟩ = some _ := blk_cell (cs := [.int .i64 v.kind, .float .f64 v.num, .string v.text]) Kvw3.out rfl
    have v_2 : w3.cell? ⟨bv, 2, none⟩ = some _ := blk_cell (cs := [.int .i64 v.kind, .float .f64 v.num, .string v.text]) Kvw3.out rfl
    have v_l : bv < w3.heap.size := (Array.getElem?_eq_some_iff.1 Kvw3.out).1
    have x_0 : w3.cell? ⟨bx, 0, none⟩ = some _ := blk_cell (cs := [.int .i64 x.kind, .float .f64 x.num, .string x.text]) Kxw3.out rfl
    have x_1 : w3.cell? ⟨bx, 1, none⟩ = some _ := blk_cell (cs := [.int .i64 x.kind, .float .f64 x.num, .string x.text]) Kxw3.out rfl
    have x_2 : w3.cell? ⟨bx, 2, none⟩ = some _ := blk_cell (cs := [.int .i64 x.kind, .float .f64 x.num, .string x.text]) Kxw3.out rfl
    have x_l : bx < w3.heap.size := (Array.getElem?_eq_some_iff.1 Kxw3.out).1
    go_wp2_with fail
    refine (r_check x w3).mono ?_
    rintro e w4 ⟨rfl, hE⟩
    clear v_0 v_1 v_2 v_l x_0 x_1 x_2 x_l
    have Kvw4 := Lib.hid (hE.blk Kvw3.out id)
    have Kxw4 := Lib.hid (hE.blk Kxw3.out id)
    replace HX := Lib.hid (HX.out.ext hE)
    clear Kvw3
    clear Kxw3
    rw [cx]
    clear hE
    have v_0 : w4.cell? ⟨bv, 0, none⟩ = some _ := blk_cell (cs := [.int .i64 v.kind, .float .f64 v.num, .string v.text]) Kvw4.out rfl
    have v_1 : w4.cell? ⟨bv, 1, none⟩ = some _ := blk_cell (cs := [.int .i64 v.kind, .float .f64 v.num, .string v.text]) Kvw4.out rfl
    have v_2 : w4.cell? ⟨bv, 2, none⟩ = some _ := blk_cell (cs := [.int .i64 v.kind, .float .f64 v.num, .string v.text]) Kvw4.out rfl
    have v_l : bv < w4.heap.size := (Array.getElem?_eq_some_iff.1 Kvw4.out).1
    have x_0 : w4.cell? ⟨bx, 0, none⟩ = some _ := blk_cell (cs := [.int .i64 x.kind, .float .f64 x.num, .string x.text]) Kxw4.out rfl
    have x_1 : w4.cell? ⟨bx, 1, none⟩ = some _ := blk_cell (cs := [.int .i64 x.kind, .float .f64 x.num, .string x.text]) Kxw4.out rfl
    have x_2 : w4.cell? ⟨bx, 2, none⟩ = some _ := blk_cell (cs := [.int .i64 x.kind, .float .f64 x.num, .string x.text]) Kxw4.out rfl
    have x_l : bx < w4.heap.size := (Array.getElem?_eq_some_iff.1 Kxw4.out).1
    go_wp2
    go_ret
    exact ⟨rfl, Ext.below HX.out⟩
  have nk : (v.kind == 0) = false := by simpa using kv
  by_cases kx : x.kind = 0
  case pos =>
    have nl : (x.kind == 0) = true := by simpa using kx
    clear kx kv
    have HX : Hid (Ext w w) := Lib.hid (Mod.refl _ w)
    go_enter Try.func7, Try.ntmps7
    go_wp2_with fail
    obtain ⟨w1, hw1⟩ : ∃ w1, w1 = w.alloc (.cells #[.int .i64 v.kind, .float .f64 v.num, .string v.text] 25) := ⟨_, rfl⟩
    obtain ⟨bv, hbv⟩ : ∃ bv, bv = w.heap.size := ⟨_, rfl⟩
    have hzz : w.heap.size = bv := hbv.symm
    have hE : Ext w w1 := by rw [hw1]; exact (Mod.refl _ w).alloc _
    have hKn : w1.heap[bv]? = some (.cells #[.int .i64 v.kind, .float .f64 v.num, .string v.text] 25 (0, 0)) := by rw [hw1, ← hzz]; exact heap_alloc_new w _
    have hzn : w1.heap.size = bv + 1 := by rw [hw1, ← hzz]; simp
    rw [← hw1, ← hbv]
    have HXo := HX
    replace HX := Lib.hid (HX.out.ext hE)
    have Kvw1 := Lib.hid hKn
    have hbz : w.heap.size ≤ bv := by have := HXo.out.size; omega
    clear hKn hE hw1 hbv HXo hzz
    have hbv := hbz
    clear hbz
    obtain ⟨w2, hw2⟩ : ∃ w2, w2 = w1.alloc (.cells #[.int .i64 x.kind, .float .f64 x.num, .string x.text] 25) := ⟨_, rfl⟩
    obtain ⟨bx, hbx⟩ : ∃ bx, bx = bv + 1 := ⟨_, rfl⟩
    have hzz : w1.heap.size = bx := hzn.trans hbx.symm
    clear hzn
    have hE : Ext w1 w2 := by rw [hw2]; exact (Mod.refl _ w1).alloc _
    have hKn : w2.heap[bx]? = some (.cells #[.int .i64 x.kind, .float .f64 x.num, .string x.text] 25 (0, 0)) := by rw [hw2, ← hzz]; exact heap_alloc_new w1 _
    have hzn : w2.heap.size = bx + 1 := by rw [hw2, ← hzz]; simp
    rw [← hw2, ← hbx]
    have HXo := HX
    have Kvw2 := Lib.hid (hE.blk Kvw1.out id)
    replace HX := Lib.hid (HX.out.ext hE)
    clear Kvw1
    have Kxw2 := Lib.hid hKn
    have hbz : w.heap.size ≤ bx := by have := HXo.out.size; omega
    clear hKn hE hw2 hbx HXo hzz
    have hbx := hbz
    clear hbz
    clear hzn
    refine (r_check v w2).mono ?_
    rintro e w3 ⟨rfl, hE⟩
    have Kvw3 := Lib.hid (hE.blk Kvw2.out id)
    have Kxw3 := Lib.hid (hE.blk Kxw2.out id)
    replace HX := Lib.hid (HX.out.ext hE)
    clear Kvw2
    clear Kxw2
    rw [cv]
    clear hE
    have v_0 : w3.cell? ⟨bv, 0, none⟩ = some _ := blk_cell (cs := [.int .i64 v.kind, .float .f64 v.num, .string v.text]) Kvw3.out rfl
    have v_1 : w3.cell? ⟨bv, 1, none⟩ = some _ := blk_cell (cs := [.int .i64 v.kind, .float .f64 v.num, .string v.text]) Kvw3.out rfl
    have v_2 : w3.cell? ⟨bv, 2, none⟩ = some _ := blk_cell (cs := [.int .i64 v.kind, .float .f64 v.num, .string v.text]) Kvw3.out rfl
    have v_l : bv < w3.heap.size := (Array.getElem?_eq_some_iff.1 Kvw3.out).1
    have x_0 : w3.cell? ⟨bx, 0, none⟩ = some _ := blk_cell (cs := [.int .i64 x.kind, .float .f64 x.num, .string x.text]) Kxw3.out rfl
    have x_1 : w3.cell? ⟨bx, 1, none⟩ = some _ := blk_cell (cs := [.int .i64 x.kind, .float .f64 x.num, .string x.text]) Kxw3.out rfl
    have x_2 : w3.cell? ⟨bx, 2, none⟩ = some _ := blk_cell (cs := [.int .i64 x.kind, .float .f64 x.num, .string x.text]) Kxw3.out rfl
    have x_l : bx < w3.heap.size := (Array.getElem?_eq_some_iff.1 Kxw3.out).1
    go_wp2_with fail
    refine (r_check x w3).mono ?_
    rintro e w4 ⟨rfl, hE⟩
    clear v_0 v_1 v_2 v_l x_0 x_1 x_2 x_l
    have Kvw4 := Lib.hid (hE.blk Kvw3.out id)
    have Kxw4 := Lib.hid (hE.blk Kxw3.out id)
    replace HX := Lib.hid (HX.out.ext hE)
    clear Kvw3
    clear Kxw3
    rw [cx]
    clear hE
    have v_0 : w4.cell? ⟨bv, 0, none⟩ = some _ := blk_cell (cs := [.int .i64 v.kind, .float .f64 v.num, .string v.text]) Kvw4.out rfl
    have v_1 : w4.cell? ⟨bv, 1, none⟩ = some _ := blk_cell (cs := [.int .i64 v.kind, .float .f64 v.num, .string v.text]) Kvw4.out rfl
    have v_2 : w4.cell? ⟨bv, 2, none⟩ = some _ := blk_cell (cs := [.int .i64 v.kind, .float .f64 v.num, .string v.text]) Kvw4.out rfl
    have v_l : bv < w4.heap.size := (Array.getElem?_eq_some_iff.1 Kvw4.out).1
    have x_0 : w4.cell? ⟨bx, 0, none⟩ = some _ := blk_cell (cs := [.int .i64 x.kind, .float .f64 x.num, .string x.text]) Kxw4.out rfl
    have x_1 : w4.cell? ⟨bx, 1, none⟩ = some _ := blk_cell (cs := [.int .i64 x.kind, .float .f64 x.num, .string x.text]) Kxw4.out rfl
    have x_2 : w4.cell? ⟨bx, 2, none⟩ = some _ := blk_cell (cs := [.int .i64 x.kind, .float .f64 x.num, .string x.text]) Kxw4.out rfl
    have x_l : bx < w4.heap.size := (Array.getElem?_eq_some_iff.1 Kxw4.out).1
    go_wp2
    go_ret
    exact ⟨rfl, Ext.below HX.out⟩
  have nl : (x.kind == 0) = false := by simpa using kx
  have Hkv := Lib.hid kv
  have Hkx := Lib.hid kx
  have HX : Hid (Ext w w) := Lib.hid (Mod.refl _ w)
  go_enter Try.func7, Try.ntmps7
  go_wp2_with fail
  obtain ⟨w1, hw1⟩ : ∃ w1, w1 = w.alloc (.cells #[.int .i64 v.kind, .float .f64 v.num, .string v.text] 25) := ⟨_, rfl⟩
  obtain ⟨bv, hbv⟩ : ∃ bv, bv = w.heap.size := ⟨_, rfl⟩
  have hzz : w.heap.size = bv := hbv.symm
  have hE : Ext w w1 := by rw [hw1]; exact (Mod.refl _ w).alloc _
  have hKn : w1.heap[bv]? = some (.cells #[.int .i64 v.kind, .float .f64 v.num, .string v.text] 25 (0, 0)) := by rw [hw1, ← hzz]; exact heap_alloc_new w _
  have hzn : w1.heap.size = bv + 1 := by rw [hw1, ← hzz]; simp
  rw [← hw1, ← hbv]
  have HXo := HX
  replace HX := Lib.hid (HX.out.ext hE)
  have Kvw1 := Lib.hid hKn
  have hbz : w.heap.size ≤ bv := by have := HXo.out.size; omega
  clear hKn hE hw1 hbv HXo hzz
  have hbv := hbz
  clear hbz
  obtain ⟨w2, hw2⟩ : ∃ w2, w2 = w1.alloc (.cells #[.int .i64 x.kind, .float .f64 x.num, .string x.text] 25) := ⟨_, rfl⟩
  obtain ⟨bx, hbx⟩ : ∃ bx, bx = bv + 1 := ⟨_, rfl⟩
  have hzz : w1.heap.size = bx := hzn.trans hbx.symm
  clear hzn
  have hE : Ext w1 w2 := by rw [hw2]; exact (Mod.refl _ w1).alloc _
  have hKn : w2.heap[bx]? = some (.cells #[.int .i64 x.kind, .float .f64 x.num, .string x.text] 25 (0, 0)) := by rw [hw2, ← hzz]; exact heap_alloc_new w1 _
  have hzn : w2.heap.size = bx + 1 := by rw [hw2, ← hzz]; simp
  rw [← hw2, ← hbx]
  have HXo := HX
  have Kvw2 := Lib.hid (hE.blk Kvw1.out id)
  replace HX := Lib.hid (HX.out.ext hE)
  clear Kvw1
  have Kxw2 := Lib.hid hKn
  have hbz : w.heap.size ≤ bx := by have := HXo.out.size; omega
  clear hKn hE hw2 hbx HXo hzz
  have hbx := hbz
  clear hbz
  clear hzn
  refine (r_check v w2).mono ?_
  rintro e w3 ⟨rfl, hE⟩
  have Kvw3 := Lib.hid (hE.blk Kvw2.out id)
  have Kxw3 := Lib.hid (hE.blk Kxw2.out id)
  replace HX := Lib.hid (HX.out.ext hE)
  clear Kvw2
  clear Kxw2
  rw [cv]
  clear hE
  have v_0 : w3.cell? ⟨bv, 0, none⟩ = some _ := blk_cell (cs := [.int .i64 v.kind, .float .f64 v.num, .string v.text]) Kvw3.out rfl
  have v_1 : w3.cell? ⟨bv, 1, none⟩ = some _ := blk_cell (cs := [.int .i64 v.kind, .float .f64 v.num, .string v.text]) Kvw3.out rfl
  have v_2 : w3.cell? ⟨bv, 2, none⟩ = some _ := blk_cell (cs := [.int .i64 v.kind, .float .f64 v.num, .string v.text]) Kvw3.out rfl
  have v_l : bv < w3.heap.size := (Array.getElem?_eq_some_iff.1 Kvw3.out).1
  have x_0 : w3.cell? ⟨bx, 0, none⟩ = some _ := blk_cell (cs := [.int .i64 x.kind, .float .f64 x.num, .string x.text]) Kxw3.out rfl
  have x_1 : w3.cell? ⟨bx, 1, none⟩ = some _ := blk_cell (cs := [.int .i64 x.kind, .float .f64 x.num, .string x.text]) Kxw3.out rfl
  have x_2 : w3.cell? ⟨bx, 2, none⟩ = some _ := blk_cell (cs := [.int .i64 x.kind, .float .f64 x.num, .string x.text]) Kxw3.out rfl
  have x_l : bx < w3.heap.size := (Array.getElem?_eq_some_iff.1 Kxw3.out).1
  go_wp2_with fail
  refine (r_check x w3).mono ?_
  rintro e w4 ⟨rfl, hE⟩
  clear v_0 v_1 v_2 v_l x_0 x_1 x_2 x_l
  have Kvw4 := Lib.hid (hE.blk Kvw3.out id)
  have Kxw4 := Lib.hid (hE.blk Kxw3.out id)
  replace HX := Lib.hid (HX.out.ext hE)
  clear Kvw3
  clear Kxw3
  rw [cx]
  clear hE
  have v_0 : w4.cell? ⟨bv, 0, none⟩ = some _ := blk_cell (cs := [.int .i64 v.kind, .float .f64 v.num, .string v.text]) Kvw4.out rfl
  have v_1 : w4.cell? ⟨bv, 1, none⟩ = some _ := blk_cell (cs := [.int .i64 v.kind, .float .f64 v.num, .string v.text]) Kvw4.out rfl
  have v_2 : w4.cell? ⟨bv, 2, none⟩ = some _ := blk_cell (cs := [.int .i64 v.kind, .float .f64 v.num, .string v.text]) Kvw4.out rfl
  have v_l : bv < w4.heap.size := (Array.getElem?_eq_some_iff.1 Kvw4.out).1
  have x_0 : w4.cell? ⟨bx, 0, none⟩ = some _ := blk_cell (cs := [.int .i64 x.kind, .float .f64 x.num, .string x.text]) Kxw4.out rfl
  have x_1 : w4.cell? ⟨bx, 1, none⟩ = some _ := blk_cell (cs := [.int .i64 x.kind, .float .f64 x.num, .string x.text]) Kxw4.out rfl
  have x_2 : w4.cell? ⟨bx, 2, none⟩ = some _ := blk_cell (cs := [.int .i64 x.kind, .float .f64 x.num, .string x.text]) Kxw4.out rfl
  have x_l : bx < w4.heap.size := (Array.getElem?_eq_some_iff.1 Kxw4.out).1
  have Hcv := Lib.hid cv
  have Hcx := Lib.hid cx
  clear cv cx kv kx
  go_wp2
  have HX0 := HX
  go_loopw [5, 7] (fun pv iv wr => ∃ (i : Nat) (p : List APair), i ≤ 32 ∧ iv = .int .i64 i ∧ NewP w wr pv p ∧ FullP p i ∧ Ext w4 wr) (fun _ iv _ => 32 - (intOf iv).toNat)
  case atStart => exact ⟨0, [], by omega, rfl, ⟨World.ownsRow_nil _ _ _ _, by simp, by simp [Value.ownBlock]⟩, fullP_nil, Mod.refl _ _⟩
  case round =>
    clear HX v_0 v_1 v_2 v_l x_0 x_1 x_2 x_l
    obtain ⟨i, p, hi32, rfl, hN, hF, hE⟩ := hrel
    have Kvwr := Lib.hid (hE.blk Kvw4.out id)
    have Kxwr := Lib.hid (hE.blk Kxw4.out id)
    have HX := Lib.hid (HX0.out.ext hE)
    have HE0 := Lib.hid hE
    have HNp := Lib.hid hN
    have HF := Lib.hid hF
    have v_l : bv < wr.heap.size := (Array.getElem?_eq_some_iff.1 Kvwr.out).1
    have x_l : bx < wr.heap.size := (Array.getElem?_eq_some_iff.1 Kxwr.out).1
    clear hN hF hE
    by_cases hi : i < 32
    · obtain ⟨hdo, hF2⟩ := fullP_step HF.out hi Hcv.out Hkv.out
      obtain ⟨L, hL⟩ : ∃ L, setP (keyAt i) v false p = L := ⟨_, rfl⟩
      obtain ⟨t, ht⟩ : ∃ t, getP p (keyAt i) = t := ⟨_, rfl⟩
      rw [hL] at hdo hF2
      rw [ht] at hdo
      have Hdo := Lib.hid hdo
      have HF2 := Lib.hid hF2
      have h1 : Prs wr.drew _ _ p := HNp.out.prs
      have h2 : Prs (wr.alloc (.cells #[.int .i64 0, .int .i64 0, .float .f64 0, .string ⟨#[]⟩] 33)).drew _ _ p := HNp.out.prs.ext (((Mod.refl _ wr).alloc _).drew)
      have hlen : p.length ≤ 1000000 := by have := HF.out.len; omega
      have hi0 : (0 : Int) ≤ (i : Int) := by omega
      have hi1 : (i : Int) + 1 ≤ 33 := by omega
      have hi2 : (i : Int) ≤ (i : Int) + 1 := by omega
      have hi3 : (0 : Int) ≤ (i : Int) + 1 := by omega
      have htn : ((i : Int) + 1).toNat = i + 1 := by omega
      have v_0 : wr.cell? ⟨bv, 0, none⟩ = some _ := blk_cell (cs := [.int .i64 v.kind, .float .f64 v.num, .string v.text]) Kvwr.out rfl
      have v_1 : wr.cell? ⟨bv, 1, none⟩ = some _ := blk_cell (cs := [.int .i64 v.kind, .float .f64 v.num, .string v.text]) Kvwr.out rfl
      have v_2 : wr.cell? ⟨bv, 2, none⟩ = some _ := blk_cell (cs := [.int .i64 v.kind, .float .f64 v.num, .string v.text]) Kvwr.out rfl
      have v_n1 : ¬ bv = wr.heap.size := by omega
      have v_m : bv < wr.heap.size + 1 := by omega
      have v_n2 : ¬ wr.heap.size = bv := by omega
      have hal : Ext wr (wr.alloc (.cells #[.int .i64 0, .int .i64 0, .float .f64 0, .string ⟨#[]⟩] 33)).drew := ((Mod.refl _ wr).alloc _).drew
      have e_0 := hal.cell v_0 id
      have e_1 := hal.cell v_1 id
      have e_2 := hal.cell v_2 id
      have e_b : (wr.alloc (.cells #[.int .i64 0, .int .i64 0, .float .f64 0, .string ⟨#[]⟩] 33)).drew.heap[wr.heap.size]? = some (.cells #[.int .i64 0, .int .i64 0, .float .f64 0, .string ⟨#[]⟩] 33 (0, 0)) := heap_alloc_new wr _
      have E_b := Lib.hid e_b
      have E0 : Hid (_ ∧ _ ∧ _) := Lib.hid ⟨e_0, e_1, e_2⟩
      have V0 : Hid (_ ∧ _ ∧ _) := Lib.hid ⟨v_0, v_1, v_2⟩
      clear hdo hF2 hL ht e_b e_0 e_1 e_2 hal
      go_upto_region 8 with fail
      have hw1 : IntKind.i64.wrap ((i : Int) + 1) = (i : Int) + 1 := IntWalk.i64_in _ (by omega)
      go_cut [8, 9] (fun s8 s9 wx => ∃ (A : Option Addr) (cx bq : Nat), s8 = .slice A (i + 1) cx ∧ s9 = .pointer (some ⟨bq, 0, none⟩) ∧ NewP w wx (.slice A (i + 1) cx) L ∧ wx.heap[bq]? = some (.cells #[.int .i64 0, .int .i64 t.kind, .float .f64 t.num, .string t.text] 33 (0, 0)) ∧ Ext wr wx)
      case first =>
        go_region_held3 (fun w' => w'.cell? ⟨bv, 0, none⟩ = some (.int .i64 v.kind) ∧ w'.cell? ⟨bv, 1, none⟩ = some (.float .f64 v.num) ∧ w'.cell? ⟨bv, 2, none⟩ = some (.string v.text)) (go_keep)
          ((go_at_call 13; refine (kv_Do_at _ _ _ p ⟨2, keyAt i, AVal.zero, v⟩ (by first | exact h1 | exact h2) hlen hvo.out Hdo.out).mono ?_; rintro e w1 ⟨v1, rfl, hN, hE1⟩; obtain ⟨A1, c1, rfl⟩ := own_form hN.1; (have s_0 := hE1.cell (by first | exact V0.out.1 | exact E0.out.1) id); (have s_1 := hE1.cell (by first | exact V0.out.2.1 | exact E0.out.2.1) id); (have s_2 := hE1.cell (by first | exact V0.out.2.2 | exact E0.out.2.2) id); (try (have y_b := hE1.blk E_b.out id; have y_0 := blk_cell (cs := [.int .i64 0, .int .i64 0, .float .f64 0, .string ⟨#[]⟩]) (j := 0) y_b rfl; have y_1 := blk_cell (cs := [.int .i64 0, .int .i64 0, .float .f64 0, .string ⟨#[]⟩]) (j := 1) y_b rfl; have y_2 := blk_cell (cs := [.int .i64 0, .int .i64 0, .float .f64 0, .string ⟨#[]⟩]) (j := 2) y_b rfl; have y_3 := blk_cell (cs := [.int .i64 0, .int .i64 0, .float .f64 0, .string ⟨#[]⟩]) (j := 3) y_b rfl; have z_0 := blk_free 0 y_b; have z_1 := blk_free 1 y_b; have z_2 := blk_free 2 y_b; have z_3 := blk_free 3 y_b; have Y_b := Lib.hid y_b; clear y_b))))
        · go_wp2_with fail
          go_meet
          have hlenL := HF2.out.len
          have hsz := HX.out.size
          refine ⟨A1, c1, w1.heap.size, by rw [hlenL], rfl, ?_, heap_alloc_new w1 _, ?_⟩
          · rw [← hlenL]
            exact newP_mod (newP_up hN hsz) ((Mod.refl (fun _ => False) w1).alloc _) (fun _ _ => id)
          · exact Mod.alloc (Mod.ext (Mod.refl _ wr).drew hE1) _
        · go_wp2_with fail
          go_meet
          have hlenL := HF2.out.len
          have hsz := HX.out.size
          have hm : ∀ {a b c d}, Mod (fun k => k = wr.heap.size) w1 ((((w1.setCell ⟨wr.heap.size, 0, none⟩ a).setCell ⟨wr.heap.size, 1, none⟩ b).setCell ⟨wr.heap.size, 2, none⟩ c).setCell ⟨wr.heap.size, 3, none⟩ d) := fun {_ _ _ _} => mod_same (mod_same (mod_same (mod_same (Mod.refl _ w1) _ _) _ _) _ _) _ _
          refine ⟨A1, c1, wr.heap.size, by rw [hlenL], rfl, ?_, ?_, ?_⟩
          · rw [← hlenL]
            exact newP_mod (newP_up hN (by simp; omega)) hm (fun g hg e => by have := hN.2.2 g hg; simp at this; omega)
          · have := Y_b.out
            simp [World.setCell, Array.getElem?_modify, this]
          · exact Mod.toExt ((Ext.mod (Mod.ext ((Mod.refl (fun _ => False) wr).alloc _).drew hE1) (Since wr.heap.size)).trans hm (fun k _ e => by rw [e]; exact Nat.le_refl _))
      case rest =>
        obtain ⟨A1, c1, bq, rfl, rfl, hN1, hq, hE1⟩ := hcut
        have q_0 : wc.cell? ⟨bq, 0, none⟩ = some (.int .i64 0) := blk_cell (cs := [.int .i64 0, .int .i64 t.kind, .float .f64 t.num, .string t.text]) hq rfl
        have q_l : bq < wc.heap.size := (Array.getElem?_eq_some_iff.1 hq).1
        have HN1 := Lib.hid hN1
        have HE1 := Lib.hid (HE0.out.ext hE1)
        clear hN1 hq hE1
        go_wp2
        exact ⟨⟨i + 1, L, by omega, by go_num, HN1.out, HF2.out, HE1.out⟩, by simp [intOf]; omega⟩
    · obtain rfl : i = 32 := by omega
      obtain ⟨q1, q2, q3, t1, t2, t3, g1, g2, g3, g4, g5, g6, g7, g8, g9, g10⟩ := fullP_end HF.out Hcx.out Hkx.out
      have hp32 := HF.out.len
      have Hpr := Lib.hid HF.out.right
      have G1 := Lib.hid g1
      have G2 := Lib.hid g2
      have G3 := Lib.hid g3
      have G4 := Lib.hid g4
      have G5 := Lib.hid g5
      have G6 := Lib.hid g6
      have G7 := Lib.hid g7
      have G8 := Lib.hid g8
      have G9 := Lib.hid g9
      have G10 := Lib.hid g10
      have l1 : ((q1.length : Int) != 32) = false := by rw [g3]; rfl
      have l3 : ((q3.length : Int) == 32) = true := by rw [g9]; rfl
      have HY : Hid (Ext wr wr) := Lib.hid (Mod.refl _ wr)
      clear g1 g2 g3 g4 g5 g6 g7 g8 g9 g10 hi hp32 HE0
      have v_0 : wr.cell? ⟨bv, 0, none⟩ = some _ := blk_cell (cs := [.int .i64 v.kind, .float .f64 v.num, .string v.text]) Kvwr.out rfl
      have v_1 : wr.cell? ⟨bv, 1, none⟩ = some _ := blk_cell (cs := [.int .i64 v.kind, .float .f64 v.num, .string v.text]) Kvwr.out rfl
      have v_2 : wr.cell? ⟨bv, 2, none⟩ = some _ := blk_cell (cs := [.int .i64 v.kind, .float .f64 v.num, .string v.text]) Kvwr.out rfl
      have v_l : bv < wr.heap.size := (Array.getElem?_eq_some_iff.1 Kvwr.out).1
      have x_0 : wr.cell? ⟨bx, 0, none⟩ = some _ := blk_cell (cs := [.int .i64 x.kind, .float .f64 x.num, .string x.text]) Kxwr.out rfl
      have x_1 : wr.cell? ⟨bx, 1, none⟩ = some _ := blk_cell (cs := [.int .i64 x.kind, .float .f64 x.num, .string x.text]) Kxwr.out rfl
      have x_2 : wr.cell? ⟨bx, 2, none⟩ = some _ := blk_cell (cs := [.int .i64 x.kind, .float .f64 x.num, .string x.text]) Kxwr.out rfl
      have x_l : bx < wr.heap.size := (Array.getElem?_eq_some_iff.1 Kxwr.out).1
      go_wp2_with fail
      have hso := HX.out.size
      refine (kv_Do_at wr _ _ p ⟨2, ⟨#[71]⟩, AVal.zero, x⟩ HNp.out.prs (by have := right_len Hpr.out; omega) hxo.out G1.out).mono ?_
      rintro e w41 ⟨v1, rfl, hN, hE⟩
      clear v_0 v_1 v_2 v_l x_0 x_1 x_2 x_l
      have Kvw41 := Lib.hid (hE.blk Kvwr.out id)
      have Kxw41 := Lib.hid (hE.blk Kxwr.out id)
      replace HNp := Lib.hid (newP_mod HNp.out hE (fun _ _ => id))
      replace HX := Lib.hid (HX.out.ext hE)
      replace HY := Lib.hid (HY.out.ext hE)
      clear Kvwr
      clear Kxwr
      obtain ⟨Av1, cv1, rfl⟩ := own_form hN.1
      have Hfv1 : Hid (∀ g, (Value.slice Av1 p.length cv1).ownBlock = some g → wr.heap.size ≤ g) := Lib.hid (fun g hg => hN.2.2 g hg)
      have HNv1 := Lib.hid (newP_up hN hso)
      clear hN hso
      clear hE
      have v_0 : w41.cell? ⟨bv, 0, none⟩ = some _ := blk_cell (cs := [.int .i64 v.kind, .float .f64 v.num, .string v.text]) Kvw41.out rfl
      have v_1 : w41.cell? ⟨bv, 1, none⟩ = some _ := blk_cell (cs := [.int .i64 v.kind, .float .f64 v.num, .string v.text]) Kvw41.out rfl
      have v_2 : w41.cell? ⟨bv, 2, none⟩ = some _ := blk_cell (cs := [.int .i64 v.kind, .float .f64 v.num, .string v.text]) Kvw41.out rfl
      have v_l : bv < w41.heap.size := (Array.getElem?_eq_some_iff.1 Kvw41.out).1
      have x_0 : w41.cell? ⟨bx, 0, none⟩ = some _ := blk_cell (cs := [.int .i64 x.kind, .float .f64 x.num, .string x.text]) Kxw41.out rfl
      have x_1 : w41.cell? ⟨bx, 1, none⟩ = some _ := blk_cell (cs := [.int .i64 x.kind, .float .f64 x.num, .string x.text]) Kxw41.out rfl
      have x_2 : w41.cell? ⟨bx, 2, none⟩ = some _ := blk_cell (cs := [.int .i64 x.kind, .float .f64 x.num, .string x.text]) Kxw41.out rfl
      have x_l : bx < w41.heap.size := (Array.getElem?_eq_some_iff.1 Kxw41.out).1
      go_wp2_with fail
      obtain ⟨w42, hw42⟩ : ∃ w42, w42 = w41.alloc (.cells #[.int .i64 5, .int .i64 AVal.zero.kind, .float .f64 AVal.zero.num, .string AVal.zero.text] 33) := ⟨_, rfl⟩
      obtain ⟨br, hbr⟩ : ∃ br, br = w41.heap.size := ⟨_, rfl⟩
      have hzz : w41.heap.size = br := hbr.symm
      have hE : Ext w41 w42 := by rw [hw42]; exact (Mod.refl _ w41).alloc _
      have hKn : w42.heap[br]? = some (.cells #[.int .i64 5, .int .i64 AVal.zero.kind, .float .f64 AVal.zero.num, .string AVal.zero.text] 33 (0, 0)) := by rw [hw42, ← hzz]; exact heap_alloc_new w41 _
      have hzn : w42.heap.size = br + 1 := by rw [hw42, ← hzz]; simp
      rw [← hw42, ← hbr]
      clear v_0 v_1 v_2 v_l x_0 x_1 x_2 x_l
      have HXo := HX
      have HYo := HY
      have Kvw42 := Lib.hid (hE.blk Kvw41.out id)
      have Kxw42 := Lib.hid (hE.blk Kxw41.out id)
      replace HNp := Lib.hid (newP_mod HNp.out hE (fun _ _ => id))
      replace HNv1 := Lib.hid (newP_mod HNv1.out hE (fun _ _ => id))
      replace HX := Lib.hid (HX.out.ext hE)
      replace HY := Lib.hid (HY.out.ext hE)
      clear Kvw41
      clear Kxw41
      have Krw42 := Lib.hid hKn
      have hbz : w.heap.size ≤ br := by have := HXo.out.size; omega
      have hcr : wr.heap.size ≤ br := by have := HYo.out.size; omega
      clear HYo
      clear hKn hE hw42 hbr HXo hzz
      have hbr := hbz
      clear hbz
      clear hzn
      refine (k_pairs w42 _ _ _ _ p p HNp.out.prs HNv1.out.prs).mono ?_
      rintro e w43 ⟨rfl, hE⟩
      have Kvw43 := Lib.hid (hE.blk Kvw42.out id)
      have Kxw43 := Lib.hid (hE.blk Kxw42.out id)
      have Krw43 := Lib.hid (hE.blk Krw42.out id)
      replace HNp := Lib.hid (newP_mod HNp.out hE (fun _ _ => id))
      replace HNv1 := Lib.hid (newP_mod HNv1.out hE (fun _ _ => id))
      replace HX := Lib.hid (HX.out.ext hE)
      replace HY := Lib.hid (HY.out.ext hE)
      clear Kvw42
      clear Kxw42
      clear Krw42
      rw [eqPrs_refl]
      clear hE
      have v_0 : w43.cell? ⟨bv, 0, none⟩ = some _ := blk_cell (cs := [.int .i64 v.kind, .float .f64 v.num, .string v.text]) Kvw43.out rfl
      have v_1 : w43.cell? ⟨bv, 1, none⟩ = some _ := blk_cell (cs := [.int .i64 v.kind, .float .f64 v.num, .string v.text]) Kvw43.out rfl
      have v_2 : w43.cell? ⟨bv, 2, none⟩ = some _ := blk_cell (cs := [.int .i64 v.kind, .float .f64 v.num, .string v.text]) Kvw43.out rfl
      have v_l : bv < w43.heap.size := (Array.getElem?_eq_some_iff.1 Kvw43.out).1
      have x_0 : w43.cell? ⟨bx, 0, none⟩ = some _ := blk_cell (cs := [.int .i64 x.kind, .float .f64 x.num, .string x.text]) Kxw43.out rfl
      have x_1 : w43.cell? ⟨bx, 1, none⟩ = some _ := blk_cell (cs := [.int .i64 x.kind, .float .f64 x.num, .string x.text]) Kxw43.out rfl
      have x_2 : w43.cell? ⟨bx, 2, none⟩ = some _ := blk_cell (cs := [.int .i64 x.kind, .float .f64 x.num, .string x.text]) Kxw43.out rfl
      have x_l : bx < w43.heap.size := (Array.getElem?_eq_some_iff.1 Kxw43.out).1
      have r_0 : w43.cell? ⟨br, 0, none⟩ = some _ := blk_cell (cs := [.int .i64 5, .int .i64 AVal.zero.kind, .float .f64 AVal.zero.num, .string AVal.zero.text]) Krw43.out rfl
      have r_1 : w43.cell? ⟨br, 1, none⟩ = some _ := blk_cell (cs := [.int .i64 5, .int .i64 AVal.zero.kind, .float .f64 AVal.zero.num, .string AVal.zero.text]) Krw43.out rfl
      have r_2 : w43.cell? ⟨br, 2, none⟩ = some _ := blk_cell (cs := [.int .i64 5, .int .i64 AVal.zero.kind, .float .f64 AVal.zero.num, .string AVal.zero.text]) Krw43.out rfl
      have r_3 : w43.cell? ⟨br, 3, none⟩ = some _ := blk_cell (cs := [.int .i64 5, .int .i64 AVal.zero.kind, .float .f64 AVal.zero.num, .string AVal.zero.text]) Krw43.out rfl
      have r_l : br < w43.heap.size := (Array.getElem?_eq_some_iff.1 Krw43.out).1
      skip
      have r_1k : br < w43.heap.size := r_l
      go_wp2_with fail
      have hso := HX.out.size
      refine (kv_Do_at w43 _ _ p ⟨2, ⟨#[97]⟩, AVal.zero, x⟩ HNp.out.prs (by have := right_len Hpr.out; omega) hxo.out G2.out).mono ?_
      rintro e w44 ⟨v2, rfl, hN, hE⟩
      clear v_0 v_1 v_2 v_l x_0 x_1 x_2 x_l r_0 r_1 r_2 r_3 r_l
      have Kvw44 := Lib.hid (hE.blk Kvw43.out id)
      have Kxw44 := Lib.hid (hE.blk Kxw43.out id)
      have Krw44 := Lib.hid (hE.blk Krw43.out id)
      replace HNp := Lib.hid (newP_mod HNp.out hE (fun _ _ => id))
      replace HNv1 := Lib.hid (newP_mod HNv1.out hE (fun _ _ => id))
      replace HX := Lib.hid (HX.out.ext hE)
      replace HY := Lib.hid (HY.out.ext hE)
      clear Kvw43
      clear Kxw43
      clear Krw43
      obtain ⟨Av2, cv2, rfl⟩ := own_form hN.1
      have Hfv2 : Hid (∀ g, (Value.slice Av2 q1.length cv2).ownBlock = some g → w43.heap.size ≤ g) := Lib.hid (fun g hg => hN.2.2 g hg)
      have HNv2 := Lib.hid (newP_up hN hso)
      clear hN hso
      clear hE
      have v_0 : w44.cell? ⟨bv, 0, none⟩ = some _ := blk_cell (cs := [.int .i64 v.kind, .float .f64 v.num, .string v.text]) Kvw44.out rfl
      have v_1 : w44.cell? ⟨bv, 1, none⟩ = some _ := blk_cell (cs := [.int .i64 v.kind, .float .f64 v.num, .string v.text]) Kvw44.out rfl
      have v_2 : w44.cell? ⟨bv, 2, none⟩ = some _ := blk_cell (cs := [.int .i64 v.kind, .float .f64 v.num, .string v.text]) Kvw44.out rfl
      have v_l : bv < w44.heap.size := (Array.getElem?_eq_some_iff.1 Kvw44.out).1
      have x_0 : w44.cell? ⟨bx, 0, none⟩ = some _ := blk_cell (cs := [.int .i64 x.kind, .float .f64 x.num, .string x.text]) Kxw44.out rfl
      have x_1 : w44.cell? ⟨bx, 1, none⟩ = some _ := blk_cell (cs := [.int .i64 x.kind, .float .f64 x.num, .string x.text]) Kxw44.out rfl
      have x_2 : w44.cell? ⟨bx, 2, none⟩ = some _ := blk_cell (cs := [.int .i64 x.kind, .float .f64 x.num, .string x.text]) Kxw44.out rfl
      have x_l : bx < w44.heap.size := (Array.getElem?_eq_some_iff.1 Kxw44.out).1
      have r_0 : w44.cell? ⟨br, 0, none⟩ = some _ := blk_cell (cs := [.int .i64 5, .int .i64 AVal.zero.kind, .float .f64 AVal.zero.num, .string AVal.zero.text]) Krw44.out rfl
      have r_1 : w44.cell? ⟨br, 1, none⟩ = some _ := blk_cell (cs := [.int .i64 5, .int .i64 AVal.zero.kind, .float .f64 AVal.zero.num, .string AVal.zero.text]) Krw44.out rfl
      have r_2 : w44.cell? ⟨br, 2, none⟩ = some _ := blk_cell (cs := [.int .i64 5, .int .i64 AVal.zero.kind, .float .f64 AVal.zero.num, .string AVal.zero.text]) Krw44.out rfl
      have r_3 : w44.cell? ⟨br, 3, none⟩ = some _ := blk_cell (cs := [.int .i64 5, .int .i64 AVal.zero.kind, .float .f64 AVal.zero.num, .string AVal.zero.text]) Krw44.out rfl
      have r_l : br < w44.heap.size := (Array.getElem?_eq_some_iff.1 Krw44.out).1
      have r_q := r_l
      have fz0 := blk_free 0 Krw44.out
      have fz1 := blk_free 1 Krw44.out
      have fz2 := blk_free 2 Krw44.out
      have fz3 := blk_free 3 Krw44.out
      go_wp2_with fail
      clear v_0 v_1 v_2 v_l x_0 x_1 x_2 x_l r_0 r_1 r_2 r_3 r_l
      clear fz0 fz1 fz2 fz3
      obtain ⟨w45, hw45⟩ : ∃ w45, ((((w44.setCell ⟨br, 0, none⟩ (.int .i64 0)).setCell ⟨br, 1, none⟩ (.int .i64 t1.kind)).setCell ⟨br, 2, none⟩ (.float .f64 t1.num)).setCell ⟨br, 3, none⟩ (.string t1.text)) = w45 := ⟨_, rfl⟩
      have hKn : w45.heap[br]? = some (.cells #[.int .i64 0, .int .i64 t1.kind, .float .f64 t1.num, .string t1.text] 33 (0, 0)) := by
        rw [← hw45]
        have := Krw44.out
        simp [World.setCell, Array.getElem?_modify, this]
      have hM : Mod (fun k => k = br) w44 w45 := by rw [← hw45]; exact mod_same (mod_same (mod_same (mod_same (Mod.refl _ _) _ _) _ _) _ _) _ _
      rw [hw45]
      have Kvw45 := Lib.hid (hM.blk Kvw44.out (by omega))
      have Kxw45 := Lib.hid (hM.blk Kxw44.out (by omega))
      have Krw45 := Lib.hid hKn
      replace HNv2 := Lib.hid (newP_mod HNv2.out hM (fun g hg e => by have := Hfv2.out g hg; omega))
      replace HX : Hid (Ext w w45) := Lib.hid (Mod.toExt ((Ext.mod HX.out (Since w.heap.size)).trans hM (fun k _ e => by rw [e]; exact hbr)))
      clear hKn hM hw45
      clear Kvw44
      clear Kxw44
      clear Krw44
      have v_0 : w45.cell? ⟨bv, 0, none⟩ = some _ := blk_cell (cs := [.int .i64 v.kind, .float .f64 v.num, .string v.text]) Kvw45.out rfl
      have v_1 : w45.cell? ⟨bv, 1, none⟩ = some _ := blk_cell (cs := [.int .i64 v.kind, .float .f64 v.num, .string v.text]) Kvw45.out rfl
      have v_2 : w45.cell? ⟨bv, 2, none⟩ = some _ := blk_cell (cs := [.int .i64 v.kind, .float .f64 v.num, .string v.text]) Kvw45.out rfl
      have v_l : bv < w45.heap.size := (Array.getElem?_eq_some_iff.1 Kvw45.out).1
      have x_0 : w45.cell? ⟨bx, 0, none⟩ = some _ := blk_cell (cs := [.int .i64 x.kind, .float .f64 x.num, .string x.text]) Kxw45.out rfl
      have x_1 : w45.cell? ⟨bx, 1, none⟩ = some _ := blk_cell (cs := [.int .i64 x.kind, .float .f64 x.num, .string x.text]) Kxw45.out rfl
      have x_2 : w45.cell? ⟨bx, 2, none⟩ = some _ := blk_cell (cs := [.int .i64 x.kind, .float .f64 x.num, .string x.text]) Kxw45.out rfl
      have x_l : bx < w45.heap.size := (Array.getElem?_eq_some_iff.1 Kxw45.out).1
      have r_0 : w45.cell? ⟨br, 0, none⟩ = some _ := blk_cell (cs := [.int .i64 0, .int .i64 t1.kind, .float .f64 t1.num, .string t1.text]) Krw45.out rfl
      have r_1 : w45.cell? ⟨br, 1, none⟩ = some _ := blk_cell (cs := [.int .i64 0, .int .i64 t1.kind, .float .f64 t1.num, .string t1.text]) Krw45.out rfl
      have r_2 : w45.cell? ⟨br, 2, none⟩ = some _ := blk_cell (cs := [.int .i64 0, .int .i64 t1.kind, .float .f64 t1.num, .string t1.text]) Krw45.out rfl
      have r_3 : w45.cell? ⟨br, 3, none⟩ = some _ := blk_cell (cs := [.int .i64 0, .int .i64 t1.kind, .float .f64 t1.num, .string t1.text]) Krw45.out rfl
      have r_l : br < w45.heap.size := (Array.getElem?_eq_some_iff.1 Krw45.out).1
      clear r_q
      have r_2k : br < w45.heap.size := r_l
      go_wp2_with fail
      have hso := HX.out.size
      refine (kv_Do_at w45 _ _ q1 ⟨3, ⟨#[98]⟩, AVal.zero, AVal.zero⟩ HNv2.out.prs (by have := right_len G4.out; omega) (by exact zero_ok) G5.out).mono ?_
      rintro e w46 ⟨v3, rfl, hN, hE⟩
      clear v_0 v_1 v_2 v_l x_0 x_1 x_2 x_l r_0 r_1 r_2 r_3 r_l
      have Kvw46 := Lib.hid (hE.blk Kvw45.out id)
      have Kxw46 := Lib.hid (hE.blk Kxw45.out id)
      have Krw46 := Lib.hid (hE.blk Krw45.out id)
      replace HNv2 := Lib.hid (newP_mod HNv2.out hE (fun _ _ => id))
      replace HX := Lib.hid (HX.out.ext hE)
      clear Kvw45
      clear Kxw45
      clear Krw45
      obtain ⟨Av3, cv3, rfl⟩ := own_form hN.1
      have Hfv3 : Hid (∀ g, (Value.slice Av3 q2.length cv3).ownBlock = some g → w45.heap.size ≤ g) := Lib.hid (fun g hg => hN.2.2 g hg)
      have HNv3 := Lib.hid (newP_up hN hso)
      clear hN hso
      clear hE
      have v_0 : w46.cell? ⟨bv, 0, none⟩ = some _ := blk_cell (cs := [.int .i64 v.kind, .float .f64 v.num, .string v.text]) Kvw46.out rfl
      have v_1 : w46.cell? ⟨bv, 1, none⟩ = some _ := blk_cell (cs := [.int .i64 v.kind, .float .f64 v.num, .string v.text]) Kvw46.out rfl
      have v_2 : w46.cell? ⟨bv, 2, none⟩ = some _ := blk_cell (cs := [.int .i64 v.kind, .float .f64 v.num, .string v.text]) Kvw46.out rfl
      have v_l : bv < w46.heap.size := (Array.getElem?_eq_some_iff.1 Kvw46.out).1
      have x_0 : w46.cell? ⟨bx, 0, none⟩ = some _ := blk_cell (cs := [.int .i64 x.kind, .float .f64 x.num, .string x.text]) Kxw46.out rfl
      have x_1 : w46.cell? ⟨bx, 1, none⟩ = some _ := blk_cell (cs := [.int .i64 x.kind, .float .f64 x.num, .string x.text]) Kxw46.out rfl
      have x_2 : w46.cell? ⟨bx, 2, none⟩ = some _ := blk_cell (cs := [.int .i64 x.kind, .float .f64 x.num, .string x.text]) Kxw46.out rfl
      have x_l : bx < w46.heap.size := (Array.getElem?_eq_some_iff.1 Kxw46.out).1
      have r_0 : w46.cell? ⟨br, 0, none⟩ = some _ := blk_cell (cs := [.int .i64 0, .int .i64 t1.kind, .float .f64 t1.num, .string t1.text]) Krw46.out rfl
      have r_1 : w46.cell? ⟨br, 1, none⟩ = some _ := blk_cell (cs := [.int .i64 0, .int .i64 t1.kind, .float .f64 t1.num, .string t1.text]) Krw46.out rfl
      have r_2 : w46.cell? ⟨br, 2, none⟩ = some _ := blk_cell (cs := [.int .i64 0, .int .i64 t1.kind, .float .f64 t1.num, .string t1.text]) Krw46.out rfl
      have r_3 : w46.cell? ⟨br, 3, none⟩ = some _ := blk_cell (cs := [.int .i64 0, .int .i64 t1.kind, .float .f64 t1.num, .string t1.text]) Krw46.out rfl
      have r_l : br < w46.heap.size := (Array.getElem?_eq_some_iff.1 Krw46.out).1
      have r_q := r_l
      have fz0 := blk_free 0 Krw46.out
      have fz1 := blk_free 1 Krw46.out
      have fz2 := blk_free 2 Krw46.out
      have fz3 := blk_free 3 Krw46.out
      go_wp2_with fail
      clear v_0 v_1 v_2 v_l x_0 x_1 x_2 x_l r_0 r_1 r_2 r_3 r_l
      clear fz0 fz1 fz2 fz3
      obtain ⟨w47, hw47⟩ : ∃ w47, ((((w46.setCell ⟨br, 0, none⟩ (.int .i64 0)).setCell ⟨br, 1, none⟩ (.int .i64 t2.kind)).setCell ⟨br, 2, none⟩ (.float .f64 t2.num)).setCell ⟨br, 3, none⟩ (.string t2.text)) = w47 := ⟨_, rfl⟩
      have hKn : w47.heap[br]? = some (.cells #[.int .i64 0, .int .i64 t2.kind, .float .f64 t2.num, .string t2.text] 33 (0, 0)) := by
        rw [← hw47]
        have := Krw46.out
        simp [World.setCell, Array.getElem?_modify, this]
      have hM : Mod (fun k => k = br) w46 w47 := by rw [← hw47]; exact mod_same (mod_same (mod_same (mod_same (Mod.refl _ _) _ _) _ _) _ _) _ _
      rw [hw47]
      have Kvw47 := Lib.hid (hM.blk Kvw46.out (by omega))
      have Kxw47 := Lib.hid (hM.blk Kxw46.out (by omega))
      have Krw47 := Lib.hid hKn
      replace HNv3 := Lib.hid (newP_mod HNv3.out hM (fun g hg e => by have := Hfv3.out g hg; omega))
      replace HX : Hid (Ext w w47) := Lib.hid (Mod.toExt ((Ext.mod HX.out (Since w.heap.size)).trans hM (fun k _ e => by rw [e]; exact hbr)))
      clear hKn hM hw47
      clear Kvw46
      clear Kxw46
      clear Krw46
      have v_0 : w47.cell? ⟨bv, 0, none⟩ = some _ := blk_cell (cs := [.int .i64 v.kind, .float .f64 v.num, .string v.text]) Kvw47.out rfl
      have v_1 : w47.cell? ⟨bv, 1, none⟩ = some _ := blk_cell (cs := [.int .i64 v.kind, .float .f64 v.num, .string v.text]) Kvw47.out rfl
      have v_2 : w47.cell? ⟨bv, 2, none⟩ = some _ := blk_cell (cs := [.int .i64 v.kind, .float .f64 v.num, .string v.text]) Kvw47.out rfl
      have v_l : bv < w47.heap.size := (Array.getElem?_eq_some_iff.1 Kvw47.out).1
      have x_0 : w47.cell? ⟨bx, 0, none⟩ = some _ := blk_cell (cs := [.int .i64 x.kind, .float .f64 x.num, .string x.text]) Kxw47.out rfl
      have x_1 : w47.cell? ⟨bx, 1, none⟩ = some _ := blk_cell (cs := [.int .i64 x.kind, .float .f64 x.num, .string x.text]) Kxw47.out rfl
      have x_2 : w47.cell? ⟨bx, 2, none⟩ = some _ := blk_cell (cs := [.int .i64 x.kind, .float .f64 x.num, .string x.text]) Kxw47.out rfl
      have x_l : bx < w47.heap.size := (Array.getElem?_eq_some_iff.1 Kxw47.out).1
      have r_0 : w47.cell? ⟨br, 0, none⟩ = some _ := blk_cell (cs := [.int .i64 0, .int .i64 t2.kind, .float .f64 t2.num, .string t2.text]) Krw47.out rfl
      have r_1 : w47.cell? ⟨br, 1, none⟩ = some _ := blk_cell (cs := [.int .i64 0, .int .i64 t2.kind, .float .f64 t2.num, .string t2.text]) Krw47.out rfl
      have r_2 : w47.cell? ⟨br, 2, none⟩ = some _ := blk_cell (cs := [.int .i64 0, .int .i64 t2.kind, .float .f64 t2.num, .string t2.text]) Krw47.out rfl
      have r_3 : w47.cell? ⟨br, 3, none⟩ = some _ := blk_cell (cs := [.int .i64 0, .int .i64 t2.kind, .float .f64 t2.num, .string t2.text]) Krw47.out rfl
      have r_l : br < w47.heap.size := (Array.getElem?_eq_some_iff.1 Krw47.out).1
      clear r_q
      have r_3k : br < w47.heap.size := r_l
      go_wp2_with fail
      have hso := HX.out.size
      refine (kv_Do_at w47 _ _ q2 ⟨4, ⟨#[71]⟩, AVal.zero, x⟩ HNv3.out.prs (by have := right_len G7.out; omega) hxo.out G8.out).mono ?_
      rintro e w48 ⟨v4, rfl, hN, hE⟩
      clear v_0 v_1 v_2 v_l x_0 x_1 x_2 x_l r_0 r_1 r_2 r_3 r_l
      have Kvw48 := Lib.hid (hE.blk Kvw47.out id)
      have Kxw48 := Lib.hid (hE.blk Kxw47.out id)
      have Krw48 := Lib.hid (hE.blk Krw47.out id)
      replace HNv3 := Lib.hid (newP_mod HNv3.out hE (fun _ _ => id))
      replace HX := Lib.hid (HX.out.ext hE)
      clear Kvw47
      clear Kxw47
      clear Krw47
      obtain ⟨Av4, cv4, rfl⟩ := own_form hN.1
      have Hfv4 : Hid (∀ g, (Value.slice Av4 q3.length cv4).ownBlock = some g → w47.heap.size ≤ g) := Lib.hid (fun g hg => hN.2.2 g hg)
      have HNv4 := Lib.hid (newP_up hN hso)
      clear hN hso
      clear hE
      have v_0 : w48.cell? ⟨bv, 0, none⟩ = some _ := blk_cell (cs := [.int .i64 v.kind, .float .f64 v.num, .string v.text]) Kvw48.out rfl
      have v_1 : w48.cell? ⟨bv, 1, none⟩ = some _ := blk_cell (cs := [.int .i64 v.kind, .float .f64 v.num, .string v.text]) Kvw48.out rfl
      have v_2 : w48.cell? ⟨bv, 2, none⟩ = some _ := blk_cell (cs := [.int .i64 v.kind, .float .f64 v.num, .string v.text]) Kvw48.out rfl
      have v_l : bv < w48.heap.size := (Array.getElem?_eq_some_iff.1 Kvw48.out).1
      have x_0 : w48.cell? ⟨bx, 0, none⟩ = some _ := blk_cell (cs := [.int .i64 x.kind, .float .f64 x.num, .string x.text]) Kxw48.out rfl
      have x_1 : w48.cell? ⟨bx, 1, none⟩ = some _ := blk_cell (cs := [.int .i64 x.kind, .float .f64 x.num, .string x.text]) Kxw48.out rfl
      have x_2 : w48.cell? ⟨bx, 2, none⟩ = some _ := blk_cell (cs := [.int .i64 x.kind, .float .f64 x.num, .string x.text]) Kxw48.out rfl
      have x_l : bx < w48.heap.size := (Array.getElem?_eq_some_iff.1 Kxw48.out).1
      have r_0 : w48.cell? ⟨br, 0, none⟩ = some _ := blk_cell (cs := [.int .i64 0, .int .i64 t2.kind, .float .f64 t2.num, .string t2.text]) Krw48.out rfl
      have r_1 : w48.cell? ⟨br, 1, none⟩ = some _ := blk_cell (cs := [.int .i64 0, .int .i64 t2.kind, .float .f64 t2.num, .string t2.text]) Krw48.out rfl
      have r_2 : w48.cell? ⟨br, 2, none⟩ = some _ := blk_cell (cs := [.int .i64 0, .int .i64 t2.kind, .float .f64 t2.num, .string t2.text]) Krw48.out rfl
      have r_3 : w48.cell? ⟨br, 3, none⟩ = some _ := blk_cell (cs := [.int .i64 0, .int .i64 t2.kind, .float .f64 t2.num, .string t2.text]) Krw48.out rfl
      have r_l : br < w48.heap.size := (Array.getElem?_eq_some_iff.1 Krw48.out).1
      have r_q := r_l
      have fz0 := blk_free 0 Krw48.out
      have fz1 := blk_free 1 Krw48.out
      have fz2 := blk_free 2 Krw48.out
      have fz3 := blk_free 3 Krw48.out
      go_wp2_with fail
      clear v_0 v_1 v_2 v_l x_0 x_1 x_2 x_l r_0 r_1 r_2 r_3 r_l
      clear fz0 fz1 fz2 fz3
      obtain ⟨w49, hw49⟩ : ∃ w49, ((((w48.setCell ⟨br, 0, none⟩ (.int .i64 0)).setCell ⟨br, 1, none⟩ (.int .i64 t3.kind)).setCell ⟨br, 2, none⟩ (.float .f64 t3.num)).setCell ⟨br, 3, none⟩ (.string t3.text)) = w49 := ⟨_, rfl⟩
      have hKn : w49.heap[br]? = some (.cells #[.int .i64 0, .int .i64 t3.kind, .float .f64 t3.num, .string t3.text] 33 (0, 0)) := by
        rw [← hw49]
        have := Krw48.out
        simp [World.setCell, Array.getElem?_modify, this]
      have hM : Mod (fun k => k = br) w48 w49 := by rw [← hw49]; exact mod_same (mod_same (mod_same (mod_same (Mod.refl _ _) _ _) _ _) _ _) _ _
      rw [hw49]
      have Kvw49 := Lib.hid (hM.blk Kvw48.out (by omega))
      have Kxw49 := Lib.hid (hM.blk Kxw48.out (by omega))
      have Krw49 := Lib.hid hKn
      replace HNv4 := Lib.hid (newP_mod HNv4.out hM (fun g hg e => by have := Hfv4.out g hg; omega))
      replace HX : Hid (Ext w w49) := Lib.hid (Mod.toExt ((Ext.mod HX.out (Since w.heap.size)).trans hM (fun k _ e => by rw [e]; exact hbr)))
      clear hKn hM hw49
      clear Kvw48
      clear Kxw48
      clear Krw48
      have v_0 : w49.cell? ⟨bv, 0, none⟩ = some _ := blk_cell (cs := [.int .i64 v.kind, .float .f64 v.num, .string v.text]) Kvw49.out rfl
      have v_1 : w49.cell? ⟨bv, 1, none⟩ = some _ := blk_cell (cs := [.int .i64 v.kind, .float .f64 v.num, .string v.text]) Kvw49.out rfl
      have v_2 : w49.cell? ⟨bv, 2, none⟩ = some _ := blk_cell (cs := [.int .i64 v.kind, .float .f64 v.num, .string v.text]) Kvw49.out rfl
      have v_l : bv < w49.heap.size := (Array.getElem?_eq_some_iff.1 Kvw49.out).1
      have x_0 : w49.cell? ⟨bx, 0, none⟩ = some _ := blk_cell (cs := [.int .i64 x.kind, .float .f64 x.num, .string x.text]) Kxw49.out rfl
      have x_1 : w49.cell? ⟨bx, 1, none⟩ = some _ := blk_cell (cs := [.int .i64 x.kind, .float .f64 x.num, .string x.text]) Kxw49.out rfl
      have x_2 : w49.cell? ⟨bx, 2, none⟩ = some _ := blk_cell (cs := [.int .i64 x.kind, .float .f64 x.num, .string x.text]) Kxw49.out rfl
      have x_l : bx < w49.heap.size := (Array.getElem?_eq_some_iff.1 Kxw49.out).1
      have r_0 : w49.cell? ⟨br, 0, none⟩ = some _ := blk_cell (cs := [.int .i64 0, .int .i64 t3.kind, .float .f64 t3.num, .string t3.text]) Krw49.out rfl
      have r_1 : w49.cell? ⟨br, 1, none⟩ = some _ := blk_cell (cs := [.int .i64 0, .int .i64 t3.kind, .float .f64 t3.num, .string t3.text]) Krw49.out rfl
      have r_2 : w49.cell? ⟨br, 2, none⟩ = some _ := blk_cell (cs := [.int .i64 0, .int .i64 t3.kind, .float .f64 t3.num, .string t3.text]) Krw49.out rfl
      have r_3 : w49.cell? ⟨br, 3, none⟩ = some _ := blk_cell (cs := [.int .i64 0, .int .i64 t3.kind, .float .f64 t3.num, .string t3.text]) Krw49.out rfl
      have r_l : br < w49.heap.size := (Array.getElem?_eq_some_iff.1 Krw49.out).1
      clear r_q
      go_wp2_with fail
      refine (kv_check w49 _ _ q3 HNv4.out.prs).mono ?_
      rintro e w50 ⟨rfl, hE⟩
      clear v_0 v_1 v_2 v_l x_0 x_1 x_2 x_l r_0 r_1 r_2 r_3 r_l
      have Kvw50 := Lib.hid (hE.blk Kvw49.out id)
      have Kxw50 := Lib.hid (hE.blk Kxw49.out id)
      have Krw50 := Lib.hid (hE.blk Krw49.out id)
      replace HNv4 := Lib.hid (newP_mod HNv4.out hE (fun _ _ => id))
      replace HX := Lib.hid (HX.out.ext hE)
      clear Kvw49
      clear Kxw49
      clear Krw49
      rw [chkP_yes G10.out]
      clear hE
      have v_0 : w50.cell? ⟨bv, 0, none⟩ = some _ := blk_cell (cs := [.int .i64 v.kind, .float .f64 v.num, .string v.text]) Kvw50.out rfl
      have v_1 : w50.cell? ⟨bv, 1, none⟩ = some _ := blk_cell (cs := [.int .i64 v.kind, .float .f64 v.num, .string v.text]) Kvw50.out rfl
      have v_2 : w50.cell? ⟨bv, 2, none⟩ = some _ := blk_cell (cs := [.int .i64 v.kind, .float .f64 v.num, .string v.text]) Kvw50.out rfl
      have v_l : bv < w50.heap.size := (Array.getElem?_eq_some_iff.1 Kvw50.out).1
      have x_0 : w50.cell? ⟨bx, 0, none⟩ = some _ := blk_cell (cs := [.int .i64 x.kind, .float .f64 x.num, .string x.text]) Kxw50.out rfl
      have x_1 : w50.cell? ⟨bx, 1, none⟩ = some _ := blk_cell (cs := [.int .i64 x.kind, .float .f64 x.num, .string x.text]) Kxw50.out rfl
      have x_2 : w50.cell? ⟨bx, 2, none⟩ = some _ := blk_cell (cs := [.int .i64 x.kind, .float .f64 x.num, .string x.text]) Kxw50.out rfl
      have x_l : bx < w50.heap.size := (Array.getElem?_eq_some_iff.1 Kxw50.out).1
      have r_0 : w50.cell? ⟨br, 0, none⟩ = some _ := blk_cell (cs := [.int .i64 0, .int .i64 t3.kind, .float .f64 t3.num, .string t3.text]) Krw50.out rfl
      have r_1 : w50.cell? ⟨br, 1, none⟩ = some _ := blk_cell (cs := [.int .i64 0, .int .i64 t3.kind, .float .f64 t3.num, .string t3.text]) Krw50.out rfl
      have r_2 : w50.cell? ⟨br, 2, none⟩ = some _ := blk_cell (cs := [.int .i64 0, .int .i64 t3.kind, .float .f64 t3.num, .string t3.text]) Krw50.out rfl
      have r_3 : w50.cell? ⟨br, 3, none⟩ = some _ := blk_cell (cs := [.int .i64 0, .int .i64 t3.kind, .float .f64 t3.num, .string t3.text]) Krw50.out rfl
      have r_l : br < w50.heap.size := (Array.getElem?_eq_some_iff.1 Krw50.out).1
      go_wp2_with fail
      refine (l_wakes w50).mono ?_
      rintro e w51 ⟨rfl, hE⟩
      clear v_0 v_1 v_2 v_l x_0 x_1 x_2 x_l r_0 r_1 r_2 r_3 r_l
      have Kvw51 := Lib.hid (hE.blk Kvw50.out id)
      have Kxw51 := Lib.hid (hE.blk Kxw50.out id)
      have Krw51 := Lib.hid (hE.blk Krw50.out id)
      replace HNv4 := Lib.hid (newP_mod HNv4.out hE (fun _ _ => id))
      replace HX := Lib.hid (HX.out.ext hE)
      clear Kvw50
      clear Kxw50
      clear Krw50
      clear hE
      have v_0 : w51.cell? ⟨bv, 0, none⟩ = some _ := blk_cell (cs := [.int .i64 v.kind, .float .f64 v.num, .string v.text]) Kvw51.out rfl
      have v_1 : w51.cell? ⟨bv, 1, none⟩ = some _ := blk_cell (cs := [.int .i64 v.kind, .float .f64 v.num, .string v.text]) Kvw51.out rfl
      have v_2 : w51.cell? ⟨bv, 2, none⟩ = some _ := blk_cell (cs := [.int .i64 v.kind, .float .f64 v.num, .string v.text]) Kvw51.out rfl
      have v_l : bv < w51.heap.size := (Array.getElem?_eq_some_iff.1 Kvw51.out).1
      have x_0 : w51.cell? ⟨bx, 0, none⟩ = some _ := blk_cell (cs := [.int .i64 x.kind, .float .f64 x.num, .string x.text]) Kxw51.out rfl
      have x_1 : w51.cell? ⟨bx, 1, none⟩ = some _ := blk_cell (cs := [.int .i64 x.kind, .float .f64 x.num, .string x.text]) Kxw51.out rfl
      have x_2 : w51.cell? ⟨bx, 2, none⟩ = some _ := blk_cell (cs := [.int .i64 x.kind, .float .f64 x.num, .string x.text]) Kxw51.out rfl
      have x_l : bx < w51.heap.size := (Array.getElem?_eq_some_iff.1 Kxw51.out).1
      have r_0 : w51.cell? ⟨br, 0, none⟩ = some _ := blk_cell (cs := [.int .i64 0, .int .i64 t3.kind, .float .f64 t3.num, .string t3.text]) Krw51.out rfl
      have r_1 : w51.cell? ⟨br, 1, none⟩ = some _ := blk_cell (cs := [.int .i64 0, .int .i64 t3.kind, .float .f64 t3.num, .string t3.text]) Krw51.out rfl
      have r_2 : w51.cell? ⟨br, 2, none⟩ = some _ := blk_cell (cs := [.int .i64 0, .int .i64 t3.kind, .float .f64 t3.num, .string t3.text]) Krw51.out rfl
      have r_3 : w51.cell? ⟨br, 3, none⟩ = some _ := blk_cell (cs := [.int .i64 0, .int .i64 t3.kind, .float .f64 t3.num, .string t3.text]) Krw51.out rfl
      have r_l : br < w51.heap.size := (Array.getElem?_eq_some_iff.1 Krw51.out).1
      go_wp2
      go_ret
      exact ⟨rfl, Ext.below HX.out⟩
theorem kvFull_a (w : World) (v x : AVal) (hv : v.ok) (hx : x.ok) :
    Calls Try.prog 7 #[.agg #[.int .i64 v.kind, .float .f64 v.num, .string v.text], .agg #[.int .i64 x.kind, .float .f64 x.num, .string x.text]] w fun e w' => e = .returned (.bool true) ∧ Below w.heap.size w w' := kvFull_walk w v x hv hx
end Go.Proofs.Ythhjaneadbkccaa
