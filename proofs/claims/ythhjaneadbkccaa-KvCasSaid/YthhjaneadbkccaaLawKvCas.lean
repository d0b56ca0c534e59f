/-
  The walk of KvCas. Conditions: as the theorem names them.
-/
import Derived.Test.YthhjaneadbkccaaKvMore
import Derived.Test.YthhjaneadbkccaaTake
namespace Go.Proofs.Ythhjaneadbkccaa
set_option linter.unusedSimpArgs false
open Go.RowKit

set_option maxRecDepth 100000 in
set_option maxHeartbeats 1000000 in
theorem kvCas_walk (w : World) (T : Nat → Prop) (A : Option Addr) (n cc : Nat) (l : List ACmd) (hC : Cms w T (.slice A n cc) l) (hn : l.length = n) (key : ByteArray) (a b : AVal) (ha : a.ok) (hb : b.ok) :
    Calls Try.prog 5 #[.slice A n cc, .string key, .agg #[.int .i64 a.kind, .float .f64 a.num, .string a.text], .agg #[.int .i64 b.kind, .float .f64 b.num, .string b.text]] w fun e w' => e = .returned (.bool true) ∧ Below w.heap.size w w' := by
  have hl := hC.1.le
  rw [hn] at hl
  unfold maxLen at hl
  by_cases h0 : 1000 < n
  · have d0 : decide ((n : Int) > 1000) = true := by simp; omega
    go_enter Try.func5, Try.ntmps5
    go_wp2
    go_ret
    exact ⟨rfl, Ext.below (Mod.alloc (Mod.alloc (Mod.refl _ w) _) _)⟩
  have d0 : decide ((n : Int) > 1000) = false := by simp; omega
  by_cases h1 : 2000 < key.size
  · have d1 : decide ((key.size : Int) > 2000) = true := by simp; omega
    go_enter Try.func5, Try.ntmps5
    go_wp2
    go_ret
    exact ⟨rfl, Ext.below (Mod.alloc (Mod.alloc (Mod.refl _ w) _) _)⟩
  have d1 : decide ((key.size : Int) > 2000) = false := by simp; omega
  by_cases h2 : 2000 < a.text.size
  · have d2 : decide ((a.text.size : Int) > 2000) = true := by simp; omega
    go_enter Try.func5, Try.ntmps5
    go_wp2
    go_ret
    exact ⟨rfl, Ext.below (Mod.alloc (Mod.alloc (Mod.refl _ w) _) _)⟩
  have d2 : decide ((a.text.size : Int) > 2000) = false := by simp; omega
  by_cases h3 : 2000 < b.text.size
  · have d3 : decide ((b.text.size : Int) > 2000) = true := by simp; omega
    go_enter Try.func5, Try.ntmps5
    go_wp2
    go_ret
    exact ⟨rfl, Ext.below (Mod.alloc (Mod.alloc (Mod.refl _ w) _) _)⟩
  have d3 : decide ((b.text.size : Int) > 2000) = false := by simp; omega
  have HX : Hid (Ext w w) := Lib.hid (Mod.refl _ w)
  have HC := Lib.hid hC
  clear hC
  go_enter Try.func5, Try.ntmps5
  go_wp2_with fail
  obtain ⟨w1, hw1⟩ : ∃ w1, w1 = w.alloc (.cells #[.int .i64 a.kind, .float .f64 a.num, .string a.text] 25) := ⟨_, rfl⟩
  obtain ⟨ba, hba⟩ : ∃ ba, ba = w.heap.size := ⟨_, rfl⟩
  have hzz : w.heap.size = ba := hba.symm
  have hE : Ext w w1 := by rw [hw1]; exact (Mod.refl _ w).alloc _
  have hKn : w1.heap[ba]? = some (.cells #[.int .i64 a.kind, .float .f64 a.num, .string a.text] 25 (0, 0)) := by rw [hw1, ← hzz]; exact heap_alloc_new w _
  have hzn : w1.heap.size = ba + 1 := by rw [hw1, ← hzz]; simp
  rw [← hw1, ← hba]
  have HXo := HX
  replace HC := Lib.hid (HC.out.ext hE)
  replace HX := Lib.hid (HX.out.ext hE)
  have Kaw1 := Lib.hid hKn
  have hbz : w.heap.size ≤ ba := by have := HXo.out.size; omega
  clear hKn hE hw1 hba HXo hzz
  have hba := hbz
  clear hbz
  obtain ⟨w2, hw2⟩ : ∃ w2, w2 = w1.alloc (.cells #[.int .i64 b.kind, .float .f64 b.num, .string b.text] 25) := ⟨_, rfl⟩
  obtain ⟨bb, hbb⟩ : ∃ bb, bb = ba + 1 := ⟨_, rfl⟩
  have hzz : w1.heap.size = bb := hzn.trans hbb.symm
  clear hzn
  have hE : Ext w1 w2 := by rw [hw2]; exact (Mod.refl _ w1).alloc _
  have hKn : w2.heap[bb]? = some (.cells #[.int .i64 b.kind, .float .f64 b.num, .string b.text] 25 (0, 0)) := by rw [hw2, ← hzz]; exact heap_alloc_new w1 _
  have hzn : w2.heap.size = bb + 1 := by rw [hw2, ← hzz]; simp
  rw [← hw2, ← hbb]
  have HXo := HX
  have Kaw2 := Lib.hid (hE.blk Kaw1.out id)
  replace HC := Lib.hid (HC.out.ext hE)
  replace HX := Lib.hid (HX.out.ext hE)
  clear Kaw1
  have Kbw2 := Lib.hid hKn
  have hbz : w.heap.size ≤ bb := by have := HXo.out.size; omega
  clear hKn hE hw2 hbb HXo hzz
  have hbb := hbz
  clear hbz
  clear hzn
  refine (l_grown w2 T _ l HC.out (by omega)).mono ?_
  rintro e w3 ⟨v7, p, rfl, hN, hp, hE⟩
  have Kaw3 := Lib.hid (hE.blk Kaw2.out id)
  have Kbw3 := Lib.hid (hE.blk Kbw2.out id)
  replace HC := Lib.hid (HC.out.ext hE)
  replace HX := Lib.hid (HX.out.ext hE)
  clear Kaw2
  clear Kbw2
  obtain ⟨A7, c7, rfl⟩ := own_form hN.1
  have HN7 := Lib.hid hN
  have Hp := Lib.hid hp
  clear hN hp
  clear hE
  have a_0 : w3.cell? ⟨ba, 0, none⟩ = some _ := blk_cell (cs := [.int .i64 a.kind, .float .f64 a.num, .string a.text]) Kaw3.out rfl
  have a_1 : w3.cell? ⟨ba, 1, none⟩ = some _ := blk_cell (cs := [.int .i64 a.kind, .float .f64 a.num, .string a.text]) Kaw3.out rfl
  have a_2 : w3.cell? ⟨ba, 2, none⟩ = some _ := blk_cell (cs := [.int .i64 a.kind, .float .f64 a.num, .string a.text]) Kaw3.out rfl
  have a_l : ba < w3.heap.size := (Array.getElem?_eq_some_iff.1 Kaw3.out).1
  have b_0 : w3.cell? ⟨bb, 0, none⟩ = some _ := blk_cell (cs := [.int .i64 b.kind, .float .f64 b.num, .string b.text]) Kbw3.out rfl
  have b_1 : w3.cell? ⟨bb, 1, none⟩ = some _ := blk_cell (cs := [.int .i64 b.kind, .float .f64 b.num, .string b.text]) Kbw3.out rfl
  have b_2 : w3.cell? ⟨bb, 2, none⟩ = some _ := blk_cell (cs := [.int .i64 b.kind, .float .f64 b.num, .string b.text]) Kbw3.out rfl
  have b_l : bb < w3.heap.size := (Array.getElem?_eq_some_iff.1 Kbw3.out).1
  go_wp2_with fail
  refine (kv_get w3 _ _ p key HN7.out.prs).mono ?_
  rintro e w4 ⟨rfl, hE⟩
  clear a_0 a_1 a_2 a_l b_0 b_1 b_2 b_l
  have Kaw4 := Lib.hid (hE.blk Kaw3.out id)
  have Kbw4 := Lib.hid (hE.blk Kbw3.out id)
  replace HC := Lib.hid (HC.out.ext hE)
  replace HN7 := Lib.hid (newP_mod HN7.out hE (fun _ _ => id))
  replace HX := Lib.hid (HX.out.ext hE)
  clear Kaw3
  clear Kbw3
  obtain ⟨g, hg⟩ : ∃ g, getP p key = g := ⟨_, rfl⟩
  rw [hg]
  have HG := Lib.hid hg
  clear hg
  clear hE
  have a_0 : w4.cell? ⟨ba, 0, none⟩ = some _ := blk_cell (cs := [.int .i64 a.kind, .float .f64 a.num, .string a.text]) Kaw4.out rfl
  have a_1 : w4.cell? ⟨ba, 1, none⟩ = some _ := blk_cell (cs := [.int .i64 a.kind, .float .f64 a.num, .string a.text]) Kaw4.out rfl
  have a_2 : w4.cell? ⟨ba, 2, none⟩ = some _ := blk_cell (cs := [.int .i64 a.kind, .float .f64 a.num, .string a.text]) Kaw4.out rfl
  have a_l : ba < w4.heap.size := (Array.getElem?_eq_some_iff.1 Kaw4.out).1
  have b_0 : w4.cell? ⟨bb, 0, none⟩ = some _ := blk_cell (cs := [.int .i64 b.kind, .float .f64 b.num, .string b.text]) Kbw4.out rfl
  have b_1 : w4.cell? ⟨bb, 1, none⟩ = some _ := blk_cell (cs := [.int .i64 b.kind, .float .f64 b.num, .string b.text]) Kbw4.out rfl
  have b_2 : w4.cell? ⟨bb, 2, none⟩ = some _ := blk_cell (cs := [.int .i64 b.kind, .float .f64 b.num, .string b.text]) Kbw4.out rfl
  have b_l : bb < w4.heap.size := (Array.getElem?_eq_some_iff.1 Kbw4.out).1
  go_wp2_with fail
  obtain ⟨w5, hw5⟩ : ∃ w5, w5 = w4.alloc (.cells #[.int .i64 g.kind, .float .f64 g.num, .string g.text] 25) := ⟨_, rfl⟩
  obtain ⟨bg, hbg⟩ : ∃ bg, bg = w4.heap.size := ⟨_, rfl⟩
  have hzz : w4.heap.size = bg := hbg.symm
  have hE : Ext w4 w5 := by rw [hw5]; exact (Mod.refl _ w4).alloc _
  have hKn : w5.heap[bg]? = some (.cells #[.int .i64 g.kind, .float .f64 g.num, .string g.text] 25 (0, 0)) := by rw [hw5, ← hzz]; exact heap_alloc_new w4 _
  have hzn : w5.heap.size = bg + 1 := by rw [hw5, ← hzz]; simp
  rw [← hw5, ← hbg]
  clear a_0 a_1 a_2 a_l b_0 b_1 b_2 b_l
  have HXo := HX
  have Kaw5 := Lib.hid (hE.blk Kaw4.out id)
  have Kbw5 := Lib.hid (hE.blk Kbw4.out id)
  replace HC := Lib.hid (HC.out.ext hE)
  replace HN7 := Lib.hid (newP_mod HN7.out hE (fun _ _ => id))
  replace HX := Lib.hid (HX.out.ext hE)
  clear Kaw4
  clear Kbw4
  have Kgw5 := Lib.hid hKn
  have hbz : w.heap.size ≤ bg := by have := HXo.out.size; omega
  clear hKn hE hw5 hbg HXo hzz
  have hbg := hbz
  clear hbz
  clear hzn
  have hso := HX.out.size
  rcases hr : doP p ⟨4, key, g, a⟩ with ⟨q, r⟩
  refine (kv_Do_at w5 _ _ p ⟨4, key, g, a⟩ HN7.out.prs (by have := right_len Hp.out; omega) ha hr).mono ?_
  rintro e w6 ⟨v1, rfl, hN, hE⟩
  have Kaw6 := Lib.hid (hE.blk Kaw5.out id)
  have Kbw6 := Lib.hid (hE.blk Kbw5.out id)
  have Kgw6 := Lib.hid (hE.blk Kgw5.out id)
  replace HC := Lib.hid (HC.out.ext hE)
  replace HN7 := Lib.hid (newP_mod HN7.out hE (fun _ _ => id))
  replace HX := Lib.hid (HX.out.ext hE)
  clear Kaw5
  clear Kbw5
  clear Kgw5
  obtain ⟨Av1, cv1, rfl⟩ := own_form hN.1
  have HNv1 := Lib.hid (newP_up hN hso)
  clear hN hso
  have HEr := Lib.hid hr
  clear hr
  clear hE
  have a_0 : w6.cell? ⟨ba, 0, none⟩ = some _ := blk_cell (cs := [.int .i64 a.kind, .float .f64 a.num, .string a.text]) Kaw6.out rfl
  have a_1 : w6.cell? ⟨ba, 1, none⟩ = some _ := blk_cell (cs := [.int .i64 a.kind, .float .f64 a.num, .string a.text]) Kaw6.out rfl
  have a_2 : w6.cell? ⟨ba, 2, none⟩ = some _ := blk_cell (cs := [.int .i64 a.kind, .float .f64 a.num, .string a.text]) Kaw6.out rfl
  have a_l : ba < w6.heap.size := (Array.getElem?_eq_some_iff.1 Kaw6.out).1
  have b_0 : w6.cell? ⟨bb, 0, none⟩ = some _ := blk_cell (cs := [.int .i64 b.kind, .float .f64 b.num, .string b.text]) Kbw6.out rfl
  have b_1 : w6.cell? ⟨bb, 1, none⟩ = some _ := blk_cell (cs := [.int .i64 b.kind, .float .f64 b.num, .string b.text]) Kbw6.out rfl
  have b_2 : w6.cell? ⟨bb, 2, none⟩ = some _ := blk_cell (cs := [.int .i64 b.kind, .float .f64 b.num, .string b.text]) Kbw6.out rfl
  have b_l : bb < w6.heap.size := (Array.getElem?_eq_some_iff.1 Kbw6.out).1
  have g_0 : w6.cell? ⟨bg, 0, none⟩ = some _ := blk_cell (cs := [.int .i64 g.kind, .float .f64 g.num, .string g.text]) Kgw6.out rfl
  have g_1 : w6.cell? ⟨bg, 1, none⟩ = some _ := blk_cell (cs := [.int .i64 g.kind, .float .f64 g.num, .string g.text]) Kgw6.out rfl
  have g_2 : w6.cell? ⟨bg, 2, none⟩ = some _ := blk_cell (cs := [.int .i64 g.kind, .float .f64 g.num, .string g.text]) Kgw6.out rfl
  have g_l : bg < w6.heap.size := (Array.getElem?_eq_some_iff.1 Kgw6.out).1
  by_cases h0 : r.code = 0
  case neg =>
    have n0 : (r.code != 0) = true := by simpa using h0
    have hq : q = p := by
      have := (do_no (l := p) (c := ⟨4, key, g, a⟩) (by rw [HEr.out]; exact h0)).1
      rw [HEr.out] at this
      exact this
    have Hq := Lib.hid hq
    clear h0 hq
    go_wp2_with fail
    obtain ⟨w7, hw7⟩ : ∃ w7, w7 = w6.alloc (.cells #[.int .i64 r.code, .int .i64 r.val.kind, .float .f64 r.val.num, .string r.val.text] 33) := ⟨_, rfl⟩
    obtain ⟨br, hbr⟩ : ∃ br, br = w6.heap.size := ⟨_, rfl⟩
    have hzz : w6.heap.size = br := hbr.symm
    have hE : Ext w6 w7 := by rw [hw7]; exact (Mod.refl _ w6).alloc _
    have hKn : w7.heap[br]? = some (.cells #[.int .i64 r.code, .int .i64 r.val.kind, .float .f64 r.val.num, .string r.val.text] 33 (0, 0)) := by rw [hw7, ← hzz]; exact heap_alloc_new w6 _
    have hzn : w7.heap.size = br + 1 := by rw [hw7, ← hzz]; simp
    rw [← hw7, ← hbr]
    clear a_0 a_1 a_2 a_l b_0 b_1 b_2 b_l g_0 g_1 g_2 g_l
    have HXo := HX
    have Kaw7 := Lib.hid (hE.blk Kaw6.out id)
    have Kbw7 := Lib.hid (hE.blk Kbw6.out id)
    have Kgw7 := Lib.hid (hE.blk Kgw6.out id)
    replace HC := Lib.hid (HC.out.ext hE)
    replace HN7 := Lib.hid (newP_mod HN7.out hE (fun _ _ => id))
    replace HNv1 := Lib.hid (newP_mod HNv1.out hE (fun _ _ => id))
    replace HX := Lib.hid (HX.out.ext hE)
    clear Kaw6
    clear Kbw6
    clear Kgw6
    have Krw7 := Lib.hid hKn
    have hbz : w.heap.size ≤ br := by have := HXo.out.size; omega
    clear hKn hE hw7 hbr HXo hzz
    have hbr := hbz
    clear hbz
    clear hzn
    refine (k_pairs w7 _ _ _ _ p q HN7.out.prs HNv1.out.prs).mono ?_
    rintro e w8 ⟨rfl, hE⟩
    have Kaw8 := Lib.hid (hE.blk Kaw7.out id)
    have Kbw8 := Lib.hid (hE.blk Kbw7.out id)
    have Kgw8 := Lib.hid (hE.blk Kgw7.out id)
    have Krw8 := Lib.hid (hE.blk Krw7.out id)
    replace HC := Lib.hid (HC.out.ext hE)
    replace HN7 := Lib.hid (newP_mod HN7.out hE (fun _ _ => id))
    replace HNv1 := Lib.hid (newP_mod HNv1.out hE (fun _ _ => id))
    replace HX := Lib.hid (HX.out.ext hE)
    clear Kaw7
    clear Kbw7
    clear Kgw7
    clear Krw7
    rw [show eqPrs p q = true by rw [Hq.out]; exact eqPrs_refl _]
    clear hE
    have a_0 : w8.cell? ⟨ba, 0, none⟩ = some _ := blk_cell (cs := [.int .i64 a.kind, .float .f64 a.num, .string a.text]) Kaw8.out rfl
    have a_1 : w8.cell? ⟨ba, 1, none⟩ = some _ := blk_cell (cs := [.int .i64 a.kind, .float .f64 a.num, .string a.text]) Kaw8.out rfl
    have a_2 : w8.cell? ⟨ba, 2, none⟩ = some _ := blk_cell (cs := [.int .i64 a.kind, .float .f64 a.num, .string a.text]) Kaw8.out rfl
    have a_l : ba < w8.heap.size := (Array.getElem?_eq_some_iff.1 Kaw8.out).1
    have b_0 : w8.cell? ⟨bb, 0, none⟩ = some _ := blk_cell (cs := [.int .i64 b.kind, .float .f64 b.num, .string b.text]) Kbw8.out rfl
    have b_1 : w8.cell? ⟨bb, 1, none⟩ = some _ := blk_cell (cs := [.int .i64 b.kind, .float .f64 b.num, .string b.text]) Kbw8.out rfl
    have b_2 : w8.cell? ⟨bb, 2, none⟩ = some _ := blk_cell (cs := [.int .i64 b.kind, .float .f64 b.num, .string b.text]) Kbw8.out rfl
    have b_l : bb < w8.heap.size := (Array.getElem?_eq_some_iff.1 Kbw8.out).1
    have g_0 : w8.cell? ⟨bg, 0, none⟩ = some _ := blk_cell (cs := [.int .i64 g.kind, .float .f64 g.num, .string g.text]) Kgw8.out rfl
    have g_1 : w8.cell? ⟨bg, 1, none⟩ = some _ := blk_cell (cs := [.int .i64 g.kind, .float .f64 g.num, .string g.text]) Kgw8.out rfl
    have g_2 : w8.cell? ⟨bg, 2, none⟩ = some _ := blk_cell (cs := [.int .i64 g.kind, .float .f64 g.num, .string g.text]) Kgw8.out rfl
    have g_l : bg < w8.heap.size := (Array.getElem?_eq_some_iff.1 Kgw8.out).1
    have r_0 : w8.cell? ⟨br, 0, none⟩ = some _ := blk_cell (cs := [.int .i64 r.code, .int .i64 r.val.kind, .float .f64 r.val.num, .string r.val.text]) Krw8.out rfl
    have r_1 : w8.cell? ⟨br, 1, none⟩ = some _ := blk_cell (cs := [.int .i64 r.code, .int .i64 r.val.kind, .float .f64 r.val.num, .string r.val.text]) Krw8.out rfl
    have r_2 : w8.cell? ⟨br, 2, none⟩ = some _ := blk_cell (cs := [.int .i64 r.code, .int .i64 r.val.kind, .float .f64 r.val.num, .string r.val.text]) Krw8.out rfl
    have r_3 : w8.cell? ⟨br, 3, none⟩ = some _ := blk_cell (cs := [.int .i64 r.code, .int .i64 r.val.kind, .float .f64 r.val.num, .string r.val.text]) Krw8.out rfl
    have r_l : br < w8.heap.size := (Array.getElem?_eq_some_iff.1 Krw8.out).1
    go_wp2_with fail
    refine (l_wakes w8).mono ?_
    rintro e w9 ⟨rfl, hE⟩
    clear a_0 a_1 a_2 a_l b_0 b_1 b_2 b_l g_0 g_1 g_2 g_l r_0 r_1 r_2 r_3 r_l
    have Kaw9 := Lib.hid (hE.blk Kaw8.out id)
    have Kbw9 := Lib.hid (hE.blk Kbw8.out id)
    have Kgw9 := Lib.hid (hE.blk Kgw8.out id)
    have Krw9 := Lib.hid (hE.blk Krw8.out id)
    replace HC := Lib.hid (HC.out.ext hE)
    replace HN7 := Lib.hid (newP_mod HN7.out hE (fun _ _ => id))
    replace HNv1 := Lib.hid (newP_mod HNv1.out hE (fun _ _ => id))
    replace HX := Lib.hid (HX.out.ext hE)
    clear Kaw8
    clear Kbw8
    clear Kgw8
    clear Krw8
    clear hE
    have a_0 : w9.cell? ⟨ba, 0, none⟩ = some _ := blk_cell (cs := [.int .i64 a.kind, .float .f64 a.num, .string a.text]) Kaw9.out rfl
    have a_1 : w9.cell? ⟨ba, 1, none⟩ = some _ := blk_cell (cs := [.int .i64 a.kind, .float .f64 a.num, .string a.text]) Kaw9.out rfl
    have a_2 : w9.cell? ⟨ba, 2, none⟩ = some _ := blk_cell (cs := [.int .i64 a.kind, .float .f64 a.num, .string a.text]) Kaw9.out rfl
    have a_l : ba < w9.heap.size := (Array.getElem?_eq_some_iff.1 Kaw9.out).1
    have b_0 : w9.cell? ⟨bb, 0, none⟩ = some _ := blk_cell (cs := [.int .i64 b.kind, .float .f64 b.num, .string b.text]) Kbw9.out rfl
    have b_1 : w9.cell? ⟨bb, 1, none⟩ = some _ := blk_cell (cs := [.int .i64 b.kind, .float .f64 b.num, .string b.text]) Kbw9.out rfl
    have b_2 : w9.cell? ⟨bb, 2, none⟩ = some _ := blk_cell (cs := [.int .i64 b.kind, .float .f64 b.num, .string b.text]) Kbw9.out rfl
    have b_l : bb < w9.heap.size := (Array.getElem?_eq_some_iff.1 Kbw9.out).1
    have g_0 : w9.cell? ⟨bg, 0, none⟩ = some _ := blk_cell (cs := [.int .i64 g.kind, .float .f64 g.num, .string g.text]) Kgw9.out rfl
    have g_1 : w9.cell? ⟨bg, 1, none⟩ = some _ := blk_cell (cs := [.int .i64 g.kind, .float .f64 g.num, .string g.text]) Kgw9.out rfl
    have g_2 : w9.cell? ⟨bg, 2, none⟩ = some _ := blk_cell (cs := [.int .i64 g.kind, .float .f64 g.num, .string g.text]) Kgw9.out rfl
    have g_l : bg < w9.heap.size := (Array.getElem?_eq_some_iff.1 Kgw9.out).1
    have r_0 : w9.cell? ⟨br, 0, none⟩ = some _ := blk_cell (cs := [.int .i64 r.code, .int .i64 r.val.kind, .float .f64 r.val.num, .string r.val.text]) Krw9.out rfl
    have r_1 : w9.cell? ⟨br, 1, none⟩ = some _ := blk_cell (cs := [.int .i64 r.code, .int .i64 r.val.kind, .float .f64 r.val.num, .string r.val.text]) Krw9.out rfl
    have r_2 : w9.cell? ⟨br, 2, none⟩ = some _ := blk_cell (cs := [.int .i64 r.code, .int .i64 r.val.kind, .float .f64 r.val.num, .string r.val.text]) Krw9.out rfl
    have r_3 : w9.cell? ⟨br, 3, none⟩ = some _ := blk_cell (cs := [.int .i64 r.code, .int .i64 r.val.kind, .float .f64 r.val.num, .string r.val.text]) Krw9.out rfl
    have r_l : br < w9.heap.size := (Array.getElem?_eq_some_iff.1 Krw9.out).1
    go_wp2
    go_ret
    exact ⟨rfl, Ext.below HX.out⟩
  have n0 : (r.code != 0) = false := by simpa using h0
  have hall := do_cas (p := p) (k := key) (a := a) (by rw [HG.out, HEr.out]; exact h0)
  rw [HG.out, HEr.out] at hall
  simp only at hall
  obtain ⟨a1, a2⟩ := hall
  have A1 := Lib.hid a1
  have A2 := Lib.hid a2
  have hQ := do_right ⟨4, key, g, a⟩ Hp.out
  rw [HEr.out] at hQ
  have HQ := Lib.hid hQ
  clear a1 a2 h0 hQ
  go_wp2_with fail
  obtain ⟨w7, hw7⟩ : ∃ w7, w7 = w6.alloc (.cells #[.int .i64 r.code, .int .i64 r.val.kind, .float .f64 r.val.num, .string r.val.text] 33) := ⟨_, rfl⟩
  obtain ⟨br, hbr⟩ : ∃ br, br = w6.heap.size := ⟨_, rfl⟩
  have hzz : w6.heap.size = br := hbr.symm
  have hE : Ext w6 w7 := by rw [hw7]; exact (Mod.refl _ w6).alloc _
  have hKn : w7.heap[br]? = some (.cells #[.int .i64 r.code, .int .i64 r.val.kind, .float .f64 r.val.num, .string r.val.text] 33 (0, 0)) := by rw [hw7, ← hzz]; exact heap_alloc_new w6 _
  have hzn : w7.heap.size = br + 1 := by rw [hw7, ← hzz]; simp
  rw [← hw7, ← hbr]
  clear a_0 a_1 a_2 a_l b_0 b_1 b_2 b_l g_0 g_1 g_2 g_l
  have HXo := HX
  have Kaw7 := Lib.hid (hE.blk Kaw6.out id)
  have Kbw7 := Lib.hid (hE.blk Kbw6.out id)
  have Kgw7 := Lib.hid (hE.blk Kgw6.out id)
  replace HC := Lib.hid (HC.out.ext hE)
  replace HN7 := Lib.hid (newP_mod HN7.out hE (fun _ _ => id))
  replace HNv1 := Lib.hid (newP_mod HNv1.out hE (fun _ _ => id))
  replace HX := Lib.hid (HX.out.ext hE)
  clear Kaw6
  clear Kbw6
  clear Kgw6
  have Krw7 := Lib.hid hKn
  have hbz : w.heap.size ≤ br := by have := HXo.out.size; omega
  clear hKn hE hw7 hbr HXo hzz
  have hbr := hbz
  clear hbz
  clear hzn
  have a_0 : w7.cell? ⟨ba, 0, none⟩ = some _ := blk_cell (cs := [.int .i64 a.kind, .float .f64 a.num, .string a.text]) Kaw7.out rfl
  have a_1 : w7.cell? ⟨ba, 1, none⟩ = some _ := blk_cell (cs := [.int .i64 a.kind, .float .f64 a.num, .string a.text]) Kaw7.out rfl
  have a_2 : w7.cell? ⟨ba, 2, none⟩ = some _ := blk_cell (cs := [.int .i64 a.kind, .float .f64 a.num, .string a.text]) Kaw7.out rfl
  have a_l : ba < w7.heap.size := (Array.getElem?_eq_some_iff.1 Kaw7.out).1
  have b_0 : w7.cell? ⟨bb, 0, none⟩ = some _ := blk_cell (cs := [.int .i64 b.kind, .float .f64 b.num, .string b.text]) Kbw7.out rfl
  have b_1 : w7.cell? ⟨bb, 1, none⟩ = some _ := blk_cell (cs := [.int .i64 b.kind, .float .f64 b.num, .string b.text]) Kbw7.out rfl
  have b_2 : w7.cell? ⟨bb, 2, none⟩ = some _ := blk_cell (cs := [.int .i64 b.kind, .float .f64 b.num, .string b.text]) Kbw7.out rfl
  have b_l : bb < w7.heap.size := (Array.getElem?_eq_some_iff.1 Kbw7.out).1
  have g_0 : w7.cell? ⟨bg, 0, none⟩ = some _ := blk_cell (cs := [.int .i64 g.kind, .float .f64 g.num, .string g.text]) Kgw7.out rfl
  have g_1 : w7.cell? ⟨bg, 1, none⟩ = some _ := blk_cell (cs := [.int .i64 g.kind, .float .f64 g.num, .string g.text]) Kgw7.out rfl
  have g_2 : w7.cell? ⟨bg, 2, none⟩ = some _ := blk_cell (cs := [.int .i64 g.kind, .float .f64 g.num, .string g.text]) Kgw7.out rfl
  have g_l : bg < w7.heap.size := (Array.getElem?_eq_some_iff.1 Kgw7.out).1
  have r_0 : w7.cell? ⟨br, 0, none⟩ = some _ := blk_cell (cs := [.int .i64 r.code, .int .i64 r.val.kind, .float .f64 r.val.num, .string r.val.text]) Krw7.out rfl
  have r_1 : w7.cell? ⟨br, 1, none⟩ = some _ := blk_cell (cs := [.int .i64 r.code, .int .i64 r.val.kind, .float .f64 r.val.num, .string r.val.text]) Krw7.out rfl
  have r_2 : w7.cell? ⟨br, 2, none⟩ = some _ := blk_cell (cs := [.int .i64 r.code, .int .i64 r.val.kind, .float .f64 r.val.num, .string r.val.text]) Krw7.out rfl
  have r_3 : w7.cell? ⟨br, 3, none⟩ = some _ := blk_cell (cs := [.int .i64 r.code, .int .i64 r.val.kind, .float .f64 r.val.num, .string r.val.text]) Krw7.out rfl
  have r_l : br < w7.heap.size := (Array.getElem?_eq_some_iff.1 Krw7.out).1
  refine wp_region_held_drew (S := fun W' => Ext w7 W') (by kernel_rfl) (Mod.refl _ w7).drew (fun hS => ?_)
  refine takeH (i := 0) (v := ?_) (some 58) rfl rfl (by kernel_rfl) (by kernel_rfl) (by kernel_rfl) (fun _ _ _ h => h) (Or.inl ⟨by kernel_rfl, ?_⟩) hS ?_
  rotate_left
  · rintro W' hW'
    obtain ⟨hbc, hbf⟩ := bcell hW'
    go_simp
    try with_reducible rfl
  try simp only [Act.put, List.setIfInBounds_toArray, List.set_cons_zero, List.set_cons_succ]
  refine takeH (i := 1) (v := ?_) (some 59) rfl rfl (by kernel_rfl) (by kernel_rfl) (by kernel_rfl) (fun _ _ _ h => h) (Or.inl ⟨by kernel_rfl, ?_⟩) hS ?_
  rotate_left
  · rintro W' hW'
    obtain ⟨hbc, hbf⟩ := bcell hW'
    go_simp
    try with_reducible rfl
  try simp only [Act.put, List.setIfInBounds_toArray, List.set_cons_zero, List.set_cons_succ]
  refine takeH (i := 3) (v := ?_) (some 61) rfl rfl (by kernel_rfl) (by kernel_rfl) (by kernel_rfl) (fun _ _ _ h => h) (Or.inl ⟨by kernel_rfl, ?_⟩) hS ?_
  rotate_left
  · rintro W' hW'
    obtain ⟨hbc, hbf⟩ := bcell hW'
    go_simp
    try with_reducible rfl
  try simp only [Act.put, List.setIfInBounds_toArray, List.set_cons_zero, List.set_cons_succ]
  refine wpAnyH_ready (rs := [2]) (by kernel_rfl) (by simp) ?_
  refine AllReadyH.cons rfl (fun K hK => ?_) AllReadyH.nil
  go_simp
  go_wp2_with fail
  refine (kv_get _ _ _ q key (HNv1.out.prs.ext hS)).mono ?_
  rintro e w8 ⟨rfl, hE⟩
  rw [A2.out]
  have hX := Mod.ext hS hE
  clear hE hS
  go_simp
  refine hK.out _ _ hX (fun hS => ?_)
  clear hK K hX
  refine wpAnyH_ready (rs := [4]) (by kernel_rfl) (by simp) ?_
  refine AllReadyH.cons rfl (fun K hK => ?_) AllReadyH.nil
  go_simp
  go_wp2_with fail
  refine (k_value a a _).mono ?_
  rintro e w9 ⟨rfl, hE⟩
  rw [eqVal_refl]
  have hX := Mod.ext hS hE
  clear hE hS
  go_simp
  refine hK.out _ _ hX (fun hS => ?_)
  clear hK K hX
  refine takeH (i := 5) (v := ?_) (some 63) rfl rfl (by kernel_rfl) (by kernel_rfl) (by kernel_rfl) (fun _ _ _ h => h) (Or.inl ⟨by kernel_rfl, ?_⟩) hS ?_
  rotate_left
  · rintro W' hW'
    obtain ⟨hbc, hbf⟩ := bcell hW'
    go_simp
    try with_reducible rfl
  try simp only [Act.put, List.setIfInBounds_toArray, List.set_cons_zero, List.set_cons_succ]
  refine takeH (i := 6) (v := ?_) (some 64) rfl rfl (by kernel_rfl) (by kernel_rfl) (by kernel_rfl) (fun _ _ _ h => h) (Or.inl ⟨by kernel_rfl, ?_⟩) hS ?_
  rotate_left
  · rintro W' hW'
    obtain ⟨hbc, hbf⟩ := bcell hW'
    go_simp
    try with_reducible rfl
  try simp only [Act.put, List.setIfInBounds_toArray, List.set_cons_zero, List.set_cons_succ]
  refine takeH (i := 7) (v := ?_) (some 65) rfl rfl (by kernel_rfl) (by kernel_rfl) (by kernel_rfl) (fun _ _ _ h => h) (Or.inl ⟨by kernel_rfl, ?_⟩) hS ?_
  rotate_left
  · rintro W' hW'
    obtain ⟨hbc, hbf⟩ := bcell hW'
    go_simp
    try with_reducible rfl
  try simp only [Act.put, List.setIfInBounds_toArray, List.set_cons_zero, List.set_cons_succ]
  refine takeH (i := 8) (v := ?_) (some 66) rfl rfl (by kernel_rfl) (by kernel_rfl) (by kernel_rfl) (fun _ _ _ h => h) (Or.inl ⟨by kernel_rfl, ?_⟩) hS ?_
  rotate_left
  · rintro W' hW'
    obtain ⟨hbc, hbf⟩ := bcell hW'
    go_simp
    try with_reducible rfl
  try simp only [Act.put, List.setIfInBounds_toArray, List.set_cons_zero, List.set_cons_succ]
  refine takeH (i := 9) (v := ?_) (some 67) rfl rfl (by kernel_rfl) (by kernel_rfl) (by kernel_rfl) (fun _ _ _ h => h) (Or.inl ⟨by kernel_rfl, ?_⟩) hS ?_
  rotate_left
  · rintro W' hW'
    obtain ⟨hbc, hbf⟩ := bcell hW'
    go_simp
    try with_reducible rfl
  try simp only [Act.put, List.setIfInBounds_toArray, List.set_cons_zero, List.set_cons_succ]
  refine wpAnyH_ready (rs := [10]) (by kernel_rfl) (by simp) ?_
  refine AllReadyH.cons rfl (fun K hK => ?_) AllReadyH.nil
  go_simp
  go_wp2_with fail
  refine (k_value r.val g _).mono ?_
  rintro e w10 ⟨rfl, hE⟩
  rw [show eqVal r.val g = true by rw [A1.out]; exact eqVal_refl _]
  have hX := Mod.ext hS hE
  clear hE hS
  go_simp
  refine hK.out _ _ hX (fun hS => ?_)
  clear hK K hX
  refine takeH (i := 11) (v := ?_) (some 69) rfl rfl (by kernel_rfl) (by kernel_rfl) (by kernel_rfl) (fun _ _ _ h => h) (Or.inl ⟨by kernel_rfl, ?_⟩) hS ?_
  rotate_left
  · rintro W' hW'
    obtain ⟨hbc, hbf⟩ := bcell hW'
    go_simp
    try with_reducible rfl
  try simp only [Act.put, List.setIfInBounds_toArray, List.set_cons_zero, List.set_cons_succ]
  refine takeH (i := 12) (v := ?_) (some 70) rfl rfl (by kernel_rfl) (by kernel_rfl) (by kernel_rfl) (fun _ _ _ h => h) (Or.inl ⟨by kernel_rfl, ?_⟩) hS ?_
  rotate_left
  · rintro W' hW'
    obtain ⟨hbc, hbf⟩ := bcell hW'
    go_simp
    try with_reducible rfl
  try simp only [Act.put, List.setIfInBounds_toArray, List.set_cons_zero, List.set_cons_succ]
  refine wpAnyH_done (by kernel_rfl) ?_ _
  have hE := hS
  clear hS
  clear a_0 a_1 a_2 a_l b_0 b_1 b_2 b_l g_0 g_1 g_2 g_l r_0 r_1 r_2 r_3 r_l
  have Kaw10 := Lib.hid (hE.blk Kaw7.out id)
  have Kbw10 := Lib.hid (hE.blk Kbw7.out id)
  have Kgw10 := Lib.hid (hE.blk Kgw7.out id)
  have Krw10 := Lib.hid (hE.blk Krw7.out id)
  replace HC := Lib.hid (HC.out.ext hE)
  replace HN7 := Lib.hid (newP_mod HN7.out hE (fun _ _ => id))
  replace HNv1 := Lib.hid (newP_mod HNv1.out hE (fun _ _ => id))
  replace HX := Lib.hid (HX.out.ext hE)
  clear Kaw7
  clear Kbw7
  clear Kgw7
  clear Krw7
  clear hE
  have a_0 : w10.cell? ⟨ba, 0, none⟩ = some _ := blk_cell (cs := [.int .i64 a.kind, .float .f64 a.num, .string a.text]) Kaw10.out rfl
  have a_1 : w10.cell? ⟨ba, 1, none⟩ = some _ := blk_cell (cs := [.int .i64 a.kind, .float .f64 a.num, .string a.text]) Kaw10.out rfl
  have a_2 : w10.cell? ⟨ba, 2, none⟩ = some _ := blk_cell (cs := [.int .i64 a.kind, .float .f64 a.num, .string a.text]) Kaw10.out rfl
  have a_l : ba < w10.heap.size := (Array.getElem?_eq_some_iff.1 Kaw10.out).1
  have b_0 : w10.cell? ⟨bb, 0, none⟩ = some _ := blk_cell (cs := [.int .i64 b.kind, .float .f64 b.num, .string b.text]) Kbw10.out rfl
  have b_1 : w10.cell? ⟨bb, 1, none⟩ = some _ := blk_cell (cs := [.int .i64 b.kind, .float .f64 b.num, .string b.text]) Kbw10.out rfl
  have b_2 : w10.cell? ⟨bb, 2, none⟩ = some _ := blk_cell (cs := [.int .i64 b.kind, .float .f64 b.num, .string b.text]) Kbw10.out rfl
  have b_l : bb < w10.heap.size := (Array.getElem?_eq_some_iff.1 Kbw10.out).1
  have g_0 : w10.cell? ⟨bg, 0, none⟩ = some _ := blk_cell (cs := [.int .i64 g.kind, .float .f64 g.num, .string g.text]) Kgw10.out rfl
  have g_1 : w10.cell? ⟨bg, 1, none⟩ = some _ := blk_cell (cs := [.int .i64 g.kind, .float .f64 g.num, .string g.text]) Kgw10.out rfl
  have g_2 : w10.cell? ⟨bg, 2, none⟩ = some _ := blk_cell (cs := [.int .i64 g.kind, .float .f64 g.num, .string g.text]) Kgw10.out rfl
  have g_l : bg < w10.heap.size := (Array.getElem?_eq_some_iff.1 Kgw10.out).1
  have r_0 : w10.cell? ⟨br, 0, none⟩ = some _ := blk_cell (cs := [.int .i64 r.code, .int .i64 r.val.kind, .float .f64 r.val.num, .string r.val.text]) Krw10.out rfl
  have r_1 : w10.cell? ⟨br, 1, none⟩ = some _ := blk_cell (cs := [.int .i64 r.code, .int .i64 r.val.kind, .float .f64 r.val.num, .string r.val.text]) Krw10.out rfl
  have r_2 : w10.cell? ⟨br, 2, none⟩ = some _ := blk_cell (cs := [.int .i64 r.code, .int .i64 r.val.kind, .float .f64 r.val.num, .string r.val.text]) Krw10.out rfl
  have r_3 : w10.cell? ⟨br, 3, none⟩ = some _ := blk_cell (cs := [.int .i64 r.code, .int .i64 r.val.kind, .float .f64 r.val.num, .string r.val.text]) Krw10.out rfl
  have r_l : br < w10.heap.size := (Array.getElem?_eq_some_iff.1 Krw10.out).1
  go_wp2_with fail
  have hso := HX.out.size
  rcases hs : doP q ⟨4, key, g, b⟩ with ⟨z, s⟩
  refine (kv_Do_at w10 _ _ q ⟨4, key, g, b⟩ HNv1.out.prs (by have := right_len HQ.out; omega) hb hs).mono ?_
  rintro e w11 ⟨v2, rfl, hN, hE⟩
  clear a_0 a_1 a_2 a_l b_0 b_1 b_2 b_l g_0 g_1 g_2 g_l r_0 r_1 r_2 r_3 r_l
  have Kaw11 := Lib.hid (hE.blk Kaw10.out id)
  have Kbw11 := Lib.hid (hE.blk Kbw10.out id)
  have Kgw11 := Lib.hid (hE.blk Kgw10.out id)
  have Krw11 := Lib.hid (hE.blk Krw10.out id)
  replace HC := Lib.hid (HC.out.ext hE)
  replace HN7 := Lib.hid (newP_mod HN7.out hE (fun _ _ => id))
  replace HNv1 := Lib.hid (newP_mod HNv1.out hE (fun _ _ => id))
  replace HX := Lib.hid (HX.out.ext hE)
  clear Kaw10
  clear Kbw10
  clear Kgw10
  clear Krw10
  obtain ⟨Av2, cv2, rfl⟩ := own_form hN.1
  have HNv2 := Lib.hid (newP_up hN hso)
  clear hN hso
  have HEs := Lib.hid hs
  clear hs
  clear hE
  have a_0 : w11.cell? ⟨ba, 0, none⟩ = some _ := blk_cell (cs := [.int .i64 a.kind, .float .f64 a.num, .string a.text]) Kaw11.out rfl
  have a_1 : w11.cell? ⟨ba, 1, none⟩ = some _ := blk_cell (cs := [.int .i64 a.kind, .float .f64 a.num, .string a.text]) Kaw11.out rfl
  have a_2 : w11.cell? ⟨ba, 2, none⟩ = some _ := blk_cell (cs := [.int .i64 a.kind, .float .f64 a.num, .string a.text]) Kaw11.out rfl
  have a_l : ba < w11.heap.size := (Array.getElem?_eq_some_iff.1 Kaw11.out).1
  have b_0 : w11.cell? ⟨bb, 0, none⟩ = some _ := blk_cell (cs := [.int .i64 b.kind, .float .f64 b.num, .string b.text]) Kbw11.out rfl
  have b_1 : w11.cell? ⟨bb, 1, none⟩ = some _ := blk_cell (cs := [.int .i64 b.kind, .float .f64 b.num, .string b.text]) Kbw11.out rfl
  have b_2 : w11.cell? ⟨bb, 2, none⟩ = some _ := blk_cell (cs := [.int .i64 b.kind, .float .f64 b.num, .string b.text]) Kbw11.out rfl
  have b_l : bb < w11.heap.size := (Array.getElem?_eq_some_iff.1 Kbw11.out).1
  have g_0 : w11.cell? ⟨bg, 0, none⟩ = some _ := blk_cell (cs := [.int .i64 g.kind, .float .f64 g.num, .string g.text]) Kgw11.out rfl
  have g_1 : w11.cell? ⟨bg, 1, none⟩ = some _ := blk_cell (cs := [.int .i64 g.kind, .float .f64 g.num, .string g.text]) Kgw11.out rfl
  have g_2 : w11.cell? ⟨bg, 2, none⟩ = some _ := blk_cell (cs := [.int .i64 g.kind, .float .f64 g.num, .string g.text]) Kgw11.out rfl
  have g_l : bg < w11.heap.size := (Array.getElem?_eq_some_iff.1 Kgw11.out).1
  have r_0 : w11.cell? ⟨br, 0, none⟩ = some _ := blk_cell (cs := [.int .i64 r.code, .int .i64 r.val.kind, .float .f64 r.val.num, .string r.val.text]) Krw11.out rfl
  have r_1 : w11.cell? ⟨br, 1, none⟩ = some _ := blk_cell (cs := [.int .i64 r.code, .int .i64 r.val.kind, .float .f64 r.val.num, .string r.val.text]) Krw11.out rfl
  have r_2 : w11.cell? ⟨br, 2, none⟩ = some _ := blk_cell (cs := [.int .i64 r.code, .int .i64 r.val.kind, .float .f64 r.val.num, .string r.val.text]) Krw11.out rfl
  have r_3 : w11.cell? ⟨br, 3, none⟩ = some _ := blk_cell (cs := [.int .i64 r.code, .int .i64 r.val.kind, .float .f64 r.val.num, .string r.val.text]) Krw11.out rfl
  have r_l : br < w11.heap.size := (Array.getElem?_eq_some_iff.1 Krw11.out).1
  have hall := do_cas2 (q := q) (k := key) (a := a) (v := g) (b := b) HQ.out A2.out
  rw [HEs.out] at hall
  simp only at hall
  have HA := Lib.hid hall
  clear hall
  by_cases h9 : s.code = 9
  case pos =>
    have n9 : (s.code == 9) = true := by simpa using h9
    obtain ⟨e1, e2, e3⟩ := HA.out.1 h9
    have E1 := Lib.hid e1
    have E2 := Lib.hid e2
    have E3 := Lib.hid e3
    clear h9 e1 e2 e3
    go_wp2_with fail
    obtain ⟨w12, hw12⟩ : ∃ w12, w12 = w11.alloc (.cells #[.int .i64 s.code, .int .i64 s.val.kind, .float .f64 s.val.num, .string s.val.text] 33) := ⟨_, rfl⟩
    obtain ⟨bs, hbs⟩ : ∃ bs, bs = w11.heap.size := ⟨_, rfl⟩
    have hzz : w11.heap.size = bs := hbs.symm
    have hE : Ext w11 w12 := by rw [hw12]; exact (Mod.refl _ w11).alloc _
    have hKn : w12.heap[bs]? = some (.cells #[.int .i64 s.code, .int .i64 s.val.kind, .float .f64 s.val.num, .string s.val.text] 33 (0, 0)) := by rw [hw12, ← hzz]; exact heap_alloc_new w11 _
    have hzn : w12.heap.size = bs + 1 := by rw [hw12, ← hzz]; simp
    rw [← hw12, ← hbs]
    clear a_0 a_1 a_2 a_l b_0 b_1 b_2 b_l g_0 g_1 g_2 g_l r_0 r_1 r_2 r_3 r_l
    have HXo := HX
    have Kaw12 := Lib.hid (hE.blk Kaw11.out id)
    have Kbw12 := Lib.hid (hE.blk Kbw11.out id)
    have Kgw12 := Lib.hid (hE.blk Kgw11.out id)
    have Krw12 := Lib.hid (hE.blk Krw11.out id)
    replace HC := Lib.hid (HC.out.ext hE)
    replace HN7 := Lib.hid (newP_mod HN7.out hE (fun _ _ => id))
    replace HNv1 := Lib.hid (newP_mod HNv1.out hE (fun _ _ => id))
    replace HNv2 := Lib.hid (newP_mod HNv2.out hE (fun _ _ => id))
    replace HX := Lib.hid (HX.out.ext hE)
    clear Kaw11
    clear Kbw11
    clear Kgw11
    clear Krw11
    have Ksw12 := Lib.hid hKn
    have hbz : w.heap.size ≤ bs := by have := HXo.out.size; omega
    clear hKn hE hw12 hbs HXo hzz
    have hbs := hbz
    clear hbz
    clear hzn
    refine (k_value a g w12).mono ?_
    rintro e w13 ⟨rfl, hE⟩
    have Kaw13 := Lib.hid (hE.blk Kaw12.out id)
    have Kbw13 := Lib.hid (hE.blk Kbw12.out id)
    have Kgw13 := Lib.hid (hE.blk Kgw12.out id)
    have Krw13 := Lib.hid (hE.blk Krw12.out id)
    have Ksw13 := Lib.hid (hE.blk Ksw12.out id)
    replace HC := Lib.hid (HC.out.ext hE)
    replace HN7 := Lib.hid (newP_mod HN7.out hE (fun _ _ => id))
    replace HNv1 := Lib.hid (newP_mod HNv1.out hE (fun _ _ => id))
    replace HNv2 := Lib.hid (newP_mod HNv2.out hE (fun _ _ => id))
    replace HX := Lib.hid (HX.out.ext hE)
    clear Kaw12
    clear Kbw12
    clear Kgw12
    clear Krw12
    clear Ksw12
    rw [E1.out]
    clear hE
    have a_0 : w13.cell? ⟨ba, 0, none⟩ = some _ := blk_cell (cs := [.int .i64 a.kind, .float .f64 a.num, .string a.text]) Kaw13.out rfl
    have a_1 : w13.cell? ⟨ba, 1, none⟩ = some _ := blk_cell (cs := [.int .i64 a.kind, .float .f64 a.num, .string a.text]) Kaw13.out rfl
    have a_2 : w13.cell? ⟨ba, 2, none⟩ = some _ := blk_cell (cs := [.int .i64 a.kind, .float .f64 a.num, .string a.text]) Kaw13.out rfl
    have a_l : ba < w13.heap.size := (Array.getElem?_eq_some_iff.1 Kaw13.out).1
    have b_0 : w13.cell? ⟨bb, 0, none⟩ = some _ := blk_cell (cs := [.int .i64 b.kind, .float .f64 b.num, .string b.text]) Kbw13.out rfl
    have b_1 : w13.cell? ⟨bb, 1, none⟩ = some _ := blk_cell (cs := [.int .i64 b.kind, .float .f64 b.num, .string b.text]) Kbw13.out rfl
    have b_2 : w13.cell? ⟨bb, 2, none⟩ = some _ := blk_cell (cs := [.int .i64 b.kind, .float .f64 b.num, .string b.text]) Kbw13.out rfl
    have b_l : bb < w13.heap.size := (Array.getElem?_eq_some_iff.1 Kbw13.out).1
    have g_0 : w13.cell? ⟨bg, 0, none⟩ = some _ := blk_cell (cs := [.int .i64 g.kind, .float .f64 g.num, .string g.text]) Kgw13.out rfl
    have g_1 : w13.cell? ⟨bg, 1, none⟩ = some _ := blk_cell (cs := [.int .i64 g.kind, .float .f64 g.num, .string g.text]) Kgw13.out rfl
    have g_2 : w13.cell? ⟨bg, 2, none⟩ = some _ := blk_cell (cs := [.int .i64 g.kind, .float .f64 g.num, .string g.text]) Kgw13.out rfl
    have g_l : bg < w13.heap.size := (Array.getElem?_eq_some_iff.1 Kgw13.out).1
    have r_0 : w13.cell? ⟨br, 0, none⟩ = some _ := blk_cell (cs := [.int .i64 r.code, .int .i64 r.val.kind, .float .f64 r.val.num, .string r.val.text]) Krw13.out rfl
    have r_1 : w13.cell? ⟨br, 1, none⟩ = some _ := blk_cell (cs := [.int .i64 r.code, .int .i64 r.val.kind, .float .f64 r.val.num, .string r.val.text]) Krw13.out rfl
    have r_2 : w13.cell? ⟨br, 2, none⟩ = some _ := blk_cell (cs := [.int .i64 r.code, .int .i64 r.val.kind, .float .f64 r.val.num, .string r.val.text]) Krw13.out rfl
    have r_3 : w13.cell? ⟨br, 3, none⟩ = some _ := blk_cell (cs := [.int .i64 r.code, .int .i64 r.val.kind, .float .f64 r.val.num, .string r.val.text]) Krw13.out rfl
    have r_l : br < w13.heap.size := (Array.getElem?_eq_some_iff.1 Krw13.out).1
    have s_0 : w13.cell? ⟨bs, 0, none⟩ = some _ := blk_cell (cs := [.int .i64 s.code, .int .i64 s.val.kind, .float .f64 s.val.num, .string s.val.text]) Ksw13.out rfl
    have s_1 : w13.cell? ⟨bs, 1, none⟩ = some _ := blk_cell (cs := [.int .i64 s.code, .int .i64 s.val.kind, .float .f64 s.val.num, .string s.val.text]) Ksw13.out rfl
    have s_2 : w13.cell? ⟨bs, 2, none⟩ = some _ := blk_cell (cs := [.int .i64 s.code, .int .i64 s.val.kind, .float .f64 s.val.num, .string s.val.text]) Ksw13.out rfl
    have s_3 : w13.cell? ⟨bs, 3, none⟩ = some _ := blk_cell (cs := [.int .i64 s.code, .int .i64 s.val.kind, .float .f64 s.val.num, .string s.val.text]) Ksw13.out rfl
    have s_l : bs < w13.heap.size := (Array.getElem?_eq_some_iff.1 Ksw13.out).1
    go_wp2_with fail
    refine (k_pairs w13 _ _ _ _ z q HNv2.out.prs HNv1.out.prs).mono ?_
    rintro e w14 ⟨rfl, hE⟩
    clear a_0 a_1 a_2 a_l b_0 b_1 b_2 b_l g_0 g_1 g_2 g_l r_0 r_1 r_2 r_3 r_l s_0 s_1 s_2 s_3 s_l
    have Kaw14 := Lib.hid (hE.blk Kaw13.out id)
    have Kbw14 := Lib.hid (hE.blk Kbw13.out id)
    have Kgw14 := Lib.hid (hE.blk Kgw13.out id)
    have Krw14 := Lib.hid (hE.blk Krw13.out id)
    have Ksw14 := Lib.hid (hE.blk Ksw13.out id)
    replace HC := Lib.hid (HC.out.ext hE)
    replace HN7 := Lib.hid (newP_mod HN7.out hE (fun _ _ => id))
    replace HNv1 := Lib.hid (newP_mod HNv1.out hE (fun _ _ => id))
    replace HNv2 := Lib.hid (newP_mod HNv2.out hE (fun _ _ => id))
    replace HX := Lib.hid (HX.out.ext hE)
    clear Kaw13
    clear Kbw13
    clear Kgw13
    clear Krw13
    clear Ksw13
    rw [show eqPrs z q = true by rw [E2.out]; exact eqPrs_refl _]
    clear hE
    have a_0 : w14.cell? ⟨ba, 0, none⟩ = some _ := blk_cell (cs := [.int .i64 a.kind, .float .f64 a.num, .string a.text]) Kaw14.out rfl
    have a_1 : w14.cell? ⟨ba, 1, none⟩ = some _ := blk_cell (cs := [.int .i64 a.kind, .float .f64 a.num, .string a.text]) Kaw14.out rfl
    have a_2 : w14.cell? ⟨ba, 2, none⟩ = some _ := blk_cell (cs := [.int .i64 a.kind, .float .f64 a.num, .string a.text]) Kaw14.out rfl
    have a_l : ba < w14.heap.size := (Array.getElem?_eq_some_iff.1 Kaw14.out).1
    have b_0 : w14.cell? ⟨bb, 0, none⟩ = some _ := blk_cell (cs := [.int .i64 b.kind, .float .f64 b.num, .string b.text]) Kbw14.out rfl
    have b_1 : w14.cell? ⟨bb, 1, none⟩ = some _ := blk_cell (cs := [.int .i64 b.kind, .float .f64 b.num, .string b.text]) Kbw14.out rfl
    have b_2 : w14.cell? ⟨bb, 2, none⟩ = some _ := blk_cell (cs := [.int .i64 b.kind, .float .f64 b.num, .string b.text]) Kbw14.out rfl
    have b_l : bb < w14.heap.size := (Array.getElem?_eq_some_iff.1 Kbw14.out).1
    have g_0 : w14.cell? ⟨bg, 0, none⟩ = some _ := blk_cell (cs := [.int .i64 g.kind, .float .f64 g.num, .string g.text]) Kgw14.out rfl
    have g_1 : w14.cell? ⟨bg, 1, none⟩ = some _ := blk_cell (cs := [.int .i64 g.kind, .float .f64 g.num, .string g.text]) Kgw14.out rfl
    have g_2 : w14.cell? ⟨bg, 2, none⟩ = some _ := blk_cell (cs := [.int .i64 g.kind, .float .f64 g.num, .string g.text]) Kgw14.out rfl
    have g_l : bg < w14.heap.size := (Array.getElem?_eq_some_iff.1 Kgw14.out).1
    have r_0 : w14.cell? ⟨br, 0, none⟩ = some _ := blk_cell (cs := [.int .i64 r.code, .int .i64 r.val.kind, .float .f64 r.val.num, .string r.val.text]) Krw14.out rfl
    have r_1 : w14.cell? ⟨br, 1, none⟩ = some _ := blk_cell (cs := [.int .i64 r.code, .int .i64 r.val.kind, .float .f64 r.val.num, .string r.val.text]) Krw14.out rfl
    have r_2 : w14.cell? ⟨br, 2, none⟩ = some _ := blk_cell (cs := [.int .i64 r.code, .int .i64 r.val.kind, .float .f64 r.val.num, .string r.val.text]) Krw14.out rfl
    have r_3 : w14.cell? ⟨br, 3, none⟩ = some _ := blk_cell (cs := [.int .i64 r.code, .int .i64 r.val.kind, .float .f64 r.val.num, .string r.val.text]) Krw14.out rfl
    have r_l : br < w14.heap.size := (Array.getElem?_eq_some_iff.1 Krw14.out).1
    have s_0 : w14.cell? ⟨bs, 0, none⟩ = some _ := blk_cell (cs := [.int .i64 s.code, .int .i64 s.val.kind, .float .f64 s.val.num, .string s.val.text]) Ksw14.out rfl
    have s_1 : w14.cell? ⟨bs, 1, none⟩ = some _ := blk_cell (cs := [.int .i64 s.code, .int .i64 s.val.kind, .float .f64 s.val.num, .string s.val.text]) Ksw14.out rfl
    have s_2 : w14.cell? ⟨bs, 2, none⟩ = some _ := blk_cell (cs := [.int .i64 s.code, .int .i64 s.val.kind, .float .f64 s.val.num, .string s.val.text]) Ksw14.out rfl
    have s_3 : w14.cell? ⟨bs, 3, none⟩ = some _ := blk_cell (cs := [.int .i64 s.code, .int .i64 s.val.kind, .float .f64 s.val.num, .string s.val.text]) Ksw14.out rfl
    have s_l : bs < w14.heap.size := (Array.getElem?_eq_some_iff.1 Ksw14.out).1
    go_wp2_with fail
    refine (k_value s.val a w14).mono ?_
    rintro e w15 ⟨rfl, hE⟩
    clear a_0 a_1 a_2 a_l b_0 b_1 b_2 b_l g_0 g_1 g_2 g_l r_0 r_1 r_2 r_3 r_l s_0 s_1 s_2 s_3 s_l
    have Kaw15 := Lib.hid (hE.blk Kaw14.out id)
    have Kbw15 := Lib.hid (hE.blk Kbw14.out id)
    have Kgw15 := Lib.hid (hE.blk Kgw14.out id)
    have Krw15 := Lib.hid (hE.blk Krw14.out id)
    have Ksw15 := Lib.hid (hE.blk Ksw14.out id)
    replace HC := Lib.hid (HC.out.ext hE)
    replace HN7 := Lib.hid (newP_mod HN7.out hE (fun _ _ => id))
    replace HNv1 := Lib.hid (newP_mod HNv1.out hE (fun _ _ => id))
    replace HNv2 := Lib.hid (newP_mod HNv2.out hE (fun _ _ => id))
    replace HX := Lib.hid (HX.out.ext hE)
    clear Kaw14
    clear Kbw14
    clear Kgw14
    clear Krw14
    clear Ksw14
    rw [show eqVal s.val a = true by rw [E3.out]; exact eqVal_refl _]
    clear hE
    have a_0 : w15.cell? ⟨ba, 0, none⟩ = some _ := blk_cell (cs := [.int .i64 a.kind, .float .f64 a.num, .string a.text]) Kaw15.out rfl
    have a_1 : w15.cell? ⟨ba, 1, none⟩ = some _ := blk_cell (cs := [.int .i64 a.kind, .float .f64 a.num, .string a.text]) Kaw15.out rfl
    have a_2 : w15.cell? ⟨ba, 2, none⟩ = some _ := blk_cell (cs := [.int .i64 a.kind, .float .f64 a.num, .string a.text]) Kaw15.out rfl
    have a_l : ba < w15.heap.size := (Array.getElem?_eq_some_iff.1 Kaw15.out).1
    have b_0 : w15.cell? ⟨bb, 0, none⟩ = some _ := blk_cell (cs := [.int .i64 b.kind, .float .f64 b.num, .string b.text]) Kbw15.out rfl
    have b_1 : w15.cell? ⟨bb, 1, none⟩ = some _ := blk_cell (cs := [.int .i64 b.kind, .float .f64 b.num, .string b.text]) Kbw15.out rfl
    have b_2 : w15.cell? ⟨bb, 2, none⟩ = some _ := blk_cell (cs := [.int .i64 b.kind, .float .f64 b.num, .string b.text]) Kbw15.out rfl
    have b_l : bb < w15.heap.size := (Array.getElem?_eq_some_iff.1 Kbw15.out).1
    have g_0 : w15.cell? ⟨bg, 0, none⟩ = some _ := blk_cell (cs := [.int .i64 g.kind, .float .f64 g.num, .string g.text]) Kgw15.out rfl
    have g_1 : w15.cell? ⟨bg, 1, none⟩ = some _ := blk_cell (cs := [.int .i64 g.kind, .float .f64 g.num, .string g.text]) Kgw15.out rfl
    have g_2 : w15.cell? ⟨bg, 2, none⟩ = some _ := blk_cell (cs := [.int .i64 g.kind, .float .f64 g.num, .string g.text]) Kgw15.out rfl
    have g_l : bg < w15.heap.size := (Array.getElem?_eq_some_iff.1 Kgw15.out).1
    have r_0 : w15.cell? ⟨br, 0, none⟩ = some _ := blk_cell (cs := [.int .i64 r.code, .int .i64 r.val.kind, .float .f64 r.val.num, .string r.val.text]) Krw15.out rfl
    have r_1 : w15.cell? ⟨br, 1, none⟩ = some _ := blk_cell (cs := [.int .i64 r.code, .int .i64 r.val.kind, .float .f64 r.val.num, .string r.val.text]) Krw15.out rfl
    have r_2 : w15.cell? ⟨br, 2, none⟩ = some _ := blk_cell (cs := [.int .i64 r.code, .int .i64 r.val.kind, .float .f64 r.val.num, .string r.val.text]) Krw15.out rfl
    have r_3 : w15.cell? ⟨br, 3, none⟩ = some _ := blk_cell (cs := [.int .i64 r.code, .int .i64 r.val.kind, .float .f64 r.val.num, .string r.val.text]) Krw15.out rfl
    have r_l : br < w15.heap.size := (Array.getElem?_eq_some_iff.1 Krw15.out).1
    have s_0 : w15.cell? ⟨bs, 0, none⟩ = some _ := blk_cell (cs := [.int .i64 s.code, .int .i64 s.val.kind, .float .f64 s.val.num, .string s.val.text]) Ksw15.out rfl
    have s_1 : w15.cell? ⟨bs, 1, none⟩ = some _ := blk_cell (cs := [.int .i64 s.code, .int .i64 s.val.kind, .float .f64 s.val.num, .string s.val.text]) Ksw15.out rfl
    have s_2 : w15.cell? ⟨bs, 2, none⟩ = some _ := blk_cell (cs := [.int .i64 s.code, .int .i64 s.val.kind, .float .f64 s.val.num, .string s.val.text]) Ksw15.out rfl
    have s_3 : w15.cell? ⟨bs, 3, none⟩ = some _ := blk_cell (cs := [.int .i64 s.code, .int .i64 s.val.kind, .float .f64 s.val.num, .string s.val.text]) Ksw15.out rfl
    have s_l : bs < w15.heap.size := (Array.getElem?_eq_some_iff.1 Ksw15.out).1
    go_wp2_with fail
    refine (l_wakes w15).mono ?_
    rintro e w16 ⟨rfl, hE⟩
    clear a_0 a_1 a_2 a_l b_0 b_1 b_2 b_l g_0 g_1 g_2 g_l r_0 r_1 r_2 r_3 r_l s_0 s_1 s_2 s_3 s_l
    have Kaw16 := Lib.hid (hE.blk Kaw15.out id)
    have Kbw16 := Lib.hid (hE.blk Kbw15.out id)
    have Kgw16 := Lib.hid (hE.blk Kgw15.out id)
    have Krw16 := Lib.hid (hE.blk Krw15.out id)
    have Ksw16 := Lib.hid (hE.blk Ksw15.out id)
    replace HC := Lib.hid (HC.out.ext hE)
    replace HN7 := Lib.hid (newP_mod HN7.out hE (fun _ _ => id))
    replace HNv1 := Lib.hid (newP_mod HNv1.out hE (fun _ _ => id))
    replace HNv2 := Lib.hid (newP_mod HNv2.out hE (fun _ _ => id))
    replace HX := Lib.hid (HX.out.ext hE)
    clear Kaw15
    clear Kbw15
    clear Kgw15
    clear Krw15
    clear Ksw15
    clear hE
    have a_0 : w16.cell? ⟨ba, 0, none⟩ = some _ := blk_cell (cs := [.int .i64 a.kind, .float .f64 a.num, .string a.text]) Kaw16.out rfl
    have a_1 : w16.cell? ⟨ba, 1, none⟩ = some _ := blk_cell (cs := [.int .i64 a.kind, .float .f64 a.num, .string a.text]) Kaw16.out rfl
    have a_2 : w16.cell? ⟨ba, 2, none⟩ = some _ := blk_cell (cs := [.int .i64 a.kind, .float .f64 a.num, .string a.text]) Kaw16.out rfl
    have a_l : ba < w16.heap.size := (Array.getElem?_eq_some_iff.1 Kaw16.out).1
    have b_0 : w16.cell? ⟨bb, 0, none⟩ = some _ := blk_cell (cs := [.int .i64 b.kind, .float .f64 b.num, .string b.text]) Kbw16.out rfl
    have b_1 : w16.cell? ⟨bb, 1, none⟩ = some _ := blk_cell (cs := [.int .i64 b.kind, .float .f64 b.num, .string b.text]) Kbw16.out rfl
    have b_2 : w16.cell? ⟨bb, 2, none⟩ = some _ := blk_cell (cs := [.int .i64 b.kind, .float .f64 b.num, .string b.text]) Kbw16.out rfl
    have b_l : bb < w16.heap.size := (Array.getElem?_eq_some_iff.1 Kbw16.out).1
    have g_0 : w16.cell? ⟨bg, 0, none⟩ = some _ := blk_cell (cs := [.int .i64 g.kind, .float .f64 g.num, .string g.text]) Kgw16.out rfl
    have g_1 : w16.cell? ⟨bg, 1, none⟩ = some _ := blk_cell (cs := [.int .i64 g.kind, .float .f64 g.num, .string g.text]) Kgw16.out rfl
    have g_2 : w16.cell? ⟨bg, 2, none⟩ = some _ := blk_cell (cs := [.int .i64 g.kind, .float .f64 g.num, .string g.text]) Kgw16.out rfl
    have g_l : bg < w16.heap.size := (Array.getElem?_eq_some_iff.1 Kgw16.out).1
    have r_0 : w16.cell? ⟨br, 0, none⟩ = some _ := blk_cell (cs := [.int .i64 r.code, .int .i64 r.val.kind, .float .f64 r.val.num, .string r.val.text]) Krw16.out rfl
    have r_1 : w16.cell? ⟨br, 1, none⟩ = some _ := blk_cell (cs := [.int .i64 r.code, .int .i64 r.val.kind, .float .f64 r.val.num, .string r.val.text]) Krw16.out rfl
    have r_2 : w16.cell? ⟨br, 2, none⟩ = some _ := blk_cell (cs := [.int .i64 r.code, .int .i64 r.val.kind, .float .f64 r.val.num, .string r.val.text]) Krw16.out rfl
    have r_3 : w16.cell? ⟨br, 3, none⟩ = some _ := blk_cell (cs := [.int .i64 r.code, .int .i64 r.val.kind, .float .f64 r.val.num, .string r.val.text]) Krw16.out rfl
    have r_l : br < w16.heap.size := (Array.getElem?_eq_some_iff.1 Krw16.out).1
    have s_0 : w16.cell? ⟨bs, 0, none⟩ = some _ := blk_cell (cs := [.int .i64 s.code, .int .i64 s.val.kind, .float .f64 s.val.num, .string s.val.text]) Ksw16.out rfl
    have s_1 : w16.cell? ⟨bs, 1, none⟩ = some _ := blk_cell (cs := [.int .i64 s.code, .int .i64 s.val.kind, .float .f64 s.val.num, .string s.val.text]) Ksw16.out rfl
    have s_2 : w16.cell? ⟨bs, 2, none⟩ = some _ := blk_cell (cs := [.int .i64 s.code, .int .i64 s.val.kind, .float .f64 s.val.num, .string s.val.text]) Ksw16.out rfl
    have s_3 : w16.cell? ⟨bs, 3, none⟩ = some _ := blk_cell (cs := [.int .i64 s.code, .int .i64 s.val.kind, .float .f64 s.val.num, .string s.val.text]) Ksw16.out rfl
    have s_l : bs < w16.heap.size := (Array.getElem?_eq_some_iff.1 Ksw16.out).1
    go_wp2
    go_ret
    exact ⟨rfl, Ext.below HX.out⟩
  have n9 : (s.code == 9) = false := by simpa using h9
  by_cases h8 : s.code = 0
  case pos =>
    have n8 : (s.code != 0) = false := by simpa using h8
    have E1 := Lib.hid (HA.out.2 h8)
    clear h8 h9
    go_wp2_with fail
    obtain ⟨w12, hw12⟩ : ∃ w12, w12 = w11.alloc (.cells #[.int .i64 s.code, .int .i64 s.val.kind, .float .f64 s.val.num, .string s.val.text] 33) := ⟨_, rfl⟩
    obtain ⟨bs, hbs⟩ : ∃ bs, bs = w11.heap.size := ⟨_, rfl⟩
    have hzz : w11.heap.size = bs := hbs.symm
    have hE : Ext w11 w12 := by rw [hw12]; exact (Mod.refl _ w11).alloc _
    have hKn : w12.heap[bs]? = some (.cells #[.int .i64 s.code, .int .i64 s.val.kind, .float .f64 s.val.num, .string s.val.text] 33 (0, 0)) := by rw [hw12, ← hzz]; exact heap_alloc_new w11 _
    have hzn : w12.heap.size = bs + 1 := by rw [hw12, ← hzz]; simp
    rw [← hw12, ← hbs]
    clear a_0 a_1 a_2 a_l b_0 b_1 b_2 b_l g_0 g_1 g_2 g_l r_0 r_1 r_2 r_3 r_l
    have HXo := HX
    have Kaw12 := Lib.hid (hE.blk Kaw11.out id)
    have Kbw12 := Lib.hid (hE.blk Kbw11.out id)
    have Kgw12 := Lib.hid (hE.blk Kgw11.out id)
    have Krw12 := Lib.hid (hE.blk Krw11.out id)
    replace HC := Lib.hid (HC.out.ext hE)
    replace HN7 := Lib.hid (newP_mod HN7.out hE (fun _ _ => id))
    replace HNv1 := Lib.hid (newP_mod HNv1.out hE (fun _ _ => id))
    replace HNv2 := Lib.hid (newP_mod HNv2.out hE (fun _ _ => id))
    replace HX := Lib.hid (HX.out.ext hE)
    clear Kaw11
    clear Kbw11
    clear Kgw11
    clear Krw11
    have Ksw12 := Lib.hid hKn
    have hbz : w.heap.size ≤ bs := by have := HXo.out.size; omega
    clear hKn hE hw12 hbs HXo hzz
    have hbs := hbz
    clear hbz
    clear hzn
    refine (k_value a g w12).mono ?_
    rintro e w13 ⟨rfl, hE⟩
    have Kaw13 := Lib.hid (hE.blk Kaw12.out id)
    have Kbw13 := Lib.hid (hE.blk Kbw12.out id)
    have Kgw13 := Lib.hid (hE.blk Kgw12.out id)
    have Krw13 := Lib.hid (hE.blk Krw12.out id)
    have Ksw13 := Lib.hid (hE.blk Ksw12.out id)
    replace HC := Lib.hid (HC.out.ext hE)
    replace HN7 := Lib.hid (newP_mod HN7.out hE (fun _ _ => id))
    replace HNv1 := Lib.hid (newP_mod HNv1.out hE (fun _ _ => id))
    replace HNv2 := Lib.hid (newP_mod HNv2.out hE (fun _ _ => id))
    replace HX := Lib.hid (HX.out.ext hE)
    clear Kaw12
    clear Kbw12
    clear Kgw12
    clear Krw12
    clear Ksw12
    rw [E1.out]
    clear hE
    have a_0 : w13.cell? ⟨ba, 0, none⟩ = some _ := blk_cell (cs := [.int .i64 a.kind, .float .f64 a.num, .string a.text]) Kaw13.out rfl
    have a_1 : w13.cell? ⟨ba, 1, none⟩ = some _ := blk_cell (cs := [.int .i64 a.kind, .float .f64 a.num, .string a.text]) Kaw13.out rfl
    have a_2 : w13.cell? ⟨ba, 2, none⟩ = some _ := blk_cell (cs := [.int .i64 a.kind, .float .f64 a.num, .string a.text]) Kaw13.out rfl
    have a_l : ba < w13.heap.size := (Array.getElem?_eq_some_iff.1 Kaw13.out).1
    have b_0 : w13.cell? ⟨bb, 0, none⟩ = some _ := blk_cell (cs := [.int .i64 b.kind, .float .f64 b.num, .string b.text]) Kbw13.out rfl
    have b_1 : w13.cell? ⟨bb, 1, none⟩ = some _ := blk_cell (cs := [.int .i64 b.kind, .float .f64 b.num, .string b.text]) Kbw13.out rfl
    have b_2 : w13.cell? ⟨bb, 2, none⟩ = some _ := blk_cell (cs := [.int .i64 b.kind, .float .f64 b.num, .string b.text]) Kbw13.out rfl
    have b_l : bb < w13.heap.size := (Array.getElem?_eq_some_iff.1 Kbw13.out).1
    have g_0 : w13.cell? ⟨bg, 0, none⟩ = some _ := blk_cell (cs := [.int .i64 g.kind, .float .f64 g.num, .string g.text]) Kgw13.out rfl
    have g_1 : w13.cell? ⟨bg, 1, none⟩ = some _ := blk_cell (cs := [.int .i64 g.kind, .float .f64 g.num, .string g.text]) Kgw13.out rfl
    have g_2 : w13.cell? ⟨bg, 2, none⟩ = some _ := blk_cell (cs := [.int .i64 g.kind, .float .f64 g.num, .string g.text]) Kgw13.out rfl
    have g_l : bg < w13.heap.size := (Array.getElem?_eq_some_iff.1 Kgw13.out).1
    have r_0 : w13.cell? ⟨br, 0, none⟩ = some _ := blk_cell (cs := [.int .i64 r.code, .int .i64 r.val.kind, .float .f64 r.val.num, .string r.val.text]) Krw13.out rfl
    have r_1 : w13.cell? ⟨br, 1, none⟩ = some _ := blk_cell (cs := [.int .i64 r.code, .int .i64 r.val.kind, .float .f64 r.val.num, .string r.val.text]) Krw13.out rfl
    have r_2 : w13.cell? ⟨br, 2, none⟩ = some _ := blk_cell (cs := [.int .i64 r.code, .int .i64 r.val.kind, .float .f64 r.val.num, .string r.val.text]) Krw13.out rfl
    have r_3 : w13.cell? ⟨br, 3, none⟩ = some _ := blk_cell (cs := [.int .i64 r.code, .int .i64 r.val.kind, .float .f64 r.val.num, .string r.val.text]) Krw13.out rfl
    have r_l : br < w13.heap.size := (Array.getElem?_eq_some_iff.1 Krw13.out).1
    have s_0 : w13.cell? ⟨bs, 0, none⟩ = some _ := blk_cell (cs := [.int .i64 s.code, .int .i64 s.val.kind, .float .f64 s.val.num, .string s.val.text]) Ksw13.out rfl
    have s_1 : w13.cell? ⟨bs, 1, none⟩ = some _ := blk_cell (cs := [.int .i64 s.code, .int .i64 s.val.kind, .float .f64 s.val.num, .string s.val.text]) Ksw13.out rfl
    have s_2 : w13.cell? ⟨bs, 2, none⟩ = some _ := blk_cell (cs := [.int .i64 s.code, .int .i64 s.val.kind, .float .f64 s.val.num, .string s.val.text]) Ksw13.out rfl
    have s_3 : w13.cell? ⟨bs, 3, none⟩ = some _ := blk_cell (cs := [.int .i64 s.code, .int .i64 s.val.kind, .float .f64 s.val.num, .string s.val.text]) Ksw13.out rfl
    have s_l : bs < w13.heap.size := (Array.getElem?_eq_some_iff.1 Ksw13.out).1
    go_wp2_with fail
    refine (l_wakes w13).mono ?_
    rintro e w14 ⟨rfl, hE⟩
    clear a_0 a_1 a_2 a_l b_0 b_1 b_2 b_l g_0 g_1 g_2 g_l r_0 r_1 r_2 r_3 r_l s_0 s_1 s_2 s_3 s_l
    have Kaw14 := Lib.hid (hE.blk Kaw13.out id)
    have Kbw14 := Lib.hid (hE.blk Kbw13.out id)
    have Kgw14 := Lib.hid (hE.blk Kgw13.out id)
    have Krw14 := Lib.hid (hE.blk Krw13.out id)
    have Ksw14 := Lib.hid (hE.blk Ksw13.out id)
    replace HC := Lib.hid (HC.out.ext hE)
    replace HN7 := Lib.hid (newP_mod HN7.out hE (fun _ _ => id))
    replace HNv1 := Lib.hid (newP_mod HNv1.out hE (fun _ _ => id))
    replace HNv2 := Lib.hid (newP_mod HNv2.out hE (fun _ _ => id))
    replace HX := Lib.hid (HX.out.ext hE)
    clear Kaw13
    clear Kbw13
    clear Kgw13
    clear Krw13
    clear Ksw13
    clear hE
    have a_0 : w14.cell? ⟨ba, 0, none⟩ = some _ := blk_cell (cs := [.int .i64 a.kind, .float .f64 a.num, .string a.text]) Kaw14.out rfl
    have a_1 : w14.cell? ⟨ba, 1, none⟩ = some _ := blk_cell (cs := [.int .i64 a.kind, .float .f64 a.num, .string a.text]) Kaw14.out rfl
    have a_2 : w14.cell? ⟨ba, 2, none⟩ = some _ := blk_cell (cs := [.int .i64 a.kind, .float .f64 a.num, .string a.text]) Kaw14.out rfl
    have a_l : ba < w14.heap.size := (Array.getElem?_eq_some_iff.1 Kaw14.out).1
    have b_0 : w14.cell? ⟨bb, 0, none⟩ = some _ := blk_cell (cs := [.int .i64 b.kind, .float .f64 b.num, .string b.text]) Kbw14.out rfl
    have b_1 : w14.cell? ⟨bb, 1, none⟩ = some _ := blk_cell (cs := [.int .i64 b.kind, .float .f64 b.num, .string b.text]) Kbw14.out rfl
    have b_2 : w14.cell? ⟨bb, 2, none⟩ = some _ := blk_cell (cs := [.int .i64 b.kind, .float .f64 b.num, .string b.text]) Kbw14.out rfl
    have b_l : bb < w14.heap.size := (Array.getElem?_eq_some_iff.1 Kbw14.out).1
    have g_0 : w14.cell? ⟨bg, 0, none⟩ = some _ := blk_cell (cs := [.int .i64 g.kind, .float .f64 g.num, .string g.text]) Kgw14.out rfl
    have g_1 : w14.cell? ⟨bg, 1, none⟩ = some _ := blk_cell (cs := [.int .i64 g.kind, .float .f64 g.num, .string g.text]) Kgw14.out rfl
    have g_2 : w14.cell? ⟨bg, 2, none⟩ = some _ := blk_cell (cs := [.int .i64 g.kind, .float .f64 g.num, .string g.text]) Kgw14.out rfl
    have g_l : bg < w14.heap.size := (Array.getElem?_eq_some_iff.1 Kgw14.out).1
    have r_0 : w14.cell? ⟨br, 0, none⟩ = some _ := blk_cell (cs := [.int .i64 r.code, .int .i64 r.val.kind, .float .f64 r.val.num, .string r.val.text]) Krw14.out rfl
    have r_1 : w14.cell? ⟨br, 1, none⟩ = some _ := blk_cell (cs := [.int .i64 r.code, .int .i64 r.val.kind, .float .f64 r.val.num, .string r.val.text]) Krw14.out rfl
    have r_2 : w14.cell? ⟨br, 2, none⟩ = some _ := blk_cell (cs := [.int .i64 r.code, .int .i64 r.val.kind, .float .f64 r.val.num, .string r.val.text]) Krw14.out rfl
    have r_3 : w14.cell? ⟨br, 3, none⟩ = some _ := blk_cell (cs := [.int .i64 r.code, .int .i64 r.val.kind, .float .f64 r.val.num, .string r.val.text]) Krw14.out rfl
    have r_l : br < w14.heap.size := (Array.getElem?_eq_some_iff.1 Krw14.out).1
    have s_0 : w14.cell? ⟨bs, 0, none⟩ = some _ := blk_cell (cs := [.int .i64 s.code, .int .i64 s.val.kind, .float .f64 s.val.num, .string s.val.text]) Ksw14.out rfl
    have s_1 : w14.cell? ⟨bs, 1, none⟩ = some _ := blk_cell (cs := [.int .i64 s.code, .int .i64 s.val.kind, .float .f64 s.val.num, .string s.val.text]) Ksw14.out rfl
    have s_2 : w14.cell? ⟨bs, 2, none⟩ = some _ := blk_cell (cs := [.int .i64 s.code, .int .i64 s.val.kind, .float .f64 s.val.num, .string s.val.text]) Ksw14.out rfl
    have s_3 : w14.cell? ⟨bs, 3, none⟩ = some _ := blk_cell (cs := [.int .i64 s.code, .int .i64 s.val.kind, .float .f64 s.val.num, .string s.val.text]) Ksw14.out rfl
    have s_l : bs < w14.heap.size := (Array.getElem?_eq_some_iff.1 Ksw14.out).1
    go_wp2
    go_ret
    exact ⟨rfl, Ext.below HX.out⟩
  have n8 : (s.code != 0) = true := by simpa using h8
  clear h8 h9
  go_wp2_with fail
  obtain ⟨w12, hw12⟩ : ∃ w12, w12 = w11.alloc (.cells #[.int .i64 s.code, .int .i64 s.val.kind, .float .f64 s.val.num, .string s.val.text] 33) := ⟨_, rfl⟩
  obtain ⟨bs, hbs⟩ : ∃ bs, bs = w11.heap.size := ⟨_, rfl⟩
  have hzz : w11.heap.size = bs := hbs.symm
  have hE : Ext w11 w12 := by rw [hw12]; exact (Mod.refl _ w11).alloc _
  have hKn : w12.heap[bs]? = some (.cells #[.int .i64 s.code, .int .i64 s.val.kind, .float .f64 s.val.num, .string s.val.text] 33 (0, 0)) := by rw [hw12, ← hzz]; exact heap_alloc_new w11 _
  have hzn : w12.heap.size = bs + 1 := by rw [hw12, ← hzz]; simp
  rw [← hw12, ← hbs]
  clear a_0 a_1 a_2 a_l b_0 b_1 b_2 b_l g_0 g_1 g_2 g_l r_0 r_1 r_2 r_3 r_l
  have HXo := HX
  have Kaw12 := Lib.hid (hE.blk Kaw11.out id)
  have Kbw12 := Lib.hid (hE.blk Kbw11.out id)
  have Kgw12 := Lib.hid (hE.blk Kgw11.out id)
  have Krw12 := Lib.hid (hE.blk Krw11.out id)
  replace HC := Lib.hid (HC.out.ext hE)
  replace HN7 := Lib.hid (newP_mod HN7.out hE (fun _ _ => id))
  replace HNv1 := Lib.hid (newP_mod HNv1.out hE (fun _ _ => id))
  replace HNv2 := Lib.hid (newP_mod HNv2.out hE (fun _ _ => id))
  replace HX := Lib.hid (HX.out.ext hE)
  clear Kaw11
  clear Kbw11
  clear Kgw11
  clear Krw11
  have Ksw12 := Lib.hid hKn
  have hbz : w.heap.size ≤ bs := by have := HXo.out.size; omega
  clear hKn hE hw12 hbs HXo hzz
  have hbs := hbz
  clear hbz
  clear hzn
  refine (l_wakes w12).mono ?_
  rintro e w13 ⟨rfl, hE⟩
  have Kaw13 := Lib.hid (hE.blk Kaw12.out id)
  have Kbw13 := Lib.hid (hE.blk Kbw12.out id)
  have Kgw13 := Lib.hid (hE.blk Kgw12.out id)
  have Krw13 := Lib.hid (hE.blk Krw12.out id)
  have Ksw13 := Lib.hid (hE.blk Ksw12.out id)
  replace HC := Lib.hid (HC.out.ext hE)
  replace HN7 := Lib.hid (newP_mod HN7.out hE (fun _ _ => id))
  replace HNv1 := Lib.hid (newP_mod HNv1.out hE (fun _ _ => id))
  replace HNv2 := Lib.hid (newP_mod HNv2.out hE (fun _ _ => id))
  replace HX := Lib.hid (HX.out.ext hE)
  clear Kaw12
  clear Kbw12
  clear Kgw12
  clear Krw12
  clear Ksw12
  clear hE
  have a_0 : w13.cell? ⟨ba, 0, none⟩ = some _ := blk_cell (cs := [.int .i64 a.kind, .float .f64 a.num, .string a.text]) Kaw13.out rfl
  have a_1 : w13.cell? ⟨ba, 1, none⟩ = some _ := blk_cell (cs := [.int .i64 a.kind, .float .f64 a.num, .string a.text]) Kaw13.out rfl
  have a_2 : w13.cell? ⟨ba, 2, none⟩ = some _ := blk_cell (cs := [.int .i64 a.kind, .float .f64 a.num, .string a.text]) Kaw13.out rfl
  have a_l : ba < w13.heap.size := (Array.getElem?_eq_some_iff.1 Kaw13.out).1
  have b_0 : w13.cell? ⟨bb, 0, none⟩ = some _ := blk_cell (cs := [.int .i64 b.kind, .float .f64 b.num, .string b.text]) Kbw13.out rfl
  have b_1 : w13.cell? ⟨bb, 1, none⟩ = some _ := blk_cell (cs := [.int .i64 b.kind, .float .f64 b.num, .string b.text]) Kbw13.out rfl
  have b_2 : w13.cell? ⟨bb, 2, none⟩ = some _ := blk_cell (cs := [.int .i64 b.kind, .float .f64 b.num, .string b.text]) Kbw13.out rfl
  have b_l : bb < w13.heap.size := (Array.getElem?_eq_some_iff.1 Kbw13.out).1
  have g_0 : w13.cell? ⟨bg, 0, none⟩ = some _ := blk_cell (cs := [.int .i64 g.kind, .float .f64 g.num, .string g.text]) Kgw13.out rfl
  have g_1 : w13.cell? ⟨bg, 1, none⟩ = some _ := blk_cell (cs := [.int .i64 g.kind, .float .f64 g.num, .string g.text]) Kgw13.out rfl
  have g_2 : w13.cell? ⟨bg, 2, none⟩ = some _ := blk_cell (cs := [.int .i64 g.kind, .float .f64 g.num, .string g.text]) Kgw13.out rfl
  have g_l : bg < w13.heap.size := (Array.getElem?_eq_some_iff.1 Kgw13.out).1
  have r_0 : w13.cell? ⟨br, 0, none⟩ = some _ := blk_cell (cs := [.int .i64 r.code, .int .i64 r.val.kind, .float .f64 r.val.num, .string r.val.text]) Krw13.out rfl
  have r_1 : w13.cell? ⟨br, 1, none⟩ = some _ := blk_cell (cs := [.int .i64 r.code, .int .i64 r.val.kind, .float .f64 r.val.num, .string r.val.text]) Krw13.out rfl
  have r_2 : w13.cell? ⟨br, 2, none⟩ = some _ := blk_cell (cs := [.int .i64 r.code, .int .i64 r.val.kind, .float .f64 r.val.num, .string r.val.text]) Krw13.out rfl
  have r_3 : w13.cell? ⟨br, 3, none⟩ = some _ := blk_cell (cs := [.int .i64 r.code, .int .i64 r.val.kind, .float .f64 r.val.num, .string r.val.text]) Krw13.out rfl
  have r_l : br < w13.heap.size := (Array.getElem?_eq_some_iff.1 Krw13.out).1
  have s_0 : w13.cell? ⟨bs, 0, none⟩ = some _ := blk_cell (cs := [.int .i64 s.code, .int .i64 s.val.kind, .float .f64 s.val.num, .string s.val.text]) Ksw13.out rfl
  have s_1 : w13.cell? ⟨bs, 1, none⟩ = some _ := blk_cell (cs := [.int .i64 s.code, .int .i64 s.val.kind, .float .f64 s.val.num, .string s.val.text]) Ksw13.out rfl
  have s_2 : w13.cell? ⟨bs, 2, none⟩ = some _ := blk_cell (cs := [.int .i64 s.code, .int .i64 s.val.kind, .float .f64 s.val.num, .string s.val.text]) Ksw13.out rfl
  have s_3 : w13.cell? ⟨bs, 3, none⟩ = some _ := blk_cell (cs := [.int .i64 s.code, .int .i64 s.val.kind, .float .f64 s.val.num, .string s.val.text]) Ksw13.out rfl
  have s_l : bs < w13.heap.size := (Array.getElem?_eq_some_iff.1 Ksw13.out).1
  go_wp2
  go_ret
  exact ⟨rfl, Ext.below HX.out⟩
theorem kvCas_a (w : World) (v0 : Value) (l : List ACmd) (key : ByteArray) (a b : AVal) (hC : Cms w (fun g => g < w.heap.size) v0 l) (_ : key.size ≤ maxLen) (ha : a.ok) (hb : b.ok) :
    Calls Try.prog 5 #[v0, .string key, .agg #[.int .i64 a.kind, .float .f64 a.num, .string a.text], .agg #[.int .i64 b.kind, .float .f64 b.num, .string b.text]] w fun e w' => e = .returned (.bool true) ∧ Below w.heap.size w w' := by
  obtain ⟨A, cc, rfl⟩ := hC.form
  exact kvCas_walk w _ A _ cc l hC rfl key a b ha hb
end Go.Proofs.Ythhjaneadbkccaa
