/-
  The walk of KvAdds. Conditions: as the theorems name them.
-/
import Derived.Test.YthhjaneadbkccaaKvMore
import Derived.Test.YthhjaneadbkccaaTake
namespace Go.Proofs.Ythhjaneadbkccaa
set_option linter.unusedSimpArgs false
open Go.RowKit

theorem floatAt {w : World} {T : Nat → Prop} {A : Option Addr} {n c : Nat} {l : List Nat} (hs : Sl w T 1 (.slice A n c) n (l.map (Value.float .f64))) {i : Nat} (hi : i < n) :
    ∃ g off x, A = some ⟨g, off, none⟩ ∧ l[i]? = some x ∧ w.cell? ⟨g, off + i, none⟩ = some (.float .f64 x) := by
  obtain ⟨hl, A', c', e, hn, hc, hx⟩ := hs
  injection e with e1 _ e3; subst e1; subst e3
  obtain ⟨g, off, rfl, hT, hcell⟩ := hx (by omega)
  have hli : i < l.length := by simp at hl; omega
  exact ⟨g, off, l[i], rfl, List.getElem?_eq_getElem hli, hcell i _ (by simp [List.getElem?_eq_getElem hli])⟩

set_option maxRecDepth 100000 in
set_option maxHeartbeats 1000000 in
theorem kvAdds_true (w : World) (T : Nat → Prop) (A : Option Addr) (n cc : Nat) (l : List ACmd) (hC : Cms w T (.slice A n cc) l) (hn : l.length = n) (key : ByteArray) (U : Nat → Prop) (AX : Option Addr) (m cx : Nat) (xs : List Nat) (hXs : Sl w U 1 (.slice AX m cx) m (xs.map (Value.float .f64))) (hxb : ∀ y ∈ xs, y < 18446744073709551616)  :
    Calls Try.prog 6 #[.slice A n cc, .string key, .slice AX m cx, .bool true] w fun e w' => e = .returned (.bool true) ∧ Below w.heap.size w w' := by
  have hl := hC.1.le
  rw [hn] at hl
  unfold maxLen at hl
  have hlx := hXs.le
  unfold maxLen at hlx
  by_cases h0 : 1000 < n
  · have d0 : decide ((n : Int) > 1000) = true := by simp; omega
    go_enter Try.func6, Try.ntmps6
    go_wp2
    go_ret
    exact ⟨rfl, Ext.below (Mod.refl _ w)⟩
  have d0 : decide ((n : Int) > 1000) = false := by simp; omega
  by_cases h1 : 200 < m
  · have d1 : decide ((m : Int) > 200) = true := by simp; omega
    go_enter Try.func6, Try.ntmps6
    go_wp2
    go_ret
    exact ⟨rfl, Ext.below (Mod.refl _ w)⟩
  have d1 : decide ((m : Int) > 200) = false := by simp; omega
  by_cases h2 : 2000 < key.size
  · have d2 : decide ((key.size : Int) > 2000) = true := by simp; omega
    go_enter Try.func6, Try.ntmps6
    go_wp2
    go_ret
    exact ⟨rfl, Ext.below (Mod.refl _ w)⟩
  have d2 : decide ((key.size : Int) > 2000) = false := by simp; omega
  have HXs := Lib.hid hXs
  have Hxb := Lib.hid hxb
  clear hXs hxb
  have HX : Hid (Ext w w) := Lib.hid (Mod.refl _ w)
  have HC := Lib.hid hC
  clear hC
  go_enter Try.func6, Try.ntmps6
  go_wp2_with fail
  refine (l_grown w T _ l HC.out (by omega)).mono ?_
  rintro e w1 ⟨v7, p, rfl, hN, hp, hE⟩
  replace HC := Lib.hid (HC.out.ext hE)
  replace HX := Lib.hid (HX.out.ext hE)
  obtain ⟨A7, c7, rfl⟩ := own_form hN.1
  have HN7 := Lib.hid hN
  have Hp := Lib.hid hp
  clear hN hp
  clear hE
  go_wp2_with fail
  refine (kv_get w1 _ _ p key HN7.out.prs).mono ?_
  rintro e w2 ⟨rfl, hE⟩
  replace HC := Lib.hid (HC.out.ext hE)
  replace HN7 := Lib.hid (newP_mod HN7.out hE (fun _ _ => id))
  replace HX := Lib.hid (HX.out.ext hE)
  obtain ⟨t, ht⟩ : ∃ t, getP p key = t := ⟨_, rfl⟩
  rw [ht]
  have HTt := Lib.hid ht
  clear ht
  clear hE
  go_wp2_with fail
  have hlo := HN7.out.1.lt
  have Hlo := Lib.hid hlo
  clear hlo
  obtain ⟨w3, hw3⟩ : ∃ w3, w3 = w2.alloc (.cells #[.int .i64 t.kind, .float .f64 t.num, .string t.text] 25) := ⟨_, rfl⟩
  obtain ⟨bt, hbt⟩ : ∃ bt, bt = w2.heap.size := ⟨_, rfl⟩
  have hzz : w2.heap.size = bt := hbt.symm
  have hE : Ext w2 w3 := by rw [hw3]; exact (Mod.refl _ w2).alloc _
  have hKn : w3.heap[bt]? = some (.cells #[.int .i64 t.kind, .float .f64 t.num, .string t.text] 25 (0, 0)) := by rw [hw3, ← hzz]; exact heap_alloc_new w2 _
  have hzn : w3.heap.size = bt + 1 := by rw [hw3, ← hzz]; simp
  rw [← hw3, ← hbt]
  have HXo := HX
  replace HC := Lib.hid (HC.out.ext hE)
  replace HN7 := Lib.hid (newP_mod HN7.out hE (fun _ _ => id))
  replace HX := Lib.hid (HX.out.ext hE)
  have Ktw3 := Lib.hid hKn
  have hbz : w.heap.size ≤ bt := by have := HXo.out.size; omega
  have HSt := Lib.hid hzz
  clear hKn hE hw3 hbt HXo hzz
  have hbt := hbz
  clear hbz
  clear hzn
  have HW0 := HX
  go_loopw [9, 12] (fun pv iv wr => ∃ (i : Nat) (p : List APair), i ≤ m ∧ iv = .int .i64 i ∧ NewP w wr pv p ∧ pairsB p = true ∧ (∀ g, pv.ownBlock = some g → g ≠ bt) ∧ wr.heap[bt]? = some (.cells #[.int .i64 (getP p key).kind, .float .f64 (getP p key).num, .string (getP p key).text] 25 (0, 0)) ∧ Ext w wr) (fun _ iv _ => m - (intOf iv).toNat)
  case atStart => exact ⟨0, p, by omega, rfl, HN7.out, Hp.out, fun g hg => by have := (Hlo.out g hg).2; have := HSt.out; omega, by rw [HTt.out]; exact Ktw3.out, HX.out⟩
  case round =>
    clear HN7 Hp HTt Ktw3 HX HC HSt Hlo HW0
    obtain ⟨i, p, him, rfl, hN, hp, hpt, hb, hE⟩ := hrel
    obtain ⟨t, ht⟩ : ∃ t, getP p key = t := ⟨_, rfl⟩
    rw [ht] at hb
    have htn : t.num < 18446744073709551616 := by have := getP_ok hN.2.1 key; rw [ht] at this; exact this.2.1
    have HTt := Lib.hid ht
    have HNp := Lib.hid hN
    have Hp := Lib.hid hp
    have Hpt := Lib.hid hpt
    have hbtw : bt < wr.heap.size := (Array.getElem?_eq_some_iff.1 hb).1
    have Ktwr := Lib.hid hb
    have HX := Lib.hid hE
    have HY : Hid (Ext wr wr) := Lib.hid (Mod.refl _ wr)
    have hxs := HXs.out.ext hE
    clear hN hp hpt hb hE ht
    by_cases hi : i < m
    case neg =>
      clear hxs HY
      have t_0 : wr.cell? ⟨bt, 0, none⟩ = some _ := blk_cell (cs := [.int .i64 t.kind, .float .f64 t.num, .string t.text]) Ktwr.out rfl
      have t_1 : wr.cell? ⟨bt, 1, none⟩ = some _ := blk_cell (cs := [.int .i64 t.kind, .float .f64 t.num, .string t.text]) Ktwr.out rfl
      have t_2 : wr.cell? ⟨bt, 2, none⟩ = some _ := blk_cell (cs := [.int .i64 t.kind, .float .f64 t.num, .string t.text]) Ktwr.out rfl
      have t_l : bt < wr.heap.size := (Array.getElem?_eq_some_iff.1 Ktwr.out).1
      go_wp2_with fail
      refine (l_wakes wr).mono ?_
      rintro e w21 ⟨rfl, hE⟩
      clear t_0 t_1 t_2 t_l
      have Ktw21 := Lib.hid (hE.blk Ktwr.out id)
      replace HX := Lib.hid (HX.out.ext hE)
      clear Ktwr
      clear hE
      have t_0 : w21.cell? ⟨bt, 0, none⟩ = some _ := blk_cell (cs := [.int .i64 t.kind, .float .f64 t.num, .string t.text]) Ktw21.out rfl
      have t_1 : w21.cell? ⟨bt, 1, none⟩ = some _ := blk_cell (cs := [.int .i64 t.kind, .float .f64 t.num, .string t.text]) Ktw21.out rfl
      have t_2 : w21.cell? ⟨bt, 2, none⟩ = some _ := blk_cell (cs := [.int .i64 t.kind, .float .f64 t.num, .string t.text]) Ktw21.out rfl
      have t_l : bt < w21.heap.size := (Array.getElem?_eq_some_iff.1 Ktw21.out).1
      go_wp2
      go_ret
      exact ⟨rfl, Ext.below HX.out⟩
    obtain ⟨g, off, y, rfl, hy, hcell⟩ := floatAt hxs hi
    have hyb := Hxb.out y (List.mem_of_getElem? hy)
    have hi0 : (0 : Int) ≤ (i : Int) := by omega
    have hi1 : (i : Int) < (m : Int) := by omega
    have hvok : (⟨1, y, ⟨#[]⟩⟩ : AVal).ok := ⟨⟨by show (-9223372036854775808 : Int) ≤ 1; decide, by show (1 : Int) ≤ 9223372036854775807; decide⟩, hyb, Nat.zero_le _⟩
    have Hvok := Lib.hid hvok
    clear hxs hy hvok
    have t_0 : wr.cell? ⟨bt, 0, none⟩ = some _ := blk_cell (cs := [.int .i64 t.kind, .float .f64 t.num, .string t.text]) Ktwr.out rfl
    have t_1 : wr.cell? ⟨bt, 1, none⟩ = some _ := blk_cell (cs := [.int .i64 t.kind, .float .f64 t.num, .string t.text]) Ktwr.out rfl
    have t_2 : wr.cell? ⟨bt, 2, none⟩ = some _ := blk_cell (cs := [.int .i64 t.kind, .float .f64 t.num, .string t.text]) Ktwr.out rfl
    have t_l : bt < wr.heap.size := (Array.getElem?_eq_some_iff.1 Ktwr.out).1
    go_wp2_with fail
    obtain ⟨w21, hw21⟩ : ∃ w21, w21 = wr.alloc (.cells #[.int .i64 1, .float .f64 y, .string ⟨#[]⟩] 25) := ⟨_, rfl⟩
    obtain ⟨bf, hbf⟩ : ∃ bf, bf = wr.heap.size := ⟨_, rfl⟩
    have hzz : wr.heap.size = bf := hbf.symm
    have hE : Ext wr w21 := by rw [hw21]; exact (Mod.refl _ wr).alloc _
    have hKn : w21.heap[bf]? = some (.cells #[.int .i64 1, .float .f64 y, .string ⟨#[]⟩] 25 (0, 0)) := by rw [hw21, ← hzz]; exact heap_alloc_new wr _
    have hzn : w21.heap.size = bf + 1 := by rw [hw21, ← hzz]; simp
    rw [← hw21, ← hbf]
    clear t_0 t_1 t_2 t_l
    have HXo := HX
    have HYo := HY
    have Ktw21 := Lib.hid (hE.blk Ktwr.out id)
    replace HNp := Lib.hid (newP_mod HNp.out hE (fun _ _ => id))
    replace HX := Lib.hid (HX.out.ext hE)
    replace HY := Lib.hid (HY.out.ext hE)
    clear Ktwr
    have Kfw21 := Lib.hid hKn
    have hbz : w.heap.size ≤ bf := by have := HXo.out.size; omega
    have hcf : wr.heap.size ≤ bf := by have := HYo.out.size; omega
    clear HYo
    clear hKn hE hw21 hbf HXo hzz
    have hbf := hbz
    clear hbz
    clear hzn
    have hso := HX.out.size
    have hsy := HY.out.size
    rcases hr : doP p ⟨5, key, AVal.zero, ⟨1, y, ⟨#[]⟩⟩⟩ with ⟨q, r⟩
    refine (kv_Do_at w21 _ _ p ⟨5, key, AVal.zero, ⟨1, y, ⟨#[]⟩⟩⟩ HNp.out.prs (by have := right_len Hp.out; omega) Hvok.out hr).mono ?_
    rintro e w22 ⟨v1, rfl, hN, hE⟩
    have Ktw22 := Lib.hid (hE.blk Ktw21.out id)
    have Kfw22 := Lib.hid (hE.blk Kfw21.out id)
    replace HNp := Lib.hid (newP_mod HNp.out hE (fun _ _ => id))
    replace HX := Lib.hid (HX.out.ext hE)
    replace HY := Lib.hid (HY.out.ext hE)
    clear Ktw21
    clear Kfw21
    obtain ⟨Av1, cv1, rfl⟩ := own_form hN.1
    have Hf : Hid (∀ g, (Value.slice Av1 q.length cv1).ownBlock = some g → g ≠ bt) := Lib.hid (fun g hg => by have := hN.2.2 g hg; omega)
    have HNv1 := Lib.hid (newP_up hN hso)
    have HEr := Lib.hid hr
    clear hN hso hsy hr hcell
    clear hE
    have t_0 : w22.cell? ⟨bt, 0, none⟩ = some _ := blk_cell (cs := [.int .i64 t.kind, .float .f64 t.num, .string t.text]) Ktw22.out rfl
    have t_1 : w22.cell? ⟨bt, 1, none⟩ = some _ := blk_cell (cs := [.int .i64 t.kind, .float .f64 t.num, .string t.text]) Ktw22.out rfl
    have t_2 : w22.cell? ⟨bt, 2, none⟩ = some _ := blk_cell (cs := [.int .i64 t.kind, .float .f64 t.num, .string t.text]) Ktw22.out rfl
    have t_l : bt < w22.heap.size := (Array.getElem?_eq_some_iff.1 Ktw22.out).1
    have f_0 : w22.cell? ⟨bf, 0, none⟩ = some _ := blk_cell (cs := [.int .i64 1, .float .f64 y, .string ⟨#[]⟩]) Kfw22.out rfl
    have f_1 : w22.cell? ⟨bf, 1, none⟩ = some _ := blk_cell (cs := [.int .i64 1, .float .f64 y, .string ⟨#[]⟩]) Kfw22.out rfl
    have f_2 : w22.cell? ⟨bf, 2, none⟩ = some _ := blk_cell (cs := [.int .i64 1, .float .f64 y, .string ⟨#[]⟩]) Kfw22.out rfl
    have f_l : bf < w22.heap.size := (Array.getElem?_eq_some_iff.1 Kfw22.out).1
    have hall := do_adds (p := p) (k := key) (x := y) (add := true) Hp.out
    simp only [if_true, Bool.false_eq_true, if_false] at hall
    rw [HEr.out, HTt.out] at hall
    simp only at hall
    have HA := Lib.hid hall
    clear hall
    by_cases h0 : r.code = 0
    case neg =>
      have n0 : (r.code != 0) = true := by simpa using h0
      have hq : q = p := by
        have := (do_no (l := p) (c := ⟨5, key, AVal.zero, ⟨1, y, ⟨#[]⟩⟩⟩) (by rw [HEr.out]; exact h0)).1
        rw [HEr.out] at this
        exact this
      have Hq := Lib.hid hq
      clear h0 hq
      by_cases h8 : r.code = 8
      case neg =>
        have n8 : (r.code == 8) = false := by simpa using h8
        clear h8
        go_wp2_with fail
        obtain ⟨w23, hw23⟩ : ∃ w23, w23 = w22.alloc (.cells #[.int .i64 r.code, .int .i64 r.val.kind, .float .f64 r.val.num, .string r.val.text] 33) := ⟨_, rfl⟩
        obtain ⟨br, hbr⟩ : ∃ br, br = w22.heap.size := ⟨_, rfl⟩
        have hzz : w22.heap.size = br := hbr.symm
        have hE : Ext w22 w23 := by rw [hw23]; exact (Mod.refl _ w22).alloc _
        have hKn : w23.heap[br]? = some (.cells #[.int .i64 r.code, .int .i64 r.val.kind, .float .f64 r.val.num, .string r.val.text] 33 (0, 0)) := by rw [hw23, ← hzz]; exact heap_alloc_new w22 _
        have hzn : w23.heap.size = br + 1 := by rw [hw23, ← hzz]; simp
        rw [← hw23, ← hbr]
        clear t_0 t_1 t_2 t_l f_0 f_1 f_2 f_l
        have HXo := HX
        have HYo := HY
        have Ktw23 := Lib.hid (hE.blk Ktw22.out id)
        have Kfw23 := Lib.hid (hE.blk Kfw22.out id)
        replace HNp := Lib.hid (newP_mod HNp.out hE (fun _ _ => id))
        replace HNv1 := Lib.hid (newP_mod HNv1.out hE (fun _ _ => id))
        replace HX := Lib.hid (HX.out.ext hE)
        replace HY := Lib.hid (HY.out.ext hE)
        clear Ktw22
        clear Kfw22
        have Krw23 := Lib.hid hKn
        have hbz : w.heap.size ≤ br := by have := HXo.out.size; omega
        have hcr : wr.heap.size ≤ br := by have := HYo.out.size; omega
        clear HYo
        clear hKn hE hw23 hbr HXo hzz
        have hbr := hbz
        clear hbz
        clear hzn
        refine (k_pairs w23 _ _ _ _ p q HNp.out.prs HNv1.out.prs).mono ?_
        rintro e w24 ⟨rfl, hE⟩
        have Ktw24 := Lib.hid (hE.blk Ktw23.out id)
        have Kfw24 := Lib.hid (hE.blk Kfw23.out id)
        have Krw24 := Lib.hid (hE.blk Krw23.out id)
        replace HNp := Lib.hid (newP_mod HNp.out hE (fun _ _ => id))
        replace HNv1 := Lib.hid (newP_mod HNv1.out hE (fun _ _ => id))
        replace HX := Lib.hid (HX.out.ext hE)
        replace HY := Lib.hid (HY.out.ext hE)
        clear Ktw23
        clear Kfw23
        clear Krw23
        rw [show eqPrs p q = true by rw [Hq.out]; exact eqPrs_refl _]
        clear hE
        have t_0 : w24.cell? ⟨bt, 0, none⟩ = some _ := blk_cell (cs := [.int .i64 t.kind, .float .f64 t.num, .string t.text]) Ktw24.out rfl
        have t_1 : w24.cell? ⟨bt, 1, none⟩ = some _ := blk_cell (cs := [.int .i64 t.kind, .float .f64 t.num, .string t.text]) Ktw24.out rfl
        have t_2 : w24.cell? ⟨bt, 2, none⟩ = some _ := blk_cell (cs := [.int .i64 t.kind, .float .f64 t.num, .string t.text]) Ktw24.out rfl
        have t_l : bt < w24.heap.size := (Array.getElem?_eq_some_iff.1 Ktw24.out).1
        have f_0 : w24.cell? ⟨bf, 0, none⟩ = some _ := blk_cell (cs := [.int .i64 1, .float .f64 y, .string ⟨#[]⟩]) Kfw24.out rfl
        have f_1 : w24.cell? ⟨bf, 1, none⟩ = some _ := blk_cell (cs := [.int .i64 1, .float .f64 y, .string ⟨#[]⟩]) Kfw24.out rfl
        have f_2 : w24.cell? ⟨bf, 2, none⟩ = some _ := blk_cell (cs := [.int .i64 1, .float .f64 y, .string ⟨#[]⟩]) Kfw24.out rfl
        have f_l : bf < w24.heap.size := (Array.getElem?_eq_some_iff.1 Kfw24.out).1
        have r_0 : w24.cell? ⟨br, 0, none⟩ = some _ := blk_cell (cs := [.int .i64 r.code, .int .i64 r.val.kind, .float .f64 r.val.num, .string r.val.text]) Krw24.out rfl
        have r_1 : w24.cell? ⟨br, 1, none⟩ = some _ := blk_cell (cs := [.int .i64 r.code, .int .i64 r.val.kind, .float .f64 r.val.num, .string r.val.text]) Krw24.out rfl
        have r_2 : w24.cell? ⟨br, 2, none⟩ = some _ := blk_cell (cs := [.int .i64 r.code, .int .i64 r.val.kind, .float .f64 r.val.num, .string r.val.text]) Krw24.out rfl
        have r_3 : w24.cell? ⟨br, 3, none⟩ = some _ := blk_cell (cs := [.int .i64 r.code, .int .i64 r.val.kind, .float .f64 r.val.num, .string r.val.text]) Krw24.out rfl
        have r_l : br < w24.heap.size := (Array.getElem?_eq_some_iff.1 Krw24.out).1
        go_wp2
        exact ⟨⟨i + 1, p, by omega, by go_num, HNp.out, Hp.out, Hpt.out, by rw [HTt.out]; exact Ktw24.out, HX.out⟩, by simp [intOf]; omega⟩
      have n8 : (r.code == 8) = true := by simpa using h8
      by_cases hk2 : t.kind = 2
      case pos =>
        have n2 : (t.kind != 2) = false := by simpa using hk2
        clear h8 hk2
        go_wp2_with fail
        obtain ⟨w23, hw23⟩ : ∃ w23, w23 = w22.alloc (.cells #[.int .i64 r.code, .int .i64 r.val.kind, .float .f64 r.val.num, .string r.val.text] 33) := ⟨_, rfl⟩
        obtain ⟨br, hbr⟩ : ∃ br, br = w22.heap.size := ⟨_, rfl⟩
        have hzz : w22.heap.size = br := hbr.symm
        have hE : Ext w22 w23 := by rw [hw23]; exact (Mod.refl _ w22).alloc _
        have hKn : w23.heap[br]? = some (.cells #[.int .i64 r.code, .int .i64 r.val.kind, .float .f64 r.val.num, .string r.val.text] 33 (0, 0)) := by rw [hw23, ← hzz]; exact heap_alloc_new w22 _
        have hzn : w23.heap.size = br + 1 := by rw [hw23, ← hzz]; simp
        rw [← hw23, ← hbr]
        clear t_0 t_1 t_2 t_l f_0 f_1 f_2 f_l
        have HXo := HX
        have HYo := HY
        have Ktw23 := Lib.hid (hE.blk Ktw22.out id)
        have Kfw23 := Lib.hid (hE.blk Kfw22.out id)
        replace HNp := Lib.hid (newP_mod HNp.out hE (fun _ _ => id))
        replace HNv1 := Lib.hid (newP_mod HNv1.out hE (fun _ _ => id))
        replace HX := Lib.hid (HX.out.ext hE)
        replace HY := Lib.hid (HY.out.ext hE)
        clear Ktw22
        clear Kfw22
        have Krw23 := Lib.hid hKn
        have hbz : w.heap.size ≤ br := by have := HXo.out.size; omega
        have hcr : wr.heap.size ≤ br := by have := HYo.out.size; omega
        clear HYo
        clear hKn hE hw23 hbr HXo hzz
        have hbr := hbz
        clear hbz
        clear hzn
        refine (k_pairs w23 _ _ _ _ p q HNp.out.prs HNv1.out.prs).mono ?_
        rintro e w24 ⟨rfl, hE⟩
        have Ktw24 := Lib.hid (hE.blk Ktw23.out id)
        have Kfw24 := Lib.hid (hE.blk Kfw23.out id)
        have Krw24 := Lib.hid (hE.blk Krw23.out id)
        replace HNp := Lib.hid (newP_mod HNp.out hE (fun _ _ => id))
        replace HNv1 := Lib.hid (newP_mod HNv1.out hE (fun _ _ => id))
        replace HX := Lib.hid (HX.out.ext hE)
        replace HY := Lib.hid (HY.out.ext hE)
        clear Ktw23
        clear Kfw23
        clear Krw23
        rw [show eqPrs p q = true by rw [Hq.out]; exact eqPrs_refl _]
        clear hE
        have t_0 : w24.cell? ⟨bt, 0, none⟩ = some _ := blk_cell (cs := [.int .i64 t.kind, .float .f64 t.num, .string t.text]) Ktw24.out rfl
        have t_1 : w24.cell? ⟨bt, 1, none⟩ = some _ := blk_cell (cs := [.int .i64 t.kind, .float .f64 t.num, .string t.text]) Ktw24.out rfl
        have t_2 : w24.cell? ⟨bt, 2, none⟩ = some _ := blk_cell (cs := [.int .i64 t.kind, .float .f64 t.num, .string t.text]) Ktw24.out rfl
        have t_l : bt < w24.heap.size := (Array.getElem?_eq_some_iff.1 Ktw24.out).1
        have f_0 : w24.cell? ⟨bf, 0, none⟩ = some _ := blk_cell (cs := [.int .i64 1, .float .f64 y, .string ⟨#[]⟩]) Kfw24.out rfl
        have f_1 : w24.cell? ⟨bf, 1, none⟩ = some _ := blk_cell (cs := [.int .i64 1, .float .f64 y, .string ⟨#[]⟩]) Kfw24.out rfl
        have f_2 : w24.cell? ⟨bf, 2, none⟩ = some _ := blk_cell (cs := [.int .i64 1, .float .f64 y, .string ⟨#[]⟩]) Kfw24.out rfl
        have f_l : bf < w24.heap.size := (Array.getElem?_eq_some_iff.1 Kfw24.out).1
        have r_0 : w24.cell? ⟨br, 0, none⟩ = some _ := blk_cell (cs := [.int .i64 r.code, .int .i64 r.val.kind, .float .f64 r.val.num, .string r.val.text]) Krw24.out rfl
        have r_1 : w24.cell? ⟨br, 1, none⟩ = some _ := blk_cell (cs := [.int .i64 r.code, .int .i64 r.val.kind, .float .f64 r.val.num, .string r.val.text]) Krw24.out rfl
        have r_2 : w24.cell? ⟨br, 2, none⟩ = some _ := blk_cell (cs := [.int .i64 r.code, .int .i64 r.val.kind, .float .f64 r.val.num, .string r.val.text]) Krw24.out rfl
        have r_3 : w24.cell? ⟨br, 3, none⟩ = some _ := blk_cell (cs := [.int .i64 r.code, .int .i64 r.val.kind, .float .f64 r.val.num, .string r.val.text]) Krw24.out rfl
        have r_l : br < w24.heap.size := (Array.getElem?_eq_some_iff.1 Krw24.out).1
        go_wp2
        exact ⟨⟨i + 1, p, by omega, by go_num, HNp.out, Hp.out, Hpt.out, by rw [HTt.out]; exact Ktw24.out, HX.out⟩, by simp [intOf]; omega⟩
      have n2 : (t.kind != 2) = true := by simpa using hk2
      by_cases hck : chk ⟨1, y, ⟨#[]⟩⟩ = 0
      case neg =>
        have nc : (chk ⟨1, y, ⟨#[]⟩⟩ == 0) = false := by simpa using hck
        clear h8 hk2 hck
        go_wp2_with fail
        obtain ⟨w23, hw23⟩ : ∃ w23, w23 = w22.alloc (.cells #[.int .i64 r.code, .int .i64 r.val.kind, .float .f64 r.val.num, .string r.val.text] 33) := ⟨_, rfl⟩
        obtain ⟨br, hbr⟩ : ∃ br, br = w22.heap.size := ⟨_, rfl⟩
        have hzz : w22.heap.size = br := hbr.symm
        have hE : Ext w22 w23 := by rw [hw23]; exact (Mod.refl _ w22).alloc _
        have hKn : w23.heap[br]? = some (.cells #[.int .i64 r.code, .int .i64 r.val.kind, .float .f64 r.val.num, .string r.val.text] 33 (0, 0)) := by rw [hw23, ← hzz]; exact heap_alloc_new w22 _
        have hzn : w23.heap.size = br + 1 := by rw [hw23, ← hzz]; simp
        rw [← hw23, ← hbr]
        clear t_0 t_1 t_2 t_l f_0 f_1 f_2 f_l
        have HXo := HX
        have HYo := HY
        have Ktw23 := Lib.hid (hE.blk Ktw22.out id)
        have Kfw23 := Lib.hid (hE.blk Kfw22.out id)
        replace HNp := Lib.hid (newP_mod HNp.out hE (fun _ _ => id))
        replace HNv1 := Lib.hid (newP_mod HNv1.out hE (fun _ _ => id))
        replace HX := Lib.hid (HX.out.ext hE)
        replace HY := Lib.hid (HY.out.ext hE)
        clear Ktw22
        clear Kfw22
        have Krw23 := Lib.hid hKn
        have hbz : w.heap.size ≤ br := by have := HXo.out.size; omega
        have hcr : wr.heap.size ≤ br := by have := HYo.out.size; omega
        clear HYo
        clear hKn hE hw23 hbr HXo hzz
        have hbr := hbz
        clear hbz
        clear hzn
        refine (k_pairs w23 _ _ _ _ p q HNp.out.prs HNv1.out.prs).mono ?_
        rintro e w24 ⟨rfl, hE⟩
        have Ktw24 := Lib.hid (hE.blk Ktw23.out id)
        have Kfw24 := Lib.hid (hE.blk Kfw23.out id)
        have Krw24 := Lib.hid (hE.blk Krw23.out id)
        replace HNp := Lib.hid (newP_mod HNp.out hE (fun _ _ => id))
        replace HNv1 := Lib.hid (newP_mod HNv1.out hE (fun _ _ => id))
        replace HX := Lib.hid (HX.out.ext hE)
        replace HY := Lib.hid (HY.out.ext hE)
        clear Ktw23
        clear Kfw23
        clear Krw23
        rw [show eqPrs p q = true by rw [Hq.out]; exact eqPrs_refl _]
        clear hE
        have t_0 : w24.cell? ⟨bt, 0, none⟩ = some _ := blk_cell (cs := [.int .i64 t.kind, .float .f64 t.num, .string t.text]) Ktw24.out rfl
        have t_1 : w24.cell? ⟨bt, 1, none⟩ = some _ := blk_cell (cs := [.int .i64 t.kind, .float .f64 t.num, .string t.text]) Ktw24.out rfl
        have t_2 : w24.cell? ⟨bt, 2, none⟩ = some _ := blk_cell (cs := [.int .i64 t.kind, .float .f64 t.num, .string t.text]) Ktw24.out rfl
        have t_l : bt < w24.heap.size := (Array.getElem?_eq_some_iff.1 Ktw24.out).1
        have f_0 : w24.cell? ⟨bf, 0, none⟩ = some _ := blk_cell (cs := [.int .i64 1, .float .f64 y, .string ⟨#[]⟩]) Kfw24.out rfl
        have f_1 : w24.cell? ⟨bf, 1, none⟩ = some _ := blk_cell (cs := [.int .i64 1, .float .f64 y, .string ⟨#[]⟩]) Kfw24.out rfl
        have f_2 : w24.cell? ⟨bf, 2, none⟩ = some _ := blk_cell (cs := [.int .i64 1, .float .f64 y, .string ⟨#[]⟩]) Kfw24.out rfl
        have f_l : bf < w24.heap.size := (Array.getElem?_eq_some_iff.1 Kfw24.out).1
        have r_0 : w24.cell? ⟨br, 0, none⟩ = some _ := blk_cell (cs := [.int .i64 r.code, .int .i64 r.val.kind, .float .f64 r.val.num, .string r.val.text]) Krw24.out rfl
        have r_1 : w24.cell? ⟨br, 1, none⟩ = some _ := blk_cell (cs := [.int .i64 r.code, .int .i64 r.val.kind, .float .f64 r.val.num, .string r.val.text]) Krw24.out rfl
        have r_2 : w24.cell? ⟨br, 2, none⟩ = some _ := blk_cell (cs := [.int .i64 r.code, .int .i64 r.val.kind, .float .f64 r.val.num, .string r.val.text]) Krw24.out rfl
        have r_3 : w24.cell? ⟨br, 3, none⟩ = some _ := blk_cell (cs := [.int .i64 r.code, .int .i64 r.val.kind, .float .f64 r.val.num, .string r.val.text]) Krw24.out rfl
        have r_l : br < w24.heap.size := (Array.getElem?_eq_some_iff.1 Krw24.out).1
        go_wp2_with fail
        refine (r_check ⟨1, y, ⟨#[]⟩⟩ w24).mono ?_
        rintro e w25 ⟨rfl, hE⟩
        clear t_0 t_1 t_2 t_l f_0 f_1 f_2 f_l r_0 r_1 r_2 r_3 r_l
        have Ktw25 := Lib.hid (hE.blk Ktw24.out id)
        have Kfw25 := Lib.hid (hE.blk Kfw24.out id)
        have Krw25 := Lib.hid (hE.blk Krw24.out id)
        replace HNp := Lib.hid (newP_mod HNp.out hE (fun _ _ => id))
        replace HNv1 := Lib.hid (newP_mod HNv1.out hE (fun _ _ => id))
        replace HX := Lib.hid (HX.out.ext hE)
        replace HY := Lib.hid (HY.out.ext hE)
        clear Ktw24
        clear Kfw24
        clear Krw24
        clear hE
        have t_0 : w25.cell? ⟨bt, 0, none⟩ = some _ := blk_cell (cs := [.int .i64 t.kind, .float .f64 t.num, .string t.text]) Ktw25.out rfl
        have t_1 : w25.cell? ⟨bt, 1, none⟩ = some _ := blk_cell (cs := [.int .i64 t.kind, .float .f64 t.num, .string t.text]) Ktw25.out rfl
        have t_2 : w25.cell? ⟨bt, 2, none⟩ = some _ := blk_cell (cs := [.int .i64 t.kind, .float .f64 t.num, .string t.text]) Ktw25.out rfl
        have t_l : bt < w25.heap.size := (Array.getElem?_eq_some_iff.1 Ktw25.out).1
        have f_0 : w25.cell? ⟨bf, 0, none⟩ = some _ := blk_cell (cs := [.int .i64 1, .float .f64 y, .string ⟨#[]⟩]) Kfw25.out rfl
        have f_1 : w25.cell? ⟨bf, 1, none⟩ = some _ := blk_cell (cs := [.int .i64 1, .float .f64 y, .string ⟨#[]⟩]) Kfw25.out rfl
        have f_2 : w25.cell? ⟨bf, 2, none⟩ = some _ := blk_cell (cs := [.int .i64 1, .float .f64 y, .string ⟨#[]⟩]) Kfw25.out rfl
        have f_l : bf < w25.heap.size := (Array.getElem?_eq_some_iff.1 Kfw25.out).1
        have r_0 : w25.cell? ⟨br, 0, none⟩ = some _ := blk_cell (cs := [.int .i64 r.code, .int .i64 r.val.kind, .float .f64 r.val.num, .string r.val.text]) Krw25.out rfl
        have r_1 : w25.cell? ⟨br, 1, none⟩ = some _ := blk_cell (cs := [.int .i64 r.code, .int .i64 r.val.kind, .float .f64 r.val.num, .string r.val.text]) Krw25.out rfl
        have r_2 : w25.cell? ⟨br, 2, none⟩ = some _ := blk_cell (cs := [.int .i64 r.code, .int .i64 r.val.kind, .float .f64 r.val.num, .string r.val.text]) Krw25.out rfl
        have r_3 : w25.cell? ⟨br, 3, none⟩ = some _ := blk_cell (cs := [.int .i64 r.code, .int .i64 r.val.kind, .float .f64 r.val.num, .string r.val.text]) Krw25.out rfl
        have r_l : br < w25.heap.size := (Array.getElem?_eq_some_iff.1 Krw25.out).1
        go_wp2
        exact ⟨⟨i + 1, p, by omega, by go_num, HNp.out, Hp.out, Hpt.out, by rw [HTt.out]; exact Ktw25.out, HX.out⟩, by simp [intOf]; omega⟩
      have hks := HA.out.2 h8 hk2 hck
      have Hck := Lib.hid hck
      have nk : decide ((key.size : Int) > 0) = false := by rw [hks]; rfl
      have nk2 : decide (0 < key.size) = false := by rw [hks]; rfl
      have nk3 : ¬ 0 < key.size := by omega
      clear h8 hk2 hck hks
      go_wp2_with fail
      obtain ⟨w23, hw23⟩ : ∃ w23, w23 = w22.alloc (.cells #[.int .i64 r.code, .int .i64 r.val.kind, .float .f64 r.val.num, .string r.val.text] 33) := ⟨_, rfl⟩
      obtain ⟨br, hbr⟩ : ∃ br, br = w22.heap.size := ⟨_, rfl⟩
      have hzz : w22.heap.size = br := hbr.symm
      have hE : Ext w22 w23 := by rw [hw23]; exact (Mod.refl _ w22).alloc _
      have hKn : w23.heap[br]? = some (.cells #[.int .i64 r.code, .int .i64 r.val.kind, .float .f64 r.val.num, .string r.val.text] 33 (0, 0)) := by rw [hw23, ← hzz]; exact heap_alloc_new w22 _
      have hzn : w23.heap.size = br + 1 := by rw [hw23, ← hzz]; simp
      rw [← hw23, ← hbr]
      clear t_0 t_1 t_2 t_l f_0 f_1 f_2 f_l
      have HXo := HX
      have HYo := HY
      have Ktw23 := Lib.hid (hE.blk Ktw22.out id)
      have Kfw23 := Lib.hid (hE.blk Kfw22.out id)
      replace HNp := Lib.hid (newP_mod HNp.out hE (fun _ _ => id))
      replace HNv1 := Lib.hid (newP_mod HNv1.out hE (fun _ _ => id))
      replace HX := Lib.hid (HX.out.ext hE)
      replace HY := Lib.hid (HY.out.ext hE)
      clear Ktw22
      clear Kfw22
      have Krw23 := Lib.hid hKn
      have hbz : w.heap.size ≤ br := by have := HXo.out.size; omega
      have hcr : wr.heap.size ≤ br := by have := HYo.out.size; omega
      clear HYo
      clear hKn hE hw23 hbr HXo hzz
      have hbr := hbz
      clear hbz
      clear hzn
      refine (k_pairs w23 _ _ _ _ p q HNp.out.prs HNv1.out.prs).mono ?_
      rintro e w24 ⟨rfl, hE⟩
      have Ktw24 := Lib.hid (hE.blk Ktw23.out id)
      have Kfw24 := Lib.hid (hE.blk Kfw23.out id)
      have Krw24 := Lib.hid (hE.blk Krw23.out id)
      replace HNp := Lib.hid (newP_mod HNp.out hE (fun _ _ => id))
      replace HNv1 := Lib.hid (newP_mod HNv1.out hE (fun _ _ => id))
      replace HX := Lib.hid (HX.out.ext hE)
      replace HY := Lib.hid (HY.out.ext hE)
      clear Ktw23
      clear Kfw23
      clear Krw23
      rw [show eqPrs p q = true by rw [Hq.out]; exact eqPrs_refl _]
      clear hE
      have t_0 : w24.cell? ⟨bt, 0, none⟩ = some _ := blk_cell (cs := [.int .i64 t.kind, .float .f64 t.num, .string t.text]) Ktw24.out rfl
      have t_1 : w24.cell? ⟨bt, 1, none⟩ = some _ := blk_cell (cs := [.int .i64 t.kind, .float .f64 t.num, .string t.text]) Ktw24.out rfl
      have t_2 : w24.cell? ⟨bt, 2, none⟩ = some _ := blk_cell (cs := [.int .i64 t.kind, .float .f64 t.num, .string t.text]) Ktw24.out rfl
      have t_l : bt < w24.heap.size := (Array.getElem?_eq_some_iff.1 Ktw24.out).1
      have f_0 : w24.cell? ⟨bf, 0, none⟩ = some _ := blk_cell (cs := [.int .i64 1, .float .f64 y, .string ⟨#[]⟩]) Kfw24.out rfl
      have f_1 : w24.cell? ⟨bf, 1, none⟩ = some _ := blk_cell (cs := [.int .i64 1, .float .f64 y, .string ⟨#[]⟩]) Kfw24.out rfl
      have f_2 : w24.cell? ⟨bf, 2, none⟩ = some _ := blk_cell (cs := [.int .i64 1, .float .f64 y, .string ⟨#[]⟩]) Kfw24.out rfl
      have f_l : bf < w24.heap.size := (Array.getElem?_eq_some_iff.1 Kfw24.out).1
      have r_0 : w24.cell? ⟨br, 0, none⟩ = some _ := blk_cell (cs := [.int .i64 r.code, .int .i64 r.val.kind, .float .f64 r.val.num, .string r.val.text]) Krw24.out rfl
      have r_1 : w24.cell? ⟨br, 1, none⟩ = some _ := blk_cell (cs := [.int .i64 r.code, .int .i64 r.val.kind, .float .f64 r.val.num, .string r.val.text]) Krw24.out rfl
      have r_2 : w24.cell? ⟨br, 2, none⟩ = some _ := blk_cell (cs := [.int .i64 r.code, .int .i64 r.val.kind, .float .f64 r.val.num, .string r.val.text]) Krw24.out rfl
      have r_3 : w24.cell? ⟨br, 3, none⟩ = some _ := blk_cell (cs := [.int .i64 r.code, .int .i64 r.val.kind, .float .f64 r.val.num, .string r.val.text]) Krw24.out rfl
      have r_l : br < w24.heap.size := (Array.getElem?_eq_some_iff.1 Krw24.out).1
      go_wp2_with fail
      refine (r_check ⟨1, y, ⟨#[]⟩⟩ w24).mono ?_
      rintro e w25 ⟨rfl, hE⟩
      clear t_0 t_1 t_2 t_l f_0 f_1 f_2 f_l r_0 r_1 r_2 r_3 r_l
      have Ktw25 := Lib.hid (hE.blk Ktw24.out id)
      have Kfw25 := Lib.hid (hE.blk Kfw24.out id)
      have Krw25 := Lib.hid (hE.blk Krw24.out id)
      replace HNp := Lib.hid (newP_mod HNp.out hE (fun _ _ => id))
      replace HNv1 := Lib.hid (newP_mod HNv1.out hE (fun _ _ => id))
      replace HX := Lib.hid (HX.out.ext hE)
      replace HY := Lib.hid (HY.out.ext hE)
      clear Ktw24
      clear Kfw24
      clear Krw24
      rw [Hck.out]
      clear hE
      have t_0 : w25.cell? ⟨bt, 0, none⟩ = some _ := blk_cell (cs := [.int .i64 t.kind, .float .f64 t.num, .string t.text]) Ktw25.out rfl
      have t_1 : w25.cell? ⟨bt, 1, none⟩ = some _ := blk_cell (cs := [.int .i64 t.kind, .float .f64 t.num, .string t.text]) Ktw25.out rfl
      have t_2 : w25.cell? ⟨bt, 2, none⟩ = some _ := blk_cell (cs := [.int .i64 t.kind, .float .f64 t.num, .string t.text]) Ktw25.out rfl
      have t_l : bt < w25.heap.size := (Array.getElem?_eq_some_iff.1 Ktw25.out).1
      have f_0 : w25.cell? ⟨bf, 0, none⟩ = some _ := blk_cell (cs := [.int .i64 1, .float .f64 y, .string ⟨#[]⟩]) Kfw25.out rfl
      have f_1 : w25.cell? ⟨bf, 1, none⟩ = some _ := blk_cell (cs := [.int .i64 1, .float .f64 y, .string ⟨#[]⟩]) Kfw25.out rfl
      have f_2 : w25.cell? ⟨bf, 2, none⟩ = some _ := blk_cell (cs := [.int .i64 1, .float .f64 y, .string ⟨#[]⟩]) Kfw25.out rfl
      have f_l : bf < w25.heap.size := (Array.getElem?_eq_some_iff.1 Kfw25.out).1
      have r_0 : w25.cell? ⟨br, 0, none⟩ = some _ := blk_cell (cs := [.int .i64 r.code, .int .i64 r.val.kind, .float .f64 r.val.num, .string r.val.text]) Krw25.out rfl
      have r_1 : w25.cell? ⟨br, 1, none⟩ = some _ := blk_cell (cs := [.int .i64 r.code, .int .i64 r.val.kind, .float .f64 r.val.num, .string r.val.text]) Krw25.out rfl
      have r_2 : w25.cell? ⟨br, 2, none⟩ = some _ := blk_cell (cs := [.int .i64 r.code, .int .i64 r.val.kind, .float .f64 r.val.num, .string r.val.text]) Krw25.out rfl
      have r_3 : w25.cell? ⟨br, 3, none⟩ = some _ := blk_cell (cs := [.int .i64 r.code, .int .i64 r.val.kind, .float .f64 r.val.num, .string r.val.text]) Krw25.out rfl
      have r_l : br < w25.heap.size := (Array.getElem?_eq_some_iff.1 Krw25.out).1
      go_wp2
      exact ⟨⟨i + 1, p, by omega, by go_num, HNp.out, Hp.out, Hpt.out, by rw [HTt.out]; exact Ktw25.out, HX.out⟩, by simp [intOf]; omega⟩
    have n0 : (r.code != 0) = false := by simpa using h0
    obtain ⟨a1, a2⟩ := HA.out.1 h0
    have A1 := Lib.hid a1
    have A2 := Lib.hid a2
    have hQ := do_right ⟨5, key, AVal.zero, ⟨1, y, ⟨#[]⟩⟩⟩ Hp.out
    rw [HEr.out] at hQ
    have HQ := Lib.hid hQ
    clear h0 a1 a2 hQ
    by_cases hk0 : t.kind = 0
    case pos =>
      have nk : (t.kind == 0) = true := by simpa using hk0
      have hw : want1 true t ⟨1, y, ⟨#[]⟩⟩ = ⟨1, y, ⟨#[]⟩⟩ := by unfold want1; rw [if_pos hk0]
      have W1 : Hid (r.val = ⟨1, y, ⟨#[]⟩⟩) := Lib.hid (A1.out.trans hw)
      have W2 : Hid (getP q key = ⟨1, y, ⟨#[]⟩⟩) := Lib.hid (A2.out.trans hw)
      clear hk0 hw
      have fz0 := blk_free 0 Ktw22.out
      have fz1 := blk_free 1 Ktw22.out
      have fz2 := blk_free 2 Ktw22.out
      go_wp2_with fail
      clear t_0 t_1 t_2 t_l f_0 f_1 f_2 f_l
      clear fz0 fz1 fz2
      obtain ⟨w23, hw23⟩ : ∃ w23, (((w22.setCell ⟨bt, 0, none⟩ (.int .i64 1)).setCell ⟨bt, 1, none⟩ (.float .f64 y)).setCell ⟨bt, 2, none⟩ (.string ⟨#[]⟩)) = w23 := ⟨_, rfl⟩
      have hKn : w23.heap[bt]? = some (.cells #[.int .i64 1, .float .f64 y, .string ⟨#[]⟩] 25 (0, 0)) := by rw [← hw23]; exact val_set ⟨1, y, ⟨#[]⟩⟩ Ktw22.out
      have hM : Mod (fun k => k = bt) w22 w23 := by rw [← hw23]; exact val_set_mod _ _ _ _ _
      rw [hw23]
      have hsz : w22.heap.size = w23.heap.size := by rw [← hw23]; simp [World.setCell]
      rw [hsz]
      clear hsz
      have Ktw23 := Lib.hid hKn
      have Kfw23 := Lib.hid (hM.blk Kfw22.out (by omega))
      replace HNp := Lib.hid (newP_mod HNp.out hM (fun g hg e => Hpt.out g hg e))
      replace HNv1 := Lib.hid (newP_mod HNv1.out hM (fun g hg e => Hf.out g hg e))
      replace HX : Hid (Ext w w23) := Lib.hid (Mod.toExt ((Ext.mod HX.out (Since w.heap.size)).trans hM (fun k _ e => by rw [e]; exact hbt)))
      clear hKn hM hw23
      clear Ktw22
      clear Kfw22
      obtain ⟨w24, hw24⟩ : ∃ w24, w24 = w23.alloc (.cells #[.int .i64 r.code, .int .i64 r.val.kind, .float .f64 r.val.num, .string r.val.text] 33) := ⟨_, rfl⟩
      obtain ⟨br, hbr⟩ : ∃ br, br = w23.heap.size := ⟨_, rfl⟩
      have hzz : w23.heap.size = br := hbr.symm
      have hE : Ext w23 w24 := by rw [hw24]; exact (Mod.refl _ w23).alloc _
      have hKn : w24.heap[br]? = some (.cells #[.int .i64 r.code, .int .i64 r.val.kind, .float .f64 r.val.num, .string r.val.text] 33 (0, 0)) := by rw [hw24, ← hzz]; exact heap_alloc_new w23 _
      have hzn : w24.heap.size = br + 1 := by rw [hw24, ← hzz]; simp
      rw [← hw24, ← hbr]
      have HXo := HX
      have Ktw24 := Lib.hid (hE.blk Ktw23.out id)
      have Kfw24 := Lib.hid (hE.blk Kfw23.out id)
      replace HNp := Lib.hid (newP_mod HNp.out hE (fun _ _ => id))
      replace HNv1 := Lib.hid (newP_mod HNv1.out hE (fun _ _ => id))
      replace HX := Lib.hid (HX.out.ext hE)
      clear Ktw23
      clear Kfw23
      have Krw24 := Lib.hid hKn
      have hbz : w.heap.size ≤ br := by have := HXo.out.size; omega
      clear hKn hE hw24 hbr HXo hzz
      have hbr := hbz
      clear hbz
      clear hzn
      have t_0 : w24.cell? ⟨bt, 0, none⟩ = some _ := blk_cell (cs := [.int .i64 1, .float .f64 y, .string ⟨#[]⟩]) Ktw24.out rfl
      have t_1 : w24.cell? ⟨bt, 1, none⟩ = some _ := blk_cell (cs := [.int .i64 1, .float .f64 y, .string ⟨#[]⟩]) Ktw24.out rfl
      have t_2 : w24.cell? ⟨bt, 2, none⟩ = some _ := blk_cell (cs := [.int .i64 1, .float .f64 y, .string ⟨#[]⟩]) Ktw24.out rfl
      have t_l : bt < w24.heap.size := (Array.getElem?_eq_some_iff.1 Ktw24.out).1
      have f_0 : w24.cell? ⟨bf, 0, none⟩ = some _ := blk_cell (cs := [.int .i64 1, .float .f64 y, .string ⟨#[]⟩]) Kfw24.out rfl
      have f_1 : w24.cell? ⟨bf, 1, none⟩ = some _ := blk_cell (cs := [.int .i64 1, .float .f64 y, .string ⟨#[]⟩]) Kfw24.out rfl
      have f_2 : w24.cell? ⟨bf, 2, none⟩ = some _ := blk_cell (cs := [.int .i64 1, .float .f64 y, .string ⟨#[]⟩]) Kfw24.out rfl
      have f_l : bf < w24.heap.size := (Array.getElem?_eq_some_iff.1 Kfw24.out).1
      have r_0 : w24.cell? ⟨br, 0, none⟩ = some _ := blk_cell (cs := [.int .i64 r.code, .int .i64 r.val.kind, .float .f64 r.val.num, .string r.val.text]) Krw24.out rfl
      have r_1 : w24.cell? ⟨br, 1, none⟩ = some _ := blk_cell (cs := [.int .i64 r.code, .int .i64 r.val.kind, .float .f64 r.val.num, .string r.val.text]) Krw24.out rfl
      have r_2 : w24.cell? ⟨br, 2, none⟩ = some _ := blk_cell (cs := [.int .i64 r.code, .int .i64 r.val.kind, .float .f64 r.val.num, .string r.val.text]) Krw24.out rfl
      have r_3 : w24.cell? ⟨br, 3, none⟩ = some _ := blk_cell (cs := [.int .i64 r.code, .int .i64 r.val.kind, .float .f64 r.val.num, .string r.val.text]) Krw24.out rfl
      have r_l : br < w24.heap.size := (Array.getElem?_eq_some_iff.1 Krw24.out).1
      go_wp2_with fail
      clear t_0 t_1 t_2 t_l f_0 f_1 f_2 f_l r_0 r_1 r_2 r_3 r_l
      have t_0 : w24.cell? ⟨bt, 0, none⟩ = some _ := blk_cell (cs := [.int .i64 1, .float .f64 y, .string ⟨#[]⟩]) Ktw24.out rfl
      have t_1 : w24.cell? ⟨bt, 1, none⟩ = some _ := blk_cell (cs := [.int .i64 1, .float .f64 y, .string ⟨#[]⟩]) Ktw24.out rfl
      have t_2 : w24.cell? ⟨bt, 2, none⟩ = some _ := blk_cell (cs := [.int .i64 1, .float .f64 y, .string ⟨#[]⟩]) Ktw24.out rfl
      have t_l : bt < w24.heap.size := (Array.getElem?_eq_some_iff.1 Ktw24.out).1
      have f_0 : w24.cell? ⟨bf, 0, none⟩ = some _ := blk_cell (cs := [.int .i64 1, .float .f64 y, .string ⟨#[]⟩]) Kfw24.out rfl
      have f_1 : w24.cell? ⟨bf, 1, none⟩ = some _ := blk_cell (cs := [.int .i64 1, .float .f64 y, .string ⟨#[]⟩]) Kfw24.out rfl
      have f_2 : w24.cell? ⟨bf, 2, none⟩ = some _ := blk_cell (cs := [.int .i64 1, .float .f64 y, .string ⟨#[]⟩]) Kfw24.out rfl
      have f_l : bf < w24.heap.size := (Array.getElem?_eq_some_iff.1 Kfw24.out).1
      have r_0 : w24.cell? ⟨br, 0, none⟩ = some _ := blk_cell (cs := [.int .i64 r.code, .int .i64 r.val.kind, .float .f64 r.val.num, .string r.val.text]) Krw24.out rfl
      have r_1 : w24.cell? ⟨br, 1, none⟩ = some _ := blk_cell (cs := [.int .i64 r.code, .int .i64 r.val.kind, .float .f64 r.val.num, .string r.val.text]) Krw24.out rfl
      have r_2 : w24.cell? ⟨br, 2, none⟩ = some _ := blk_cell (cs := [.int .i64 r.code, .int .i64 r.val.kind, .float .f64 r.val.num, .string r.val.text]) Krw24.out rfl
      have r_3 : w24.cell? ⟨br, 3, none⟩ = some _ := blk_cell (cs := [.int .i64 r.code, .int .i64 r.val.kind, .float .f64 r.val.num, .string r.val.text]) Krw24.out rfl
      have r_l : br < w24.heap.size := (Array.getElem?_eq_some_iff.1 Krw24.out).1
      refine wp_region_held_drew (S := fun W' => Ext w24 W') (by kernel_rfl) (Mod.refl _ w24).drew (fun hS => ?_)
      refine takeH (i := 0) (v := ?_) (some 99) rfl rfl (by kernel_rfl) (by kernel_rfl) (by kernel_rfl) (fun _ _ _ h => h) (Or.inl ⟨by kernel_rfl, ?_⟩) hS ?_
      rotate_left
      · rintro W' hW'
        obtain ⟨hbc, hbf⟩ := bcell hW'
        go_simp
        try with_reducible rfl
      try simp only [Act.put, List.setIfInBounds_toArray, List.set_cons_zero, List.set_cons_succ]
      refine takeH (i := 1) (v := ?_) (some 100) rfl rfl (by kernel_rfl) (by kernel_rfl) (by kernel_rfl) (fun _ _ _ h => h) (Or.inl ⟨by kernel_rfl, ?_⟩) hS ?_
      rotate_left
      · rintro W' hW'
        obtain ⟨hbc, hbf⟩ := bcell hW'
        go_simp
        try with_reducible rfl
      try simp only [Act.put, List.setIfInBounds_toArray, List.set_cons_zero, List.set_cons_succ]
      refine takeH (i := 2) (v := ?_) (some 101) rfl rfl (by kernel_rfl) (by kernel_rfl) (by kernel_rfl) (fun _ _ _ h => h) (Or.inl ⟨by kernel_rfl, ?_⟩) hS ?_
      rotate_left
      · rintro W' hW'
        obtain ⟨hbc, hbf⟩ := bcell hW'
        go_simp
        try with_reducible rfl
      try simp only [Act.put, List.setIfInBounds_toArray, List.set_cons_zero, List.set_cons_succ]
      refine wpAnyH_ready (rs := [3]) (by kernel_rfl) (by simp) ?_
      refine AllReadyH.cons rfl (fun K hK => ?_) AllReadyH.nil
      go_simp
      go_wp2_with fail
      refine (k_value r.val ⟨1, y, ⟨#[]⟩⟩ _).mono ?_
      rintro e w25 ⟨rfl, hE⟩
      rw [show eqVal r.val ⟨1, y, ⟨#[]⟩⟩ = true by rw [W1.out]; exact eqVal_refl _]
      have hX := Mod.ext hS hE
      clear hE hS
      go_simp
      refine hK.out _ _ hX (fun hS => ?_)
      clear hK K hX
      refine takeH (i := 4) (v := ?_) (some 103) rfl rfl (by kernel_rfl) (by kernel_rfl) (by kernel_rfl) (fun _ _ _ h => h) (Or.inl ⟨by kernel_rfl, ?_⟩) hS ?_
      rotate_left
      · rintro W' hW'
        obtain ⟨hbc, hbf⟩ := bcell hW'
        go_simp
        try with_reducible rfl
      try simp only [Act.put, List.setIfInBounds_toArray, List.set_cons_zero, List.set_cons_succ]
      refine takeH (i := 5) (v := ?_) (some 104) rfl rfl (by kernel_rfl) (by kernel_rfl) (by kernel_rfl) (fun _ _ _ h => h) (Or.inl ⟨by kernel_rfl, ?_⟩) hS ?_
      rotate_left
      · rintro W' hW'
        obtain ⟨hbc, hbf⟩ := bcell hW'
        go_simp
        try with_reducible rfl
      try simp only [Act.put, List.setIfInBounds_toArray, List.set_cons_zero, List.set_cons_succ]
      refine takeH (i := 6) (v := ?_) (some 105) rfl rfl (by kernel_rfl) (by kernel_rfl) (by kernel_rfl) (fun _ _ _ h => h) (Or.inl ⟨by kernel_rfl, ?_⟩) hS ?_
      rotate_left
      · rintro W' hW'
        obtain ⟨hbc, hbf⟩ := bcell hW'
        go_simp
        try with_reducible rfl
      try simp only [Act.put, List.setIfInBounds_toArray, List.set_cons_zero, List.set_cons_succ]
      refine takeH (i := 7) (v := ?_) (some 106) rfl rfl (by kernel_rfl) (by kernel_rfl) (by kernel_rfl) (fun _ _ _ h => h) (Or.inl ⟨by kernel_rfl, ?_⟩) hS ?_
      rotate_left
      · rintro W' hW'
        obtain ⟨hbc, hbf⟩ := bcell hW'
        go_simp
        try with_reducible rfl
      try simp only [Act.put, List.setIfInBounds_toArray, List.set_cons_zero, List.set_cons_succ]
      refine takeH (i := 9) (v := ?_) (some 108) rfl rfl (by kernel_rfl) (by kernel_rfl) (by kernel_rfl) (fun _ _ _ h => h) (Or.inl ⟨by kernel_rfl, ?_⟩) hS ?_
      rotate_left
      · rintro W' hW'
        obtain ⟨hbc, hbf⟩ := bcell hW'
        go_simp
        try with_reducible rfl
      try simp only [Act.put, List.setIfInBounds_toArray, List.set_cons_zero, List.set_cons_succ]
      refine wpAnyH_ready (rs := [8]) (by kernel_rfl) (by simp) ?_
      refine AllReadyH.cons rfl (fun K hK => ?_) AllReadyH.nil
      go_simp
      go_wp2_with fail
      refine (kv_get _ _ _ q key (HNv1.out.prs.ext hS)).mono ?_
      rintro e w26 ⟨rfl, hE⟩
      rw [W2.out]
      have hX := Mod.ext hS hE
      clear hE hS
      go_simp
      refine hK.out _ _ hX (fun hS => ?_)
      clear hK K hX
      refine wpAnyH_ready (rs := [10]) (by kernel_rfl) (by simp) ?_
      refine AllReadyH.cons rfl (fun K hK => ?_) AllReadyH.nil
      go_simp
      go_wp2_with fail
      refine (k_value ⟨1, y, ⟨#[]⟩⟩ ⟨1, y, ⟨#[]⟩⟩ _).mono ?_
      rintro e w27 ⟨rfl, hE⟩
      rw [eqVal_refl]
      have hX := Mod.ext hS hE
      clear hE hS
      go_simp
      refine hK.out _ _ hX (fun hS => ?_)
      clear hK K hX
      refine takeH (i := 11) (v := ?_) (some 110) rfl rfl (by kernel_rfl) (by kernel_rfl) (by kernel_rfl) (fun _ _ _ h => h) (Or.inl ⟨by kernel_rfl, ?_⟩) hS ?_
      rotate_left
      · rintro W' hW'
        obtain ⟨hbc, hbf⟩ := bcell hW'
        go_simp
        try with_reducible rfl
      try simp only [Act.put, List.setIfInBounds_toArray, List.set_cons_zero, List.set_cons_succ]
      refine takeH (i := 12) (v := ?_) (some 111) rfl rfl (by kernel_rfl) (by kernel_rfl) (by kernel_rfl) (fun _ _ _ h => h) (Or.inl ⟨by kernel_rfl, ?_⟩) hS ?_
      rotate_left
      · rintro W' hW'
        obtain ⟨hbc, hbf⟩ := bcell hW'
        go_simp
        try with_reducible rfl
      try simp only [Act.put, List.setIfInBounds_toArray, List.set_cons_zero, List.set_cons_succ]
      refine wpAnyH_done (by kernel_rfl) ?_ _
      have hE := hS
      clear hS
      clear t_0 t_1 t_2 t_l f_0 f_1 f_2 f_l r_0 r_1 r_2 r_3 r_l
      have Ktw27 := Lib.hid (hE.blk Ktw24.out id)
      have Kfw27 := Lib.hid (hE.blk Kfw24.out id)
      have Krw27 := Lib.hid (hE.blk Krw24.out id)
      replace HNp := Lib.hid (newP_mod HNp.out hE (fun _ _ => id))
      replace HNv1 := Lib.hid (newP_mod HNv1.out hE (fun _ _ => id))
      replace HX := Lib.hid (HX.out.ext hE)
      clear Ktw24
      clear Kfw24
      clear Krw24
      clear hE
      have t_0 : w27.cell? ⟨bt, 0, none⟩ = some _ := blk_cell (cs := [.int .i64 1, .float .f64 y, .string ⟨#[]⟩]) Ktw27.out rfl
      have t_1 : w27.cell? ⟨bt, 1, none⟩ = some _ := blk_cell (cs := [.int .i64 1, .float .f64 y, .string ⟨#[]⟩]) Ktw27.out rfl
      have t_2 : w27.cell? ⟨bt, 2, none⟩ = some _ := blk_cell (cs := [.int .i64 1, .float .f64 y, .string ⟨#[]⟩]) Ktw27.out rfl
      have t_l : bt < w27.heap.size := (Array.getElem?_eq_some_iff.1 Ktw27.out).1
      have f_0 : w27.cell? ⟨bf, 0, none⟩ = some _ := blk_cell (cs := [.int .i64 1, .float .f64 y, .string ⟨#[]⟩]) Kfw27.out rfl
      have f_1 : w27.cell? ⟨bf, 1, none⟩ = some _ := blk_cell (cs := [.int .i64 1, .float .f64 y, .string ⟨#[]⟩]) Kfw27.out rfl
      have f_2 : w27.cell? ⟨bf, 2, none⟩ = some _ := blk_cell (cs := [.int .i64 1, .float .f64 y, .string ⟨#[]⟩]) Kfw27.out rfl
      have f_l : bf < w27.heap.size := (Array.getElem?_eq_some_iff.1 Kfw27.out).1
      have r_0 : w27.cell? ⟨br, 0, none⟩ = some _ := blk_cell (cs := [.int .i64 r.code, .int .i64 r.val.kind, .float .f64 r.val.num, .string r.val.text]) Krw27.out rfl
      have r_1 : w27.cell? ⟨br, 1, none⟩ = some _ := blk_cell (cs := [.int .i64 r.code, .int .i64 r.val.kind, .float .f64 r.val.num, .string r.val.text]) Krw27.out rfl
      have r_2 : w27.cell? ⟨br, 2, none⟩ = some _ := blk_cell (cs := [.int .i64 r.code, .int .i64 r.val.kind, .float .f64 r.val.num, .string r.val.text]) Krw27.out rfl
      have r_3 : w27.cell? ⟨br, 3, none⟩ = some _ := blk_cell (cs := [.int .i64 r.code, .int .i64 r.val.kind, .float .f64 r.val.num, .string r.val.text]) Krw27.out rfl
      have r_l : br < w27.heap.size := (Array.getElem?_eq_some_iff.1 Krw27.out).1
      clear t_0 t_1 t_2 t_l f_0 f_1 f_2 f_l r_0 r_1 r_2 r_3 r_l
      go_wp2
      exact ⟨⟨i + 1, q, by omega, by go_num, HNv1.out, HQ.out, Hf.out, by rw [W2.out]; exact Ktw27.out, HX.out⟩, by simp [intOf]; omega⟩
    have nk : (t.kind == 0) = false := by simpa using hk0
    rcases hj : joinV true t ⟨1, y, ⟨#[]⟩⟩ with ⟨z, e⟩
    have hw : want1 true t ⟨1, y, ⟨#[]⟩⟩ = z := by unfold want1; rw [if_neg hk0, hj]
    have W1 : Hid (r.val = z) := Lib.hid (A1.out.trans hw)
    have W2 : Hid (getP q key = z) := Lib.hid (A2.out.trans hw)
    have HJ := Lib.hid hj
    clear hk0 hw hj
    go_wp2_with fail
    obtain ⟨w23, hw23⟩ : ∃ w23, w23 = w22.alloc (.cells #[.int .i64 r.code, .int .i64 r.val.kind, .float .f64 r.val.num, .string r.val.text] 33) := ⟨_, rfl⟩
    obtain ⟨br, hbr⟩ : ∃ br, br = w22.heap.size := ⟨_, rfl⟩
    have hzz : w22.heap.size = br := hbr.symm
    have hE : Ext w22 w23 := by rw [hw23]; exact (Mod.refl _ w22).alloc _
    have hKn : w23.heap[br]? = some (.cells #[.int .i64 r.code, .int .i64 r.val.kind, .float .f64 r.val.num, .string r.val.text] 33 (0, 0)) := by rw [hw23, ← hzz]; exact heap_alloc_new w22 _
    have hzn : w23.heap.size = br + 1 := by rw [hw23, ← hzz]; simp
    rw [← hw23, ← hbr]
    clear t_0 t_1 t_2 t_l f_0 f_1 f_2 f_l
    have HXo := HX
    have HYo := HY
    have Ktw23 := Lib.hid (hE.blk Ktw22.out id)
    have Kfw23 := Lib.hid (hE.blk Kfw22.out id)
    replace HNp := Lib.hid (newP_mod HNp.out hE (fun _ _ => id))
    replace HNv1 := Lib.hid (newP_mod HNv1.out hE (fun _ _ => id))
    replace HX := Lib.hid (HX.out.ext hE)
    replace HY := Lib.hid (HY.out.ext hE)
    clear Ktw22
    clear Kfw22
    have Krw23 := Lib.hid hKn
    have hbz : w.heap.size ≤ br := by have := HXo.out.size; omega
    have hcr : wr.heap.size ≤ br := by have := HYo.out.size; omega
    clear HYo
    clear hKn hE hw23 hbr HXo hzz
    have hbr := hbz
    clear hbz
    clear hzn
    refine (r_add5 t ⟨1, y, ⟨#[]⟩⟩ htn hyb w23).mono ?_
    rintro e w24 ⟨rfl, hE⟩
    have Ktw24 := Lib.hid (hE.blk Ktw23.out id)
    have Kfw24 := Lib.hid (hE.blk Kfw23.out id)
    have Krw24 := Lib.hid (hE.blk Krw23.out id)
    replace HNp := Lib.hid (newP_mod HNp.out hE (fun _ _ => id))
    replace HNv1 := Lib.hid (newP_mod HNv1.out hE (fun _ _ => id))
    replace HX := Lib.hid (HX.out.ext hE)
    replace HY := Lib.hid (HY.out.ext hE)
    clear Ktw23
    clear Kfw23
    clear Krw23
    rw [HJ.out]
    clear hE
    have t_0 : w24.cell? ⟨bt, 0, none⟩ = some _ := blk_cell (cs := [.int .i64 t.kind, .float .f64 t.num, .string t.text]) Ktw24.out rfl
    have t_1 : w24.cell? ⟨bt, 1, none⟩ = some _ := blk_cell (cs := [.int .i64 t.kind, .float .f64 t.num, .string t.text]) Ktw24.out rfl
    have t_2 : w24.cell? ⟨bt, 2, none⟩ = some _ := blk_cell (cs := [.int .i64 t.kind, .float .f64 t.num, .string t.text]) Ktw24.out rfl
    have t_l : bt < w24.heap.size := (Array.getElem?_eq_some_iff.1 Ktw24.out).1
    have f_0 : w24.cell? ⟨bf, 0, none⟩ = some _ := blk_cell (cs := [.int .i64 1, .float .f64 y, .string ⟨#[]⟩]) Kfw24.out rfl
    have f_1 : w24.cell? ⟨bf, 1, none⟩ = some _ := blk_cell (cs := [.int .i64 1, .float .f64 y, .string ⟨#[]⟩]) Kfw24.out rfl
    have f_2 : w24.cell? ⟨bf, 2, none⟩ = some _ := blk_cell (cs := [.int .i64 1, .float .f64 y, .string ⟨#[]⟩]) Kfw24.out rfl
    have f_l : bf < w24.heap.size := (Array.getElem?_eq_some_iff.1 Kfw24.out).1
    have r_0 : w24.cell? ⟨br, 0, none⟩ = some _ := blk_cell (cs := [.int .i64 r.code, .int .i64 r.val.kind, .float .f64 r.val.num, .string r.val.text]) Krw24.out rfl
    have r_1 : w24.cell? ⟨br, 1, none⟩ = some _ := blk_cell (cs := [.int .i64 r.code, .int .i64 r.val.kind, .float .f64 r.val.num, .string r.val.text]) Krw24.out rfl
    have r_2 : w24.cell? ⟨br, 2, none⟩ = some _ := blk_cell (cs := [.int .i64 r.code, .int .i64 r.val.kind, .float .f64 r.val.num, .string r.val.text]) Krw24.out rfl
    have r_3 : w24.cell? ⟨br, 3, none⟩ = some _ := blk_cell (cs := [.int .i64 r.code, .int .i64 r.val.kind, .float .f64 r.val.num, .string r.val.text]) Krw24.out rfl
    have r_l : br < w24.heap.size := (Array.getElem?_eq_some_iff.1 Krw24.out).1
    have fz0 := blk_free 0 Ktw24.out
    have fz1 := blk_free 1 Ktw24.out
    have fz2 := blk_free 2 Ktw24.out
    go_wp2_with fail
    clear t_0 t_1 t_2 t_l f_0 f_1 f_2 f_l r_0 r_1 r_2 r_3 r_l
    clear fz0 fz1 fz2
    obtain ⟨w25, hw25⟩ : ∃ w25, (((w24.setCell ⟨bt, 0, none⟩ (.int .i64 z.kind)).setCell ⟨bt, 1, none⟩ (.float .f64 z.num)).setCell ⟨bt, 2, none⟩ (.string z.text)) = w25 := ⟨_, rfl⟩
    have hKn : w25.heap[bt]? = some (.cells #[.int .i64 z.kind, .float .f64 z.num, .string z.text] 25 (0, 0)) := by rw [← hw25]; exact val_set z Ktw24.out
    have hM : Mod (fun k => k = bt) w24 w25 := by rw [← hw25]; exact val_set_mod _ _ _ _ _
    rw [hw25]
    have Ktw25 := Lib.hid hKn
    have Kfw25 := Lib.hid (hM.blk Kfw24.out (by omega))
    have Krw25 := Lib.hid (hM.blk Krw24.out (by omega))
    replace HNp := Lib.hid (newP_mod HNp.out hM (fun g hg e => Hpt.out g hg e))
    replace HNv1 := Lib.hid (newP_mod HNv1.out hM (fun g hg e => Hf.out g hg e))
    replace HX : Hid (Ext w w25) := Lib.hid (Mod.toExt ((Ext.mod HX.out (Since w.heap.size)).trans hM (fun k _ e => by rw [e]; exact hbt)))
    clear hKn hM hw25
    clear Ktw24
    clear Kfw24
    clear Krw24
    have t_0 : w25.cell? ⟨bt, 0, none⟩ = some _ := blk_cell (cs := [.int .i64 z.kind, .float .f64 z.num, .string z.text]) Ktw25.out rfl
    have t_1 : w25.cell? ⟨bt, 1, none⟩ = some _ := blk_cell (cs := [.int .i64 z.kind, .float .f64 z.num, .string z.text]) Ktw25.out rfl
    have t_2 : w25.cell? ⟨bt, 2, none⟩ = some _ := blk_cell (cs := [.int .i64 z.kind, .float .f64 z.num, .string z.text]) Ktw25.out rfl
    have t_l : bt < w25.heap.size := (Array.getElem?_eq_some_iff.1 Ktw25.out).1
    have f_0 : w25.cell? ⟨bf, 0, none⟩ = some _ := blk_cell (cs := [.int .i64 1, .float .f64 y, .string ⟨#[]⟩]) Kfw25.out rfl
    have f_1 : w25.cell? ⟨bf, 1, none⟩ = some _ := blk_cell (cs := [.int .i64 1, .float .f64 y, .string ⟨#[]⟩]) Kfw25.out rfl
    have f_2 : w25.cell? ⟨bf, 2, none⟩ = some _ := blk_cell (cs := [.int .i64 1, .float .f64 y, .string ⟨#[]⟩]) Kfw25.out rfl
    have f_l : bf < w25.heap.size := (Array.getElem?_eq_some_iff.1 Kfw25.out).1
    have r_0 : w25.cell? ⟨br, 0, none⟩ = some _ := blk_cell (cs := [.int .i64 r.code, .int .i64 r.val.kind, .float .f64 r.val.num, .string r.val.text]) Krw25.out rfl
    have r_1 : w25.cell? ⟨br, 1, none⟩ = some _ := blk_cell (cs := [.int .i64 r.code, .int .i64 r.val.kind, .float .f64 r.val.num, .string r.val.text]) Krw25.out rfl
    have r_2 : w25.cell? ⟨br, 2, none⟩ = some _ := blk_cell (cs := [.int .i64 r.code, .int .i64 r.val.kind, .float .f64 r.val.num, .string r.val.text]) Krw25.out rfl
    have r_3 : w25.cell? ⟨br, 3, none⟩ = some _ := blk_cell (cs := [.int .i64 r.code, .int .i64 r.val.kind, .float .f64 r.val.num, .string r.val.text]) Krw25.out rfl
    have r_l : br < w25.heap.size := (Array.getElem?_eq_some_iff.1 Krw25.out).1
    go_wp2_with fail
    clear t_0 t_1 t_2 t_l f_0 f_1 f_2 f_l r_0 r_1 r_2 r_3 r_l
    have t_0 : w25.cell? ⟨bt, 0, none⟩ = some _ := blk_cell (cs := [.int .i64 z.kind, .float .f64 z.num, .string z.text]) Ktw25.out rfl
    have t_1 : w25.cell? ⟨bt, 1, none⟩ = some _ := blk_cell (cs := [.int .i64 z.kind, .float .f64 z.num, .string z.text]) Ktw25.out rfl
    have t_2 : w25.cell? ⟨bt, 2, none⟩ = some _ := blk_cell (cs := [.int .i64 z.kind, .float .f64 z.num, .string z.text]) Ktw25.out rfl
    have t_l : bt < w25.heap.size := (Array.getElem?_eq_some_iff.1 Ktw25.out).1
    have f_0 : w25.cell? ⟨bf, 0, none⟩ = some _ := blk_cell (cs := [.int .i64 1, .float .f64 y, .string ⟨#[]⟩]) Kfw25.out rfl
    have f_1 : w25.cell? ⟨bf, 1, none⟩ = some _ := blk_cell (cs := [.int .i64 1, .float .f64 y, .string ⟨#[]⟩]) Kfw25.out rfl
    have f_2 : w25.cell? ⟨bf, 2, none⟩ = some _ := blk_cell (cs := [.int .i64 1, .float .f64 y, .string ⟨#[]⟩]) Kfw25.out rfl
    have f_l : bf < w25.heap.size := (Array.getElem?_eq_some_iff.1 Kfw25.out).1
    have r_0 : w25.cell? ⟨br, 0, none⟩ = some _ := blk_cell (cs := [.int .i64 r.code, .int .i64 r.val.kind, .float .f64 r.val.num, .string r.val.text]) Krw25.out rfl
    have r_1 : w25.cell? ⟨br, 1, none⟩ = some _ := blk_cell (cs := [.int .i64 r.code, .int .i64 r.val.kind, .float .f64 r.val.num, .string r.val.text]) Krw25.out rfl
    have r_2 : w25.cell? ⟨br, 2, none⟩ = some _ := blk_cell (cs := [.int .i64 r.code, .int .i64 r.val.kind, .float .f64 r.val.num, .string r.val.text]) Krw25.out rfl
    have r_3 : w25.cell? ⟨br, 3, none⟩ = some _ := blk_cell (cs := [.int .i64 r.code, .int .i64 r.val.kind, .float .f64 r.val.num, .string r.val.text]) Krw25.out rfl
    have r_l : br < w25.heap.size := (Array.getElem?_eq_some_iff.1 Krw25.out).1
    refine wp_region_held_drew (S := fun W' => Ext w25 W') (by kernel_rfl) (Mod.refl _ w25).drew (fun hS => ?_)
    refine takeH (i := 0) (v := ?_) (some 99) rfl rfl (by kernel_rfl) (by kernel_rfl) (by kernel_rfl) (fun _ _ _ h => h) (Or.inl ⟨by kernel_rfl, ?_⟩) hS ?_
    rotate_left
    · rintro W' hW'
      obtain ⟨hbc, hbf⟩ := bcell hW'
      go_simp
      try with_reducible rfl
    try simp only [Act.put, List.setIfInBounds_toArray, List.set_cons_zero, List.set_cons_succ]
    refine takeH (i := 1) (v := ?_) (some 100) rfl rfl (by kernel_rfl) (by kernel_rfl) (by kernel_rfl) (fun _ _ _ h => h) (Or.inl ⟨by kernel_rfl, ?_⟩) hS ?_
    rotate_left
    · rintro W' hW'
      obtain ⟨hbc, hbf⟩ := bcell hW'
      go_simp
      try with_reducible rfl
    try simp only [Act.put, List.setIfInBounds_toArray, List.set_cons_zero, List.set_cons_succ]
    refine takeH (i := 2) (v := ?_) (some 101) rfl rfl (by kernel_rfl) (by kernel_rfl) (by kernel_rfl) (fun _ _ _ h => h) (Or.inl ⟨by kernel_rfl, ?_⟩) hS ?_
    rotate_left
    · rintro W' hW'
      obtain ⟨hbc, hbf⟩ := bcell hW'
      go_simp
      try with_reducible rfl
    try simp only [Act.put, List.setIfInBounds_toArray, List.set_cons_zero, List.set_cons_succ]
    refine wpAnyH_ready (rs := [3]) (by kernel_rfl) (by simp) ?_
    refine AllReadyH.cons rfl (fun K hK => ?_) AllReadyH.nil
    go_simp
    go_wp2_with fail
    refine (k_value r.val z _).mono ?_
    rintro e w26 ⟨rfl, hE⟩
    rw [show eqVal r.val z = true by rw [W1.out]; exact eqVal_refl _]
    have hX := Mod.ext hS hE
    clear hE hS
    go_simp
    refine hK.out _ _ hX (fun hS => ?_)
    clear hK K hX
    refine takeH (i := 4) (v := ?_) (some 103) rfl rfl (by kernel_rfl) (by kernel_rfl) (by kernel_rfl) (fun _ _ _ h => h) (Or.inl ⟨by kernel_rfl, ?_⟩) hS ?_
    rotate_left
    · rintro W' hW'
      obtain ⟨hbc, hbf⟩ := bcell hW'
      go_simp
      try with_reducible rfl
    try simp only [Act.put, List.setIfInBounds_toArray, List.set_cons_zero, List.set_cons_succ]
    refine takeH (i := 5) (v := ?_) (some 104) rfl rfl (by kernel_rfl) (by kernel_rfl) (by kernel_rfl) (fun _ _ _ h => h) (Or.inl ⟨by kernel_rfl, ?_⟩) hS ?_
    rotate_left
    · rintro W' hW'
      obtain ⟨hbc, hbf⟩ := bcell hW'
      go_simp
      try with_reducible rfl
    try simp only [Act.put, List.setIfInBounds_toArray, List.set_cons_zero, List.set_cons_succ]
    refine takeH (i := 6) (v := ?_) (some 105) rfl rfl (by kernel_rfl) (by kernel_rfl) (by kernel_rfl) (fun _ _ _ h => h) (Or.inl ⟨by kernel_rfl, ?_⟩) hS ?_
    rotate_left
    · rintro W' hW'
      obtain ⟨hbc, hbf⟩ := bcell hW'
      go_simp
      try with_reducible rfl
    try simp only [Act.put, List.setIfInBounds_toArray, List.set_cons_zero, List.set_cons_succ]
    refine takeH (i := 7) (v := ?_) (some 106) rfl rfl (by kernel_rfl) (by kernel_rfl) (by kernel_rfl) (fun _ _ _ h => h) (Or.inl ⟨by kernel_rfl, ?_⟩) hS ?_
    rotate_left
    · rintro W' hW'
      obtain ⟨hbc, hbf⟩ := bcell hW'
      go_simp
      try with_reducible rfl
    try simp only [Act.put, List.setIfInBounds_toArray, List.set_cons_zero, List.set_cons_succ]
    refine takeH (i := 9) (v := ?_) (some 108) rfl rfl (by kernel_rfl) (by kernel_rfl) (by kernel_rfl) (fun _ _ _ h => h) (Or.inl ⟨by kernel_rfl, ?_⟩) hS ?_
    rotate_left
    · rintro W' hW'
      obtain ⟨hbc, hbf⟩ := bcell hW'
      go_simp
      try with_reducible rfl
    try simp only [Act.put, List.setIfInBounds_toArray, List.set_cons_zero, List.set_cons_succ]
    refine wpAnyH_ready (rs := [8]) (by kernel_rfl) (by simp) ?_
    refine AllReadyH.cons rfl (fun K hK => ?_) AllReadyH.nil
    go_simp
    go_wp2_with fail
    refine (kv_get _ _ _ q key (HNv1.out.prs.ext hS)).mono ?_
    rintro e w27 ⟨rfl, hE⟩
    rw [W2.out]
    have hX := Mod.ext hS hE
    clear hE hS
    go_simp
    refine hK.out _ _ hX (fun hS => ?_)
    clear hK K hX
    refine wpAnyH_ready (rs := [10]) (by kernel_rfl) (by simp) ?_
    refine AllReadyH.cons rfl (fun K hK => ?_) AllReadyH.nil
    go_simp
    go_wp2_with fail
    refine (k_value z z _).mono ?_
    rintro e w28 ⟨rfl, hE⟩
    rw [eqVal_refl]
    have hX := Mod.ext hS hE
    clear hE hS
    go_simp
    refine hK.out _ _ hX (fun hS => ?_)
    clear hK K hX
    refine takeH (i := 11) (v := ?_) (some 110) rfl rfl (by kernel_rfl) (by kernel_rfl) (by kernel_rfl) (fun _ _ _ h => h) (Or.inl ⟨by kernel_rfl, ?_⟩) hS ?_
    rotate_left
    · rintro W' hW'
      obtain ⟨hbc, hbf⟩ := bcell hW'
      go_simp
      try with_reducible rfl
    try simp only [Act.put, List.setIfInBounds_toArray, List.set_cons_zero, List.set_cons_succ]
    refine takeH (i := 12) (v := ?_) (some 111) rfl rfl (by kernel_rfl) (by kernel_rfl) (by kernel_rfl) (fun _ _ _ h => h) (Or.inl ⟨by kernel_rfl, ?_⟩) hS ?_
    rotate_left
    · rintro W' hW'
      obtain ⟨hbc, hbf⟩ := bcell hW'
      go_simp
      try with_reducible rfl
    try simp only [Act.put, List.setIfInBounds_toArray, List.set_cons_zero, List.set_cons_succ]
    refine wpAnyH_done (by kernel_rfl) ?_ _
    have hE := hS
    clear hS
    clear t_0 t_1 t_2 t_l f_0 f_1 f_2 f_l r_0 r_1 r_2 r_3 r_l
    have Ktw28 := Lib.hid (hE.blk Ktw25.out id)
    have Kfw28 := Lib.hid (hE.blk Kfw25.out id)
    have Krw28 := Lib.hid (hE.blk Krw25.out id)
    replace HNp := Lib.hid (newP_mod HNp.out hE (fun _ _ => id))
    replace HNv1 := Lib.hid (newP_mod HNv1.out hE (fun _ _ => id))
    replace HX := Lib.hid (HX.out.ext hE)
    clear Ktw25
    clear Kfw25
    clear Krw25
    clear hE
    have t_0 : w28.cell? ⟨bt, 0, none⟩ = some _ := blk_cell (cs := [.int .i64 z.kind, .float .f64 z.num, .string z.text]) Ktw28.out rfl
    have t_1 : w28.cell? ⟨bt, 1, none⟩ = some _ := blk_cell (cs := [.int .i64 z.kind, .float .f64 z.num, .string z.text]) Ktw28.out rfl
    have t_2 : w28.cell? ⟨bt, 2, none⟩ = some _ := blk_cell (cs := [.int .i64 z.kind, .float .f64 z.num, .string z.text]) Ktw28.out rfl
    have t_l : bt < w28.heap.size := (Array.getElem?_eq_some_iff.1 Ktw28.out).1
    have f_0 : w28.cell? ⟨bf, 0, none⟩ = some _ := blk_cell (cs := [.int .i64 1, .float .f64 y, .string ⟨#[]⟩]) Kfw28.out rfl
    have f_1 : w28.cell? ⟨bf, 1, none⟩ = some _ := blk_cell (cs := [.int .i64 1, .float .f64 y, .string ⟨#[]⟩]) Kfw28.out rfl
    have f_2 : w28.cell? ⟨bf, 2, none⟩ = some _ := blk_cell (cs := [.int .i64 1, .float .f64 y, .string ⟨#[]⟩]) Kfw28.out rfl
    have f_l : bf < w28.heap.size := (Array.getElem?_eq_some_iff.1 Kfw28.out).1
    have r_0 : w28.cell? ⟨br, 0, none⟩ = some _ := blk_cell (cs := [.int .i64 r.code, .int .i64 r.val.kind, .float .f64 r.val.num, .string r.val.text]) Krw28.out rfl
    have r_1 : w28.cell? ⟨br, 1, none⟩ = some _ := blk_cell (cs := [.int .i64 r.code, .int .i64 r.val.kind, .float .f64 r.val.num, .string r.val.text]) Krw28.out rfl
    have r_2 : w28.cell? ⟨br, 2, none⟩ = some _ := blk_cell (cs := [.int .i64 r.code, .int .i64 r.val.kind, .float .f64 r.val.num, .string r.val.text]) Krw28.out rfl
    have r_3 : w28.cell? ⟨br, 3, none⟩ = some _ := blk_cell (cs := [.int .i64 r.code, .int .i64 r.val.kind, .float .f64 r.val.num, .string r.val.text]) Krw28.out rfl
    have r_l : br < w28.heap.size := (Array.getElem?_eq_some_iff.1 Krw28.out).1
    clear t_0 t_1 t_2 t_l f_0 f_1 f_2 f_l r_0 r_1 r_2 r_3 r_l
    go_wp2
    exact ⟨⟨i + 1, q, by omega, by go_num, HNv1.out, HQ.out, Hf.out, by rw [W2.out]; exact Ktw28.out, HX.out⟩, by simp [intOf]; omega⟩
set_option maxRecDepth 100000 in
set_option maxHeartbeats 1000000 in
theorem kvAdds_false (w : World) (T : Nat → Prop) (A : Option Addr) (n cc : Nat) (l : List ACmd) (hC : Cms w T (.slice A n cc) l) (hn : l.length = n) (key : ByteArray) (U : Nat → Prop) (AX : Option Addr) (m cx : Nat) (xs : List Nat) (hXs : Sl w U 1 (.slice AX m cx) m (xs.map (Value.float .f64))) (hxb : ∀ y ∈ xs, y < 18446744073709551616)  :
    Calls Try.prog 6 #[.slice A n cc, .string key, .slice AX m cx, .bool false] w fun e w' => e = .returned (.bool true) ∧ Below w.heap.size w w' := by
  have hl := hC.1.le
  rw [hn] at hl
  unfold maxLen at hl
  have hlx := hXs.le
  unfold maxLen at hlx
  by_cases h0 : 1000 < n
  · have d0 : decide ((n : Int) > 1000) = true := by simp; omega
    go_enter Try.func6, Try.ntmps6
    go_wp2
    go_ret
    exact ⟨rfl, Ext.below (Mod.refl _ w)⟩
  have d0 : decide ((n : Int) > 1000) = false := by simp; omega
  by_cases h1 : 200 < m
  · have d1 : decide ((m : Int) > 200) = true := by simp; omega
    go_enter Try.func6, Try.ntmps6
    go_wp2
    go_ret
    exact ⟨rfl, Ext.below (Mod.refl _ w)⟩
  have d1 : decide ((m : Int) > 200) = false := by simp; omega
  by_cases h2 : 2000 < key.size
  · have d2 : decide ((key.size : Int) > 2000) = true := by simp; omega
    go_enter Try.func6, Try.ntmps6
    go_wp2
    go_ret
    exact ⟨rfl, Ext.below (Mod.refl _ w)⟩
  have d2 : decide ((key.size : Int) > 2000) = false := by simp; omega
  have HXs := Lib.hid hXs
  have Hxb := Lib.hid hxb
  clear hXs hxb
  have HX : Hid (Ext w w) := Lib.hid (Mod.refl _ w)
  have HC := Lib.hid hC
  clear hC
  go_enter Try.func6, Try.ntmps6
  go_wp2_with fail
  refine (l_grown w T _ l HC.out (by omega)).mono ?_
  rintro e w1 ⟨v7, p, rfl, hN, hp, hE⟩
  replace HC := Lib.hid (HC.out.ext hE)
  replace HX := Lib.hid (HX.out.ext hE)
  obtain ⟨A7, c7, rfl⟩ := own_form hN.1
  have HN7 := Lib.hid hN
  have Hp := Lib.hid hp
  clear hN hp
  clear hE
  go_wp2_with fail
  refine (kv_get w1 _ _ p key HN7.out.prs).mono ?_
  rintro e w2 ⟨rfl, hE⟩
  replace HC := Lib.hid (HC.out.ext hE)
  replace HN7 := Lib.hid (newP_mod HN7.out hE (fun _ _ => id))
  replace HX := Lib.hid (HX.out.ext hE)
  obtain ⟨t, ht⟩ : ∃ t, getP p key = t := ⟨_, rfl⟩
  rw [ht]
  have HTt := Lib.hid ht
  clear ht
  clear hE
  go_wp2_with fail
  have hlo := HN7.out.1.lt
  have Hlo := Lib.hid hlo
  clear hlo
  obtain ⟨w3, hw3⟩ : ∃ w3, w3 = w2.alloc (.cells #[.int .i64 t.kind, .float .f64 t.num, .string t.text] 25) := ⟨_, rfl⟩
  obtain ⟨bt, hbt⟩ : ∃ bt, bt = w2.heap.size := ⟨_, rfl⟩
  have hzz : w2.heap.size = bt := hbt.symm
  have hE : Ext w2 w3 := by rw [hw3]; exact (Mod.refl _ w2).alloc _
  have hKn : w3.heap[bt]? = some (.cells #[.int .i64 t.kind, .float .f64 t.num, .string t.text] 25 (0, 0)) := by rw [hw3, ← hzz]; exact heap_alloc_new w2 _
  have hzn : w3.heap.size = bt + 1 := by rw [hw3, ← hzz]; simp
  rw [← hw3, ← hbt]
  have HXo := HX
  replace HC := Lib.hid (HC.out.ext hE)
  replace HN7 := Lib.hid (newP_mod HN7.out hE (fun _ _ => id))
  replace HX := Lib.hid (HX.out.ext hE)
  have Ktw3 := Lib.hid hKn
  have hbz : w.heap.size ≤ bt := by have := HXo.out.size; omega
  have HSt := Lib.hid hzz
  clear hKn hE hw3 hbt HXo hzz
  have hbt := hbz
  clear hbz
  clear hzn
  have HW0 := HX
  go_loopw [9, 12] (fun pv iv wr => ∃ (i : Nat) (p : List APair), i ≤ m ∧ iv = .int .i64 i ∧ NewP w wr pv p ∧ pairsB p = true ∧ (∀ g, pv.ownBlock = some g → g ≠ bt) ∧ wr.heap[bt]? = some (.cells #[.int .i64 (getP p key).kind, .float .f64 (getP p key).num, .string (getP p key).text] 25 (0, 0)) ∧ Ext w wr) (fun _ iv _ => m - (intOf iv).toNat)
  case atStart => exact ⟨0, p, by omega, rfl, HN7.out, Hp.out, fun g hg => by have := (Hlo.out g hg).2; have := HSt.out; omega, by rw [HTt.out]; exact Ktw3.out, HX.out⟩
  case round =>
    clear HN7 Hp HTt Ktw3 HX HC HSt Hlo HW0
    obtain ⟨i, p, him, rfl, hN, hp, hpt, hb, hE⟩ := hrel
    obtain ⟨t, ht⟩ : ∃ t, getP p key = t := ⟨_, rfl⟩
    rw [ht] at hb
    have htn : t.num < 18446744073709551616 := by have := getP_ok hN.2.1 key; rw [ht] at this; exact this.2.1
    have HTt := Lib.hid ht
    have HNp := Lib.hid hN
    have Hp := Lib.hid hp
    have Hpt := Lib.hid hpt
    have hbtw : bt < wr.heap.size := (Array.getElem?_eq_some_iff.1 hb).1
    have Ktwr := Lib.hid hb
    have HX := Lib.hid hE
    have HY : Hid (Ext wr wr) := Lib.hid (Mod.refl _ wr)
    have hxs := HXs.out.ext hE
    clear hN hp hpt hb hE ht
    by_cases hi : i < m
    case neg =>
      clear hxs HY
      have t_0 : wr.cell? ⟨bt, 0, none⟩ = some _ := blk_cell (cs := [.int .i64 t.kind, .float .f64 t.num, .string t.text]) Ktwr.out rfl
      have t_1 : wr.cell? ⟨bt, 1, none⟩ = some _ := blk_cell (cs := [.int .i64 t.kind, .float .f64 t.num, .string t.text]) Ktwr.out rfl
      have t_2 : wr.cell? ⟨bt, 2, none⟩ = some _ := blk_cell (cs := [.int .i64 t.kind, .float .f64 t.num, .string t.text]) Ktwr.out rfl
      have t_l : bt < wr.heap.size := (Array.getElem?_eq_some_iff.1 Ktwr.out).1
      go_wp2_with fail
      refine (l_wakes wr).mono ?_
      rintro e w21 ⟨rfl, hE⟩
      clear t_0 t_1 t_2 t_l
      have Ktw21 := Lib.hid (hE.blk Ktwr.out id)
      replace HX := Lib.hid (HX.out.ext hE)
      clear Ktwr
      clear hE
      have t_0 : w21.cell? ⟨bt, 0, none⟩ = some _ := blk_cell (cs := [.int .i64 t.kind, .float .f64 t.num, .string t.text]) Ktw21.out rfl
      have t_1 : w21.cell? ⟨bt, 1, none⟩ = some _ := blk_cell (cs := [.int .i64 t.kind, .float .f64 t.num, .string t.text]) Ktw21.out rfl
      have t_2 : w21.cell? ⟨bt, 2, none⟩ = some _ := blk_cell (cs := [.int .i64 t.kind, .float .f64 t.num, .string t.text]) Ktw21.out rfl
      have t_l : bt < w21.heap.size := (Array.getElem?_eq_some_iff.1 Ktw21.out).1
      go_wp2
      go_ret
      exact ⟨rfl, Ext.below HX.out⟩
    obtain ⟨g, off, y, rfl, hy, hcell⟩ := floatAt hxs hi
    have hyb := Hxb.out y (List.mem_of_getElem? hy)
    have hi0 : (0 : Int) ≤ (i : Int) := by omega
    have hi1 : (i : Int) < (m : Int) := by omega
    have hvok : (⟨1, y, ⟨#[]⟩⟩ : AVal).ok := ⟨⟨by show (-9223372036854775808 : Int) ≤ 1; decide, by show (1 : Int) ≤ 9223372036854775807; decide⟩, hyb, Nat.zero_le _⟩
    have Hvok := Lib.hid hvok
    clear hxs hy hvok
    have t_0 : wr.cell? ⟨bt, 0, none⟩ = some _ := blk_cell (cs := [.int .i64 t.kind, .float .f64 t.num, .string t.text]) Ktwr.out rfl
    have t_1 : wr.cell? ⟨bt, 1, none⟩ = some _ := blk_cell (cs := [.int .i64 t.kind, .float .f64 t.num, .string t.text]) Ktwr.out rfl
    have t_2 : wr.cell? ⟨bt, 2, none⟩ = some _ := blk_cell (cs := [.int .i64 t.kind, .float .f64 t.num, .string t.text]) Ktwr.out rfl
    have t_l : bt < wr.heap.size := (Array.getElem?_eq_some_iff.1 Ktwr.out).1
    go_wp2_with fail
    obtain ⟨w21, hw21⟩ : ∃ w21, w21 = wr.alloc (.cells #[.int .i64 1, .float .f64 y, .string ⟨#[]⟩] 25) := ⟨_, rfl⟩
    obtain ⟨bf, hbf⟩ : ∃ bf, bf = wr.heap.size := ⟨_, rfl⟩
    have hzz : wr.heap.size = bf := hbf.symm
    have hE : Ext wr w21 := by rw [hw21]; exact (Mod.refl _ wr).alloc _
    have hKn : w21.heap[bf]? = some (.cells #[.int .i64 1, .float .f64 y, .string ⟨#[]⟩] 25 (0, 0)) := by rw [hw21, ← hzz]; exact heap_alloc_new wr _
    have hzn : w21.heap.size = bf + 1 := by rw [hw21, ← hzz]; simp
    rw [← hw21, ← hbf]
    clear t_0 t_1 t_2 t_l
    have HXo := HX
    have HYo := HY
    have Ktw21 := Lib.hid (hE.blk Ktwr.out id)
    replace HNp := Lib.hid (newP_mod HNp.out hE (fun _ _ => id))
    replace HX := Lib.hid (HX.out.ext hE)
    replace HY := Lib.hid (HY.out.ext hE)
    clear Ktwr
    have Kfw21 := Lib.hid hKn
    have hbz : w.heap.size ≤ bf := by have := HXo.out.size; omega
    have hcf : wr.heap.size ≤ bf := by have := HYo.out.size; omega
    clear HYo
    clear hKn hE hw21 hbf HXo hzz
    have hbf := hbz
    clear hbz
    clear hzn
    have hso := HX.out.size
    have hsy := HY.out.size
    rcases hr : doP p ⟨6, key, AVal.zero, ⟨1, y, ⟨#[]⟩⟩⟩ with ⟨q, r⟩
    refine (kv_Do_at w21 _ _ p ⟨6, key, AVal.zero, ⟨1, y, ⟨#[]⟩⟩⟩ HNp.out.prs (by have := right_len Hp.out; omega) Hvok.out hr).mono ?_
    rintro e w22 ⟨v1, rfl, hN, hE⟩
    have Ktw22 := Lib.hid (hE.blk Ktw21.out id)
    have Kfw22 := Lib.hid (hE.blk Kfw21.out id)
    replace HNp := Lib.hid (newP_mod HNp.out hE (fun _ _ => id))
    replace HX := Lib.hid (HX.out.ext hE)
    replace HY := Lib.hid (HY.out.ext hE)
    clear Ktw21
    clear Kfw21
    obtain ⟨Av1, cv1, rfl⟩ := own_form hN.1
    have Hf : Hid (∀ g, (Value.slice Av1 q.length cv1).ownBlock = some g → g ≠ bt) := Lib.hid (fun g hg => by have := hN.2.2 g hg; omega)
    have HNv1 := Lib.hid (newP_up hN hso)
    have HEr := Lib.hid hr
    clear hN hso hsy hr hcell
    clear hE
    have t_0 : w22.cell? ⟨bt, 0, none⟩ = some _ := blk_cell (cs := [.int .i64 t.kind, .float .f64 t.num, .string t.text]) Ktw22.out rfl
    have t_1 : w22.cell? ⟨bt, 1, none⟩ = some _ := blk_cell (cs := [.int .i64 t.kind, .float .f64 t.num, .string t.text]) Ktw22.out rfl
    have t_2 : w22.cell? ⟨bt, 2, none⟩ = some _ := blk_cell (cs := [.int .i64 t.kind, .float .f64 t.num, .string t.text]) Ktw22.out rfl
    have t_l : bt < w22.heap.size := (Array.getElem?_eq_some_iff.1 Ktw22.out).1
    have f_0 : w22.cell? ⟨bf, 0, none⟩ = some _ := blk_cell (cs := [.int .i64 1, .float .f64 y, .string ⟨#[]⟩]) Kfw22.out rfl
    have f_1 : w22.cell? ⟨bf, 1, none⟩ = some _ := blk_cell (cs := [.int .i64 1, .float .f64 y, .string ⟨#[]⟩]) Kfw22.out rfl
    have f_2 : w22.cell? ⟨bf, 2, none⟩ = some _ := blk_cell (cs := [.int .i64 1, .float .f64 y, .string ⟨#[]⟩]) Kfw22.out rfl
    have f_l : bf < w22.heap.size := (Array.getElem?_eq_some_iff.1 Kfw22.out).1
    have hall := do_adds (p := p) (k := key) (x := y) (add := false) Hp.out
    simp only [if_true, Bool.false_eq_true, if_false] at hall
    rw [HEr.out, HTt.out] at hall
    simp only at hall
    have HA := Lib.hid hall
    clear hall
    by_cases h0 : r.code = 0
    case neg =>
      have n0 : (r.code != 0) = true := by simpa using h0
      have hq : q = p := by
        have := (do_no (l := p) (c := ⟨6, key, AVal.zero, ⟨1, y, ⟨#[]⟩⟩⟩) (by rw [HEr.out]; exact h0)).1
        rw [HEr.out] at this
        exact this
      have Hq := Lib.hid hq
      clear h0 hq
      by_cases h8 : r.code = 8
      case neg =>
        have n8 : (r.code == 8) = false := by simpa using h8
        clear h8
        go_wp2_with fail
        obtain ⟨w23, hw23⟩ : ∃ w23, w23 = w22.alloc (.cells #[.int .i64 r.code, .int .i64 r.val.kind, .float .f64 r.val.num, .string r.val.text] 33) := ⟨_, rfl⟩
        obtain ⟨br, hbr⟩ : ∃ br, br = w22.heap.size := ⟨_, rfl⟩
        have hzz : w22.heap.size = br := hbr.symm
        have hE : Ext w22 w23 := by rw [hw23]; exact (Mod.refl _ w22).alloc _
        have hKn : w23.heap[br]? = some (.cells #[.int .i64 r.code, .int .i64 r.val.kind, .float .f64 r.val.num, .string r.val.text] 33 (0, 0)) := by rw [hw23, ← hzz]; exact heap_alloc_new w22 _
        have hzn : w23.heap.size = br + 1 := by rw [hw23, ← hzz]; simp
        rw [← hw23, ← hbr]
        clear t_0 t_1 t_2 t_l f_0 f_1 f_2 f_l
        have HXo := HX
        have HYo := HY
        have Ktw23 := Lib.hid (hE.blk Ktw22.out id)
        have Kfw23 := Lib.hid (hE.blk Kfw22.out id)
        replace HNp := Lib.hid (newP_mod HNp.out hE (fun _ _ => id))
        replace HNv1 := Lib.hid (newP_mod HNv1.out hE (fun _ _ => id))
        replace HX := Lib.hid (HX.out.ext hE)
        replace HY := Lib.hid (HY.out.ext hE)
        clear Ktw22
        clear Kfw22
        have Krw23 := Lib.hid hKn
        have hbz : w.heap.size ≤ br := by have := HXo.out.size; omega
        have hcr : wr.heap.size ≤ br := by have := HYo.out.size; omega
        clear HYo
        clear hKn hE hw23 hbr HXo hzz
        have hbr := hbz
        clear hbz
        clear hzn
        refine (k_pairs w23 _ _ _ _ p q HNp.out.prs HNv1.out.prs).mono ?_
        rintro e w24 ⟨rfl, hE⟩
        have Ktw24 := Lib.hid (hE.blk Ktw23.out id)
        have Kfw24 := Lib.hid (hE.blk Kfw23.out id)
        have Krw24 := Lib.hid (hE.blk Krw23.out id)
        replace HNp := Lib.hid (newP_mod HNp.out hE (fun _ _ => id))
        replace HNv1 := Lib.hid (newP_mod HNv1.out hE (fun _ _ => id))
        replace HX := Lib.hid (HX.out.ext hE)
        replace HY := Lib.hid (HY.out.ext hE)
        clear Ktw23
        clear Kfw23
        clear Krw23
        rw [show eqPrs p q = true by rw [Hq.out]; exact eqPrs_refl _]
        clear hE
        have t_0 : w24.cell? ⟨bt, 0, none⟩ = some _ := blk_cell (cs := [.int .i64 t.kind, .float .f64 t.num, .string t.text]) Ktw24.out rfl
        have t_1 : w24.cell? ⟨bt, 1, none⟩ = some _ := blk_cell (cs := [.int .i64 t.kind, .float .f64 t.num, .string t.text]) Ktw24.out rfl
        have t_2 : w24.cell? ⟨bt, 2, none⟩ = some _ := blk_cell (cs := [.int .i64 t.kind, .float .f64 t.num, .string t.text]) Ktw24.out rfl
        have t_l : bt < w24.heap.size := (Array.getElem?_eq_some_iff.1 Ktw24.out).1
        have f_0 : w24.cell? ⟨bf, 0, none⟩ = some _ := blk_cell (cs := [.int .i64 1, .float .f64 y, .string ⟨#[]⟩]) Kfw24.out rfl
        have f_1 : w24.cell? ⟨bf, 1, none⟩ = some _ := blk_cell (cs := [.int .i64 1, .float .f64 y, .string ⟨#[]⟩]) Kfw24.out rfl
        have f_2 : w24.cell? ⟨bf, 2, none⟩ = some _ := blk_cell (cs := [.int .i64 1, .float .f64 y, .string ⟨#[]⟩]) Kfw24.out rfl
        have f_l : bf < w24.heap.size := (Array.getElem?_eq_some_iff.1 Kfw24.out).1
        have r_0 : w24.cell? ⟨br, 0, none⟩ = some _ := blk_cell (cs := [.int .i64 r.code, .int .i64 r.val.kind, .float .f64 r.val.num, .string r.val.text]) Krw24.out rfl
        have r_1 : w24.cell? ⟨br, 1, none⟩ = some _ := blk_cell (cs := [.int .i64 r.code, .int .i64 r.val.kind, .float .f64 r.val.num, .string r.val.text]) Krw24.out rfl
        have r_2 : w24.cell? ⟨br, 2, none⟩ = some _ := blk_cell (cs := [.int .i64 r.code, .int .i64 r.val.kind, .float .f64 r.val.num, .string r.val.text]) Krw24.out rfl
        have r_3 : w24.cell? ⟨br, 3, none⟩ = some _ := blk_cell (cs := [.int .i64 r.code, .int .i64 r.val.kind, .float .f64 r.val.num, .string r.val.text]) Krw24.out rfl
        have r_l : br < w24.heap.size := (Array.getElem?_eq_some_iff.1 Krw24.out).1
        go_wp2
        exact ⟨⟨i + 1, p, by omega, by go_num, HNp.out, Hp.out, Hpt.out, by rw [HTt.out]; exact Ktw24.out, HX.out⟩, by simp [intOf]; omega⟩
      have n8 : (r.code == 8) = true := by simpa using h8
      by_cases hk2 : t.kind = 2
      case pos =>
        have n2 : (t.kind != 2) = false := by simpa using hk2
        clear h8 hk2
        go_wp2_with fail
        obtain ⟨w23, hw23⟩ : ∃ w23, w23 = w22.alloc (.cells #[.int .i64 r.code, .int .i64 r.val.kind, .float .f64 r.val.num, .string r.val.text] 33) := ⟨_, rfl⟩
        obtain ⟨br, hbr⟩ : ∃ br, br = w22.heap.size := ⟨_, rfl⟩
        have hzz : w22.heap.size = br := hbr.symm
        have hE : Ext w22 w23 := by rw [hw23]; exact (Mod.refl _ w22).alloc _
        have hKn : w23.heap[br]? = some (.cells #[.int .i64 r.code, .int .i64 r.val.kind, .float .f64 r.val.num, .string r.val.text] 33 (0, 0)) := by rw [hw23, ← hzz]; exact heap_alloc_new w22 _
        have hzn : w23.heap.size = br + 1 := by rw [hw23, ← hzz]; simp
        rw [← hw23, ← hbr]
        clear t_0 t_1 t_2 t_l f_0 f_1 f_2 f_l
        have HXo := HX
        have HYo := HY
        have Ktw23 := Lib.hid (hE.blk Ktw22.out id)
        have Kfw23 := Lib.hid (hE.blk Kfw22.out id)
        replace HNp := Lib.hid (newP_mod HNp.out hE (fun _ _ => id))
        replace HNv1 := Lib.hid (newP_mod HNv1.out hE (fun _ _ => id))
        replace HX := Lib.hid (HX.out.ext hE)
        replace HY := Lib.hid (HY.out.ext hE)
        clear Ktw22
        clear Kfw22
        have Krw23 := Lib.hid hKn
        have hbz : w.heap.size ≤ br := by have := HXo.out.size; omega
        have hcr : wr.heap.size ≤ br := by have := HYo.out.size; omega
        clear HYo
        clear hKn hE hw23 hbr HXo hzz
        have hbr := hbz
        clear hbz
        clear hzn
        refine (k_pairs w23 _ _ _ _ p q HNp.out.prs HNv1.out.prs).mono ?_
        rintro e w24 ⟨rfl, hE⟩
        have Ktw24 := Lib.hid (hE.blk Ktw23.out id)
        have Kfw24 := Lib.hid (hE.blk Kfw23.out id)
        have Krw24 := Lib.hid (hE.blk Krw23.out id)
        replace HNp := Lib.hid (newP_mod HNp.out hE (fun _ _ => id))
        replace HNv1 := Lib.hid (newP_mod HNv1.out hE (fun _ _ => id))
        replace HX := Lib.hid (HX.out.ext hE)
        replace HY := Lib.hid (HY.out.ext hE)
        clear Ktw23
        clear Kfw23
        clear Krw23
        rw [show eqPrs p q = true by rw [Hq.out]; exact eqPrs_refl _]
        clear hE
        have t_0 : w24.cell? ⟨bt, 0, none⟩ = some _ := blk_cell (cs := [.int .i64 t.kind, .float .f64 t.num, .string t.text]) Ktw24.out rfl
        have t_1 : w24.cell? ⟨bt, 1, none⟩ = some _ := blk_cell (cs := [.int .i64 t.kind, .float .f64 t.num, .string t.text]) Ktw24.out rfl
        have t_2 : w24.cell? ⟨bt, 2, none⟩ = some _ := blk_cell (cs := [.int .i64 t.kind, .float .f64 t.num, .string t.text]) Ktw24.out rfl
        have t_l : bt < w24.heap.size := (Array.getElem?_eq_some_iff.1 Ktw24.out).1
        have f_0 : w24.cell? ⟨bf, 0, none⟩ = some _ := blk_cell (cs := [.int .i64 1, .float .f64 y, .string ⟨#[]⟩]) Kfw24.out rfl
        have f_1 : w24.cell? ⟨bf, 1, none⟩ = some _ := blk_cell (cs := [.int .i64 1, .float .f64 y, .string ⟨#[]⟩]) Kfw24.out rfl
        have f_2 : w24.cell? ⟨bf, 2, none⟩ = some _ := blk_cell (cs := [.int .i64 1, .float .f64 y, .string ⟨#[]⟩]) Kfw24.out rfl
        have f_l : bf < w24.heap.size := (Array.getElem?_eq_some_iff.1 Kfw24.out).1
        have r_0 : w24.cell? ⟨br, 0, none⟩ = some _ := blk_cell (cs := [.int .i64 r.code, .int .i64 r.val.kind, .float .f64 r.val.num, .string r.val.text]) Krw24.out rfl
        have r_1 : w24.cell? ⟨br, 1, none⟩ = some _ := blk_cell (cs := [.int .i64 r.code, .int .i64 r.val.kind, .float .f64 r.val.num, .string r.val.text]) Krw24.out rfl
        have r_2 : w24.cell? ⟨br, 2, none⟩ = some _ := blk_cell (cs := [.int .i64 r.code, .int .i64 r.val.kind, .float .f64 r.val.num, .string r.val.text]) Krw24.out rfl
        have r_3 : w24.cell? ⟨br, 3, none⟩ = some _ := blk_cell (cs := [.int .i64 r.code, .int .i64 r.val.kind, .float .f64 r.val.num, .string r.val.text]) Krw24.out rfl
        have r_l : br < w24.heap.size := (Array.getElem?_eq_some_iff.1 Krw24.out).1
        go_wp2
        exact ⟨⟨i + 1, p, by omega, by go_num, HNp.out, Hp.out, Hpt.out, by rw [HTt.out]; exact Ktw24.out, HX.out⟩, by simp [intOf]; omega⟩
      have n2 : (t.kind != 2) = true := by simpa using hk2
      by_cases hck : chk ⟨1, y, ⟨#[]⟩⟩ = 0
      case neg =>
        have nc : (chk ⟨1, y, ⟨#[]⟩⟩ == 0) = false := by simpa using hck
        clear h8 hk2 hck
        go_wp2_with fail
        obtain ⟨w23, hw23⟩ : ∃ w23, w23 = w22.alloc (.cells #[.int .i64 r.code, .int .i64 r.val.kind, .float .f64 r.val.num, .string r.val.text] 33) := ⟨_, rfl⟩
        obtain ⟨br, hbr⟩ : ∃ br, br = w22.heap.size := ⟨_, rfl⟩
        have hzz : w22.heap.size = br := hbr.symm
        have hE : Ext w22 w23 := by rw [hw23]; exact (Mod.refl _ w22).alloc _
        have hKn : w23.heap[br]? = some (.cells #[.int .i64 r.code, .int .i64 r.val.kind, .float .f64 r.val.num, .string r.val.text] 33 (0, 0)) := by rw [hw23, ← hzz]; exact heap_alloc_new w22 _
        have hzn : w23.heap.size = br + 1 := by rw [hw23, ← hzz]; simp
        rw [← hw23, ← hbr]
        clear t_0 t_1 t_2 t_l f_0 f_1 f_2 f_l
        have HXo := HX
        have HYo := HY
        have Ktw23 := Lib.hid (hE.blk Ktw22.out id)
        have Kfw23 := Lib.hid (hE.blk Kfw22.out id)
        replace HNp := Lib.hid (newP_mod HNp.out hE (fun _ _ => id))
        replace HNv1 := Lib.hid (newP_mod HNv1.out hE (fun _ _ => id))
        replace HX := Lib.hid (HX.out.ext hE)
        replace HY := Lib.hid (HY.out.ext hE)
        clear Ktw22
        clear Kfw22
        have Krw23 := Lib.hid hKn
        have hbz : w.heap.size ≤ br := by have := HXo.out.size; omega
        have hcr : wr.heap.size ≤ br := by have := HYo.out.size; omega
        clear HYo
        clear hKn hE hw23 hbr HXo hzz
        have hbr := hbz
        clear hbz
        clear hzn
        refine (k_pairs w23 _ _ _ _ p q HNp.out.prs HNv1.out.prs).mono ?_
        rintro e w24 ⟨rfl, hE⟩
        have Ktw24 := Lib.hid (hE.blk Ktw23.out id)
        have Kfw24 := Lib.hid (hE.blk Kfw23.out id)
        have Krw24 := Lib.hid (hE.blk Krw23.out id)
        replace HNp := Lib.hid (newP_mod HNp.out hE (fun _ _ => id))
        replace HNv1 := Lib.hid (newP_mod HNv1.out hE (fun _ _ => id))
        replace HX := Lib.hid (HX.out.ext hE)
        replace HY := Lib.hid (HY.out.ext hE)
        clear Ktw23
        clear Kfw23
        clear Krw23
        rw [show eqPrs p q = true by rw [Hq.out]; exact eqPrs_refl _]
        clear hE
        have t_0 : w24.cell? ⟨bt, 0, none⟩ = some _ := blk_cell (cs := [.int .i64 t.kind, .float .f64 t.num, .string t.text]) Ktw24.out rfl
        have t_1 : w24.cell? ⟨bt, 1, none⟩ = some _ := blk_cell (cs := [.int .i64 t.kind, .float .f64 t.num, .string t.text]) Ktw24.out rfl
        have t_2 : w24.cell? ⟨bt, 2, none⟩ = some _ := blk_cell (cs := [.int .i64 t.kind, .float .f64 t.num, .string t.text]) Ktw24.out rfl
        have t_l : bt < w24.heap.size := (Array.getElem?_eq_some_iff.1 Ktw24.out).1
        have f_0 : w24.cell? ⟨bf, 0, none⟩ = some _ := blk_cell (cs := [.int .i64 1, .float .f64 y, .string ⟨#[]⟩]) Kfw24.out rfl
        have f_1 : w24.cell? ⟨bf, 1, none⟩ = some _ := blk_cell (cs := [.int .i64 1, .float .f64 y, .string ⟨#[]⟩]) Kfw24.out rfl
        have f_2 : w24.cell? ⟨bf, 2, none⟩ = some _ := blk_cell (cs := [.int .i64 1, .float .f64 y, .string ⟨#[]⟩]) Kfw24.out rfl
        have f_l : bf < w24.heap.size := (Array.getElem?_eq_some_iff.1 Kfw24.out).1
        have r_0 : w24.cell? ⟨br, 0, none⟩ = some _ := blk_cell (cs := [.int .i64 r.code, .int .i64 r.val.kind, .float .f64 r.val.num, .string r.val.text]) Krw24.out rfl
        have r_1 : w24.cell? ⟨br, 1, none⟩ = some _ := blk_cell (cs := [.int .i64 r.code, .int .i64 r.val.kind, .float .f64 r.val.num, .string r.val.text]) Krw24.out rfl
        have r_2 : w24.cell? ⟨br, 2, none⟩ = some _ := blk_cell (cs := [.int .i64 r.code, .int .i64 r.val.kind, .float .f64 r.val.num, .string r.val.text]) Krw24.out rfl
        have r_3 : w24.cell? ⟨br, 3, none⟩ = some _ := blk_cell (cs := [.int .i64 r.code, .int .i64 r.val.kind, .float .f64 r.val.num, .string r.val.text]) Krw24.out rfl
        have r_l : br < w24.heap.size := (Array.getElem?_eq_some_iff.1 Krw24.out).1
        go_wp2_with fail
        refine (r_check ⟨1, y, ⟨#[]⟩⟩ w24).mono ?_
        rintro e w25 ⟨rfl, hE⟩
        clear t_0 t_1 t_2 t_l f_0 f_1 f_2 f_l r_0 r_1 r_2 r_3 r_l
        have Ktw25 := Lib.hid (hE.blk Ktw24.out id)
        have Kfw25 := Lib.hid (hE.blk Kfw24.out id)
        have Krw25 := Lib.hid (hE.blk Krw24.out id)
        replace HNp := Lib.hid (newP_mod HNp.out hE (fun _ _ => id))
        replace HNv1 := Lib.hid (newP_mod HNv1.out hE (fun _ _ => id))
        replace HX := Lib.hid (HX.out.ext hE)
        replace HY := Lib.hid (HY.out.ext hE)
        clear Ktw24
        clear Kfw24
        clear Krw24
        clear hE
        have t_0 : w25.cell? ⟨bt, 0, none⟩ = some _ := blk_cell (cs := [.int .i64 t.kind, .float .f64 t.num, .string t.text]) Ktw25.out rfl
        have t_1 : w25.cell? ⟨bt, 1, none⟩ = some _ := blk_cell (cs := [.int .i64 t.kind, .float .f64 t.num, .string t.text]) Ktw25.out rfl
        have t_2 : w25.cell? ⟨bt, 2, none⟩ = some _ := blk_cell (cs := [.int .i64 t.kind, .float .f64 t.num, .string t.text]) Ktw25.out rfl
        have t_l : bt < w25.heap.size := (Array.getElem?_eq_some_iff.1 Ktw25.out).1
        have f_0 : w25.cell? ⟨bf, 0, none⟩ = some _ := blk_cell (cs := [.int .i64 1, .float .f64 y, .string ⟨#[]⟩]) Kfw25.out rfl
        have f_1 : w25.cell? ⟨bf, 1, none⟩ = some _ := blk_cell (cs := [.int .i64 1, .float .f64 y, .string ⟨#[]⟩]) Kfw25.out rfl
        have f_2 : w25.cell? ⟨bf, 2, none⟩ = some _ := blk_cell (cs := [.int .i64 1, .float .f64 y, .string ⟨#[]⟩]) Kfw25.out rfl
        have f_l : bf < w25.heap.size := (Array.getElem?_eq_some_iff.1 Kfw25.out).1
        have r_0 : w25.cell? ⟨br, 0, none⟩ = some _ := blk_cell (cs := [.int .i64 r.code, .int .i64 r.val.kind, .float .f64 r.val.num, .string r.val.text]) Krw25.out rfl
        have r_1 : w25.cell? ⟨br, 1, none⟩ = some _ := blk_cell (cs := [.int .i64 r.code, .int .i64 r.val.kind, .float .f64 r.val.num, .string r.val.text]) Krw25.out rfl
        have r_2 : w25.cell? ⟨br, 2, none⟩ = some _ := blk_cell (cs := [.int .i64 r.code, .int .i64 r.val.kind, .float .f64 r.val.num, .string r.val.text]) Krw25.out rfl
        have r_3 : w25.cell? ⟨br, 3, none⟩ = some _ := blk_cell (cs := [.int .i64 r.code, .int .i64 r.val.kind, .float .f64 r.val.num, .string r.val.text]) Krw25.out rfl
        have r_l : br < w25.heap.size := (Array.getElem?_eq_some_iff.1 Krw25.out).1
        go_wp2
        exact ⟨⟨i + 1, p, by omega, by go_num, HNp.out, Hp.out, Hpt.out, by rw [HTt.out]; exact Ktw25.out, HX.out⟩, by simp [intOf]; omega⟩
      have hks := HA.out.2 h8 hk2 hck
      have Hck := Lib.hid hck
      have nk : decide ((key.size : Int) > 0) = false := by rw [hks]; rfl
      have nk2 : decide (0 < key.size) = false := by rw [hks]; rfl
      have nk3 : ¬ 0 < key.size := by omega
      clear h8 hk2 hck hks
      go_wp2_with fail
      obtain ⟨w23, hw23⟩ : ∃ w23, w23 = w22.alloc (.cells #[.int .i64 r.code, .int .i64 r.val.kind, .float .f64 r.val.num, .string r.val.text] 33) := ⟨_, rfl⟩
      obtain ⟨br, hbr⟩ : ∃ br, br = w22.heap.size := ⟨_, rfl⟩
      have hzz : w22.heap.size = br := hbr.symm
      have hE : Ext w22 w23 := by rw [hw23]; exact (Mod.refl _ w22).alloc _
      have hKn : w23.heap[br]? = some (.cells #[.int .i64 r.code, .int .i64 r.val.kind, .float .f64 r.val.num, .string r.val.text] 33 (0, 0)) := by rw [hw23, ← hzz]; exact heap_alloc_new w22 _
      have hzn : w23.heap.size = br + 1 := by rw [hw23, ← hzz]; simp
      rw [← hw23, ← hbr]
      clear t_0 t_1 t_2 t_l f_0 f_1 f_2 f_l
      have HXo := HX
      have HYo := HY
      have Ktw23 := Lib.hid (hE.blk Ktw22.out id)
      have Kfw23 := Lib.hid (hE.blk Kfw22.out id)
      replace HNp := Lib.hid (newP_mod HNp.out hE (fun _ _ => id))
      replace HNv1 := Lib.hid (newP_mod HNv1.out hE (fun _ _ => id))
      replace HX := Lib.hid (HX.out.ext hE)
      replace HY := Lib.hid (HY.out.ext hE)
      clear Ktw22
      clear Kfw22
      have Krw23 := Lib.hid hKn
      have hbz : w.heap.size ≤ br := by have := HXo.out.size; omega
      have hcr : wr.heap.size ≤ br := by have := HYo.out.size; omega
      clear HYo
      clear hKn hE hw23 hbr HXo hzz
      have hbr := hbz
      clear hbz
      clear hzn
      refine (k_pairs w23 _ _ _ _ p q HNp.out.prs HNv1.out.prs).mono ?_
      rintro e w24 ⟨rfl, hE⟩
      have Ktw24 := Lib.hid (hE.blk Ktw23.out id)
      have Kfw24 := Lib.hid (hE.blk Kfw23.out id)
      have Krw24 := Lib.hid (hE.blk Krw23.out id)
      replace HNp := Lib.hid (newP_mod HNp.out hE (fun _ _ => id))
      replace HNv1 := Lib.hid (newP_mod HNv1.out hE (fun _ _ => id))
      replace HX := Lib.hid (HX.out.ext hE)
      replace HY := Lib.hid (HY.out.ext hE)
      clear Ktw23
      clear Kfw23
      clear Krw23
      rw [show eqPrs p q = true by rw [Hq.out]; exact eqPrs_refl _]
      clear hE
      have t_0 : w24.cell? ⟨bt, 0, none⟩ = some _ := blk_cell (cs := [.int .i64 t.kind, .float .f64 t.num, .string t.text]) Ktw24.out rfl
      have t_1 : w24.cell? ⟨bt, 1, none⟩ = some _ := blk_cell (cs := [.int .i64 t.kind, .float .f64 t.num, .string t.text]) Ktw24.out rfl
      have t_2 : w24.cell? ⟨bt, 2, none⟩ = some _ := blk_cell (cs := [.int .i64 t.kind, .float .f64 t.num, .string t.text]) Ktw24.out rfl
      have t_l : bt < w24.heap.size := (Array.getElem?_eq_some_iff.1 Ktw24.out).1
      have f_0 : w24.cell? ⟨bf, 0, none⟩ = some _ := blk_cell (cs := [.int .i64 1, .float .f64 y, .string ⟨#[]⟩]) Kfw24.out rfl
      have f_1 : w24.cell? ⟨bf, 1, none⟩ = some _ := blk_cell (cs := [.int .i64 1, .float .f64 y, .string ⟨#[]⟩]) Kfw24.out rfl
      have f_2 : w24.cell? ⟨bf, 2, none⟩ = some _ := blk_cell (cs := [.int .i64 1, .float .f64 y, .string ⟨#[]⟩]) Kfw24.out rfl
      have f_l : bf < w24.heap.size := (Array.getElem?_eq_some_iff.1 Kfw24.out).1
      have r_0 : w24.cell? ⟨br, 0, none⟩ = some _ := blk_cell (cs := [.int .i64 r.code, .int .i64 r.val.kind, .float .f64 r.val.num, .string r.val.text]) Krw24.out rfl
      have r_1 : w24.cell? ⟨br, 1, none⟩ = some _ := blk_cell (cs := [.int .i64 r.code, .int .i64 r.val.kind, .float .f64 r.val.num, .string r.val.text]) Krw24.out rfl
      have r_2 : w24.cell? ⟨br, 2, none⟩ = some _ := blk_cell (cs := [.int .i64 r.code, .int .i64 r.val.kind, .float .f64 r.val.num, .string r.val.text]) Krw24.out rfl
      have r_3 : w24.cell? ⟨br, 3, none⟩ = some _ := blk_cell (cs := [.int .i64 r.code, .int .i64 r.val.kind, .float .f64 r.val.num, .string r.val.text]) Krw24.out rfl
      have r_l : br < w24.heap.size := (Array.getElem?_eq_some_iff.1 Krw24.out).1
      go_wp2_with fail
      refine (r_check ⟨1, y, ⟨#[]⟩⟩ w24).mono ?_
      rintro e w25 ⟨rfl, hE⟩
      clear t_0 t_1 t_2 t_l f_0 f_1 f_2 f_l r_0 r_1 r_2 r_3 r_l
      have Ktw25 := Lib.hid (hE.blk Ktw24.out id)
      have Kfw25 := Lib.hid (hE.blk Kfw24.out id)
      have Krw25 := Lib.hid (hE.blk Krw24.out id)
      replace HNp := Lib.hid (newP_mod HNp.out hE (fun _ _ => id))
      replace HNv1 := Lib.hid (newP_mod HNv1.out hE (fun _ _ => id))
      replace HX := Lib.hid (HX.out.ext hE)
      replace HY := Lib.hid (HY.out.ext hE)
      clear Ktw24
      clear Kfw24
      clear Krw24
      rw [Hck.out]
      clear hE
      have t_0 : w25.cell? ⟨bt, 0, none⟩ = some _ := blk_cell (cs := [.int .i64 t.kind, .float .f64 t.num, .string t.text]) Ktw25.out rfl
      have t_1 : w25.cell? ⟨bt, 1, none⟩ = some _ := blk_cell (cs := [.int .i64 t.kind, .float .f64 t.num, .string t.text]) Ktw25.out rfl
      have t_2 : w25.cell? ⟨bt, 2, none⟩ = some _ := blk_cell (cs := [.int .i64 t.kind, .float .f64 t.num, .string t.text]) Ktw25.out rfl
      have t_l : bt < w25.heap.size := (Array.getElem?_eq_some_iff.1 Ktw25.out).1
      have f_0 : w25.cell? ⟨bf, 0, none⟩ = some _ := blk_cell (cs := [.int .i64 1, .float .f64 y, .string ⟨#[]⟩]) Kfw25.out rfl
      have f_1 : w25.cell? ⟨bf, 1, none⟩ = some _ := blk_cell (cs := [.int .i64 1, .float .f64 y, .string ⟨#[]⟩]) Kfw25.out rfl
      have f_2 : w25.cell? ⟨bf, 2, none⟩ = some _ := blk_cell (cs := [.int .i64 1, .float .f64 y, .string ⟨#[]⟩]) Kfw25.out rfl
      have f_l : bf < w25.heap.size := (Array.getElem?_eq_some_iff.1 Kfw25.out).1
      have r_0 : w25.cell? ⟨br, 0, none⟩ = some _ := blk_cell (cs := [.int .i64 r.code, .int .i64 r.val.kind, .float .f64 r.val.num, .string r.val.text]) Krw25.out rfl
      have r_1 : w25.cell? ⟨br, 1, none⟩ = some _ := blk_cell (cs := [.int .i64 r.code, .int .i64 r.val.kind, .float .f64 r.val.num, .string r.val.text]) Krw25.out rfl
      have r_2 : w25.cell? ⟨br, 2, none⟩ = some _ := blk_cell (cs := [.int .i64 r.code, .int .i64 r.val.kind, .float .f64 r.val.num, .string r.val.text]) Krw25.out rfl
      have r_3 : w25.cell? ⟨br, 3, none⟩ = some _ := blk_cell (cs := [.int .i64 r.code, .int .i64 r.val.kind, .float .f64 r.val.num, .string r.val.text]) Krw25.out rfl
      have r_l : br < w25.heap.size := (Array.getElem?_eq_some_iff.1 Krw25.out).1
      go_wp2
      exact ⟨⟨i + 1, p, by omega, by go_num, HNp.out, Hp.out, Hpt.out, by rw [HTt.out]; exact Ktw25.out, HX.out⟩, by simp [intOf]; omega⟩
    have n0 : (r.code != 0) = false := by simpa using h0
    obtain ⟨a1, a2⟩ := HA.out.1 h0
    have A1 := Lib.hid a1
    have A2 := Lib.hid a2
    have hQ := do_right ⟨6, key, AVal.zero, ⟨1, y, ⟨#[]⟩⟩⟩ Hp.out
    rw [HEr.out] at hQ
    have HQ := Lib.hid hQ
    clear h0 a1 a2 hQ
    by_cases hk0 : t.kind = 0
    case pos =>
      have nk : (t.kind == 0) = true := by simpa using hk0
      have hw : want1 false t ⟨1, y, ⟨#[]⟩⟩ = ⟨1, y, ⟨#[]⟩⟩ := by unfold want1; rw [if_pos hk0]
      have W1 : Hid (r.val = ⟨1, y, ⟨#[]⟩⟩) := Lib.hid (A1.out.trans hw)
      have W2 : Hid (getP q key = ⟨1, y, ⟨#[]⟩⟩) := Lib.hid (A2.out.trans hw)
      clear hk0 hw
      have fz0 := blk_free 0 Ktw22.out
      have fz1 := blk_free 1 Ktw22.out
      have fz2 := blk_free 2 Ktw22.out
      go_wp2_with fail
      clear t_0 t_1 t_2 t_l f_0 f_1 f_2 f_l
      clear fz0 fz1 fz2
      obtain ⟨w23, hw23⟩ : ∃ w23, (((w22.setCell ⟨bt, 0, none⟩ (.int .i64 1)).setCell ⟨bt, 1, none⟩ (.float .f64 y)).setCell ⟨bt, 2, none⟩ (.string ⟨#[]⟩)) = w23 := ⟨_, rfl⟩
      have hKn : w23.heap[bt]? = some (.cells #[.int .i64 1, .float .f64 y, .string ⟨#[]⟩] 25 (0, 0)) := by rw [← hw23]; exact val_set ⟨1, y, ⟨#[]⟩⟩ Ktw22.out
      have hM : Mod (fun k => k = bt) w22 w23 := by rw [← hw23]; exact val_set_mod _ _ _ _ _
      rw [hw23]
      have hsz : w22.heap.size = w23.heap.size := by rw [← hw23]; simp [World.setCell]
      rw [hsz]
      clear hsz
      have Ktw23 := Lib.hid hKn
      have Kfw23 := Lib.hid (hM.blk Kfw22.out (by omega))
      replace HNp := Lib.hid (newP_mod HNp.out hM (fun g hg e => Hpt.out g hg e))
      replace HNv1 := Lib.hid (newP_mod HNv1.out hM (fun g hg e => Hf.out g hg e))
      replace HX : Hid (Ext w w23) := Lib.hid (Mod.toExt ((Ext.mod HX.out (Since w.heap.size)).trans hM (fun k _ e => by rw [e]; exact hbt)))
      clear hKn hM hw23
      clear Ktw22
      clear Kfw22
      obtain ⟨w24, hw24⟩ : ∃ w24, w24 = w23.alloc (.cells #[.int .i64 r.code, .int .i64 r.val.kind, .float .f64 r.val.num, .string r.val.text] 33) := ⟨_, rfl⟩
      obtain ⟨br, hbr⟩ : ∃ br, br = w23.heap.size := ⟨_, rfl⟩
      have hzz : w23.heap.size = br := hbr.symm
      have hE : Ext w23 w24 := by rw [hw24]; exact (Mod.refl _ w23).alloc _
      have hKn : w24.heap[br]? = some (.cells #[.int .i64 r.code, .int .i64 r.val.kind, .float .f64 r.val.num, .string r.val.text] 33 (0, 0)) := by rw [hw24, ← hzz]; exact heap_alloc_new w23 _
      have hzn : w24.heap.size = br + 1 := by rw [hw24, ← hzz]; simp
      rw [← hw24, ← hbr]
      have HXo := HX
      have Ktw24 := Lib.hid (hE.blk Ktw23.out id)
      have Kfw24 := Lib.hid (hE.blk Kfw23.out id)
      replace HNp := Lib.hid (newP_mod HNp.out hE (fun _ _ => id))
      replace HNv1 := Lib.hid (newP_mod HNv1.out hE (fun _ _ => id))
      replace HX := Lib.hid (HX.out.ext hE)
      clear Ktw23
      clear Kfw23
      have Krw24 := Lib.hid hKn
      have hbz : w.heap.size ≤ br := by have := HXo.out.size; omega
      clear hKn hE hw24 hbr HXo hzz
      have hbr := hbz
      clear hbz
      clear hzn
      have t_0 : w24.cell? ⟨bt, 0, none⟩ = some _ := blk_cell (cs := [.int .i64 1, .float .f64 y, .string ⟨#[]⟩]) Ktw24.out rfl
      have t_1 : w24.cell? ⟨bt, 1, none⟩ = some _ := blk_cell (cs := [.int .i64 1, .float .f64 y, .string ⟨#[]⟩]) Ktw24.out rfl
      have t_2 : w24.cell? ⟨bt, 2, none⟩ = some _ := blk_cell (cs := [.int .i64 1, .float .f64 y, .string ⟨#[]⟩]) Ktw24.out rfl
      have t_l : bt < w24.heap.size := (Array.getElem?_eq_some_iff.1 Ktw24.out).1
      have f_0 : w24.cell? ⟨bf, 0, none⟩ = some _ := blk_cell (cs := [.int .i64 1, .float .f64 y, .string ⟨#[]⟩]) Kfw24.out rfl
      have f_1 : w24.cell? ⟨bf, 1, none⟩ = some _ := blk_cell (cs := [.int .i64 1, .float .f64 y, .string ⟨#[]⟩]) Kfw24.out rfl
      have f_2 : w24.cell? ⟨bf, 2, none⟩ = some _ := blk_cell (cs := [.int .i64 1, .float .f64 y, .string ⟨#[]⟩]) Kfw24.out rfl
      have f_l : bf < w24.heap.size := (Array.getElem?_eq_some_iff.1 Kfw24.out).1
      have r_0 : w24.cell? ⟨br, 0, none⟩ = some _ := blk_cell (cs := [.int .i64 r.code, .int .i64 r.val.kind, .float .f64 r.val.num, .string r.val.text]) Krw24.out rfl
      have r_1 : w24.cell? ⟨br, 1, none⟩ = some _ := blk_cell (cs := [.int .i64 r.code, .int .i64 r.val.kind, .float .f64 r.val.num, .string r.val.text]) Krw24.out rfl
      have r_2 : w24.cell? ⟨br, 2, none⟩ = some _ := blk_cell (cs := [.int .i64 r.code, .int .i64 r.val.kind, .float .f64 r.val.num, .string r.val.text]) Krw24.out rfl
      have r_3 : w24.cell? ⟨br, 3, none⟩ = some _ := blk_cell (cs := [.int .i64 r.code, .int .i64 r.val.kind, .float .f64 r.val.num, .string r.val.text]) Krw24.out rfl
      have r_l : br < w24.heap.size := (Array.getElem?_eq_some_iff.1 Krw24.out).1
      go_wp2_with fail
      clear t_0 t_1 t_2 t_l f_0 f_1 f_2 f_l r_0 r_1 r_2 r_3 r_l
      have t_0 : w24.cell? ⟨bt, 0, none⟩ = some _ := blk_cell (cs := [.int .i64 1, .float .f64 y, .string ⟨#[]⟩]) Ktw24.out rfl
      have t_1 : w24.cell? ⟨bt, 1, none⟩ = some _ := blk_cell (cs := [.int .i64 1, .float .f64 y, .string ⟨#[]⟩]) Ktw24.out rfl
      have t_2 : w24.cell? ⟨bt, 2, none⟩ = some _ := blk_cell (cs := [.int .i64 1, .float .f64 y, .string ⟨#[]⟩]) Ktw24.out rfl
      have t_l : bt < w24.heap.size := (Array.getElem?_eq_some_iff.1 Ktw24.out).1
      have f_0 : w24.cell? ⟨bf, 0, none⟩ = some _ := blk_cell (cs := [.int .i64 1, .float .f64 y, .string ⟨#[]⟩]) Kfw24.out rfl
      have f_1 : w24.cell? ⟨bf, 1, none⟩ = some _ := blk_cell (cs := [.int .i64 1, .float .f64 y, .string ⟨#[]⟩]) Kfw24.out rfl
      have f_2 : w24.cell? ⟨bf, 2, none⟩ = some _ := blk_cell (cs := [.int .i64 1, .float .f64 y, .string ⟨#[]⟩]) Kfw24.out rfl
      have f_l : bf < w24.heap.size := (Array.getElem?_eq_some_iff.1 Kfw24.out).1
      have r_0 : w24.cell? ⟨br, 0, none⟩ = some _ := blk_cell (cs := [.int .i64 r.code, .int .i64 r.val.kind, .float .f64 r.val.num, .string r.val.text]) Krw24.out rfl
      have r_1 : w24.cell? ⟨br, 1, none⟩ = some _ := blk_cell (cs := [.int .i64 r.code, .int .i64 r.val.kind, .float .f64 r.val.num, .string r.val.text]) Krw24.out rfl
      have r_2 : w24.cell? ⟨br, 2, none⟩ = some _ := blk_cell (cs := [.int .i64 r.code, .int .i64 r.val.kind, .float .f64 r.val.num, .string r.val.text]) Krw24.out rfl
      have r_3 : w24.cell? ⟨br, 3, none⟩ = some _ := blk_cell (cs := [.int .i64 r.code, .int .i64 r.val.kind, .float .f64 r.val.num, .string r.val.text]) Krw24.out rfl
      have r_l : br < w24.heap.size := (Array.getElem?_eq_some_iff.1 Krw24.out).1
      refine wp_region_held_drew (S := fun W' => Ext w24 W') (by kernel_rfl) (Mod.refl _ w24).drew (fun hS => ?_)
      refine takeH (i := 0) (v := ?_) (some 99) rfl rfl (by kernel_rfl) (by kernel_rfl) (by kernel_rfl) (fun _ _ _ h => h) (Or.inl ⟨by kernel_rfl, ?_⟩) hS ?_
      rotate_left
      · rintro W' hW'
        obtain ⟨hbc, hbf⟩ := bcell hW'
        go_simp
        try with_reducible rfl
      try simp only [Act.put, List.setIfInBounds_toArray, List.set_cons_zero, List.set_cons_succ]
      refine takeH (i := 1) (v := ?_) (some 100) rfl rfl (by kernel_rfl) (by kernel_rfl) (by kernel_rfl) (fun _ _ _ h => h) (Or.inl ⟨by kernel_rfl, ?_⟩) hS ?_
      rotate_left
      · rintro W' hW'
        obtain ⟨hbc, hbf⟩ := bcell hW'
        go_simp
        try with_reducible rfl
      try simp only [Act.put, List.setIfInBounds_toArray, List.set_cons_zero, List.set_cons_succ]
      refine takeH (i := 2) (v := ?_) (some 101) rfl rfl (by kernel_rfl) (by kernel_rfl) (by kernel_rfl) (fun _ _ _ h => h) (Or.inl ⟨by kernel_rfl, ?_⟩) hS ?_
      rotate_left
      · rintro W' hW'
        obtain ⟨hbc, hbf⟩ := bcell hW'
        go_simp
        try with_reducible rfl
      try simp only [Act.put, List.setIfInBounds_toArray, List.set_cons_zero, List.set_cons_succ]
      refine wpAnyH_ready (rs := [3]) (by kernel_rfl) (by simp) ?_
      refine AllReadyH.cons rfl (fun K hK => ?_) AllReadyH.nil
      go_simp
      go_wp2_with fail
      refine (k_value r.val ⟨1, y, ⟨#[]⟩⟩ _).mono ?_
      rintro e w25 ⟨rfl, hE⟩
      rw [show eqVal r.val ⟨1, y, ⟨#[]⟩⟩ = true by rw [W1.out]; exact eqVal_refl _]
      have hX := Mod.ext hS hE
      clear hE hS
      go_simp
      refine hK.out _ _ hX (fun hS => ?_)
      clear hK K hX
      refine takeH (i := 4) (v := ?_) (some 103) rfl rfl (by kernel_rfl) (by kernel_rfl) (by kernel_rfl) (fun _ _ _ h => h) (Or.inl ⟨by kernel_rfl, ?_⟩) hS ?_
      rotate_left
      · rintro W' hW'
        obtain ⟨hbc, hbf⟩ := bcell hW'
        go_simp
        try with_reducible rfl
      try simp only [Act.put, List.setIfInBounds_toArray, List.set_cons_zero, List.set_cons_succ]
      refine takeH (i := 5) (v := ?_) (some 104) rfl rfl (by kernel_rfl) (by kernel_rfl) (by kernel_rfl) (fun _ _ _ h => h) (Or.inl ⟨by kernel_rfl, ?_⟩) hS ?_
      rotate_left
      · rintro W' hW'
        obtain ⟨hbc, hbf⟩ := bcell hW'
        go_simp
        try with_reducible rfl
      try simp only [Act.put, List.setIfInBounds_toArray, List.set_cons_zero, List.set_cons_succ]
      refine takeH (i := 6) (v := ?_) (some 105) rfl rfl (by kernel_rfl) (by kernel_rfl) (by kernel_rfl) (fun _ _ _ h => h) (Or.inl ⟨by kernel_rfl, ?_⟩) hS ?_
      rotate_left
      · rintro W' hW'
        obtain ⟨hbc, hbf⟩ := bcell hW'
        go_simp
        try with_reducible rfl
      try simp only [Act.put, List.setIfInBounds_toArray, List.set_cons_zero, List.set_cons_succ]
      refine takeH (i := 7) (v := ?_) (some 106) rfl rfl (by kernel_rfl) (by kernel_rfl) (by kernel_rfl) (fun _ _ _ h => h) (Or.inl ⟨by kernel_rfl, ?_⟩) hS ?_
      rotate_left
      · rintro W' hW'
        obtain ⟨hbc, hbf⟩ := bcell hW'
        go_simp
        try with_reducible rfl
      try simp only [Act.put, List.setIfInBounds_toArray, List.set_cons_zero, List.set_cons_succ]
      refine takeH (i := 9) (v := ?_) (some 108) rfl rfl (by kernel_rfl) (by kernel_rfl) (by kernel_rfl) (fun _ _ _ h => h) (Or.inl ⟨by kernel_rfl, ?_⟩) hS ?_
      rotate_left
      · rintro W' hW'
        obtain ⟨hbc, hbf⟩ := bcell hW'
        go_simp
        try with_reducible rfl
      try simp only [Act.put, List.setIfInBounds_toArray, List.set_cons_zero, List.set_cons_succ]
      refine wpAnyH_ready (rs := [8]) (by kernel_rfl) (by simp) ?_
      refine AllReadyH.cons rfl (fun K hK => ?_) AllReadyH.nil
      go_simp
      go_wp2_with fail
      refine (kv_get _ _ _ q key (HNv1.out.prs.ext hS)).mono ?_
      rintro e w26 ⟨rfl, hE⟩
      rw [W2.out]
      have hX := Mod.ext hS hE
      clear hE hS
      go_simp
      refine hK.out _ _ hX (fun hS => ?_)
      clear hK K hX
      refine wpAnyH_ready (rs := [10]) (by kernel_rfl) (by simp) ?_
      refine AllReadyH.cons rfl (fun K hK => ?_) AllReadyH.nil
      go_simp
      go_wp2_with fail
      refine (k_value ⟨1, y, ⟨#[]⟩⟩ ⟨1, y, ⟨#[]⟩⟩ _).mono ?_
      rintro e w27 ⟨rfl, hE⟩
      rw [eqVal_refl]
      have hX := Mod.ext hS hE
      clear hE hS
      go_simp
      refine hK.out _ _ hX (fun hS => ?_)
      clear hK K hX
      refine takeH (i := 11) (v := ?_) (some 110) rfl rfl (by kernel_rfl) (by kernel_rfl) (by kernel_rfl) (fun _ _ _ h => h) (Or.inl ⟨by kernel_rfl, ?_⟩) hS ?_
      rotate_left
      · rintro W' hW'
        obtain ⟨hbc, hbf⟩ := bcell hW'
        go_simp
        try with_reducible rfl
      try simp only [Act.put, List.setIfInBounds_toArray, List.set_cons_zero, List.set_cons_succ]
      refine takeH (i := 12) (v := ?_) (some 111) rfl rfl (by kernel_rfl) (by kernel_rfl) (by kernel_rfl) (fun _ _ _ h => h) (Or.inl ⟨by kernel_rfl, ?_⟩) hS ?_
      rotate_left
      · rintro W' hW'
        obtain ⟨hbc, hbf⟩ := bcell hW'
        go_simp
        try with_reducible rfl
      try simp only [Act.put, List.setIfInBounds_toArray, List.set_cons_zero, List.set_cons_succ]
      refine wpAnyH_done (by kernel_rfl) ?_ _
      have hE := hS
      clear hS
      clear t_0 t_1 t_2 t_l f_0 f_1 f_2 f_l r_0 r_1 r_2 r_3 r_l
      have Ktw27 := Lib.hid (hE.blk Ktw24.out id)
      have Kfw27 := Lib.hid (hE.blk Kfw24.out id)
      have Krw27 := Lib.hid (hE.blk Krw24.out id)
      replace HNp := Lib.hid (newP_mod HNp.out hE (fun _ _ => id))
      replace HNv1 := Lib.hid (newP_mod HNv1.out hE (fun _ _ => id))
      replace HX := Lib.hid (HX.out.ext hE)
      clear Ktw24
      clear Kfw24
      clear Krw24
      clear hE
      have t_0 : w27.cell? ⟨bt, 0, none⟩ = some _ := blk_cell (cs := [.int .i64 1, .float .f64 y, .string ⟨#[]⟩]) Ktw27.out rfl
      have t_1 : w27.cell? ⟨bt, 1, none⟩ = some _ := blk_cell (cs := [.int .i64 1, .float .f64 y, .string ⟨#[]⟩]) Ktw27.out rfl
      have t_2 : w27.cell? ⟨bt, 2, none⟩ = some _ := blk_cell (cs := [.int .i64 1, .float .f64 y, .string ⟨#[]⟩]) Ktw27.out rfl
      have t_l : bt < w27.heap.size := (Array.getElem?_eq_some_iff.1 Ktw27.out).1
      have f_0 : w27.cell? ⟨bf, 0, none⟩ = some _ := blk_cell (cs := [.int .i64 1, .float .f64 y, .string ⟨#[]⟩]) Kfw27.out rfl
      have f_1 : w27.cell? ⟨bf, 1, none⟩ = some _ := blk_cell (cs := [.int .i64 1, .float .f64 y, .string ⟨#[]⟩]) Kfw27.out rfl
      have f_2 : w27.cell? ⟨bf, 2, none⟩ = some _ := blk_cell (cs := [.int .i64 1, .float .f64 y, .string ⟨#[]⟩]) Kfw27.out rfl
      have f_l : bf < w27.heap.size := (Array.getElem?_eq_some_iff.1 Kfw27.out).1
      have r_0 : w27.cell? ⟨br, 0, none⟩ = some _ := blk_cell (cs := [.int .i64 r.code, .int .i64 r.val.kind, .float .f64 r.val.num, .string r.val.text]) Krw27.out rfl
      have r_1 : w27.cell? ⟨br, 1, none⟩ = some _ := blk_cell (cs := [.int .i64 r.code, .int .i64 r.val.kind, .float .f64 r.val.num, .string r.val.text]) Krw27.out rfl
      have r_2 : w27.cell? ⟨br, 2, none⟩ = some _ := blk_cell (cs := [.int .i64 r.code, .int .i64 r.val.kind, .float .f64 r.val.num, .string r.val.text]) Krw27.out rfl
      have r_3 : w27.cell? ⟨br, 3, none⟩ = some _ := blk_cell (cs := [.int .i64 r.code, .int .i64 r.val.kind, .float .f64 r.val.num, .string r.val.text]) Krw27.out rfl
      have r_l : br < w27.heap.size := (Array.getElem?_eq_some_iff.1 Krw27.out).1
      clear t_0 t_1 t_2 t_l f_0 f_1 f_2 f_l r_0 r_1 r_2 r_3 r_l
      go_wp2
      exact ⟨⟨i + 1, q, by omega, by go_num, HNv1.out, HQ.out, Hf.out, by rw [W2.out]; exact Ktw27.out, HX.out⟩, by simp [intOf]; omega⟩
    have nk : (t.kind == 0) = false := by simpa using hk0
    rcases hj : joinV false t ⟨1, y, ⟨#[]⟩⟩ with ⟨z, e⟩
    have hw : want1 false t ⟨1, y, ⟨#[]⟩⟩ = z := by unfold want1; rw [if_neg hk0, hj]
    have W1 : Hid (r.val = z) := Lib.hid (A1.out.trans hw)
    have W2 : Hid (getP q key = z) := Lib.hid (A2.out.trans hw)
    have HJ := Lib.hid hj
    clear hk0 hw hj
    go_wp2_with fail
    obtain ⟨w23, hw23⟩ : ∃ w23, w23 = w22.alloc (.cells #[.int .i64 r.code, .int .i64 r.val.kind, .float .f64 r.val.num, .string r.val.text] 33) := ⟨_, rfl⟩
    obtain ⟨br, hbr⟩ : ∃ br, br = w22.heap.size := ⟨_, rfl⟩
    have hzz : w22.heap.size = br := hbr.symm
    have hE : Ext w22 w23 := by rw [hw23]; exact (Mod.refl _ w22).alloc _
    have hKn : w23.heap[br]? = some (.cells #[.int .i64 r.code, .int .i64 r.val.kind, .float .f64 r.val.num, .string r.val.text] 33 (0, 0)) := by rw [hw23, ← hzz]; exact heap_alloc_new w22 _
    have hzn : w23.heap.size = br + 1 := by rw [hw23, ← hzz]; simp
    rw [← hw23, ← hbr]
    clear t_0 t_1 t_2 t_l f_0 f_1 f_2 f_l
    have HXo := HX
    have HYo := HY
    have Ktw23 := Lib.hid (hE.blk Ktw22.out id)
    have Kfw23 := Lib.hid (hE.blk Kfw22.out id)
    replace HNp := Lib.hid (newP_mod HNp.out hE (fun _ _ => id))
    replace HNv1 := Lib.hid (newP_mod HNv1.out hE (fun _ _ => id))
    replace HX := Lib.hid (HX.out.ext hE)
    replace HY := Lib.hid (HY.out.ext hE)
    clear Ktw22
    clear Kfw22
    have Krw23 := Lib.hid hKn
    have hbz : w.heap.size ≤ br := by have := HXo.out.size; omega
    have hcr : wr.heap.size ≤ br := by have := HYo.out.size; omega
    clear HYo
    clear hKn hE hw23 hbr HXo hzz
    have hbr := hbz
    clear hbz
    clear hzn
    refine (r_max5 t ⟨1, y, ⟨#[]⟩⟩ htn hyb w23).mono ?_
    rintro e w24 ⟨rfl, hE⟩
    have Ktw24 := Lib.hid (hE.blk Ktw23.out id)
    have Kfw24 := Lib.hid (hE.blk Kfw23.out id)
    have Krw24 := Lib.hid (hE.blk Krw23.out id)
    replace HNp := Lib.hid (newP_mod HNp.out hE (fun _ _ => id))
    replace HNv1 := Lib.hid (newP_mod HNv1.out hE (fun _ _ => id))
    replace HX := Lib.hid (HX.out.ext hE)
    replace HY := Lib.hid (HY.out.ext hE)
    clear Ktw23
    clear Kfw23
    clear Krw23
    rw [HJ.out]
    clear hE
    have t_0 : w24.cell? ⟨bt, 0, none⟩ = some _ := blk_cell (cs := [.int .i64 t.kind, .float .f64 t.num, .string t.text]) Ktw24.out rfl
    have t_1 : w24.cell? ⟨bt, 1, none⟩ = some _ := blk_cell (cs := [.int .i64 t.kind, .float .f64 t.num, .string t.text]) Ktw24.out rfl
    have t_2 : w24.cell? ⟨bt, 2, none⟩ = some _ := blk_cell (cs := [.int .i64 t.kind, .float .f64 t.num, .string t.text]) Ktw24.out rfl
    have t_l : bt < w24.heap.size := (Array.getElem?_eq_some_iff.1 Ktw24.out).1
    have f_0 : w24.cell? ⟨bf, 0, none⟩ = some _ := blk_cell (cs := [.int .i64 1, .float .f64 y, .string ⟨#[]⟩]) Kfw24.out rfl
    have f_1 : w24.cell? ⟨bf, 1, none⟩ = some _ := blk_cell (cs := [.int .i64 1, .float .f64 y, .string ⟨#[]⟩]) Kfw24.out rfl
    have f_2 : w24.cell? ⟨bf, 2, none⟩ = some _ := blk_cell (cs := [.int .i64 1, .float .f64 y, .string ⟨#[]⟩]) Kfw24.out rfl
    have f_l : bf < w24.heap.size := (Array.getElem?_eq_some_iff.1 Kfw24.out).1
    have r_0 : w24.cell? ⟨br, 0, none⟩ = some _ := blk_cell (cs := [.int .i64 r.code, .int .i64 r.val.kind, .float .f64 r.val.num, .string r.val.text]) Krw24.out rfl
    have r_1 : w24.cell? ⟨br, 1, none⟩ = some _ := blk_cell (cs := [.int .i64 r.code, .int .i64 r.val.kind, .float .f64 r.val.num, .string r.val.text]) Krw24.out rfl
    have r_2 : w24.cell? ⟨br, 2, none⟩ = some _ := blk_cell (cs := [.int .i64 r.code, .int .i64 r.val.kind, .float .f64 r.val.num, .string r.val.text]) Krw24.out rfl
    have r_3 : w24.cell? ⟨br, 3, none⟩ = some _ := blk_cell (cs := [.int .i64 r.code, .int .i64 r.val.kind, .float .f64 r.val.num, .string r.val.text]) Krw24.out rfl
    have r_l : br < w24.heap.size := (Array.getElem?_eq_some_iff.1 Krw24.out).1
    have fz0 := blk_free 0 Ktw24.out
    have fz1 := blk_free 1 Ktw24.out
    have fz2 := blk_free 2 Ktw24.out
    go_wp2_with fail
    clear t_0 t_1 t_2 t_l f_0 f_1 f_2 f_l r_0 r_1 r_2 r_3 r_l
    clear fz0 fz1 fz2
    obtain ⟨w25, hw25⟩ : ∃ w25, (((w24.setCell ⟨bt, 0, none⟩ (.int .i64 z.kind)).setCell ⟨bt, 1, none⟩ (.float .f64 z.num)).setCell ⟨bt, 2, none⟩ (.string z.text)) = w25 := ⟨_, rfl⟩
    have hKn : w25.heap[bt]? = some (.cells #[.int .i64 z.kind, .float .f64 z.num, .string z.text] 25 (0, 0)) := by rw [← hw25]; exact val_set z Ktw24.out
    have hM : Mod (fun k => k = bt) w24 w25 := by rw [← hw25]; exact val_set_mod _ _ _ _ _
    rw [hw25]
    have Ktw25 := Lib.hid hKn
    have Kfw25 := Lib.hid (hM.blk Kfw24.out (by omega))
    have Krw25 := Lib.hid (hM.blk Krw24.out (by omega))
    replace HNp := Lib.hid (newP_mod HNp.out hM (fun g hg e => Hpt.out g hg e))
    replace HNv1 := Lib.hid (newP_mod HNv1.out hM (fun g hg e => Hf.out g hg e))
    replace HX : Hid (Ext w w25) := Lib.hid (Mod.toExt ((Ext.mod HX.out (Since w.heap.size)).trans hM (fun k _ e => by rw [e]; exact hbt)))
    clear hKn hM hw25
    clear Ktw24
    clear Kfw24
    clear Krw24
    have t_0 : w25.cell? ⟨bt, 0, none⟩ = some _ := blk_cell (cs := [.int .i64 z.kind, .float .f64 z.num, .string z.text]) Ktw25.out rfl
    have t_1 : w25.cell? ⟨bt, 1, none⟩ = some _ := blk_cell (cs := [.int .i64 z.kind, .float .f64 z.num, .string z.text]) Ktw25.out rfl
    have t_2 : w25.cell? ⟨bt, 2, none⟩ = some _ := blk_cell (cs := [.int .i64 z.kind, .float .f64 z.num, .string z.text]) Ktw25.out rfl
    have t_l : bt < w25.heap.size := (Array.getElem?_eq_some_iff.1 Ktw25.out).1
    have f_0 : w25.cell? ⟨bf, 0, none⟩ = some _ := blk_cell (cs := [.int .i64 1, .float .f64 y, .string ⟨#[]⟩]) Kfw25.out rfl
    have f_1 : w25.cell? ⟨bf, 1, none⟩ = some _ := blk_cell (cs := [.int .i64 1, .float .f64 y, .string ⟨#[]⟩]) Kfw25.out rfl
    have f_2 : w25.cell? ⟨bf, 2, none⟩ = some _ := blk_cell (cs := [.int .i64 1, .float .f64 y, .string ⟨#[]⟩]) Kfw25.out rfl
    have f_l : bf < w25.heap.size := (Array.getElem?_eq_some_iff.1 Kfw25.out).1
    have r_0 : w25.cell? ⟨br, 0, none⟩ = some _ := blk_cell (cs := [.int .i64 r.code, .int .i64 r.val.kind, .float .f64 r.val.num, .string r.val.text]) Krw25.out rfl
    have r_1 : w25.cell? ⟨br, 1, none⟩ = some _ := blk_cell (cs := [.int .i64 r.code, .int .i64 r.val.kind, .float .f64 r.val.num, .string r.val.text]) Krw25.out rfl
    have r_2 : w25.cell? ⟨br, 2, none⟩ = some _ := blk_cell (cs := [.int .i64 r.code, .int .i64 r.val.kind, .float .f64 r.val.num, .string r.val.text]) Krw25.out rfl
    have r_3 : w25.cell? ⟨br, 3, none⟩ = some _ := blk_cell (cs := [.int .i64 r.code, .int .i64 r.val.kind, .float .f64 r.val.num, .string r.val.text]) Krw25.out rfl
    have r_l : br < w25.heap.size := (Array.getElem?_eq_some_iff.1 Krw25.out).1
    go_wp2_with fail
    clear t_0 t_1 t_2 t_l f_0 f_1 f_2 f_l r_0 r_1 r_2 r_3 r_l
    have t_0 : w25.cell? ⟨bt, 0, none⟩ = some _ := blk_cell (cs := [.int .i64 z.kind, .float .f64 z.num, .string z.text]) Ktw25.out rfl
    have t_1 : w25.cell? ⟨bt, 1, none⟩ = some _ := blk_cell (cs := [.int .i64 z.kind, .float .f64 z.num, .string z.text]) Ktw25.out rfl
    have t_2 : w25.cell? ⟨bt, 2, none⟩ = some _ := blk_cell (cs := [.int .i64 z.kind, .float .f64 z.num, .string z.text]) Ktw25.out rfl
    have t_l : bt < w25.heap.size := (Array.getElem?_eq_some_iff.1 Ktw25.out).1
    have f_0 : w25.cell? ⟨bf, 0, none⟩ = some _ := blk_cell (cs := [.int .i64 1, .float .f64 y, .string ⟨#[]⟩]) Kfw25.out rfl
    have f_1 : w25.cell? ⟨bf, 1, none⟩ = some _ := blk_cell (cs := [.int .i64 1, .float .f64 y, .string ⟨#[]⟩]) Kfw25.out rfl
    have f_2 : w25.cell? ⟨bf, 2, none⟩ = some _ := blk_cell (cs := [.int .i64 1, .float .f64 y, .string ⟨#[]⟩]) Kfw25.out rfl
    have f_l : bf < w25.heap.size := (Array.getElem?_eq_some_iff.1 Kfw25.out).1
    have r_0 : w25.cell? ⟨br, 0, none⟩ = some _ := blk_cell (cs := [.int .i64 r.code, .int .i64 r.val.kind, .float .f64 r.val.num, .string r.val.text]) Krw25.out rfl
    have r_1 : w25.cell? ⟨br, 1, none⟩ = some _ := blk_cell (cs := [.int .i64 r.code, .int .i64 r.val.kind, .float .f64 r.val.num, .string r.val.text]) Krw25.out rfl
    have r_2 : w25.cell? ⟨br, 2, none⟩ = some _ := blk_cell (cs := [.int .i64 r.code, .int .i64 r.val.kind, .float .f64 r.val.num, .string r.val.text]) Krw25.out rfl
    have r_3 : w25.cell? ⟨br, 3, none⟩ = some _ := blk_cell (cs := [.int .i64 r.code, .int .i64 r.val.kind, .float .f64 r.val.num, .string r.val.text]) Krw25.out rfl
    have r_l : br < w25.heap.size := (Array.getElem?_eq_some_iff.1 Krw25.out).1
    refine wp_region_held_drew (S := fun W' => Ext w25 W') (by kernel_rfl) (Mod.refl _ w25).drew (fun hS => ?_)
    refine takeH (i := 0) (v := ?_) (some 99) rfl rfl (by kernel_rfl) (by kernel_rfl) (by kernel_rfl) (fun _ _ _ h => h) (Or.inl ⟨by kernel_rfl, ?_⟩) hS ?_
    rotate_left
    · rintro W' hW'
      obtain ⟨hbc, hbf⟩ := bcell hW'
      go_simp
      try with_reducible rfl
    try simp only [Act.put, List.setIfInBounds_toArray, List.set_cons_zero, List.set_cons_succ]
    refine takeH (i := 1) (v := ?_) (some 100) rfl rfl (by kernel_rfl) (by kernel_rfl) (by kernel_rfl) (fun _ _ _ h => h) (Or.inl ⟨by kernel_rfl, ?_⟩) hS ?_
    rotate_left
    · rintro W' hW'
      obtain ⟨hbc, hbf⟩ := bcell hW'
      go_simp
      try with_reducible rfl
    try simp only [Act.put, List.setIfInBounds_toArray, List.set_cons_zero, List.set_cons_succ]
    refine takeH (i := 2) (v := ?_) (some 101) rfl rfl (by kernel_rfl) (by kernel_rfl) (by kernel_rfl) (fun _ _ _ h => h) (Or.inl ⟨by kernel_rfl, ?_⟩) hS ?_
    rotate_left
    · rintro W' hW'
      obtain ⟨hbc, hbf⟩ := bcell hW'
      go_simp
      try with_reducible rfl
    try simp only [Act.put, List.setIfInBounds_toArray, List.set_cons_zero, List.set_cons_succ]
    refine wpAnyH_ready (rs := [3]) (by kernel_rfl) (by simp) ?_
    refine AllReadyH.cons rfl (fun K hK => ?_) AllReadyH.nil
    go_simp
    go_wp2_with fail
    refine (k_value r.val z _).mono ?_
    rintro e w26 ⟨rfl, hE⟩
    rw [show eqVal r.val z = true by rw [W1.out]; exact eqVal_refl _]
    have hX := Mod.ext hS hE
    clear hE hS
    go_simp
    refine hK.out _ _ hX (fun hS => ?_)
    clear hK K hX
    refine takeH (i := 4) (v := ?_) (some 103) rfl rfl (by kernel_rfl) (by kernel_rfl) (by kernel_rfl) (fun _ _ _ h => h) (Or.inl ⟨by kernel_rfl, ?_⟩) hS ?_
    rotate_left
    · rintro W' hW'
      obtain ⟨hbc, hbf⟩ := bcell hW'
      go_simp
      try with_reducible rfl
    try simp only [Act.put, List.setIfInBounds_toArray, List.set_cons_zero, List.set_cons_succ]
    refine takeH (i := 5) (v := ?_) (some 104) rfl rfl (by kernel_rfl) (by kernel_rfl) (by kernel_rfl) (fun _ _ _ h => h) (Or.inl ⟨by kernel_rfl, ?_⟩) hS ?_
    rotate_left
    · rintro W' hW'
      obtain ⟨hbc, hbf⟩ := bcell hW'
      go_simp
      try with_reducible rfl
    try simp only [Act.put, List.setIfInBounds_toArray, List.set_cons_zero, List.set_cons_succ]
    refine takeH (i := 6) (v := ?_) (some 105) rfl rfl (by kernel_rfl) (by kernel_rfl) (by kernel_rfl) (fun _ _ _ h => h) (Or.inl ⟨by kernel_rfl, ?_⟩) hS ?_
    rotate_left
    · rintro W' hW'
      obtain ⟨hbc, hbf⟩ := bcell hW'
      go_simp
      try with_reducible rfl
    try simp only [Act.put, List.setIfInBounds_toArray, List.set_cons_zero, List.set_cons_succ]
    refine takeH (i := 7) (v := ?_) (some 106) rfl rfl (by kernel_rfl) (by kernel_rfl) (by kernel_rfl) (fun _ _ _ h => h) (Or.inl ⟨by kernel_rfl, ?_⟩) hS ?_
    rotate_left
    · rintro W' hW'
      obtain ⟨hbc, hbf⟩ := bcell hW'
      go_simp
      try with_reducible rfl
    try simp only [Act.put, List.setIfInBounds_toArray, List.set_cons_zero, List.set_cons_succ]
    refine takeH (i := 9) (v := ?_) (some 108) rfl rfl (by kernel_rfl) (by kernel_rfl) (by kernel_rfl) (fun _ _ _ h => h) (Or.inl ⟨by kernel_rfl, ?_⟩) hS ?_
    rotate_left
    · rintro W' hW'
      obtain ⟨hbc, hbf⟩ := bcell hW'
      go_simp
      try with_reducible rfl
    try simp only [Act.put, List.setIfInBounds_toArray, List.set_cons_zero, List.set_cons_succ]
    refine wpAnyH_ready (rs := [8]) (by kernel_rfl) (by simp) ?_
    refine AllReadyH.cons rfl (fun K hK => ?_) AllReadyH.nil
    go_simp
    go_wp2_with fail
    refine (kv_get _ _ _ q key (HNv1.out.prs.ext hS)).mono ?_
    rintro e w27 ⟨rfl, hE⟩
    rw [W2.out]
    have hX := Mod.ext hS hE
    clear hE hS
    go_simp
    refine hK.out _ _ hX (fun hS => ?_)
    clear hK K hX
    refine wpAnyH_ready (rs := [10]) (by kernel_rfl) (by simp) ?_
    refine AllReadyH.cons rfl (fun K hK => ?_) AllReadyH.nil
    go_simp
    go_wp2_with fail
    refine (k_value z z _).mono ?_
    rintro e w28 ⟨rfl, hE⟩
    rw [eqVal_refl]
    have hX := Mod.ext hS hE
    clear hE hS
    go_simp
    refine hK.out _ _ hX (fun hS => ?_)
    clear hK K hX
    refine takeH (i := 11) (v := ?_) (some 110) rfl rfl (by kernel_rfl) (by kernel_rfl) (by kernel_rfl) (fun _ _ _ h => h) (Or.inl ⟨by kernel_rfl, ?_⟩) hS ?_
    rotate_left
    · rintro W' hW'
      obtain ⟨hbc, hbf⟩ := bcell hW'
      go_simp
      try with_reducible rfl
    try simp only [Act.put, List.setIfInBounds_toArray, List.set_cons_zero, List.set_cons_succ]
    refine takeH (i := 12) (v := ?_) (some 111) rfl rfl (by kernel_rfl) (by kernel_rfl) (by kernel_rfl) (fun _ _ _ h => h) (Or.inl ⟨by kernel_rfl, ?_⟩) hS ?_
    rotate_left
    · rintro W' hW'
      obtain ⟨hbc, hbf⟩ := bcell hW'
      go_simp
      try with_reducible rfl
    try simp only [Act.put, List.setIfInBounds_toArray, List.set_cons_zero, List.set_cons_succ]
    refine wpAnyH_done (by kernel_rfl) ?_ _
    have hE := hS
    clear hS
    clear t_0 t_1 t_2 t_l f_0 f_1 f_2 f_l r_0 r_1 r_2 r_3 r_l
    have Ktw28 := Lib.hid (hE.blk Ktw25.out id)
    have Kfw28 := Lib.hid (hE.blk Kfw25.out id)
    have Krw28 := Lib.hid (hE.blk Krw25.out id)
    replace HNp := Lib.hid (newP_mod HNp.out hE (fun _ _ => id))
    replace HNv1 := Lib.hid (newP_mod HNv1.out hE (fun _ _ => id))
    replace HX := Lib.hid (HX.out.ext hE)
    clear Ktw25
    clear Kfw25
    clear Krw25
    clear hE
    have t_0 : w28.cell? ⟨bt, 0, none⟩ = some _ := blk_cell (cs := [.int .i64 z.kind, .float .f64 z.num, .string z.text]) Ktw28.out rfl
    have t_1 : w28.cell? ⟨bt, 1, none⟩ = some _ := blk_cell (cs := [.int .i64 z.kind, .float .f64 z.num, .string z.text]) Ktw28.out rfl
    have t_2 : w28.cell? ⟨bt, 2, none⟩ = some _ := blk_cell (cs := [.int .i64 z.kind, .float .f64 z.num, .string z.text]) Ktw28.out rfl
    have t_l : bt < w28.heap.size := (Array.getElem?_eq_some_iff.1 Ktw28.out).1
    have f_0 : w28.cell? ⟨bf, 0, none⟩ = some _ := blk_cell (cs := [.int .i64 1, .float .f64 y, .string ⟨#[]⟩]) Kfw28.out rfl
    have f_1 : w28.cell? ⟨bf, 1, none⟩ = some _ := blk_cell (cs := [.int .i64 1, .float .f64 y, .string ⟨#[]⟩]) Kfw28.out rfl
    have f_2 : w28.cell? ⟨bf, 2, none⟩ = some _ := blk_cell (cs := [.int .i64 1, .float .f64 y, .string ⟨#[]⟩]) Kfw28.out rfl
    have f_l : bf < w28.heap.size := (Array.getElem?_eq_some_iff.1 Kfw28.out).1
    have r_0 : w28.cell? ⟨br, 0, none⟩ = some _ := blk_cell (cs := [.int .i64 r.code, .int .i64 r.val.kind, .float .f64 r.val.num, .string r.val.text]) Krw28.out rfl
    have r_1 : w28.cell? ⟨br, 1, none⟩ = some _ := blk_cell (cs := [.int .i64 r.code, .int .i64 r.val.kind, .float .f64 r.val.num, .string r.val.text]) Krw28.out rfl
    have r_2 : w28.cell? ⟨br, 2, none⟩ = some _ := blk_cell (cs := [.int .i64 r.code, .int .i64 r.val.kind, .float .f64 r.val.num, .string r.val.text]) Krw28.out rfl
    have r_3 : w28.cell? ⟨br, 3, none⟩ = some _ := blk_cell (cs := [.int .i64 r.code, .int .i64 r.val.kind, .float .f64 r.val.num, .string r.val.text]) Krw28.out rfl
    have r_l : br < w28.heap.size := (Array.getElem?_eq_some_iff.1 Krw28.out).1
    clear t_0 t_1 t_2 t_l f_0 f_1 f_2 f_l r_0 r_1 r_2 r_3 r_l
    go_wp2
    exact ⟨⟨i + 1, q, by omega, by go_num, HNv1.out, HQ.out, Hf.out, by rw [W2.out]; exact Ktw28.out, HX.out⟩, by simp [intOf]; omega⟩
theorem kvAdds_a (w : World) (v0 v2 : Value) (l : List ACmd) (key : ByteArray) (xs : List Nat) (add : Bool) (hC : Cms w (fun g => g < w.heap.size) v0 l) (_ : key.size ≤ maxLen)
    (hXs : Sl w (fun g => g < w.heap.size) 1 v2 xs.length (xs.map (Value.float .f64))) (hxb : ∀ y ∈ xs, y < 18446744073709551616) :
    Calls Try.prog 6 #[v0, .string key, v2, .bool add] w fun e w' => e = .returned (.bool true) ∧ Below w.heap.size w w' := by
  obtain ⟨A, cc, rfl⟩ := hC.form
  obtain ⟨_, AX, cx, rfl, _⟩ := id hXs
  cases add
  · exact kvAdds_false w _ A _ cc l hC rfl key _ AX _ cx xs hXs hxb
  · exact kvAdds_true w _ A _ cc l hC rfl key _ AX _ cx xs hXs hxb
end Go.Proofs.Ythhjaneadbkccaa
