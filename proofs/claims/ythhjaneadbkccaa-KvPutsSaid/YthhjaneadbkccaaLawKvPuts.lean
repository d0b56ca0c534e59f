/-
  The walk of KvPuts. Conditions: as the theorem names them.
-/
import Derived.Test.YthhjaneadbkccaaKvMore
namespace Go.Proofs.Ythhjaneadbkccaa
set_option linter.unusedSimpArgs false
open Go.RowKit

set_option maxRecDepth 100000 in
set_option maxHeartbeats 1000000 in
theorem kvPuts_walk (w : World) (T : Nat → Prop) (A : Option Addr) (n cc : Nat) (l : List ACmd) (hC : Cms w T (.slice A n cc) l) (hn : l.length = n) (key : ByteArray) (v : AVal) (hv : v.ok) :
    Calls Try.prog 4 #[.slice A n cc, .string key, .agg #[.int .i64 v.kind, .float .f64 v.num, .string v.text]] w fun e w' => e = .returned (.bool true) ∧ Below w.heap.size w w' := by
  have hl := hC.1.le
  rw [hn] at hl
  unfold maxLen at hl
  by_cases h0 : 1000 < n
  · have d0 : decide ((n : Int) > 1000) = true := by simp; omega
    go_enter Try.func4, Try.ntmps4
    go_wp2
    go_ret
    exact ⟨rfl, Ext.below (Mod.alloc (Mod.refl _ w) _)⟩
  have d0 : decide ((n : Int) > 1000) = false := by simp; omega
  by_cases h1 : 2000 < key.size
  · have d1 : decide ((key.size : Int) > 2000) = true := by simp; omega
    go_enter Try.func4, Try.ntmps4
    go_wp2
    go_ret
    exact ⟨rfl, Ext.below (Mod.alloc (Mod.refl _ w) _)⟩
  have d1 : decide ((key.size : Int) > 2000) = false := by simp; omega
  by_cases h2 : 2000 < v.text.size
  · have d2 : decide ((v.text.size : Int) > 2000) = true := by simp; omega
    go_enter Try.func4, Try.ntmps4
    go_wp2
    go_ret
    exact ⟨rfl, Ext.below (Mod.alloc (Mod.refl _ w) _)⟩
  have d2 : decide ((v.text.size : Int) > 2000) = false := by simp; omega
  have HX : Hid (Ext w w) := Lib.hid (Mod.refl _ w)
  have HC := Lib.hid hC
  clear hC
  go_enter Try.func4, Try.ntmps4
  go_wp2_with fail
  obtain ⟨w1, hw1⟩ : ∃ w1, w1 = w.alloc (.cells #[.int .i64 v.kind, .float .f64 v.num, .string v.text] 25) := ⟨_, rfl⟩
  obtain ⟨bv, hbv⟩ : ∃ bv, bv = w.heap.size := ⟨_, rfl⟩
  have hzz : w.heap.size = bv := hbv.symm
  have hE : Ext w w1 := by rw [hw1]; exact (Mod.refl _ w).alloc _
  have hKn : w1.heap[bv]? = some (.cells #[.int .i64 v.kind, .float .f64 v.num, .string v.text] 25 (0, 0)) := by rw [hw1, ← hzz]; exact heap_alloc_new w _
  have hzn : w1.heap.size = bv + 1 := by rw [hw1, ← hzz]; simp
  rw [← hw1, ← hbv]
  have HXo := HX
  replace HC := Lib.hid (HC.out.ext hE)
  replace HX := Lib.hid (HX.out.ext hE)
  have Kvw1 := Lib.hid hKn
  have hbz : w.heap.size ≤ bv := by have := HXo.out.size; omega
  clear hKn hE hw1 hbv HXo hzz
  have hbv := hbz
  clear hbz
  clear hzn
  refine (l_grown w1 T _ l HC.out (by omega)).mono ?_
  rintro e w2 ⟨v7, p, rfl, hN, hp, hE⟩
  have Kvw2 := Lib.hid (hE.blk Kvw1.out id)
  replace HC := Lib.hid (HC.out.ext hE)
  replace HX := Lib.hid (HX.out.ext hE)
  clear Kvw1
  obtain ⟨A7, c7, rfl⟩ := own_form hN.1
  have HN7 := Lib.hid hN
  have Hp := Lib.hid hp
  clear hN hp
  clear hE
  have v_0 : w2.cell? ⟨bv, 0, none⟩ = some _ := blk_cell (cs := [.int .i64 v.kind, .float .f64 v.num, .string v.text]) Kvw2.out rfl
  have v_1 : w2.cell? ⟨bv, 1, none⟩ = some _ := blk_cell (cs := [.int .i64 v.kind, .float .f64 v.num, .string v.text]) Kvw2.out rfl
  have v_2 : w2.cell? ⟨bv, 2, none⟩ = some _ := blk_cell (cs := [.int .i64 v.kind, .float .f64 v.num, .string v.text]) Kvw2.out rfl
  have v_l : bv < w2.heap.size := (Array.getElem?_eq_some_iff.1 Kvw2.out).1
  go_wp2_with fail
  refine (kv_get w2 _ _ p key HN7.out.prs).mono ?_
  rintro e w3 ⟨rfl, hE⟩
  clear v_0 v_1 v_2 v_l
  have Kvw3 := Lib.hid (hE.blk Kvw2.out id)
  replace HC := Lib.hid (HC.out.ext hE)
  replace HN7 := Lib.hid (newP_mod HN7.out hE (fun _ _ => id))
  replace HX := Lib.hid (HX.out.ext hE)
  clear Kvw2
  obtain ⟨g, hg⟩ : ∃ g, getP p key = g := ⟨_, rfl⟩
  rw [hg]
  have HG := Lib.hid hg
  clear hg
  clear hE
  have v_0 : w3.cell? ⟨bv, 0, none⟩ = some _ := blk_cell (cs := [.int .i64 v.kind, .float .f64 v.num, .string v.text]) Kvw3.out rfl
  have v_1 : w3.cell? ⟨bv, 1, none⟩ = some _ := blk_cell (cs := [.int .i64 v.kind, .float .f64 v.num, .string v.text]) Kvw3.out rfl
  have v_2 : w3.cell? ⟨bv, 2, none⟩ = some _ := blk_cell (cs := [.int .i64 v.kind, .float .f64 v.num, .string v.text]) Kvw3.out rfl
  have v_l : bv < w3.heap.size := (Array.getElem?_eq_some_iff.1 Kvw3.out).1
  go_wp2_with fail
  obtain ⟨w4, hw4⟩ : ∃ w4, w4 = w3.alloc (.cells #[.int .i64 g.kind, .float .f64 g.num, .string g.text] 25) := ⟨_, rfl⟩
  obtain ⟨bg, hbg⟩ : ∃ bg, bg = w3.heap.size := ⟨_, rfl⟩
  have hzz : w3.heap.size = bg := hbg.symm
  have hE : Ext w3 w4 := by rw [hw4]; exact (Mod.refl _ w3).alloc _
  have hKn : w4.heap[bg]? = some (.cells #[.int .i64 g.kind, .float .f64 g.num, .string g.text] 25 (0, 0)) := by rw [hw4, ← hzz]; exact heap_alloc_new w3 _
  have hzn : w4.heap.size = bg + 1 := by rw [hw4, ← hzz]; simp
  rw [← hw4, ← hbg]
  clear v_0 v_1 v_2 v_l
  have HXo := HX
  have Kvw4 := Lib.hid (hE.blk Kvw3.out id)
  replace HC := Lib.hid (HC.out.ext hE)
  replace HN7 := Lib.hid (newP_mod HN7.out hE (fun _ _ => id))
  replace HX := Lib.hid (HX.out.ext hE)
  clear Kvw3
  have Kgw4 := Lib.hid hKn
  have hbz : w.heap.size ≤ bg := by have := HXo.out.size; omega
  clear hKn hE hw4 hbg HXo hzz
  have hbg := hbz
  clear hbz
  clear hzn
  have hso := HX.out.size
  rcases hr : doP p ⟨2, key, AVal.zero, v⟩ with ⟨q, r⟩
  refine (kv_Do_at w4 _ _ p ⟨2, key, AVal.zero, v⟩ HN7.out.prs (by have := right_len Hp.out; omega) hv hr).mono ?_
  rintro e w5 ⟨v1, rfl, hN, hE⟩
  have Kvw5 := Lib.hid (hE.blk Kvw4.out id)
  have Kgw5 := Lib.hid (hE.blk Kgw4.out id)
  replace HC := Lib.hid (HC.out.ext hE)
  replace HN7 := Lib.hid (newP_mod HN7.out hE (fun _ _ => id))
  replace HX := Lib.hid (HX.out.ext hE)
  clear Kvw4
  clear Kgw4
  obtain ⟨Av1, cv1, rfl⟩ := own_form hN.1
  have HNv1 := Lib.hid (newP_up hN hso)
  clear hN hso
  have HEr := Lib.hid hr
  clear hr
  clear hE
  have v_0 : w5.cell? ⟨bv, 0, none⟩ = some _ := blk_cell (cs := [.int .i64 v.kind, .float .f64 v.num, .string v.text]) Kvw5.out rfl
  have v_1 : w5.cell? ⟨bv, 1, none⟩ = some _ := blk_cell (cs := [.int .i64 v.kind, .float .f64 v.num, .string v.text]) Kvw5.out rfl
  have v_2 : w5.cell? ⟨bv, 2, none⟩ = some _ := blk_cell (cs := [.int .i64 v.kind, .float .f64 v.num, .string v.text]) Kvw5.out rfl
  have v_l : bv < w5.heap.size := (Array.getElem?_eq_some_iff.1 Kvw5.out).1
  have g_0 : w5.cell? ⟨bg, 0, none⟩ = some _ := blk_cell (cs := [.int .i64 g.kind, .float .f64 g.num, .string g.text]) Kgw5.out rfl
  have g_1 : w5.cell? ⟨bg, 1, none⟩ = some _ := blk_cell (cs := [.int .i64 g.kind, .float .f64 g.num, .string g.text]) Kgw5.out rfl
  have g_2 : w5.cell? ⟨bg, 2, none⟩ = some _ := blk_cell (cs := [.int .i64 g.kind, .float .f64 g.num, .string g.text]) Kgw5.out rfl
  have g_l : bg < w5.heap.size := (Array.getElem?_eq_some_iff.1 Kgw5.out).1
  by_cases h0 : r.code = 0
  case neg =>
    have n0 : (r.code != 0) = true := by simpa using h0
    have hq : q = p := by
      have := (do_no (l := p) (c := ⟨2, key, AVal.zero, v⟩) (by rw [HEr.out]; exact h0)).1
      rw [HEr.out] at this
      exact this
    have Hq := Lib.hid hq
    clear h0 hq
    go_wp2_with fail
    obtain ⟨w6, hw6⟩ : ∃ w6, w6 = w5.alloc (.cells #[.int .i64 r.code, .int .i64 r.val.kind, .float .f64 r.val.num, .string r.val.text] 33) := ⟨_, rfl⟩
    obtain ⟨br, hbr⟩ : ∃ br, br = w5.heap.size := ⟨_, rfl⟩
    have hzz : w5.heap.size = br := hbr.symm
    have hE : Ext w5 w6 := by rw [hw6]; exact (Mod.refl _ w5).alloc _
    have hKn : w6.heap[br]? = some (.cells #[.int .i64 r.code, .int .i64 r.val.kind, .float .f64 r.val.num, .string r.val.text] 33 (0, 0)) := by rw [hw6, ← hzz]; exact heap_alloc_new w5 _
    have hzn : w6.heap.size = br + 1 := by rw [hw6, ← hzz]; simp
    rw [← hw6, ← hbr]
    clear v_0 v_1 v_2 v_l g_0 g_1 g_2 g_l
    have HXo := HX
    have Kvw6 := Lib.hid (hE.blk Kvw5.out id)
    have Kgw6 := Lib.hid (hE.blk Kgw5.out id)
    replace HC := Lib.hid (HC.out.ext hE)
    replace HN7 := Lib.hid (newP_mod HN7.out hE (fun _ _ => id))
    replace HNv1 := Lib.hid (newP_mod HNv1.out hE (fun _ _ => id))
    replace HX := Lib.hid (HX.out.ext hE)
    clear Kvw5
    clear Kgw5
    have Krw6 := Lib.hid hKn
    have hbz : w.heap.size ≤ br := by have := HXo.out.size; omega
    clear hKn hE hw6 hbr HXo hzz
    have hbr := hbz
    clear hbz
    clear hzn
    refine (k_pairs w6 _ _ _ _ p q HN7.out.prs HNv1.out.prs).mono ?_
    rintro e w7 ⟨rfl, hE⟩
    have Kvw7 := Lib.hid (hE.blk Kvw6.out id)
    have Kgw7 := Lib.hid (hE.blk Kgw6.out id)
    have Krw7 := Lib.hid (hE.blk Krw6.out id)
    replace HC := Lib.hid (HC.out.ext hE)
    replace HN7 := Lib.hid (newP_mod HN7.out hE (fun _ _ => id))
    replace HNv1 := Lib.hid (newP_mod HNv1.out hE (fun _ _ => id))
    replace HX := Lib.hid (HX.out.ext hE)
    clear Kvw6
    clear Kgw6
    clear Krw6
    rw [show eqPrs p q = true by rw [Hq.out]; exact eqPrs_refl _]
    clear hE
    have v_0 : w7.cell? ⟨bv, 0, none⟩ = some _ := blk_cell (cs := [.int .i64 v.kind, .float .f64 v.num, .string v.text]) Kvw7.out rfl
    have v_1 : w7.cell? ⟨bv, 1, none⟩ = some _ := blk_cell (cs := [.int .i64 v.kind, .float .f64 v.num, .string v.text]) Kvw7.out rfl
    have v_2 : w7.cell? ⟨bv, 2, none⟩ = some _ := blk_cell (cs := [.int .i64 v.kind, .float .f64 v.num, .string v.text]) Kvw7.out rfl
    have v_l : bv < w7.heap.size := (Array.getElem?_eq_some_iff.1 Kvw7.out).1
    have g_0 : w7.cell? ⟨bg, 0, none⟩ = some _ := blk_cell (cs := [.int .i64 g.kind, .float .f64 g.num, .string g.text]) Kgw7.out rfl
    have g_1 : w7.cell? ⟨bg, 1, none⟩ = some _ := blk_cell (cs := [.int .i64 g.kind, .float .f64 g.num, .string g.text]) Kgw7.out rfl
    have g_2 : w7.cell? ⟨bg, 2, none⟩ = some _ := blk_cell (cs := [.int .i64 g.kind, .float .f64 g.num, .string g.text]) Kgw7.out rfl
    have g_l : bg < w7.heap.size := (Array.getElem?_eq_some_iff.1 Kgw7.out).1
    have r_0 : w7.cell? ⟨br, 0, none⟩ = some _ := blk_cell (cs := [.int .i64 r.code, .int .i64 r.val.kind, .float .f64 r.val.num, .string r.val.text]) Krw7.out rfl
    have r_1 : w7.cell? ⟨br, 1, none⟩ = some _ := blk_cell (cs := [.int .i64 r.code, .int .i64 r.val.kind, .float .f64 r.val.num, .string r.val.text]) Krw7.out rfl
    have r_2 : w7.cell? ⟨br, 2, none⟩ = some _ := blk_cell (cs := [.int .i64 r.code, .int .i64 r.val.kind, .float .f64 r.val.num, .string r.val.text]) Krw7.out rfl
    have r_3 : w7.cell? ⟨br, 3, none⟩ = some _ := blk_cell (cs := [.int .i64 r.code, .int .i64 r.val.kind, .float .f64 r.val.num, .string r.val.text]) Krw7.out rfl
    have r_l : br < w7.heap.size := (Array.getElem?_eq_some_iff.1 Krw7.out).1
    go_wp2_with fail
    refine (l_wakes w7).mono ?_
    rintro e w8 ⟨rfl, hE⟩
    clear v_0 v_1 v_2 v_l g_0 g_1 g_2 g_l r_0 r_1 r_2 r_3 r_l
    have Kvw8 := Lib.hid (hE.blk Kvw7.out id)
    have Kgw8 := Lib.hid (hE.blk Kgw7.out id)
    have Krw8 := Lib.hid (hE.blk Krw7.out id)
    replace HC := Lib.hid (HC.out.ext hE)
    replace HN7 := Lib.hid (newP_mod HN7.out hE (fun _ _ => id))
    replace HNv1 := Lib.hid (newP_mod HNv1.out hE (fun _ _ => id))
    replace HX := Lib.hid (HX.out.ext hE)
    clear Kvw7
    clear Kgw7
    clear Krw7
    clear hE
    have v_0 : w8.cell? ⟨bv, 0, none⟩ = some _ := blk_cell (cs := [.int .i64 v.kind, .float .f64 v.num, .string v.text]) Kvw8.out rfl
    have v_1 : w8.cell? ⟨bv, 1, none⟩ = some _ := blk_cell (cs := [.int .i64 v.kind, .float .f64 v.num, .string v.text]) Kvw8.out rfl
    have v_2 : w8.cell? ⟨bv, 2, none⟩ = some _ := blk_cell (cs := [.int .i64 v.kind, .float .f64 v.num, .string v.text]) Kvw8.out rfl
    have v_l : bv < w8.heap.size := (Array.getElem?_eq_some_iff.1 Kvw8.out).1
    have g_0 : w8.cell? ⟨bg, 0, none⟩ = some _ := blk_cell (cs := [.int .i64 g.kind, .float .f64 g.num, .string g.text]) Kgw8.out rfl
    have g_1 : w8.cell? ⟨bg, 1, none⟩ = some _ := blk_cell (cs := [.int .i64 g.kind, .float .f64 g.num, .string g.text]) Kgw8.out rfl
    have g_2 : w8.cell? ⟨bg, 2, none⟩ = some _ := blk_cell (cs := [.int .i64 g.kind, .float .f64 g.num, .string g.text]) Kgw8.out rfl
    have g_l : bg < w8.heap.size := (Array.getElem?_eq_some_iff.1 Kgw8.out).1
    have r_0 : w8.cell? ⟨br, 0, none⟩ = some _ := blk_cell (cs := [.int .i64 r.code, .int .i64 r.val.kind, .float .f64 r.val.num, .string r.val.text]) Krw8.out rfl
    have r_1 : w8.cell? ⟨br, 1, none⟩ = some _ := blk_cell (cs := [.int .i64 r.code, .int .i64 r.val.kind, .float .f64 r.val.num, .string r.val.text]) Krw8.out rfl
    have r_2 : w8.cell? ⟨br, 2, none⟩ = some _ := blk_cell (cs := [.int .i64 r.code, .int .i64 r.val.kind, .float .f64 r.val.num, .string r.val.text]) Krw8.out rfl
    have r_3 : w8.cell? ⟨br, 3, none⟩ = some _ := blk_cell (cs := [.int .i64 r.code, .int .i64 r.val.kind, .float .f64 r.val.num, .string r.val.text]) Krw8.out rfl
    have r_l : br < w8.heap.size := (Array.getElem?_eq_some_iff.1 Krw8.out).1
    go_wp2
    go_ret
    exact ⟨rfl, Ext.below HX.out⟩
  have n0 : (r.code != 0) = false := by simpa using h0
  have hall := do_puts (p := p) (k := key) (v := v) Hp.out (by rw [HEr.out]; exact h0)
  rw [HEr.out] at hall
  simp only at hall
  obtain ⟨a1, a2, a3, a4, a5⟩ := hall
  have A1 := Lib.hid a1
  have A3 := Lib.hid a3
  have A4 := Lib.hid a4
  have A5 := Lib.hid a5
  have hget : doP q ⟨1, key, AVal.zero, AVal.zero⟩ = (q, ⟨0, v⟩) := by rw [do_get A3.out a2, A4.out]
  have hdel : doP q ⟨3, key, AVal.zero, AVal.zero⟩ = (setP key AVal.zero true q, ⟨0, v⟩) := by rw [do_del A3.out a2, A4.out]
  have hD := right_set_true (k := key) A3.out AVal.zero
  have hget2 : doP (setP key AVal.zero true q) ⟨1, key, AVal.zero, AVal.zero⟩ = (setP key AVal.zero true q, ⟨0, AVal.zero⟩) := by rw [do_get hD a2, getP_setP_true]
  have hlen : (setP key AVal.zero true q).length + 1 = q.length := by have := len_setP_true key AVal.zero q; have := A5.out; omega
  have Hget := Lib.hid hget
  have Hdel := Lib.hid hdel
  have HD := Lib.hid hD
  have Hget2 := Lib.hid hget2
  obtain ⟨D, hDD⟩ : ∃ D, setP key AVal.zero true q = D := ⟨_, rfl⟩
  rw [hDD] at Hdel HD Hget2 hlen
  have hlen2 : ((D.length : Int) == (q.length : Int) - 1) = true := by simp; omega
  have hq32 : q.length ≤ 32 := right_len A3.out
  clear h0 hget hdel hD hget2 hDD a1 a2 a3 a4 a5
  go_wp2_with fail
  obtain ⟨w6, hw6⟩ : ∃ w6, w6 = w5.alloc (.cells #[.int .i64 r.code, .int .i64 r.val.kind, .float .f64 r.val.num, .string r.val.text] 33) := ⟨_, rfl⟩
  obtain ⟨br, hbr⟩ : ∃ br, br = w5.heap.size := ⟨_, rfl⟩
  have hzz : w5.heap.size = br := hbr.symm
  have hE : Ext w5 w6 := by rw [hw6]; exact (Mod.refl _ w5).alloc _
  have hKn : w6.heap[br]? = some (.cells #[.int .i64 r.code, .int .i64 r.val.kind, .float .f64 r.val.num, .string r.val.text] 33 (0, 0)) := by rw [hw6, ← hzz]; exact heap_alloc_new w5 _
  have hzn : w6.heap.size = br + 1 := by rw [hw6, ← hzz]; simp
  rw [← hw6, ← hbr]
  clear v_0 v_1 v_2 v_l g_0 g_1 g_2 g_l
  have HXo := HX
  have Kvw6 := Lib.hid (hE.blk Kvw5.out id)
  have Kgw6 := Lib.hid (hE.blk Kgw5.out id)
  replace HC := Lib.hid (HC.out.ext hE)
  replace HN7 := Lib.hid (newP_mod HN7.out hE (fun _ _ => id))
  replace HNv1 := Lib.hid (newP_mod HNv1.out hE (fun _ _ => id))
  replace HX := Lib.hid (HX.out.ext hE)
  clear Kvw5
  clear Kgw5
  have Krw6 := Lib.hid hKn
  have hbz : w.heap.size ≤ br := by have := HXo.out.size; omega
  clear hKn hE hw6 hbr HXo hzz
  have hbr := hbz
  clear hbz
  clear hzn
  have hso := HX.out.size
  refine (kv_Do_at w6 _ _ q ⟨1, key, AVal.zero, AVal.zero⟩ HNv1.out.prs (by have := right_len A3.out; omega) (by exact zero_ok) Hget.out).mono ?_
  rintro e w7 ⟨v2, rfl, hN, hE⟩
  have Kvw7 := Lib.hid (hE.blk Kvw6.out id)
  have Kgw7 := Lib.hid (hE.blk Kgw6.out id)
  have Krw7 := Lib.hid (hE.blk Krw6.out id)
  replace HC := Lib.hid (HC.out.ext hE)
  replace HN7 := Lib.hid (newP_mod HN7.out hE (fun _ _ => id))
  replace HNv1 := Lib.hid (newP_mod HNv1.out hE (fun _ _ => id))
  replace HX := Lib.hid (HX.out.ext hE)
  clear Kvw6
  clear Kgw6
  clear Krw6
  obtain ⟨Av2, cv2, rfl⟩ := own_form hN.1
  have HNv2 := Lib.hid (newP_up hN hso)
  clear hN hso
  clear hE
  have v_0 : w7.cell? ⟨bv, 0, none⟩ = some _ := blk_cell (cs := [.int .i64 v.kind, .float .f64 v.num, .string v.text]) Kvw7.out rfl
  have v_1 : w7.cell? ⟨bv, 1, none⟩ = some _ := blk_cell (cs := [.int .i64 v.kind, .float .f64 v.num, .string v.text]) Kvw7.out rfl
  have v_2 : w7.cell? ⟨bv, 2, none⟩ = some _ := blk_cell (cs := [.int .i64 v.kind, .float .f64 v.num, .string v.text]) Kvw7.out rfl
  have v_l : bv < w7.heap.size := (Array.getElem?_eq_some_iff.1 Kvw7.out).1
  have g_0 : w7.cell? ⟨bg, 0, none⟩ = some _ := blk_cell (cs := [.int .i64 g.kind, .float .f64 g.num, .string g.text]) Kgw7.out rfl
  have g_1 : w7.cell? ⟨bg, 1, none⟩ = some _ := blk_cell (cs := [.int .i64 g.kind, .float .f64 g.num, .string g.text]) Kgw7.out rfl
  have g_2 : w7.cell? ⟨bg, 2, none⟩ = some _ := blk_cell (cs := [.int .i64 g.kind, .float .f64 g.num, .string g.text]) Kgw7.out rfl
  have g_l : bg < w7.heap.size := (Array.getElem?_eq_some_iff.1 Kgw7.out).1
  have r_0 : w7.cell? ⟨br, 0, none⟩ = some _ := blk_cell (cs := [.int .i64 r.code, .int .i64 r.val.kind, .float .f64 r.val.num, .string r.val.text]) Krw7.out rfl
  have r_1 : w7.cell? ⟨br, 1, none⟩ = some _ := blk_cell (cs := [.int .i64 r.code, .int .i64 r.val.kind, .float .f64 r.val.num, .string r.val.text]) Krw7.out rfl
  have r_2 : w7.cell? ⟨br, 2, none⟩ = some _ := blk_cell (cs := [.int .i64 r.code, .int .i64 r.val.kind, .float .f64 r.val.num, .string r.val.text]) Krw7.out rfl
  have r_3 : w7.cell? ⟨br, 3, none⟩ = some _ := blk_cell (cs := [.int .i64 r.code, .int .i64 r.val.kind, .float .f64 r.val.num, .string r.val.text]) Krw7.out rfl
  have r_l : br < w7.heap.size := (Array.getElem?_eq_some_iff.1 Krw7.out).1
  go_wp2_with fail
  obtain ⟨w8, hw8⟩ : ∃ w8, w8 = w7.alloc (.cells #[.int .i64 0, .int .i64 v.kind, .float .f64 v.num, .string v.text] 33) := ⟨_, rfl⟩
  obtain ⟨bh, hbh⟩ : ∃ bh, bh = w7.heap.size := ⟨_, rfl⟩
  have hzz : w7.heap.size = bh := hbh.symm
  have hE : Ext w7 w8 := by rw [hw8]; exact (Mod.refl _ w7).alloc _
  have hKn : w8.heap[bh]? = some (.cells #[.int .i64 0, .int .i64 v.kind, .float .f64 v.num, .string v.text] 33 (0, 0)) := by rw [hw8, ← hzz]; exact heap_alloc_new w7 _
  have hzn : w8.heap.size = bh + 1 := by rw [hw8, ← hzz]; simp
  rw [← hw8, ← hbh]
  clear v_0 v_1 v_2 v_l g_0 g_1 g_2 g_l r_0 r_1 r_2 r_3 r_l
  have HXo := HX
  have Kvw8 := Lib.hid (hE.blk Kvw7.out id)
  have Kgw8 := Lib.hid (hE.blk Kgw7.out id)
  have Krw8 := Lib.hid (hE.blk Krw7.out id)
  replace HC := Lib.hid (HC.out.ext hE)
  replace HN7 := Lib.hid (newP_mod HN7.out hE (fun _ _ => id))
  replace HNv1 := Lib.hid (newP_mod HNv1.out hE (fun _ _ => id))
  replace HNv2 := Lib.hid (newP_mod HNv2.out hE (fun _ _ => id))
  replace HX := Lib.hid (HX.out.ext hE)
  clear Kvw7
  clear Kgw7
  clear Krw7
  have Khw8 := Lib.hid hKn
  have hbz : w.heap.size ≤ bh := by have := HXo.out.size; omega
  clear hKn hE hw8 hbh HXo hzz
  have hbh := hbz
  clear hbz
  clear hzn
  have hso := HX.out.size
  refine (kv_Do_at w8 _ _ q ⟨3, key, AVal.zero, AVal.zero⟩ HNv1.out.prs (by have := right_len A3.out; omega) (by exact zero_ok) Hdel.out).mono ?_
  rintro e w9 ⟨v3, rfl, hN, hE⟩
  have Kvw9 := Lib.hid (hE.blk Kvw8.out id)
  have Kgw9 := Lib.hid (hE.blk Kgw8.out id)
  have Krw9 := Lib.hid (hE.blk Krw8.out id)
  have Khw9 := Lib.hid (hE.blk Khw8.out id)
  replace HC := Lib.hid (HC.out.ext hE)
  replace HN7 := Lib.hid (newP_mod HN7.out hE (fun _ _ => id))
  replace HNv1 := Lib.hid (newP_mod HNv1.out hE (fun _ _ => id))
  replace HNv2 := Lib.hid (newP_mod HNv2.out hE (fun _ _ => id))
  replace HX := Lib.hid (HX.out.ext hE)
  clear Kvw8
  clear Kgw8
  clear Krw8
  clear Khw8
  obtain ⟨Av3, cv3, rfl⟩ := own_form hN.1
  have HNv3 := Lib.hid (newP_up hN hso)
  clear hN hso
  clear hE
  have v_0 : w9.cell? ⟨bv, 0, none⟩ = some _ := blk_cell (cs := [.int .i64 v.kind, .float .f64 v.num, .string v.text]) Kvw9.out rfl
  have v_1 : w9.cell? ⟨bv, 1, none⟩ = some _ := blk_cell (cs := [.int .i64 v.kind, .float .f64 v.num, .string v.text]) Kvw9.out rfl
  have v_2 : w9.cell? ⟨bv, 2, none⟩ = some _ := blk_cell (cs := [.int .i64 v.kind, .float .f64 v.num, .string v.text]) Kvw9.out rfl
  have v_l : bv < w9.heap.size := (Array.getElem?_eq_some_iff.1 Kvw9.out).1
  have g_0 : w9.cell? ⟨bg, 0, none⟩ = some _ := blk_cell (cs := [.int .i64 g.kind, .float .f64 g.num, .string g.text]) Kgw9.out rfl
  have g_1 : w9.cell? ⟨bg, 1, none⟩ = some _ := blk_cell (cs := [.int .i64 g.kind, .float .f64 g.num, .string g.text]) Kgw9.out rfl
  have g_2 : w9.cell? ⟨bg, 2, none⟩ = some _ := blk_cell (cs := [.int .i64 g.kind, .float .f64 g.num, .string g.text]) Kgw9.out rfl
  have g_l : bg < w9.heap.size := (Array.getElem?_eq_some_iff.1 Kgw9.out).1
  have r_0 : w9.cell? ⟨br, 0, none⟩ = some _ := blk_cell (cs := [.int .i64 r.code, .int .i64 r.val.kind, .float .f64 r.val.num, .string r.val.text]) Krw9.out rfl
  have r_1 : w9.cell? ⟨br, 1, none⟩ = some _ := blk_cell (cs := [.int .i64 r.code, .int .i64 r.val.kind, .float .f64 r.val.num, .string r.val.text]) Krw9.out rfl
  have r_2 : w9.cell? ⟨br, 2, none⟩ = some _ := blk_cell (cs := [.int .i64 r.code, .int .i64 r.val.kind, .float .f64 r.val.num, .string r.val.text]) Krw9.out rfl
  have r_3 : w9.cell? ⟨br, 3, none⟩ = some _ := blk_cell (cs := [.int .i64 r.code, .int .i64 r.val.kind, .float .f64 r.val.num, .string r.val.text]) Krw9.out rfl
  have r_l : br < w9.heap.size := (Array.getElem?_eq_some_iff.1 Krw9.out).1
  have h_0 : w9.cell? ⟨bh, 0, none⟩ = some _ := blk_cell (cs := [.int .i64 0, .int .i64 v.kind, .float .f64 v.num, .string v.text]) Khw9.out rfl
  have h_1 : w9.cell? ⟨bh, 1, none⟩ = some _ := blk_cell (cs := [.int .i64 0, .int .i64 v.kind, .float .f64 v.num, .string v.text]) Khw9.out rfl
  have h_2 : w9.cell? ⟨bh, 2, none⟩ = some _ := blk_cell (cs := [.int .i64 0, .int .i64 v.kind, .float .f64 v.num, .string v.text]) Khw9.out rfl
  have h_3 : w9.cell? ⟨bh, 3, none⟩ = some _ := blk_cell (cs := [.int .i64 0, .int .i64 v.kind, .float .f64 v.num, .string v.text]) Khw9.out rfl
  have h_l : bh < w9.heap.size := (Array.getElem?_eq_some_iff.1 Khw9.out).1
  go_wp2_with fail
  obtain ⟨w10, hw10⟩ : ∃ w10, w10 = w9.alloc (.cells #[.int .i64 0, .int .i64 v.kind, .float .f64 v.num, .string v.text] 33) := ⟨_, rfl⟩
  obtain ⟨bx, hbx⟩ : ∃ bx, bx = w9.heap.size := ⟨_, rfl⟩
  have hzz : w9.heap.size = bx := hbx.symm
  have hE : Ext w9 w10 := by rw [hw10]; exact (Mod.refl _ w9).alloc _
  have hKn : w10.heap[bx]? = some (.cells #[.int .i64 0, .int .i64 v.kind, .float .f64 v.num, .string v.text] 33 (0, 0)) := by rw [hw10, ← hzz]; exact heap_alloc_new w9 _
  have hzn : w10.heap.size = bx + 1 := by rw [hw10, ← hzz]; simp
  rw [← hw10, ← hbx]
  clear v_0 v_1 v_2 v_l g_0 g_1 g_2 g_l r_0 r_1 r_2 r_3 r_l h_0 h_1 h_2 h_3 h_l
  have HXo := HX
  have Kvw10 := Lib.hid (hE.blk Kvw9.out id)
  have Kgw10 := Lib.hid (hE.blk Kgw9.out id)
  have Krw10 := Lib.hid (hE.blk Krw9.out id)
  have Khw10 := Lib.hid (hE.blk Khw9.out id)
  replace HC := Lib.hid (HC.out.ext hE)
  replace HN7 := Lib.hid (newP_mod HN7.out hE (fun _ _ => id))
  replace HNv1 := Lib.hid (newP_mod HNv1.out hE (fun _ _ => id))
  replace HNv2 := Lib.hid (newP_mod HNv2.out hE (fun _ _ => id))
  replace HNv3 := Lib.hid (newP_mod HNv3.out hE (fun _ _ => id))
  replace HX := Lib.hid (HX.out.ext hE)
  clear Kvw9
  clear Kgw9
  clear Krw9
  clear Khw9
  have Kxw10 := Lib.hid hKn
  have hbz : w.heap.size ≤ bx := by have := HXo.out.size; omega
  clear hKn hE hw10 hbx HXo hzz
  have hbx := hbz
  clear hbz
  clear hzn
  refine (k_value r.val g w10).mono ?_
  rintro e w11 ⟨rfl, hE⟩
  have Kvw11 := Lib.hid (hE.blk Kvw10.out id)
  have Kgw11 := Lib.hid (hE.blk Kgw10.out id)
  have Krw11 := Lib.hid (hE.blk Krw10.out id)
  have Khw11 := Lib.hid (hE.blk Khw10.out id)
  have Kxw11 := Lib.hid (hE.blk Kxw10.out id)
  replace HC := Lib.hid (HC.out.ext hE)
  replace HN7 := Lib.hid (newP_mod HN7.out hE (fun _ _ => id))
  replace HNv1 := Lib.hid (newP_mod HNv1.out hE (fun _ _ => id))
  replace HNv2 := Lib.hid (newP_mod HNv2.out hE (fun _ _ => id))
  replace HNv3 := Lib.hid (newP_mod HNv3.out hE (fun _ _ => id))
  replace HX := Lib.hid (HX.out.ext hE)
  clear Kvw10
  clear Kgw10
  clear Krw10
  clear Khw10
  clear Kxw10
  rw [show eqVal r.val g = true by rw [A1.out, HG.out]; exact eqVal_refl _]
  clear hE
  have v_0 : w11.cell? ⟨bv, 0, none⟩ = some _ := blk_cell (cs := [.int .i64 v.kind, .float .f64 v.num, .string v.text]) Kvw11.out rfl
  have v_1 : w11.cell? ⟨bv, 1, none⟩ = some _ := blk_cell (cs := [.int .i64 v.kind, .float .f64 v.num, .string v.text]) Kvw11.out rfl
  have v_2 : w11.cell? ⟨bv, 2, none⟩ = some _ := blk_cell (cs := [.int .i64 v.kind, .float .f64 v.num, .string v.text]) Kvw11.out rfl
  have v_l : bv < w11.heap.size := (Array.getElem?_eq_some_iff.1 Kvw11.out).1
  have g_0 : w11.cell? ⟨bg, 0, none⟩ = some _ := blk_cell (cs := [.int .i64 g.kind, .float .f64 g.num, .string g.text]) Kgw11.out rfl
  have g_1 : w11.cell? ⟨bg, 1, none⟩ = some _ := blk_cell (cs := [.int .i64 g.kind, .float .f64 g.num, .string g.text]) Kgw11.out rfl
  have g_2 : w11.cell? ⟨bg, 2, none⟩ = some _ := blk_cell (cs := [.int .i64 g.kind, .float .f64 g.num, .string g.text]) Kgw11.out rfl
  have g_l : bg < w11.heap.size := (Array.getElem?_eq_some_iff.1 Kgw11.out).1
  have r_0 : w11.cell? ⟨br, 0, none⟩ = some _ := blk_cell (cs := [.int .i64 r.code, .int .i64 r.val.kind, .float .f64 r.val.num, .string r.val.text]) Krw11.out rfl
  have r_1 : w11.cell? ⟨br, 1, none⟩ = some _ := blk_cell (cs := [.int .i64 r.code, .int .i64 r.val.kind, .float .f64 r.val.num, .string r.val.text]) Krw11.out rfl
  have r_2 : w11.cell? ⟨br, 2, none⟩ = some _ := blk_cell (cs := [.int .i64 r.code, .int .i64 r.val.kind, .float .f64 r.val.num, .string r.val.text]) Krw11.out rfl
  have r_3 : w11.cell? ⟨br, 3, none⟩ = some _ := blk_cell (cs := [.int .i64 r.code, .int .i64 r.val.kind, .float .f64 r.val.num, .string r.val.text]) Krw11.out rfl
  have r_l : br < w11.heap.size := (Array.getElem?_eq_some_iff.1 Krw11.out).1
  have h_0 : w11.cell? ⟨bh, 0, none⟩ = some _ := blk_cell (cs := [.int .i64 0, .int .i64 v.kind, .float .f64 v.num, .string v.text]) Khw11.out rfl
  have h_1 : w11.cell? ⟨bh, 1, none⟩ = some _ := blk_cell (cs := [.int .i64 0, .int .i64 v.kind, .float .f64 v.num, .string v.text]) Khw11.out rfl
  have h_2 : w11.cell? ⟨bh, 2, none⟩ = some _ := blk_cell (cs := [.int .i64 0, .int .i64 v.kind, .float .f64 v.num, .string v.text]) Khw11.out rfl
  have h_3 : w11.cell? ⟨bh, 3, none⟩ = some _ := blk_cell (cs := [.int .i64 0, .int .i64 v.kind, .float .f64 v.num, .string v.text]) Khw11.out rfl
  have h_l : bh < w11.heap.size := (Array.getElem?_eq_some_iff.1 Khw11.out).1
  have x_0 : w11.cell? ⟨bx, 0, none⟩ = some _ := blk_cell (cs := [.int .i64 0, .int .i64 v.kind, .float .f64 v.num, .string v.text]) Kxw11.out rfl
  have x_1 : w11.cell? ⟨bx, 1, none⟩ = some _ := blk_cell (cs := [.int .i64 0, .int .i64 v.kind, .float .f64 v.num, .string v.text]) Kxw11.out rfl
  have x_2 : w11.cell? ⟨bx, 2, none⟩ = some _ := blk_cell (cs := [.int .i64 0, .int .i64 v.kind, .float .f64 v.num, .string v.text]) Kxw11.out rfl
  have x_3 : w11.cell? ⟨bx, 3, none⟩ = some _ := blk_cell (cs := [.int .i64 0, .int .i64 v.kind, .float .f64 v.num, .string v.text]) Kxw11.out rfl
  have x_l : bx < w11.heap.size := (Array.getElem?_eq_some_iff.1 Kxw11.out).1
  go_wp2_with fail
  refine (k_value v v w11).mono ?_
  rintro e w12 ⟨rfl, hE⟩
  clear v_0 v_1 v_2 v_l g_0 g_1 g_2 g_l r_0 r_1 r_2 r_3 r_l h_0 h_1 h_2 h_3 h_l x_0 x_1 x_2 x_3 x_l
  have Kvw12 := Lib.hid (hE.blk Kvw11.out id)
  have Kgw12 := Lib.hid (hE.blk Kgw11.out id)
  have Krw12 := Lib.hid (hE.blk Krw11.out id)
  have Khw12 := Lib.hid (hE.blk Khw11.out id)
  have Kxw12 := Lib.hid (hE.blk Kxw11.out id)
  replace HC := Lib.hid (HC.out.ext hE)
  replace HN7 := Lib.hid (newP_mod HN7.out hE (fun _ _ => id))
  replace HNv1 := Lib.hid (newP_mod HNv1.out hE (fun _ _ => id))
  replace HNv2 := Lib.hid (newP_mod HNv2.out hE (fun _ _ => id))
  replace HNv3 := Lib.hid (newP_mod HNv3.out hE (fun _ _ => id))
  replace HX := Lib.hid (HX.out.ext hE)
  clear Kvw11
  clear Kgw11
  clear Krw11
  clear Khw11
  clear Kxw11
  rw [eqVal_refl]
  clear hE
  have v_0 : w12.cell? ⟨bv, 0, none⟩ = some _ := blk_cell (cs := [.int .i64 v.kind, .float .f64 v.num, .string v.text]) Kvw12.out rfl
  have v_1 : w12.cell? ⟨bv, 1, none⟩ = some _ := blk_cell (cs := [.int .i64 v.kind, .float .f64 v.num, .string v.text]) Kvw12.out rfl
  have v_2 : w12.cell? ⟨bv, 2, none⟩ = some _ := blk_cell (cs := [.int .i64 v.kind, .float .f64 v.num, .string v.text]) Kvw12.out rfl
  have v_l : bv < w12.heap.size := (Array.getElem?_eq_some_iff.1 Kvw12.out).1
  have g_0 : w12.cell? ⟨bg, 0, none⟩ = some _ := blk_cell (cs := [.int .i64 g.kind, .float .f64 g.num, .string g.text]) Kgw12.out rfl
  have g_1 : w12.cell? ⟨bg, 1, none⟩ = some _ := blk_cell (cs := [.int .i64 g.kind, .float .f64 g.num, .string g.text]) Kgw12.out rfl
  have g_2 : w12.cell? ⟨bg, 2, none⟩ = some _ := blk_cell (cs := [.int .i64 g.kind, .float .f64 g.num, .string g.text]) Kgw12.out rfl
  have g_l : bg < w12.heap.size := (Array.getElem?_eq_some_iff.1 Kgw12.out).1
  have r_0 : w12.cell? ⟨br, 0, none⟩ = some _ := blk_cell (cs := [.int .i64 r.code, .int .i64 r.val.kind, .float .f64 r.val.num, .string r.val.text]) Krw12.out rfl
  have r_1 : w12.cell? ⟨br, 1, none⟩ = some _ := blk_cell (cs := [.int .i64 r.code, .int .i64 r.val.kind, .float .f64 r.val.num, .string r.val.text]) Krw12.out rfl
  have r_2 : w12.cell? ⟨br, 2, none⟩ = some _ := blk_cell (cs := [.int .i64 r.code, .int .i64 r.val.kind, .float .f64 r.val.num, .string r.val.text]) Krw12.out rfl
  have r_3 : w12.cell? ⟨br, 3, none⟩ = some _ := blk_cell (cs := [.int .i64 r.code, .int .i64 r.val.kind, .float .f64 r.val.num, .string r.val.text]) Krw12.out rfl
  have r_l : br < w12.heap.size := (Array.getElem?_eq_some_iff.1 Krw12.out).1
  have h_0 : w12.cell? ⟨bh, 0, none⟩ = some _ := blk_cell (cs := [.int .i64 0, .int .i64 v.kind, .float .f64 v.num, .string v.text]) Khw12.out rfl
  have h_1 : w12.cell? ⟨bh, 1, none⟩ = some _ := blk_cell (cs := [.int .i64 0, .int .i64 v.kind, .float .f64 v.num, .string v.text]) Khw12.out rfl
  have h_2 : w12.cell? ⟨bh, 2, none⟩ = some _ := blk_cell (cs := [.int .i64 0, .int .i64 v.kind, .float .f64 v.num, .string v.text]) Khw12.out rfl
  have h_3 : w12.cell? ⟨bh, 3, none⟩ = some _ := blk_cell (cs := [.int .i64 0, .int .i64 v.kind, .float .f64 v.num, .string v.text]) Khw12.out rfl
  have h_l : bh < w12.heap.size := (Array.getElem?_eq_some_iff.1 Khw12.out).1
  have x_0 : w12.cell? ⟨bx, 0, none⟩ = some _ := blk_cell (cs := [.int .i64 0, .int .i64 v.kind, .float .f64 v.num, .string v.text]) Kxw12.out rfl
  have x_1 : w12.cell? ⟨bx, 1, none⟩ = some _ := blk_cell (cs := [.int .i64 0, .int .i64 v.kind, .float .f64 v.num, .string v.text]) Kxw12.out rfl
  have x_2 : w12.cell? ⟨bx, 2, none⟩ = some _ := blk_cell (cs := [.int .i64 0, .int .i64 v.kind, .float .f64 v.num, .string v.text]) Kxw12.out rfl
  have x_3 : w12.cell? ⟨bx, 3, none⟩ = some _ := blk_cell (cs := [.int .i64 0, .int .i64 v.kind, .float .f64 v.num, .string v.text]) Kxw12.out rfl
  have x_l : bx < w12.heap.size := (Array.getElem?_eq_some_iff.1 Kxw12.out).1
  go_wp2_with fail
  refine (k_value v v w12).mono ?_
  rintro e w13 ⟨rfl, hE⟩
  clear v_0 v_1 v_2 v_l g_0 g_1 g_2 g_l r_0 r_1 r_2 r_3 r_l h_0 h_1 h_2 h_3 h_l x_0 x_1 x_2 x_3 x_l
  have Kvw13 := Lib.hid (hE.blk Kvw12.out id)
  have Kgw13 := Lib.hid (hE.blk Kgw12.out id)
  have Krw13 := Lib.hid (hE.blk Krw12.out id)
  have Khw13 := Lib.hid (hE.blk Khw12.out id)
  have Kxw13 := Lib.hid (hE.blk Kxw12.out id)
  replace HC := Lib.hid (HC.out.ext hE)
  replace HN7 := Lib.hid (newP_mod HN7.out hE (fun _ _ => id))
  replace HNv1 := Lib.hid (newP_mod HNv1.out hE (fun _ _ => id))
  replace HNv2 := Lib.hid (newP_mod HNv2.out hE (fun _ _ => id))
  replace HNv3 := Lib.hid (newP_mod HNv3.out hE (fun _ _ => id))
  replace HX := Lib.hid (HX.out.ext hE)
  clear Kvw12
  clear Kgw12
  clear Krw12
  clear Khw12
  clear Kxw12
  rw [eqVal_refl]
  clear hE
  have v_0 : w13.cell? ⟨bv, 0, none⟩ = some _ := blk_cell (cs := [.int .i64 v.kind, .float .f64 v.num, .string v.text]) Kvw13.out rfl
  have v_1 : w13.cell? ⟨bv, 1, none⟩ = some _ := blk_cell (cs := [.int .i64 v.kind, .float .f64 v.num, .string v.text]) Kvw13.out rfl
  have v_2 : w13.cell? ⟨bv, 2, none⟩ = some _ := blk_cell (cs := [.int .i64 v.kind, .float .f64 v.num, .string v.text]) Kvw13.out rfl
  have v_l : bv < w13.heap.size := (Array.getElem?_eq_some_iff.1 Kvw13.out).1
  have g_0 : w13.cell? ⟨bg, 0, none⟩ = some _ := blk_cell (cs := [.int .i64 g.kind, .float .f64 g.num, .string g.text]) Kgw13.out rfl
  have g_1 : w13.cell? ⟨bg, 1, none⟩ = some _ := blk_cell (cs := [.int .i64 g.kind, .float .f64 g.num, .string g.text]) Kgw13.out rfl
  have g_2 : w13.cell? ⟨bg, 2, none⟩ = some _ := blk_cell (cs := [.int .i64 g.kind, .float .f64 g.num, .string g.text]) Kgw13.out rfl
  have g_l : bg < w13.heap.size := (Array.getElem?_eq_some_iff.1 Kgw13.out).1
  have r_0 : w13.cell? ⟨br, 0, none⟩ = some _ := blk_cell (cs := [.int .i64 r.code, .int .i64 r.val.kind, .float .f64 r.val.num, .string r.val.text]) Krw13.out rfl
  have r_1 : w13.cell? ⟨br, 1, none⟩ = some _ := blk_cell (cs := [.int .i64 r.code, .int .i64 r.val.kind, .float .f64 r.val.num, .string r.val.text]) Krw13.out rfl
  have r_2 : w13.cell? ⟨br, 2, none⟩ = some _ := blk_cell (cs := [.int .i64 r.code, .int .i64 r.val.kind, .float .f64 r.val.num, .string r.val.text]) Krw13.out rfl
  have r_3 : w13.cell? ⟨br, 3, none⟩ = some _ := blk_cell (cs := [.int .i64 r.code, .int .i64 r.val.kind, .float .f64 r.val.num, .string r.val.text]) Krw13.out rfl
  have r_l : br < w13.heap.size := (Array.getElem?_eq_some_iff.1 Krw13.out).1
  have h_0 : w13.cell? ⟨bh, 0, none⟩ = some _ := blk_cell (cs := [.int .i64 0, .int .i64 v.kind, .float .f64 v.num, .string v.text]) Khw13.out rfl
  have h_1 : w13.cell? ⟨bh, 1, none⟩ = some _ := blk_cell (cs := [.int .i64 0, .int .i64 v.kind, .float .f64 v.num, .string v.text]) Khw13.out rfl
  have h_2 : w13.cell? ⟨bh, 2, none⟩ = some _ := blk_cell (cs := [.int .i64 0, .int .i64 v.kind, .float .f64 v.num, .string v.text]) Khw13.out rfl
  have h_3 : w13.cell? ⟨bh, 3, none⟩ = some _ := blk_cell (cs := [.int .i64 0, .int .i64 v.kind, .float .f64 v.num, .string v.text]) Khw13.out rfl
  have h_l : bh < w13.heap.size := (Array.getElem?_eq_some_iff.1 Khw13.out).1
  have x_0 : w13.cell? ⟨bx, 0, none⟩ = some _ := blk_cell (cs := [.int .i64 0, .int .i64 v.kind, .float .f64 v.num, .string v.text]) Kxw13.out rfl
  have x_1 : w13.cell? ⟨bx, 1, none⟩ = some _ := blk_cell (cs := [.int .i64 0, .int .i64 v.kind, .float .f64 v.num, .string v.text]) Kxw13.out rfl
  have x_2 : w13.cell? ⟨bx, 2, none⟩ = some _ := blk_cell (cs := [.int .i64 0, .int .i64 v.kind, .float .f64 v.num, .string v.text]) Kxw13.out rfl
  have x_3 : w13.cell? ⟨bx, 3, none⟩ = some _ := blk_cell (cs := [.int .i64 0, .int .i64 v.kind, .float .f64 v.num, .string v.text]) Kxw13.out rfl
  have x_l : bx < w13.heap.size := (Array.getElem?_eq_some_iff.1 Kxw13.out).1
  go_wp2_with fail
  have hso := HX.out.size
  refine (kv_Do_at w13 _ _ D ⟨1, key, AVal.zero, AVal.zero⟩ HNv3.out.prs (by have := right_len HD.out; omega) (by exact zero_ok) Hget2.out).mono ?_
  rintro e w14 ⟨v4, rfl, hN, hE⟩
  clear v_0 v_1 v_2 v_l g_0 g_1 g_2 g_l r_0 r_1 r_2 r_3 r_l h_0 h_1 h_2 h_3 h_l x_0 x_1 x_2 x_3 x_l
  have Kvw14 := Lib.hid (hE.blk Kvw13.out id)
  have Kgw14 := Lib.hid (hE.blk Kgw13.out id)
  have Krw14 := Lib.hid (hE.blk Krw13.out id)
  have Khw14 := Lib.hid (hE.blk Khw13.out id)
  have Kxw14 := Lib.hid (hE.blk Kxw13.out id)
  replace HC := Lib.hid (HC.out.ext hE)
  replace HN7 := Lib.hid (newP_mod HN7.out hE (fun _ _ => id))
  replace HNv1 := Lib.hid (newP_mod HNv1.out hE (fun _ _ => id))
  replace HNv2 := Lib.hid (newP_mod HNv2.out hE (fun _ _ => id))
  replace HNv3 := Lib.hid (newP_mod HNv3.out hE (fun _ _ => id))
  replace HX := Lib.hid (HX.out.ext hE)
  clear Kvw13
  clear Kgw13
  clear Krw13
  clear Khw13
  clear Kxw13
  obtain ⟨Av4, cv4, rfl⟩ := own_form hN.1
  have HNv4 := Lib.hid (newP_up hN hso)
  clear hN hso
  clear hE
  have v_0 : w14.cell? ⟨bv, 0, none⟩ = some _ := blk_cell (cs := [.int .i64 v.kind, .float .f64 v.num, .string v.text]) Kvw14.out rfl
  have v_1 : w14.cell? ⟨bv, 1, none⟩ = some _ := blk_cell (cs := [.int .i64 v.kind, .float .f64 v.num, .string v.text]) Kvw14.out rfl
  have v_2 : w14.cell? ⟨bv, 2, none⟩ = some _ := blk_cell (cs := [.int .i64 v.kind, .float .f64 v.num, .string v.text]) Kvw14.out rfl
  have v_l : bv < w14.heap.size := (Array.getElem?_eq_some_iff.1 Kvw14.out).1
  have g_0 : w14.cell? ⟨bg, 0, none⟩ = some _ := blk_cell (cs := [.int .i64 g.kind, .float .f64 g.num, .string g.text]) Kgw14.out rfl
  have g_1 : w14.cell? ⟨bg, 1, none⟩ = some _ := blk_cell (cs := [.int .i64 g.kind, .float .f64 g.num, .string g.text]) Kgw14.out rfl
  have g_2 : w14.cell? ⟨bg, 2, none⟩ = some _ := blk_cell (cs := [.int .i64 g.kind, .float .f64 g.num, .string g.text]) Kgw14.out rfl
  have g_l : bg < w14.heap.size := (Array.getElem?_eq_some_iff.1 Kgw14.out).1
  have r_0 : w14.cell? ⟨br, 0, none⟩ = some _ := blk_cell (cs := [.int .i64 r.code, .int .i64 r.val.kind, .float .f64 r.val.num, .string r.val.text]) Krw14.out rfl
  have r_1 : w14.cell? ⟨br, 1, none⟩ = some _ := blk_cell (cs := [.int .i64 r.code, .int .i64 r.val.kind, .float .f64 r.val.num, .string r.val.text]) Krw14.out rfl
  have r_2 : w14.cell? ⟨br, 2, none⟩ = some _ := blk_cell (cs := [.int .i64 r.code, .int .i64 r.val.kind, .float .f64 r.val.num, .string r.val.text]) Krw14.out rfl
  have r_3 : w14.cell? ⟨br, 3, none⟩ = some _ := blk_cell (cs := [.int .i64 r.code, .int .i64 r.val.kind, .float .f64 r.val.num, .string r.val.text]) Krw14.out rfl
  have r_l : br < w14.heap.size := (Array.getElem?_eq_some_iff.1 Krw14.out).1
  have h_0 : w14.cell? ⟨bh, 0, none⟩ = some _ := blk_cell (cs := [.int .i64 0, .int .i64 v.kind, .float .f64 v.num, .string v.text]) Khw14.out rfl
  have h_1 : w14.cell? ⟨bh, 1, none⟩ = some _ := blk_cell (cs := [.int .i64 0, .int .i64 v.kind, .float .f64 v.num, .string v.text]) Khw14.out rfl
  have h_2 : w14.cell? ⟨bh, 2, none⟩ = some _ := blk_cell (cs := [.int .i64 0, .int .i64 v.kind, .float .f64 v.num, .string v.text]) Khw14.out rfl
  have h_3 : w14.cell? ⟨bh, 3, none⟩ = some _ := blk_cell (cs := [.int .i64 0, .int .i64 v.kind, .float .f64 v.num, .string v.text]) Khw14.out rfl
  have h_l : bh < w14.heap.size := (Array.getElem?_eq_some_iff.1 Khw14.out).1
  have x_0 : w14.cell? ⟨bx, 0, none⟩ = some _ := blk_cell (cs := [.int .i64 0, .int .i64 v.kind, .float .f64 v.num, .string v.text]) Kxw14.out rfl
  have x_1 : w14.cell? ⟨bx, 1, none⟩ = some _ := blk_cell (cs := [.int .i64 0, .int .i64 v.kind, .float .f64 v.num, .string v.text]) Kxw14.out rfl
  have x_2 : w14.cell? ⟨bx, 2, none⟩ = some _ := blk_cell (cs := [.int .i64 0, .int .i64 v.kind, .float .f64 v.num, .string v.text]) Kxw14.out rfl
  have x_3 : w14.cell? ⟨bx, 3, none⟩ = some _ := blk_cell (cs := [.int .i64 0, .int .i64 v.kind, .float .f64 v.num, .string v.text]) Kxw14.out rfl
  have x_l : bx < w14.heap.size := (Array.getElem?_eq_some_iff.1 Kxw14.out).1
  have fh0 := blk_free 0 Khw14.out
  have fh1 := blk_free 1 Khw14.out
  have fh2 := blk_free 2 Khw14.out
  have fh3 := blk_free 3 Khw14.out
  go_wp2_with fail
  refine (l_wakes _).mono ?_
  rintro e wz ⟨rfl, hE⟩
  have hM : Mod (Since w.heap.size) w wz := by
    refine Mod.ext ?_ hE
    refine Mod.setCell ?_ (.inl hbh) _
    refine Mod.setCell ?_ (.inl hbh) _
    refine Mod.setCell ?_ (.inl hbh) _
    refine Mod.setCell ?_ (.inl hbh) _
    exact Ext.mod HX.out _
  have HM := Lib.hid hM.toExt
  clear hE hM
  go_wp2
  go_ret
  exact ⟨rfl, Ext.below HM.out⟩
theorem kvPuts_a (w : World) (v0 : Value) (l : List ACmd) (key : ByteArray) (v : AVal) (hC : Cms w (fun g => g < w.heap.size) v0 l) (_ : key.size ≤ maxLen) (hv : v.ok) :
    Calls Try.prog 4 #[v0, .string key, .agg #[.int .i64 v.kind, .float .f64 v.num, .string v.text]] w fun e w' => e = .returned (.bool true) ∧ Below w.heap.size w w' := by
  obtain ⟨A, cc, rfl⟩ := hC.form
  exact kvPuts_walk w _ A _ cc l hC rfl key v hv
end Go.Proofs.Ythhjaneadbkccaa
