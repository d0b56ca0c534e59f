/-
  The walk of KvSound. Conditions: as the theorem names them.
-/
import Derived.Test.YthhjaneadbkccaaKvMore
namespace Go.Proofs.Ythhjaneadbkccaa
set_option linter.unusedSimpArgs false
open Go.RowKit

set_option maxRecDepth 100000 in
set_option maxHeartbeats 1000000 in
theorem kvSound_walk (w : World) (T : Nat → Prop) (A : Option Addr) (n cc : Nat) (l : List ACmd) (hC : Cms w T (.slice A n cc) l) (hn : l.length = n)   :
    Calls Try.prog 10 #[.slice A n cc] w fun e w' => e = .returned (.bool true) ∧ Below w.heap.size w w' := by
  have hl := hC.1.le
  rw [hn] at hl
  unfold maxLen at hl
  by_cases h1 : 1000 < n
  · have d1 : decide ((n : Int) > 1000) = true := by simp; omega
    go_enter Try.func10, Try.ntmps10
    go_wp2
    go_ret
    exact ⟨rfl, Ext.below (Mod.refl _ w)⟩
  have d1 : decide ((n : Int) > 1000) = false := by simp; omega
  have HC0 := Lib.hid hC
  clear hC hn
  go_enter Try.func10, Try.ntmps10
  go_wp2
  go_loopw [3, 4] (fun pv iv wr => ∃ (i : Nat) (p : List APair), i ≤ n ∧ i ≤ 200 ∧ iv = .int .i64 i ∧ NewP w wr pv p ∧ pairsB p = true ∧ Ext w wr) (fun _ iv _ => n - (intOf iv).toNat)
  case atStart => exact ⟨0, [], by omega, by omega, rfl, ⟨World.ownsRow_nil _ _ _ _, by simp, by simp [Value.ownBlock]⟩, right_nil, Mod.refl _ w⟩
  case round =>
    obtain ⟨i, p, hin, hi200, rfl, hN, hp, hE⟩ := hrel
    have HNp := Lib.hid hN
    have Hp := Lib.hid hp
    have HX := Lib.hid hE
    have hC := HC0.out.ext hE
    clear hN hp hE
    by_cases hi : i < n ∧ i < 200
    case neg =>
      by_cases hi2 : i < n
      all_goals
        go_wp2_with fail
        refine (l_wakes wr).mono ?_
        rintro e w1 ⟨rfl, hE⟩
        replace HX := Lib.hid (HX.out.ext hE)
        clear hE
        go_wp2
        go_ret
        exact ⟨rfl, Ext.below HX.out⟩
    obtain ⟨hi, h200⟩ := hi
    obtain ⟨g, off, x, rfl, hgT, hx, hxok, hcells⟩ := hC.at hi
    have hi0 : (0 : Int) ≤ (i : Int) := by omega
    have hi1 : (i : Int) < (n : Int) := by omega
    have x0 := hcells 0 _ rfl
    have x1 := hcells 1 _ rfl
    have x2 := hcells 2 _ rfl
    have x3 := hcells 3 _ rfl
    have x4 := hcells 4 _ rfl
    have x5 := hcells 5 _ rfl
    have x6 := hcells 6 _ rfl
    have x7 := hcells 7 _ rfl
    rw [Nat.add_zero] at x0
    have Hxok := Lib.hid hxok
    clear hcells hx hC hxok
    go_wp2_with fail
    refine (hv_cmd x wr).mono ?_
    rintro e w1 ⟨rfl, hE⟩
    replace HNp := Lib.hid (newP_mod HNp.out hE (fun _ _ => id))
    replace x0 := hE.cell x0 id
    replace x1 := hE.cell x1 id
    replace x2 := hE.cell x2 id
    replace x3 := hE.cell x3 id
    replace x4 := hE.cell x4 id
    replace x5 := hE.cell x5 id
    replace x6 := hE.cell x6 id
    replace x7 := hE.cell x7 id
    replace HX := Lib.hid (HX.out.ext hE)
    clear hE
    rcases hq : heavyCmd x with _ | _
    case true =>
      go_wp2
      go_ret
      exact ⟨rfl, Ext.below HX.out⟩
    go_wp2_with fail
    have hso := HX.out.size
    rcases hr : doP p x with ⟨q, r⟩
    refine (kv_Do_at w1 _ _ p x HNp.out.prs (by have := right_len Hp.out; omega) Hxok.out.2.2.2 hr).mono ?_
    rintro e w2 ⟨v1, rfl, hN, hE⟩
    replace HNp := Lib.hid (newP_mod HNp.out hE (fun _ _ => id))
    replace x0 := hE.cell x0 id
    replace x1 := hE.cell x1 id
    replace x2 := hE.cell x2 id
    replace x3 := hE.cell x3 id
    replace x4 := hE.cell x4 id
    replace x5 := hE.cell x5 id
    replace x6 := hE.cell x6 id
    replace x7 := hE.cell x7 id
    replace HX := Lib.hid (HX.out.ext hE)
    obtain ⟨Av1, cv1, rfl⟩ := own_form hN.1
    have HNv1 := Lib.hid (newP_up hN hso)
    clear hN hso
    have HEr := Lib.hid hr
    clear hr
    clear hE
    have hQ := do_right x Hp.out
    rw [HEr.out] at hQ
    have HQ := Lib.hid hQ
    have hsame : r.code ≠ 0 → q = p ∧ (r.code ≠ 9 → r.val = AVal.zero) := fun h => by
      have := do_no (l := p) (c := x) (by rw [HEr.out]; exact h)
      rw [HEr.out] at this
      exact this
    have hget : r.code = 0 → x.kind = 1 → q = p := fun h hk => by
      obtain ⟨_, _, h' | ⟨hk', _⟩⟩ := do_ok (l := p) (c := x) (by rw [HEr.out]; exact h)
      · have := h'.2
        rw [HEr.out] at this
        simp only [Prod.mk.injEq] at this
        exact this.1
      · exact absurd hk hk'
    have Hsame := Lib.hid hsame
    have Hget := Lib.hid hget
    clear hQ hsame hget
    by_cases hk : x.kind = 1
    case pos =>
      have d1k : (x.kind != 1) = false := by simpa using hk
      by_cases h0 : r.code = 0
      case pos =>
        have n0 : (r.code != 0) = false := by simpa using h0
        have Hqp := Lib.hid (Hget.out h0 hk)
        clear h0 hk
        go_wp2_with fail
        obtain ⟨w3, hw3⟩ : ∃ w3, w3 = w2.alloc (.cells #[.int .i64 r.code, .int .i64 r.val.kind, .float .f64 r.val.num, .string r.val.text] 33) := ⟨_, rfl⟩
        obtain ⟨br, hbr⟩ : ∃ br, br = w2.heap.size := ⟨_, rfl⟩
        have hzz : w2.heap.size = br := hbr.symm
        have hE : Ext w2 w3 := by rw [hw3]; exact (Mod.refl _ w2).alloc _
        have hKn : w3.heap[br]? = some (.cells #[.int .i64 r.code, .int .i64 r.val.kind, .float .f64 r.val.num, .string r.val.text] 33 (0, 0)) := by rw [hw3, ← hzz]; exact heap_alloc_new w2 _
        have hzn : w3.heap.size = br + 1 := by rw [hw3, ← hzz]; simp
        rw [← hw3, ← hbr]
        have HXo := HX
        replace HNp := Lib.hid (newP_mod HNp.out hE (fun _ _ => id))
        replace HNv1 := Lib.hid (newP_mod HNv1.out hE (fun _ _ => id))
        replace x0 := hE.cell x0 id
        replace x1 := hE.cell x1 id
        replace x2 := hE.cell x2 id
        replace x3 := hE.cell x3 id
        replace x4 := hE.cell x4 id
        replace x5 := hE.cell x5 id
        replace x6 := hE.cell x6 id
        replace x7 := hE.cell x7 id
        replace HX := Lib.hid (HX.out.ext hE)
        have Krw3 := Lib.hid hKn
        have hbz : w.heap.size ≤ br := by have := HXo.out.size; omega
        clear hKn hE hw3 hbr HXo hzz
        have hbr := hbz
        clear hbz
        clear hzn
        refine (kv_check w3 _ _ q HNv1.out.prs).mono ?_
        rintro e w4 ⟨rfl, hE⟩
        have Krw4 := Lib.hid (hE.blk Krw3.out id)
        replace HNp := Lib.hid (newP_mod HNp.out hE (fun _ _ => id))
        replace HNv1 := Lib.hid (newP_mod HNv1.out hE (fun _ _ => id))
        replace x0 := hE.cell x0 id
        replace x1 := hE.cell x1 id
        replace x2 := hE.cell x2 id
        replace x3 := hE.cell x3 id
        replace x4 := hE.cell x4 id
        replace x5 := hE.cell x5 id
        replace x6 := hE.cell x6 id
        replace x7 := hE.cell x7 id
        replace HX := Lib.hid (HX.out.ext hE)
        clear Krw3
        rw [chkP_yes HQ.out]
        clear hE
        have r_0 : w4.cell? ⟨br, 0, none⟩ = some _ := blk_cell (cs := [.int .i64 r.code, .int .i64 r.val.kind, .float .f64 r.val.num, .string r.val.text]) Krw4.out rfl
        have r_1 : w4.cell? ⟨br, 1, none⟩ = some _ := blk_cell (cs := [.int .i64 r.code, .int .i64 r.val.kind, .float .f64 r.val.num, .string r.val.text]) Krw4.out rfl
        have r_2 : w4.cell? ⟨br, 2, none⟩ = some _ := blk_cell (cs := [.int .i64 r.code, .int .i64 r.val.kind, .float .f64 r.val.num, .string r.val.text]) Krw4.out rfl
        have r_3 : w4.cell? ⟨br, 3, none⟩ = some _ := blk_cell (cs := [.int .i64 r.code, .int .i64 r.val.kind, .float .f64 r.val.num, .string r.val.text]) Krw4.out rfl
        have r_l : br < w4.heap.size := (Array.getElem?_eq_some_iff.1 Krw4.out).1
        go_wp2_with fail
        refine (kv_changes x w4).mono ?_
        rintro e w5 ⟨rfl, hE⟩
        clear r_0 r_1 r_2 r_3 r_l
        have Krw5 := Lib.hid (hE.blk Krw4.out id)
        replace HNp := Lib.hid (newP_mod HNp.out hE (fun _ _ => id))
        replace HNv1 := Lib.hid (newP_mod HNv1.out hE (fun _ _ => id))
        replace x0 := hE.cell x0 id
        replace x1 := hE.cell x1 id
        replace x2 := hE.cell x2 id
        replace x3 := hE.cell x3 id
        replace x4 := hE.cell x4 id
        replace x5 := hE.cell x5 id
        replace x6 := hE.cell x6 id
        replace x7 := hE.cell x7 id
        replace HX := Lib.hid (HX.out.ext hE)
        clear Krw4
        rw [d1k]
        clear hE
        have r_0 : w5.cell? ⟨br, 0, none⟩ = some _ := blk_cell (cs := [.int .i64 r.code, .int .i64 r.val.kind, .float .f64 r.val.num, .string r.val.text]) Krw5.out rfl
        have r_1 : w5.cell? ⟨br, 1, none⟩ = some _ := blk_cell (cs := [.int .i64 r.code, .int .i64 r.val.kind, .float .f64 r.val.num, .string r.val.text]) Krw5.out rfl
        have r_2 : w5.cell? ⟨br, 2, none⟩ = some _ := blk_cell (cs := [.int .i64 r.code, .int .i64 r.val.kind, .float .f64 r.val.num, .string r.val.text]) Krw5.out rfl
        have r_3 : w5.cell? ⟨br, 3, none⟩ = some _ := blk_cell (cs := [.int .i64 r.code, .int .i64 r.val.kind, .float .f64 r.val.num, .string r.val.text]) Krw5.out rfl
        have r_l : br < w5.heap.size := (Array.getElem?_eq_some_iff.1 Krw5.out).1
        go_wp2_with fail
        refine (k_pairs w5 _ _ _ _ p q HNp.out.prs HNv1.out.prs).mono ?_
        rintro e w6 ⟨rfl, hE⟩
        clear r_0 r_1 r_2 r_3 r_l
        have Krw6 := Lib.hid (hE.blk Krw5.out id)
        replace HNp := Lib.hid (newP_mod HNp.out hE (fun _ _ => id))
        replace HNv1 := Lib.hid (newP_mod HNv1.out hE (fun _ _ => id))
        replace x0 := hE.cell x0 id
        replace x1 := hE.cell x1 id
        replace x2 := hE.cell x2 id
        replace x3 := hE.cell x3 id
        replace x4 := hE.cell x4 id
        replace x5 := hE.cell x5 id
        replace x6 := hE.cell x6 id
        replace x7 := hE.cell x7 id
        replace HX := Lib.hid (HX.out.ext hE)
        clear Krw5
        rw [show eqPrs p q = true by rw [Hqp.out]; exact eqPrs_refl _]
        clear hE
        have r_0 : w6.cell? ⟨br, 0, none⟩ = some _ := blk_cell (cs := [.int .i64 r.code, .int .i64 r.val.kind, .float .f64 r.val.num, .string r.val.text]) Krw6.out rfl
        have r_1 : w6.cell? ⟨br, 1, none⟩ = some _ := blk_cell (cs := [.int .i64 r.code, .int .i64 r.val.kind, .float .f64 r.val.num, .string r.val.text]) Krw6.out rfl
        have r_2 : w6.cell? ⟨br, 2, none⟩ = some _ := blk_cell (cs := [.int .i64 r.code, .int .i64 r.val.kind, .float .f64 r.val.num, .string r.val.text]) Krw6.out rfl
        have r_3 : w6.cell? ⟨br, 3, none⟩ = some _ := blk_cell (cs := [.int .i64 r.code, .int .i64 r.val.kind, .float .f64 r.val.num, .string r.val.text]) Krw6.out rfl
        have r_l : br < w6.heap.size := (Array.getElem?_eq_some_iff.1 Krw6.out).1
        clear r_0 r_1 r_2 r_3 r_l
        go_wp2
        exact ⟨⟨i + 1, q, by omega, by omega, by go_num, HNv1.out, HQ.out, HX.out⟩, by simp [intOf]; omega⟩
      have n0 : (r.code != 0) = true := by simpa using h0
      obtain ⟨hqp, hz⟩ := Hsame.out h0
      have Hz := Lib.hid hz
      have Hqp := Lib.hid hqp
      clear hz hqp
      by_cases h9 : r.code = 9
      case pos =>
        have n9 : (r.code != 9) = false := by simpa using h9
        clear h0 hk h9
        go_wp2_with fail
        obtain ⟨w3, hw3⟩ : ∃ w3, w3 = w2.alloc (.cells #[.int .i64 r.code, .int .i64 r.val.kind, .float .f64 r.val.num, .string r.val.text] 33) := ⟨_, rfl⟩
        obtain ⟨br, hbr⟩ : ∃ br, br = w2.heap.size := ⟨_, rfl⟩
        have hzz : w2.heap.size = br := hbr.symm
        have hE : Ext w2 w3 := by rw [hw3]; exact (Mod.refl _ w2).alloc _
        have hKn : w3.heap[br]? = some (.cells #[.int .i64 r.code, .int .i64 r.val.kind, .float .f64 r.val.num, .string r.val.text] 33 (0, 0)) := by rw [hw3, ← hzz]; exact heap_alloc_new w2 _
        have hzn : w3.heap.size = br + 1 := by rw [hw3, ← hzz]; simp
        rw [← hw3, ← hbr]
        have HXo := HX
        replace HNp := Lib.hid (newP_mod HNp.out hE (fun _ _ => id))
        replace HNv1 := Lib.hid (newP_mod HNv1.out hE (fun _ _ => id))
        replace x0 := hE.cell x0 id
        replace x1 := hE.cell x1 id
        replace x2 := hE.cell x2 id
        replace x3 := hE.cell x3 id
        replace x4 := hE.cell x4 id
        replace x5 := hE.cell x5 id
        replace x6 := hE.cell x6 id
        replace x7 := hE.cell x7 id
        replace HX := Lib.hid (HX.out.ext hE)
        have Krw3 := Lib.hid hKn
        have hbz : w.heap.size ≤ br := by have := HXo.out.size; omega
        clear hKn hE hw3 hbr HXo hzz
        have hbr := hbz
        clear hbz
        clear hzn
        refine (k_pairs w3 _ _ _ _ p q HNp.out.prs HNv1.out.prs).mono ?_
        rintro e w4 ⟨rfl, hE⟩
        have Krw4 := Lib.hid (hE.blk Krw3.out id)
        replace HNp := Lib.hid (newP_mod HNp.out hE (fun _ _ => id))
        replace HNv1 := Lib.hid (newP_mod HNv1.out hE (fun _ _ => id))
        replace x0 := hE.cell x0 id
        replace x1 := hE.cell x1 id
        replace x2 := hE.cell x2 id
        replace x3 := hE.cell x3 id
        replace x4 := hE.cell x4 id
        replace x5 := hE.cell x5 id
        replace x6 := hE.cell x6 id
        replace x7 := hE.cell x7 id
        replace HX := Lib.hid (HX.out.ext hE)
        clear Krw3
        rw [show eqPrs p q = true by rw [Hqp.out]; exact eqPrs_refl _]
        clear hE
        have r_0 : w4.cell? ⟨br, 0, none⟩ = some _ := blk_cell (cs := [.int .i64 r.code, .int .i64 r.val.kind, .float .f64 r.val.num, .string r.val.text]) Krw4.out rfl
        have r_1 : w4.cell? ⟨br, 1, none⟩ = some _ := blk_cell (cs := [.int .i64 r.code, .int .i64 r.val.kind, .float .f64 r.val.num, .string r.val.text]) Krw4.out rfl
        have r_2 : w4.cell? ⟨br, 2, none⟩ = some _ := blk_cell (cs := [.int .i64 r.code, .int .i64 r.val.kind, .float .f64 r.val.num, .string r.val.text]) Krw4.out rfl
        have r_3 : w4.cell? ⟨br, 3, none⟩ = some _ := blk_cell (cs := [.int .i64 r.code, .int .i64 r.val.kind, .float .f64 r.val.num, .string r.val.text]) Krw4.out rfl
        have r_l : br < w4.heap.size := (Array.getElem?_eq_some_iff.1 Krw4.out).1
        go_wp2_with fail
        refine (kv_check w4 _ _ q HNv1.out.prs).mono ?_
        rintro e w5 ⟨rfl, hE⟩
        clear r_0 r_1 r_2 r_3 r_l
        have Krw5 := Lib.hid (hE.blk Krw4.out id)
        replace HNp := Lib.hid (newP_mod HNp.out hE (fun _ _ => id))
        replace HNv1 := Lib.hid (newP_mod HNv1.out hE (fun _ _ => id))
        replace x0 := hE.cell x0 id
        replace x1 := hE.cell x1 id
        replace x2 := hE.cell x2 id
        replace x3 := hE.cell x3 id
        replace x4 := hE.cell x4 id
        replace x5 := hE.cell x5 id
        replace x6 := hE.cell x6 id
        replace x7 := hE.cell x7 id
        replace HX := Lib.hid (HX.out.ext hE)
        clear Krw4
        rw [chkP_yes HQ.out]
        clear hE
        have r_0 : w5.cell? ⟨br, 0, none⟩ = some _ := blk_cell (cs := [.int .i64 r.code, .int .i64 r.val.kind, .float .f64 r.val.num, .string r.val.text]) Krw5.out rfl
        have r_1 : w5.cell? ⟨br, 1, none⟩ = some _ := blk_cell (cs := [.int .i64 r.code, .int .i64 r.val.kind, .float .f64 r.val.num, .string r.val.text]) Krw5.out rfl
        have r_2 : w5.cell? ⟨br, 2, none⟩ = some _ := blk_cell (cs := [.int .i64 r.code, .int .i64 r.val.kind, .float .f64 r.val.num, .string r.val.text]) Krw5.out rfl
        have r_3 : w5.cell? ⟨br, 3, none⟩ = some _ := blk_cell (cs := [.int .i64 r.code, .int .i64 r.val.kind, .float .f64 r.val.num, .string r.val.text]) Krw5.out rfl
        have r_l : br < w5.heap.size := (Array.getElem?_eq_some_iff.1 Krw5.out).1
        go_wp2_with fail
        refine (kv_changes x w5).mono ?_
        rintro e w6 ⟨rfl, hE⟩
        clear r_0 r_1 r_2 r_3 r_l
        have Krw6 := Lib.hid (hE.blk Krw5.out id)
        replace HNp := Lib.hid (newP_mod HNp.out hE (fun _ _ => id))
        replace HNv1 := Lib.hid (newP_mod HNv1.out hE (fun _ _ => id))
        replace x0 := hE.cell x0 id
        replace x1 := hE.cell x1 id
        replace x2 := hE.cell x2 id
        replace x3 := hE.cell x3 id
        replace x4 := hE.cell x4 id
        replace x5 := hE.cell x5 id
        replace x6 := hE.cell x6 id
        replace x7 := hE.cell x7 id
        replace HX := Lib.hid (HX.out.ext hE)
        clear Krw5
        rw [d1k]
        clear hE
        have r_0 : w6.cell? ⟨br, 0, none⟩ = some _ := blk_cell (cs := [.int .i64 r.code, .int .i64 r.val.kind, .float .f64 r.val.num, .string r.val.text]) Krw6.out rfl
        have r_1 : w6.cell? ⟨br, 1, none⟩ = some _ := blk_cell (cs := [.int .i64 r.code, .int .i64 r.val.kind, .float .f64 r.val.num, .string r.val.text]) Krw6.out rfl
        have r_2 : w6.cell? ⟨br, 2, none⟩ = some _ := blk_cell (cs := [.int .i64 r.code, .int .i64 r.val.kind, .float .f64 r.val.num, .string r.val.text]) Krw6.out rfl
        have r_3 : w6.cell? ⟨br, 3, none⟩ = some _ := blk_cell (cs := [.int .i64 r.code, .int .i64 r.val.kind, .float .f64 r.val.num, .string r.val.text]) Krw6.out rfl
        have r_l : br < w6.heap.size := (Array.getElem?_eq_some_iff.1 Krw6.out).1
        go_wp2_with fail
        refine (k_pairs w6 _ _ _ _ p q HNp.out.prs HNv1.out.prs).mono ?_
        rintro e w7 ⟨rfl, hE⟩
        clear r_0 r_1 r_2 r_3 r_l
        have Krw7 := Lib.hid (hE.blk Krw6.out id)
        replace HNp := Lib.hid (newP_mod HNp.out hE (fun _ _ => id))
        replace HNv1 := Lib.hid (newP_mod HNv1.out hE (fun _ _ => id))
        replace x0 := hE.cell x0 id
        replace x1 := hE.cell x1 id
        replace x2 := hE.cell x2 id
        replace x3 := hE.cell x3 id
        replace x4 := hE.cell x4 id
        replace x5 := hE.cell x5 id
        replace x6 := hE.cell x6 id
        replace x7 := hE.cell x7 id
        replace HX := Lib.hid (HX.out.ext hE)
        clear Krw6
        rw [show eqPrs p q = true by rw [Hqp.out]; exact eqPrs_refl _]
        clear hE
        have r_0 : w7.cell? ⟨br, 0, none⟩ = some _ := blk_cell (cs := [.int .i64 r.code, .int .i64 r.val.kind, .float .f64 r.val.num, .string r.val.text]) Krw7.out rfl
        have r_1 : w7.cell? ⟨br, 1, none⟩ = some _ := blk_cell (cs := [.int .i64 r.code, .int .i64 r.val.kind, .float .f64 r.val.num, .string r.val.text]) Krw7.out rfl
        have r_2 : w7.cell? ⟨br, 2, none⟩ = some _ := blk_cell (cs := [.int .i64 r.code, .int .i64 r.val.kind, .float .f64 r.val.num, .string r.val.text]) Krw7.out rfl
        have r_3 : w7.cell? ⟨br, 3, none⟩ = some _ := blk_cell (cs := [.int .i64 r.code, .int .i64 r.val.kind, .float .f64 r.val.num, .string r.val.text]) Krw7.out rfl
        have r_l : br < w7.heap.size := (Array.getElem?_eq_some_iff.1 Krw7.out).1
        clear r_0 r_1 r_2 r_3 r_l
        go_wp2
        exact ⟨⟨i + 1, q, by omega, by omega, by go_num, HNv1.out, HQ.out, HX.out⟩, by simp [intOf]; omega⟩
      have n9 : (r.code != 9) = true := by simpa using h9
      have hv := Hz.out h9
      have Hv := Lib.hid hv
      clear h0 hk h9 hv
      go_wp2_with fail
      obtain ⟨w3, hw3⟩ : ∃ w3, w3 = w2.alloc (.cells #[.int .i64 r.code, .int .i64 r.val.kind, .float .f64 r.val.num, .string r.val.text] 33) := ⟨_, rfl⟩
      obtain ⟨br, hbr⟩ : ∃ br, br = w2.heap.size := ⟨_, rfl⟩
      have hzz : w2.heap.size = br := hbr.symm
      have hE : Ext w2 w3 := by rw [hw3]; exact (Mod.refl _ w2).alloc _
      have hKn : w3.heap[br]? = some (.cells #[.int .i64 r.code, .int .i64 r.val.kind, .float .f64 r.val.num, .string r.val.text] 33 (0, 0)) := by rw [hw3, ← hzz]; exact heap_alloc_new w2 _
      have hzn : w3.heap.size = br + 1 := by rw [hw3, ← hzz]; simp
      rw [← hw3, ← hbr]
      have HXo := HX
      replace HNp := Lib.hid (newP_mod HNp.out hE (fun _ _ => id))
      replace HNv1 := Lib.hid (newP_mod HNv1.out hE (fun _ _ => id))
      replace x0 := hE.cell x0 id
      replace x1 := hE.cell x1 id
      replace x2 := hE.cell x2 id
      replace x3 := hE.cell x3 id
      replace x4 := hE.cell x4 id
      replace x5 := hE.cell x5 id
      replace x6 := hE.cell x6 id
      replace x7 := hE.cell x7 id
      replace HX := Lib.hid (HX.out.ext hE)
      have Krw3 := Lib.hid hKn
      have hbz : w.heap.size ≤ br := by have := HXo.out.size; omega
      clear hKn hE hw3 hbr HXo hzz
      have hbr := hbz
      clear hbz
      clear hzn
      refine (k_pairs w3 _ _ _ _ p q HNp.out.prs HNv1.out.prs).mono ?_
      rintro e w4 ⟨rfl, hE⟩
      have Krw4 := Lib.hid (hE.blk Krw3.out id)
      replace HNp := Lib.hid (newP_mod HNp.out hE (fun _ _ => id))
      replace HNv1 := Lib.hid (newP_mod HNv1.out hE (fun _ _ => id))
      replace x0 := hE.cell x0 id
      replace x1 := hE.cell x1 id
      replace x2 := hE.cell x2 id
      replace x3 := hE.cell x3 id
      replace x4 := hE.cell x4 id
      replace x5 := hE.cell x5 id
      replace x6 := hE.cell x6 id
      replace x7 := hE.cell x7 id
      replace HX := Lib.hid (HX.out.ext hE)
      clear Krw3
      rw [show eqPrs p q = true by rw [Hqp.out]; exact eqPrs_refl _]
      clear hE
      have r_0 : w4.cell? ⟨br, 0, none⟩ = some _ := blk_cell (cs := [.int .i64 r.code, .int .i64 r.val.kind, .float .f64 r.val.num, .string r.val.text]) Krw4.out rfl
      have r_1 : w4.cell? ⟨br, 1, none⟩ = some _ := blk_cell (cs := [.int .i64 r.code, .int .i64 r.val.kind, .float .f64 r.val.num, .string r.val.text]) Krw4.out rfl
      have r_2 : w4.cell? ⟨br, 2, none⟩ = some _ := blk_cell (cs := [.int .i64 r.code, .int .i64 r.val.kind, .float .f64 r.val.num, .string r.val.text]) Krw4.out rfl
      have r_3 : w4.cell? ⟨br, 3, none⟩ = some _ := blk_cell (cs := [.int .i64 r.code, .int .i64 r.val.kind, .float .f64 r.val.num, .string r.val.text]) Krw4.out rfl
      have r_l : br < w4.heap.size := (Array.getElem?_eq_some_iff.1 Krw4.out).1
      go_wp2_with fail
      refine (k_value r.val AVal.zero w4).mono ?_
      rintro e w5 ⟨rfl, hE⟩
      clear r_0 r_1 r_2 r_3 r_l
      have Krw5 := Lib.hid (hE.blk Krw4.out id)
      replace HNp := Lib.hid (newP_mod HNp.out hE (fun _ _ => id))
      replace HNv1 := Lib.hid (newP_mod HNv1.out hE (fun _ _ => id))
      replace x0 := hE.cell x0 id
      replace x1 := hE.cell x1 id
      replace x2 := hE.cell x2 id
      replace x3 := hE.cell x3 id
      replace x4 := hE.cell x4 id
      replace x5 := hE.cell x5 id
      replace x6 := hE.cell x6 id
      replace x7 := hE.cell x7 id
      replace HX := Lib.hid (HX.out.ext hE)
      clear Krw4
      rw [show eqVal r.val AVal.zero = true by rw [Hv.out]; exact eqVal_refl _]
      clear hE
      have r_0 : w5.cell? ⟨br, 0, none⟩ = some _ := blk_cell (cs := [.int .i64 r.code, .int .i64 r.val.kind, .float .f64 r.val.num, .string r.val.text]) Krw5.out rfl
      have r_1 : w5.cell? ⟨br, 1, none⟩ = some _ := blk_cell (cs := [.int .i64 r.code, .int .i64 r.val.kind, .float .f64 r.val.num, .string r.val.text]) Krw5.out rfl
      have r_2 : w5.cell? ⟨br, 2, none⟩ = some _ := blk_cell (cs := [.int .i64 r.code, .int .i64 r.val.kind, .float .f64 r.val.num, .string r.val.text]) Krw5.out rfl
      have r_3 : w5.cell? ⟨br, 3, none⟩ = some _ := blk_cell (cs := [.int .i64 r.code, .int .i64 r.val.kind, .float .f64 r.val.num, .string r.val.text]) Krw5.out rfl
      have r_l : br < w5.heap.size := (Array.getElem?_eq_some_iff.1 Krw5.out).1
      go_wp2_with fail
      refine (kv_check w5 _ _ q HNv1.out.prs).mono ?_
      rintro e w6 ⟨rfl, hE⟩
      clear r_0 r_1 r_2 r_3 r_l
      have Krw6 := Lib.hid (hE.blk Krw5.out id)
      replace HNp := Lib.hid (newP_mod HNp.out hE (fun _ _ => id))
      replace HNv1 := Lib.hid (newP_mod HNv1.out hE (fun _ _ => id))
      replace x0 := hE.cell x0 id
      replace x1 := hE.cell x1 id
      replace x2 := hE.cell x2 id
      replace x3 := hE.cell x3 id
      replace x4 := hE.cell x4 id
      replace x5 := hE.cell x5 id
      replace x6 := hE.cell x6 id
      replace x7 := hE.cell x7 id
      replace HX := Lib.hid (HX.out.ext hE)
      clear Krw5
      rw [chkP_yes HQ.out]
      clear hE
      have r_0 : w6.cell? ⟨br, 0, none⟩ = some _ := blk_cell (cs := [.int .i64 r.code, .int .i64 r.val.kind, .float .f64 r.val.num, .string r.val.text]) Krw6.out rfl
      have r_1 : w6.cell? ⟨br, 1, none⟩ = some _ := blk_cell (cs := [.int .i64 r.code, .int .i64 r.val.kind, .float .f64 r.val.num, .string r.val.text]) Krw6.out rfl
      have r_2 : w6.cell? ⟨br, 2, none⟩ = some _ := blk_cell (cs := [.int .i64 r.code, .int .i64 r.val.kind, .float .f64 r.val.num, .string r.val.text]) Krw6.out rfl
      have r_3 : w6.cell? ⟨br, 3, none⟩ = some _ := blk_cell (cs := [.int .i64 r.code, .int .i64 r.val.kind, .float .f64 r.val.num, .string r.val.text]) Krw6.out rfl
      have r_l : br < w6.heap.size := (Array.getElem?_eq_some_iff.1 Krw6.out).1
      go_wp2_with fail
      refine (kv_changes x w6).mono ?_
      rintro e w7 ⟨rfl, hE⟩
      clear r_0 r_1 r_2 r_3 r_l
      have Krw7 := Lib.hid (hE.blk Krw6.out id)
      replace HNp := Lib.hid (newP_mod HNp.out hE (fun _ _ => id))
      replace HNv1 := Lib.hid (newP_mod HNv1.out hE (fun _ _ => id))
      replace x0 := hE.cell x0 id
      replace x1 := hE.cell x1 id
      replace x2 := hE.cell x2 id
      replace x3 := hE.cell x3 id
      replace x4 := hE.cell x4 id
      replace x5 := hE.cell x5 id
      replace x6 := hE.cell x6 id
      replace x7 := hE.cell x7 id
      replace HX := Lib.hid (HX.out.ext hE)
      clear Krw6
      rw [d1k]
      clear hE
      have r_0 : w7.cell? ⟨br, 0, none⟩ = some _ := blk_cell (cs := [.int .i64 r.code, .int .i64 r.val.kind, .float .f64 r.val.num, .string r.val.text]) Krw7.out rfl
      have r_1 : w7.cell? ⟨br, 1, none⟩ = some _ := blk_cell (cs := [.int .i64 r.code, .int .i64 r.val.kind, .float .f64 r.val.num, .string r.val.text]) Krw7.out rfl
      have r_2 : w7.cell? ⟨br, 2, none⟩ = some _ := blk_cell (cs := [.int .i64 r.code, .int .i64 r.val.kind, .float .f64 r.val.num, .string r.val.text]) Krw7.out rfl
      have r_3 : w7.cell? ⟨br, 3, none⟩ = some _ := blk_cell (cs := [.int .i64 r.code, .int .i64 r.val.kind, .float .f64 r.val.num, .string r.val.text]) Krw7.out rfl
      have r_l : br < w7.heap.size := (Array.getElem?_eq_some_iff.1 Krw7.out).1
      go_wp2_with fail
      refine (k_pairs w7 _ _ _ _ p q HNp.out.prs HNv1.out.prs).mono ?_
      rintro e w8 ⟨rfl, hE⟩
      clear r_0 r_1 r_2 r_3 r_l
      have Krw8 := Lib.hid (hE.blk Krw7.out id)
      replace HNp := Lib.hid (newP_mod HNp.out hE (fun _ _ => id))
      replace HNv1 := Lib.hid (newP_mod HNv1.out hE (fun _ _ => id))
      replace x0 := hE.cell x0 id
      replace x1 := hE.cell x1 id
      replace x2 := hE.cell x2 id
      replace x3 := hE.cell x3 id
      replace x4 := hE.cell x4 id
      replace x5 := hE.cell x5 id
      replace x6 := hE.cell x6 id
      replace x7 := hE.cell x7 id
      replace HX := Lib.hid (HX.out.ext hE)
      clear Krw7
      rw [show eqPrs p q = true by rw [Hqp.out]; exact eqPrs_refl _]
      clear hE
      have r_0 : w8.cell? ⟨br, 0, none⟩ = some _ := blk_cell (cs := [.int .i64 r.code, .int .i64 r.val.kind, .float .f64 r.val.num, .string r.val.text]) Krw8.out rfl
      have r_1 : w8.cell? ⟨br, 1, none⟩ = some _ := blk_cell (cs := [.int .i64 r.code, .int .i64 r.val.kind, .float .f64 r.val.num, .string r.val.text]) Krw8.out rfl
      have r_2 : w8.cell? ⟨br, 2, none⟩ = some _ := blk_cell (cs := [.int .i64 r.code, .int .i64 r.val.kind, .float .f64 r.val.num, .string r.val.text]) Krw8.out rfl
      have r_3 : w8.cell? ⟨br, 3, none⟩ = some _ := blk_cell (cs := [.int .i64 r.code, .int .i64 r.val.kind, .float .f64 r.val.num, .string r.val.text]) Krw8.out rfl
      have r_l : br < w8.heap.size := (Array.getElem?_eq_some_iff.1 Krw8.out).1
      clear r_0 r_1 r_2 r_3 r_l
      go_wp2
      exact ⟨⟨i + 1, q, by omega, by omega, by go_num, HNv1.out, HQ.out, HX.out⟩, by simp [intOf]; omega⟩
    case neg =>
      have d1k : (x.kind != 1) = true := by simpa using hk
      by_cases h0 : r.code = 0
      case pos =>
        have n0 : (r.code != 0) = false := by simpa using h0
        clear h0 hk
        go_wp2_with fail
        obtain ⟨w3, hw3⟩ : ∃ w3, w3 = w2.alloc (.cells #[.int .i64 r.code, .int .i64 r.val.kind, .float .f64 r.val.num, .string r.val.text] 33) := ⟨_, rfl⟩
        obtain ⟨br, hbr⟩ : ∃ br, br = w2.heap.size := ⟨_, rfl⟩
        have hzz : w2.heap.size = br := hbr.symm
        have hE : Ext w2 w3 := by rw [hw3]; exact (Mod.refl _ w2).alloc _
        have hKn : w3.heap[br]? = some (.cells #[.int .i64 r.code, .int .i64 r.val.kind, .float .f64 r.val.num, .string r.val.text] 33 (0, 0)) := by rw [hw3, ← hzz]; exact heap_alloc_new w2 _
        have hzn : w3.heap.size = br + 1 := by rw [hw3, ← hzz]; simp
        rw [← hw3, ← hbr]
        have HXo := HX
        replace HNp := Lib.hid (newP_mod HNp.out hE (fun _ _ => id))
        replace HNv1 := Lib.hid (newP_mod HNv1.out hE (fun _ _ => id))
        replace x0 := hE.cell x0 id
        replace x1 := hE.cell x1 id
        replace x2 := hE.cell x2 id
        replace x3 := hE.cell x3 id
        replace x4 := hE.cell x4 id
        replace x5 := hE.cell x5 id
        replace x6 := hE.cell x6 id
        replace x7 := hE.cell x7 id
        replace HX := Lib.hid (HX.out.ext hE)
        have Krw3 := Lib.hid hKn
        have hbz : w.heap.size ≤ br := by have := HXo.out.size; omega
        clear hKn hE hw3 hbr HXo hzz
        have hbr := hbz
        clear hbz
        clear hzn
        refine (kv_check w3 _ _ q HNv1.out.prs).mono ?_
        rintro e w4 ⟨rfl, hE⟩
        have Krw4 := Lib.hid (hE.blk Krw3.out id)
        replace HNp := Lib.hid (newP_mod HNp.out hE (fun _ _ => id))
        replace HNv1 := Lib.hid (newP_mod HNv1.out hE (fun _ _ => id))
        replace x0 := hE.cell x0 id
        replace x1 := hE.cell x1 id
        replace x2 := hE.cell x2 id
        replace x3 := hE.cell x3 id
        replace x4 := hE.cell x4 id
        replace x5 := hE.cell x5 id
        replace x6 := hE.cell x6 id
        replace x7 := hE.cell x7 id
        replace HX := Lib.hid (HX.out.ext hE)
        clear Krw3
        rw [chkP_yes HQ.out]
        clear hE
        have r_0 : w4.cell? ⟨br, 0, none⟩ = some _ := blk_cell (cs := [.int .i64 r.code, .int .i64 r.val.kind, .float .f64 r.val.num, .string r.val.text]) Krw4.out rfl
        have r_1 : w4.cell? ⟨br, 1, none⟩ = some _ := blk_cell (cs := [.int .i64 r.code, .int .i64 r.val.kind, .float .f64 r.val.num, .string r.val.text]) Krw4.out rfl
        have r_2 : w4.cell? ⟨br, 2, none⟩ = some _ := blk_cell (cs := [.int .i64 r.code, .int .i64 r.val.kind, .float .f64 r.val.num, .string r.val.text]) Krw4.out rfl
        have r_3 : w4.cell? ⟨br, 3, none⟩ = some _ := blk_cell (cs := [.int .i64 r.code, .int .i64 r.val.kind, .float .f64 r.val.num, .string r.val.text]) Krw4.out rfl
        have r_l : br < w4.heap.size := (Array.getElem?_eq_some_iff.1 Krw4.out).1
        go_wp2_with fail
        refine (kv_changes x w4).mono ?_
        rintro e w5 ⟨rfl, hE⟩
        clear r_0 r_1 r_2 r_3 r_l
        have Krw5 := Lib.hid (hE.blk Krw4.out id)
        replace HNp := Lib.hid (newP_mod HNp.out hE (fun _ _ => id))
        replace HNv1 := Lib.hid (newP_mod HNv1.out hE (fun _ _ => id))
        replace x0 := hE.cell x0 id
        replace x1 := hE.cell x1 id
        replace x2 := hE.cell x2 id
        replace x3 := hE.cell x3 id
        replace x4 := hE.cell x4 id
        replace x5 := hE.cell x5 id
        replace x6 := hE.cell x6 id
        replace x7 := hE.cell x7 id
        replace HX := Lib.hid (HX.out.ext hE)
        clear Krw4
        rw [d1k]
        clear hE
        have r_0 : w5.cell? ⟨br, 0, none⟩ = some _ := blk_cell (cs := [.int .i64 r.code, .int .i64 r.val.kind, .float .f64 r.val.num, .string r.val.text]) Krw5.out rfl
        have r_1 : w5.cell? ⟨br, 1, none⟩ = some _ := blk_cell (cs := [.int .i64 r.code, .int .i64 r.val.kind, .float .f64 r.val.num, .string r.val.text]) Krw5.out rfl
        have r_2 : w5.cell? ⟨br, 2, none⟩ = some _ := blk_cell (cs := [.int .i64 r.code, .int .i64 r.val.kind, .float .f64 r.val.num, .string r.val.text]) Krw5.out rfl
        have r_3 : w5.cell? ⟨br, 3, none⟩ = some _ := blk_cell (cs := [.int .i64 r.code, .int .i64 r.val.kind, .float .f64 r.val.num, .string r.val.text]) Krw5.out rfl
        have r_l : br < w5.heap.size := (Array.getElem?_eq_some_iff.1 Krw5.out).1
        clear r_0 r_1 r_2 r_3 r_l
        go_wp2
        exact ⟨⟨i + 1, q, by omega, by omega, by go_num, HNv1.out, HQ.out, HX.out⟩, by simp [intOf]; omega⟩
      have n0 : (r.code != 0) = true := by simpa using h0
      obtain ⟨hqp, hz⟩ := Hsame.out h0
      have Hz := Lib.hid hz
      have Hqp := Lib.hid hqp
      clear hz hqp
      by_cases h9 : r.code = 9
      case pos =>
        have n9 : (r.code != 9) = false := by simpa using h9
        clear h0 hk h9
        go_wp2_with fail
        obtain ⟨w3, hw3⟩ : ∃ w3, w3 = w2.alloc (.cells #[.int .i64 r.code, .int .i64 r.val.kind, .float .f64 r.val.num, .string r.val.text] 33) := ⟨_, rfl⟩
        obtain ⟨br, hbr⟩ : ∃ br, br = w2.heap.size := ⟨_, rfl⟩
        have hzz : w2.heap.size = br := hbr.symm
        have hE : Ext w2 w3 := by rw [hw3]; exact (Mod.refl _ w2).alloc _
        have hKn : w3.heap[br]? = some (.cells #[.int .i64 r.code, .int .i64 r.val.kind, .float .f64 r.val.num, .string r.val.text] 33 (0, 0)) := by rw [hw3, ← hzz]; exact heap_alloc_new w2 _
        have hzn : w3.heap.size = br + 1 := by rw [hw3, ← hzz]; simp
        rw [← hw3, ← hbr]
        have HXo := HX
        replace HNp := Lib.hid (newP_mod HNp.out hE (fun _ _ => id))
        replace HNv1 := Lib.hid (newP_mod HNv1.out hE (fun _ _ => id))
        replace x0 := hE.cell x0 id
        replace x1 := hE.cell x1 id
        replace x2 := hE.cell x2 id
        replace x3 := hE.cell x3 id
        replace x4 := hE.cell x4 id
        replace x5 := hE.cell x5 id
        replace x6 := hE.cell x6 id
        replace x7 := hE.cell x7 id
        replace HX := Lib.hid (HX.out.ext hE)
        have Krw3 := Lib.hid hKn
        have hbz : w.heap.size ≤ br := by have := HXo.out.size; omega
        clear hKn hE hw3 hbr HXo hzz
        have hbr := hbz
        clear hbz
        clear hzn
        refine (k_pairs w3 _ _ _ _ p q HNp.out.prs HNv1.out.prs).mono ?_
        rintro e w4 ⟨rfl, hE⟩
        have Krw4 := Lib.hid (hE.blk Krw3.out id)
        replace HNp := Lib.hid (newP_mod HNp.out hE (fun _ _ => id))
        replace HNv1 := Lib.hid (newP_mod HNv1.out hE (fun _ _ => id))
        replace x0 := hE.cell x0 id
        replace x1 := hE.cell x1 id
        replace x2 := hE.cell x2 id
        replace x3 := hE.cell x3 id
        replace x4 := hE.cell x4 id
        replace x5 := hE.cell x5 id
        replace x6 := hE.cell x6 id
        replace x7 := hE.cell x7 id
        replace HX := Lib.hid (HX.out.ext hE)
        clear Krw3
        rw [show eqPrs p q = true by rw [Hqp.out]; exact eqPrs_refl _]
        clear hE
        have r_0 : w4.cell? ⟨br, 0, none⟩ = some _ := blk_cell (cs := [.int .i64 r.code, .int .i64 r.val.kind, .float .f64 r.val.num, .string r.val.text]) Krw4.out rfl
        have r_1 : w4.cell? ⟨br, 1, none⟩ = some _ := blk_cell (cs := [.int .i64 r.code, .int .i64 r.val.kind, .float .f64 r.val.num, .string r.val.text]) Krw4.out rfl
        have r_2 : w4.cell? ⟨br, 2, none⟩ = some _ := blk_cell (cs := [.int .i64 r.code, .int .i64 r.val.kind, .float .f64 r.val.num, .string r.val.text]) Krw4.out rfl
        have r_3 : w4.cell? ⟨br, 3, none⟩ = some _ := blk_cell (cs := [.int .i64 r.code, .int .i64 r.val.kind, .float .f64 r.val.num, .string r.val.text]) Krw4.out rfl
        have r_l : br < w4.heap.size := (Array.getElem?_eq_some_iff.1 Krw4.out).1
        go_wp2_with fail
        refine (kv_check w4 _ _ q HNv1.out.prs).mono ?_
        rintro e w5 ⟨rfl, hE⟩
        clear r_0 r_1 r_2 r_3 r_l
        have Krw5 := Lib.hid (hE.blk Krw4.out id)
        replace HNp := Lib.hid (newP_mod HNp.out hE (fun _ _ => id))
        replace HNv1 := Lib.hid (newP_mod HNv1.out hE (fun _ _ => id))
        replace x0 := hE.cell x0 id
        replace x1 := hE.cell x1 id
        replace x2 := hE.cell x2 id
        replace x3 := hE.cell x3 id
        replace x4 := hE.cell x4 id
        replace x5 := hE.cell x5 id
        replace x6 := hE.cell x6 id
        replace x7 := hE.cell x7 id
        replace HX := Lib.hid (HX.out.ext hE)
        clear Krw4
        rw [chkP_yes HQ.out]
        clear hE
        have r_0 : w5.cell? ⟨br, 0, none⟩ = some _ := blk_cell (cs := [.int .i64 r.code, .int .i64 r.val.kind, .float .f64 r.val.num, .string r.val.text]) Krw5.out rfl
        have r_1 : w5.cell? ⟨br, 1, none⟩ = some _ := blk_cell (cs := [.int .i64 r.code, .int .i64 r.val.kind, .float .f64 r.val.num, .string r.val.text]) Krw5.out rfl
        have r_2 : w5.cell? ⟨br, 2, none⟩ = some _ := blk_cell (cs := [.int .i64 r.code, .int .i64 r.val.kind, .float .f64 r.val.num, .string r.val.text]) Krw5.out rfl
        have r_3 : w5.cell? ⟨br, 3, none⟩ = some _ := blk_cell (cs := [.int .i64 r.code, .int .i64 r.val.kind, .float .f64 r.val.num, .string r.val.text]) Krw5.out rfl
        have r_l : br < w5.heap.size := (Array.getElem?_eq_some_iff.1 Krw5.out).1
        go_wp2_with fail
        refine (kv_changes x w5).mono ?_
        rintro e w6 ⟨rfl, hE⟩
        clear r_0 r_1 r_2 r_3 r_l
        have Krw6 := Lib.hid (hE.blk Krw5.out id)
        replace HNp := Lib.hid (newP_mod HNp.out hE (fun _ _ => id))
        replace HNv1 := Lib.hid (newP_mod HNv1.out hE (fun _ _ => id))
        replace x0 := hE.cell x0 id
        replace x1 := hE.cell x1 id
        replace x2 := hE.cell x2 id
        replace x3 := hE.cell x3 id
        replace x4 := hE.cell x4 id
        replace x5 := hE.cell x5 id
        replace x6 := hE.cell x6 id
        replace x7 := hE.cell x7 id
        replace HX := Lib.hid (HX.out.ext hE)
        clear Krw5
        rw [d1k]
        clear hE
        have r_0 : w6.cell? ⟨br, 0, none⟩ = some _ := blk_cell (cs := [.int .i64 r.code, .int .i64 r.val.kind, .float .f64 r.val.num, .string r.val.text]) Krw6.out rfl
        have r_1 : w6.cell? ⟨br, 1, none⟩ = some _ := blk_cell (cs := [.int .i64 r.code, .int .i64 r.val.kind, .float .f64 r.val.num, .string r.val.text]) Krw6.out rfl
        have r_2 : w6.cell? ⟨br, 2, none⟩ = some _ := blk_cell (cs := [.int .i64 r.code, .int .i64 r.val.kind, .float .f64 r.val.num, .string r.val.text]) Krw6.out rfl
        have r_3 : w6.cell? ⟨br, 3, none⟩ = some _ := blk_cell (cs := [.int .i64 r.code, .int .i64 r.val.kind, .float .f64 r.val.num, .string r.val.text]) Krw6.out rfl
        have r_l : br < w6.heap.size := (Array.getElem?_eq_some_iff.1 Krw6.out).1
        clear r_0 r_1 r_2 r_3 r_l
        go_wp2
        exact ⟨⟨i + 1, q, by omega, by omega, by go_num, HNv1.out, HQ.out, HX.out⟩, by simp [intOf]; omega⟩
      have n9 : (r.code != 9) = true := by simpa using h9
      have hv := Hz.out h9
      have Hv := Lib.hid hv
      clear h0 hk h9 hv
      go_wp2_with fail
      obtain ⟨w3, hw3⟩ : ∃ w3, w3 = w2.alloc (.cells #[.int .i64 r.code, .int .i64 r.val.kind, .float .f64 r.val.num, .string r.val.text] 33) := ⟨_, rfl⟩
      obtain ⟨br, hbr⟩ : ∃ br, br = w2.heap.size := ⟨_, rfl⟩
      have hzz : w2.heap.size = br := hbr.symm
      have hE : Ext w2 w3 := by rw [hw3]; exact (Mod.refl _ w2).alloc _
      have hKn : w3.heap[br]? = some (.cells #[.int .i64 r.code, .int .i64 r.val.kind, .float .f64 r.val.num, .string r.val.text] 33 (0, 0)) := by rw [hw3, ← hzz]; exact heap_alloc_new w2 _
      have hzn : w3.heap.size = br + 1 := by rw [hw3, ← hzz]; simp
      rw [← hw3, ← hbr]
      have HXo := HX
      replace HNp := Lib.hid (newP_mod HNp.out hE (fun _ _ => id))
      replace HNv1 := Lib.hid (newP_mod HNv1.out hE (fun _ _ => id))
      replace x0 := hE.cell x0 id
      replace x1 := hE.cell x1 id
      replace x2 := hE.cell x2 id
      replace x3 := hE.cell x3 id
      replace x4 := hE.cell x4 id
      replace x5 := hE.cell x5 id
      replace x6 := hE.cell x6 id
      replace x7 := hE.cell x7 id
      replace HX := Lib.hid (HX.out.ext hE)
      have Krw3 := Lib.hid hKn
      have hbz : w.heap.size ≤ br := by have := HXo.out.size; omega
      clear hKn hE hw3 hbr HXo hzz
      have hbr := hbz
      clear hbz
      clear hzn
      refine (k_pairs w3 _ _ _ _ p q HNp.out.prs HNv1.out.prs).mono ?_
      rintro e w4 ⟨rfl, hE⟩
      have Krw4 := Lib.hid (hE.blk Krw3.out id)
      replace HNp := Lib.hid (newP_mod HNp.out hE (fun _ _ => id))
      replace HNv1 := Lib.hid (newP_mod HNv1.out hE (fun _ _ => id))
      replace x0 := hE.cell x0 id
      replace x1 := hE.cell x1 id
      replace x2 := hE.cell x2 id
      replace x3 := hE.cell x3 id
      replace x4 := hE.cell x4 id
      replace x5 := hE.cell x5 id
      replace x6 := hE.cell x6 id
      replace x7 := hE.cell x7 id
      replace HX := Lib.hid (HX.out.ext hE)
      clear Krw3
      rw [show eqPrs p q = true by rw [Hqp.out]; exact eqPrs_refl _]
      clear hE
      have r_0 : w4.cell? ⟨br, 0, none⟩ = some _ := blk_cell (cs := [.int .i64 r.code, .int .i64 r.val.kind, .float .f64 r.val.num, .string r.val.text]) Krw4.out rfl
      have r_1 : w4.cell? ⟨br, 1, none⟩ = some _ := blk_cell (cs := [.int .i64 r.code, .int .i64 r.val.kind, .float .f64 r.val.num, .string r.val.text]) Krw4.out rfl
      have r_2 : w4.cell? ⟨br, 2, none⟩ = some _ := blk_cell (cs := [.int .i64 r.code, .int .i64 r.val.kind, .float .f64 r.val.num, .string r.val.text]) Krw4.out rfl
      have r_3 : w4.cell? ⟨br, 3, none⟩ = some _ := blk_cell (cs := [.int .i64 r.code, .int .i64 r.val.kind, .float .f64 r.val.num, .string r.val.text]) Krw4.out rfl
      have r_l : br < w4.heap.size := (Array.getElem?_eq_some_iff.1 Krw4.out).1
      go_wp2_with fail
      refine (k_value r.val AVal.zero w4).mono ?_
      rintro e w5 ⟨rfl, hE⟩
      clear r_0 r_1 r_2 r_3 r_l
      have Krw5 := Lib.hid (hE.blk Krw4.out id)
      replace HNp := Lib.hid (newP_mod HNp.out hE (fun _ _ => id))
      replace HNv1 := Lib.hid (newP_mod HNv1.out hE (fun _ _ => id))
      replace x0 := hE.cell x0 id
      replace x1 := hE.cell x1 id
      replace x2 := hE.cell x2 id
      replace x3 := hE.cell x3 id
      replace x4 := hE.cell x4 id
      replace x5 := hE.cell x5 id
      replace x6 := hE.cell x6 id
      replace x7 := hE.cell x7 id
      replace HX := Lib.hid (HX.out.ext hE)
      clear Krw4
      rw [show eqVal r.val AVal.zero = true by rw [Hv.out]; exact eqVal_refl _]
      clear hE
      have r_0 : w5.cell? ⟨br, 0, none⟩ = some _ := blk_cell (cs := [.int .i64 r.code, .int .i64 r.val.kind, .float .f64 r.val.num, .string r.val.text]) Krw5.out rfl
      have r_1 : w5.cell? ⟨br, 1, none⟩ = some _ := blk_cell (cs := [.int .i64 r.code, .int .i64 r.val.kind, .float .f64 r.val.num, .string r.val.text]) Krw5.out rfl
      have r_2 : w5.cell? ⟨br, 2, none⟩ = some _ := blk_cell (cs := [.int .i64 r.code, .int .i64 r.val.kind, .float .f64 r.val.num, .string r.val.text]) Krw5.out rfl
      have r_3 : w5.cell? ⟨br, 3, none⟩ = some _ := blk_cell (cs := [.int .i64 r.code, .int .i64 r.val.kind, .float .f64 r.val.num, .string r.val.text]) Krw5.out rfl
      have r_l : br < w5.heap.size := (Array.getElem?_eq_some_iff.1 Krw5.out).1
      go_wp2_with fail
      refine (kv_check w5 _ _ q HNv1.out.prs).mono ?_
      rintro e w6 ⟨rfl, hE⟩
      clear r_0 r_1 r_2 r_3 r_l
      have Krw6 := Lib.hid (hE.blk Krw5.out id)
      replace HNp := Lib.hid (newP_mod HNp.out hE (fun _ _ => id))
      replace HNv1 := Lib.hid (newP_mod HNv1.out hE (fun _ _ => id))
      replace x0 := hE.cell x0 id
      replace x1 := hE.cell x1 id
      replace x2 := hE.cell x2 id
      replace x3 := hE.cell x3 id
      replace x4 := hE.cell x4 id
      replace x5 := hE.cell x5 id
      replace x6 := hE.cell x6 id
      replace x7 := hE.cell x7 id
      replace HX := Lib.hid (HX.out.ext hE)
      clear Krw5
      rw [chkP_yes HQ.out]
      clear hE
      have r_0 : w6.cell? ⟨br, 0, none⟩ = some _ := blk_cell (cs := [.int .i64 r.code, .int .i64 r.val.kind, .float .f64 r.val.num, .string r.val.text]) Krw6.out rfl
      have r_1 : w6.cell? ⟨br, 1, none⟩ = some _ := blk_cell (cs := [.int .i64 r.code, .int .i64 r.val.kind, .float .f64 r.val.num, .string r.val.text]) Krw6.out rfl
      have r_2 : w6.cell? ⟨br, 2, none⟩ = some _ := blk_cell (cs := [.int .i64 r.code, .int .i64 r.val.kind, .float .f64 r.val.num, .string r.val.text]) Krw6.out rfl
      have r_3 : w6.cell? ⟨br, 3, none⟩ = some _ := blk_cell (cs := [.int .i64 r.code, .int .i64 r.val.kind, .float .f64 r.val.num, .string r.val.text]) Krw6.out rfl
      have r_l : br < w6.heap.size := (Array.getElem?_eq_some_iff.1 Krw6.out).1
      go_wp2_with fail
      refine (kv_changes x w6).mono ?_
      rintro e w7 ⟨rfl, hE⟩
      clear r_0 r_1 r_2 r_3 r_l
      have Krw7 := Lib.hid (hE.blk Krw6.out id)
      replace HNp := Lib.hid (newP_mod HNp.out hE (fun _ _ => id))
      replace HNv1 := Lib.hid (newP_mod HNv1.out hE (fun _ _ => id))
      replace x0 := hE.cell x0 id
      replace x1 := hE.cell x1 id
      replace x2 := hE.cell x2 id
      replace x3 := hE.cell x3 id
      replace x4 := hE.cell x4 id
      replace x5 := hE.cell x5 id
      replace x6 := hE.cell x6 id
      replace x7 := hE.cell x7 id
      replace HX := Lib.hid (HX.out.ext hE)
      clear Krw6
      rw [d1k]
      clear hE
      have r_0 : w7.cell? ⟨br, 0, none⟩ = some _ := blk_cell (cs := [.int .i64 r.code, .int .i64 r.val.kind, .float .f64 r.val.num, .string r.val.text]) Krw7.out rfl
      have r_1 : w7.cell? ⟨br, 1, none⟩ = some _ := blk_cell (cs := [.int .i64 r.code, .int .i64 r.val.kind, .float .f64 r.val.num, .string r.val.text]) Krw7.out rfl
      have r_2 : w7.cell? ⟨br, 2, none⟩ = some _ := blk_cell (cs := [.int .i64 r.code, .int .i64 r.val.kind, .float .f64 r.val.num, .string r.val.text]) Krw7.out rfl
      have r_3 : w7.cell? ⟨br, 3, none⟩ = some _ := blk_cell (cs := [.int .i64 r.code, .int .i64 r.val.kind, .float .f64 r.val.num, .string r.val.text]) Krw7.out rfl
      have r_l : br < w7.heap.size := (Array.getElem?_eq_some_iff.1 Krw7.out).1
      clear r_0 r_1 r_2 r_3 r_l
      go_wp2
      exact ⟨⟨i + 1, q, by omega, by omega, by go_num, HNv1.out, HQ.out, HX.out⟩, by simp [intOf]; omega⟩
theorem kvSound_a (w : World) (v0 : Value) (l : List ACmd)  (hC : Cms w (fun g => g < w.heap.size) v0 l)  :
    Calls Try.prog 10 #[v0] w fun e w' => e = .returned (.bool true) ∧ Below w.heap.size w w' := by
  obtain ⟨A, cc, rfl⟩ := hC.form
  exact kvSound_walk w _ A _ cc l hC rfl
end Go.Proofs.Ythhjaneadbkccaa
