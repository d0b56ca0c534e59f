/-
  The contract of sess.readValue; a reader's own blocks. Conditions: as each theorem names them.
-/
import Derived.Test.YtplpegjnmlabkaaSesW
import Derived.Test.YtplpegjnmlabkaaPackR
import Derived.Laws.IdiomStrings
namespace Go.Proofs.Ytplpegjnmlabkaa
set_option linter.unusedSimpArgs false
open Go.RowKit

/-- A value read. -/
def RS.val (r : RS) : AVal × RS :=
  if r.int.1 = 1 then (⟨1, r.int.2.float.1, ⟨#[]⟩⟩, r.int.2.float.2)
  else if r.int.1 = 2 then (⟨2, 0, ⟨r.int.2.text.1.toArray⟩⟩, r.int.2.text.2)
  else (⟨r.int.1, 0, ⟨#[]⟩⟩, r.int.2)
theorem conv_bs {w : World} {T : Nat → Prop} {v : Value} {l : List UInt8} (h : Byt w T v l) : (convert 55 9 v).run Try.prog w = .ok (.string ⟨l.toArray⟩) w := by
  obtain ⟨_, A, c, rfl, hn, hc, hx⟩ := h
  rcases A with _ | a
  · have hl : l = [] := by
      rcases l with _ | ⟨x, l⟩
      · rfl
      · obtain ⟨g, off, e, _⟩ := hx (by simp)
        cases e
    subst hl
    rw [run_convert_bytes_string w _ _ _ none _ c Try.underlying55 Try.underlying5 Try.underlying9]
    simp [Conv.bytesToString]
    rfl
  · refine run_convert_bytes_back w _ _ _ a c l Try.underlying55 Try.underlying5 Try.underlying9 (fun j hj => ?_)
    obtain ⟨g, off, e, _, hcell⟩ := hx (by omega)
    injection e with e
    subst e
    have h9 := hcell j (.int .u8 (l[j].toNat : Int)) (by simp [hj, B])
    simp only [Addr.add]
    split
    · rename_i h0
      subst h0
      simpa using h9
    · simpa using h9
/-- A reader's blocks are there. -/
theorem Rd.fin {w : World} {S : Nat → Prop} {b : Nat} {r : RS} (h : Rd w S b r) : Rd w (fun k => S k ∧ k < w.heap.size) b r := by
  obtain ⟨v, t, hb, ⟨hl, A, c, e, hn, hc, hx⟩, hS⟩ := h
  refine ⟨v, t, hb, ⟨hl, A, c, e, hn, hc, fun h0 => ?_⟩, hS, (Array.getElem?_eq_some_iff.1 hb).1⟩
  obtain ⟨g, off, hA, hT, hcell⟩ := hx h0
  refine ⟨g, off, hA, ⟨⟨hT.1, ?_⟩, hT.2⟩, hcell⟩
  obtain ⟨u, hu⟩ : ∃ u, (r.left.map B)[0]? = some u := by
    rw [List.getElem?_eq_getElem (by simpa using h0)]
    exact ⟨_, rfl⟩
  exact World.block_lt_of_cell? _ _ (hcell 0 u hu)

set_option maxRecDepth 100000 in
set_option maxHeartbeats 2000000 in
theorem s_rval (w : World) (S : Nat → Prop) (b : Nat) (r : RS) (h : Rd w S b r) (hS : ∀ k, S k → k < w.heap.size) :
    Calls Try.prog 62 #[.pointer (some ⟨b, 0, none⟩)] w fun e w' => e = .returned (.agg #[.int .i64 r.val.1.kind, .float .f64 r.val.1.num, .string r.val.1.text]) ∧ Rd w' S b r.val.2 ∧ Mod S w w' := by
  obtain ⟨q, hq⟩ : ∃ q, w.heap.size = q := ⟨_, rfl⟩
  obtain ⟨W, hW⟩ : ∃ W, W = w.alloc (.cells #[.int .i64 0, .float .f64 0, .string ⟨#[]⟩] 28) := ⟨_, rfl⟩
  have hE : Ext w W := by rw [hW]; exact (Mod.refl _ w).alloc _
  have hA : W.heap[q]? = some (.cells #[.int .i64 0, .float .f64 0, .string ⟨#[]⟩] 28 (0, 0)) := by rw [hW, ← hq]; exact heap_alloc_new w _
  have hnq : ¬ S q := fun e => by have := hS q e; omega
  have hRW := h.mod hE (fun _ _ => id)
  have HW := Lib.hid hW
  have Hq := Lib.hid hq
  have HE := Lib.hid hE
  clear hW hq hE
  go_enter Try.func62, Try.ntmps62
  go_wp2_with fail
  rw [← HW.out, Hq.out]
  refine (r_int W S b r hRW).mono ?_
  rintro e w1 ⟨rfl, hR1, hm1⟩
  obtain ⟨k, hk⟩ : ∃ k, r.int.1 = k := ⟨_, rfl⟩
  obtain ⟨r1, hr1⟩ : ∃ r1, r.int.2 = r1 := ⟨_, rfl⟩
  rw [hr1] at hR1
  rw [hk]
  have hA1 := hm1.blk hA hnq
  obtain ⟨W1, hW1⟩ : ∃ W1, W1 = w1.alloc (.cells #[.int .i64 k, .float .f64 0, .string ⟨#[]⟩] 28) := ⟨_, rfl⟩
  obtain ⟨u, hu⟩ : ∃ u, w1.heap.size = u := ⟨_, rfl⟩
  have hE1 : Ext w1 W1 := by rw [hW1]; exact (Mod.refl _ _).alloc _
  have hU : W1.heap[u]? = some (.cells #[.int .i64 k, .float .f64 0, .string ⟨#[]⟩] 28 (0, 0)) := by rw [hW1, ← hu]; exact heap_alloc_new w1 _
  have hqu : q < u := by rw [← hu]; exact (Array.getElem?_eq_some_iff.1 hA1).1
  have hnu : ¬ S u := fun e => by have := hS u e; have := Hq.out; omega
  have hR2 := hR1.mod hE1 (fun _ _ => id)
  have hA2 := hE1.blk hA1 id
  have HM : Hid (Mod S w W1) := Lib.hid (((HE.out.mod S).self hm1).ext hE1)
  have HA1 := Lib.hid hA1
  have HR1 := Lib.hid hR1
  have HM1 : Hid (Mod S w w1) := Lib.hid ((HE.out.mod S).self hm1)
  have HW1 := Lib.hid hW1
  have Hu := Lib.hid hu
  have HU := Lib.hid hU
  have HA2 := Lib.hid hA2
  have HR2 := Lib.hid hR2
  have Hk := Lib.hid hk
  have Hr1 := Lib.hid hr1
  have ql1 : q < w1.heap.size := (Array.getElem?_eq_some_iff.1 hA1).1
  have hSW : ∀ k, S k → k < W1.heap.size := fun k hk => Nat.lt_of_lt_of_le (hS k hk) HM.out.size
  have f0 : w1.frozen? ⟨q, 0, none⟩ = false := blk_free 0 hA1
  have f1 : w1.frozen? ⟨q, 1, none⟩ = false := blk_free 1 hA1
  have f2 : w1.frozen? ⟨q, 2, none⟩ = false := blk_free 2 hA1
  have a0 : w1.cell? ⟨q, 0, none⟩ = some _ := blk_cell hA1 rfl
  have a1 : w1.cell? ⟨q, 1, none⟩ = some _ := blk_cell hA1 rfl
  have a2 : w1.cell? ⟨q, 2, none⟩ = some _ := blk_cell hA1 rfl
  clear hA1 hW1 hu hU hA2 hR2 hE1 hm1 hR1 hA hRW hk hr1 h hS
  by_cases e1 : k = 1
  · have d1 : (k == 1) = true := by simp [e1]
    have He1 := Lib.hid e1
    clear e1
    have Hv : Hid (r.val = (⟨1, r1.float.1, ⟨#[]⟩⟩, r1.float.2)) := Lib.hid (by unfold RS.val; rw [Hk.out, if_pos He1.out, Hr1.out])
    go_wp2_with fail
    rw [← HW1.out, Hu.out]
    refine (r_float W1 S b r1 HR2.out).mono ?_
    rintro e w2 ⟨rfl, hR3, hm3⟩
    clear a0 a1 a2 f0 f1 f2
    have hA3 := hm3.blk HA2.out hnq
    have hU3 := hm3.blk HU.out hnu
    have HR3 := Lib.hid hR3
    have HM3 := Lib.hid (HM.out.self hm3)
    obtain ⟨x, hx⟩ : ∃ x, r1.float.1 = x := ⟨_, rfl⟩
    have Hx := Lib.hid hx
    rw [hx]
    have a0 : w2.cell? ⟨q, 0, none⟩ = some _ := blk_cell hA3 rfl
    have f0 : w2.frozen? ⟨q, 0, none⟩ = false := blk_free 0 hA3
    have c0 : w2.cell? ⟨u, 0, none⟩ = some _ := blk_cell hU3 rfl
    have g0 : w2.frozen? ⟨u, 0, none⟩ = false := blk_free 0 hU3
    have a1 : w2.cell? ⟨q, 1, none⟩ = some _ := blk_cell hA3 rfl
    have f1 : w2.frozen? ⟨q, 1, none⟩ = false := blk_free 1 hA3
    have c1 : w2.cell? ⟨u, 1, none⟩ = some _ := blk_cell hU3 rfl
    have g1 : w2.frozen? ⟨u, 1, none⟩ = false := blk_free 1 hU3
    have a2 : w2.cell? ⟨q, 2, none⟩ = some _ := blk_cell hA3 rfl
    have f2 : w2.frozen? ⟨q, 2, none⟩ = false := blk_free 2 hA3
    have c2 : w2.cell? ⟨u, 2, none⟩ = some _ := blk_cell hU3 rfl
    have g2 : w2.frozen? ⟨u, 2, none⟩ = false := blk_free 2 hU3
    have Hqu := Lib.hid hqu
    have nqu : ¬ q = u := by omega
    have nuq : ¬ u = q := by omega
    have ql1 : q < w2.heap.size := (Array.getElem?_eq_some_iff.1 hA3).1
    clear hA3 hU3 hR3 hm3 hx
    go_wp2
    refine bodyPost_ret (v := .agg #[.int .i64 k, .float .f64 x, .string ⟨#[]⟩]) (by simp [results, Try.results62, go_sem, a0, a1, a2, World.cell?_alloc_past, ql1]) rfl ⟨by rw [Hv.out, He1.out, Hx.out], ?_, ?_⟩
    · rw [Hv.out]
      refine HR3.out.mod (T := fun k => k = q ∨ k = u) ?_ (fun g hg e => by rcases e with e | e; exact hnq (e ▸ hg); exact hnu (e ▸ hg))
      repeat (with_reducible (first | exact Mod.refl _ _ | refine Mod.alloc ?_ _ | refine Mod.setCell ?_ (.inr (.inl rfl)) _ | refine Mod.setCell ?_ (.inr (.inr rfl)) _))
    · refine Mod.trans HM3.out (T := fun k => k = q ∨ k = u) ?_ (fun g hg e => by have := Hq.out; have := Hqu.out; omega)
      repeat (with_reducible (first | exact Mod.refl _ _ | refine Mod.alloc ?_ _ | refine Mod.setCell ?_ (.inr (.inl rfl)) _ | refine Mod.setCell ?_ (.inr (.inr rfl)) _))
  have d1 : (k == 1) = false := by simpa using e1
  by_cases e2 : k = 2
  · have d2 : (k == 2) = true := by simp [e2]
    have He1 := Lib.hid e1
    have He2 := Lib.hid e2
    clear e1 e2
    have Hv : Hid (r.val = (⟨2, 0, ⟨r1.text.1.toArray⟩⟩, r1.text.2)) := Lib.hid (by unfold RS.val; rw [Hk.out, if_neg He1.out, if_pos He2.out, Hr1.out])
    go_wp2_with fail
    rw [← HW1.out, Hu.out]
    refine (r_text W1 S b r1 HR2.out hSW).mono ?_
    rintro e w2 ⟨vt, rfl, hNB, hR3, hm3⟩
    clear a0 a1 a2 f0 f1 f2
    obtain ⟨A5, c5, rfl⟩ := own_form hNB.1
    have hcv := conv_bs hNB.sl
    have hA3 := hm3.blk HA2.out hnq
    have hU3 := hm3.blk HU.out hnu
    have HR3 := Lib.hid hR3
    have HM3 := Lib.hid (HM.out.self hm3)
    obtain ⟨x, hx⟩ : ∃ x, r1.text.1 = x := ⟨_, rfl⟩
    have Hx := Lib.hid hx
    rw [hx] at hcv ⊢
    have a0 : w2.cell? ⟨q, 0, none⟩ = some _ := blk_cell hA3 rfl
    have f0 : w2.frozen? ⟨q, 0, none⟩ = false := blk_free 0 hA3
    have c0 : w2.cell? ⟨u, 0, none⟩ = some _ := blk_cell hU3 rfl
    have g0 : w2.frozen? ⟨u, 0, none⟩ = false := blk_free 0 hU3
    have a1 : w2.cell? ⟨q, 1, none⟩ = some _ := blk_cell hA3 rfl
    have f1 : w2.frozen? ⟨q, 1, none⟩ = false := blk_free 1 hA3
    have c1 : w2.cell? ⟨u, 1, none⟩ = some _ := blk_cell hU3 rfl
    have g1 : w2.frozen? ⟨u, 1, none⟩ = false := blk_free 1 hU3
    have a2 : w2.cell? ⟨q, 2, none⟩ = some _ := blk_cell hA3 rfl
    have f2 : w2.frozen? ⟨q, 2, none⟩ = false := blk_free 2 hA3
    have c2 : w2.cell? ⟨u, 2, none⟩ = some _ := blk_cell hU3 rfl
    have g2 : w2.frozen? ⟨u, 2, none⟩ = false := blk_free 2 hU3
    have Hqu := Lib.hid hqu
    have nqu : ¬ q = u := by omega
    have nuq : ¬ u = q := by omega
    have ql1 : q < w2.heap.size := (Array.getElem?_eq_some_iff.1 hA3).1
    clear hA3 hU3 hR3 hm3 hx hNB
    go_wp2
    refine bodyPost_ret (v := .agg #[.int .i64 k, .float .f64 0, .string ⟨x.toArray⟩]) (by simp [results, Try.results62, go_sem, a0, a1, a2, World.cell?_alloc_past, ql1]) rfl ⟨by rw [Hv.out, He2.out, Hx.out], ?_, ?_⟩
    · rw [Hv.out]
      refine HR3.out.mod (T := fun k => k = q ∨ k = u) ?_ (fun g hg e => by rcases e with e | e; exact hnq (e ▸ hg); exact hnu (e ▸ hg))
      repeat (with_reducible (first | exact Mod.refl _ _ | refine Mod.alloc ?_ _ | refine Mod.setCell ?_ (.inr (.inl rfl)) _ | refine Mod.setCell ?_ (.inr (.inr rfl)) _))
    · refine Mod.trans HM3.out (T := fun k => k = q ∨ k = u) ?_ (fun g hg e => by have := Hq.out; have := Hqu.out; omega)
      repeat (with_reducible (first | exact Mod.refl _ _ | refine Mod.alloc ?_ _ | refine Mod.setCell ?_ (.inr (.inl rfl)) _ | refine Mod.setCell ?_ (.inr (.inr rfl)) _))
  · have d2 : (k == 2) = false := by simpa using e2
    have He1 := Lib.hid e1
    have He2 := Lib.hid e2
    clear e1 e2
    have Hv : Hid (r.val = (⟨k, 0, ⟨#[]⟩⟩, r1)) := Lib.hid (by unfold RS.val; rw [Hk.out, if_neg He1.out, if_neg He2.out, Hr1.out])
    go_wp2_with fail
    refine bodyPost_ret (v := .agg #[.int .i64 k, .float .f64 0, .string ⟨#[]⟩]) (by simp [results, Try.results62, go_sem, a0, a1, a2, World.cell?_alloc_past, ql1]) rfl ⟨by rw [Hv.out], ?_, ?_⟩
    · rw [Hv.out]
      refine HR1.out.mod (T := fun k => k = q) ?_ (fun g hg e => hnq (e ▸ hg))
      repeat (with_reducible (first | exact Mod.refl _ _ | refine Mod.alloc ?_ _ | refine mod_same ?_ _ _))
    · refine Mod.trans HM1.out (T := fun k => k = q) ?_ (fun g hg e => by have := Hq.out; omega)
      repeat (with_reducible (first | exact Mod.refl _ _ | refine Mod.alloc ?_ _ | refine mod_same ?_ _ _))
end Go.Proofs.Ytplpegjnmlabkaa
