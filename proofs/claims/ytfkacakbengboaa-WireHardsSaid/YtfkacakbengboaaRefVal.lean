/-
 The contract of the page's ReadValue. Conditions: as each theorem names them.
-/
import Derived.Test.YtfkacakbengboaaRefR2
import Derived.Test.YtfkacakbengboaaValP
import Derived.Test.YtfkacakbengboaaEncB
namespace Go.Proofs.Ytfkacakbengboaa
set_option linter.unusedSimpArgs false
open Go.RowKit

set_option maxRecDepth 100000 in
set_option maxHeartbeats 2000000 in
theorem p_value (w : World) (T : Nat → Prop) (b : Nat) (bs : List UInt8) (r : RS) (h : RpX w T b bs r) (hT : ∀ k, T k → k < w.heap.size) (hb : b < w.heap.size) :
  Calls Try.prog 80 #[.pointer (some ⟨b, 0, none⟩)] w fun e w' => e = .returned (.agg #[.int .i64 r.valP.1.kind, .float .f64 r.valP.1.num, .string r.valP.1.text]) ∧ RpX w' T b bs r.valP.2 ∧ Mod (fun k => k = b) w w' := by
 obtain ⟨q, hq⟩ : ∃ q, w.heap.size = q := ⟨_, rfl⟩
 obtain ⟨W, hW⟩ : ∃ W, W = w.alloc (.cells #[.int .i64 0, .float .f64 0, .string ⟨#[]⟩] 38) := ⟨_, rfl⟩
 have hE : Ext w W := by rw [hW]; exact (Mod.refl _ w).alloc _
 have hA : W.heap[q]? = some (.cells #[.int .i64 0, .float .f64 0, .string ⟨#[]⟩] 38 (0, 0)) := by rw [hW, ← hq]; exact heap_alloc_new w _
 have hnq : ¬ q = b := by omega
 have hTq : ∀ g, T g → g < q := fun g hg => by have := hT g hg; omega
 have hRW := h.mod hE id (fun _ _ => id)
 have HW := Lib.hid hW
 have Hq := Lib.hid hq
 have HE := Lib.hid hE
 have HTq := Lib.hid hTq
 have hbq : b < q := by omega
 clear hW hq hE hT hTq hb
 go_enter Try.func80, Try.ntmps80
 go_wp2_with fail
 rw [← HW.out, Hq.out]
 refine (p_int W T b bs r hRW).mono ?_
 rintro e w1 ⟨rfl, hR1, hm1⟩
 obtain ⟨k, hk⟩ : ∃ k, r.int.1 = k := ⟨_, rfl⟩
 obtain ⟨r1, hr1⟩ : ∃ r1, r.int.2 = r1 := ⟨_, rfl⟩
 rw [hr1] at hR1
 rw [hk]
 have hA1 := hm1.blk hA hnq
 obtain ⟨W1, hW1⟩ : ∃ W1, W1 = w1.alloc (.cells #[.int .i64 k, .float .f64 0, .string ⟨#[]⟩] 38) := ⟨_, rfl⟩
 obtain ⟨u, hu⟩ : ∃ u, w1.heap.size = u := ⟨_, rfl⟩
 have hE1 : Ext w1 W1 := by rw [hW1]; exact (Mod.refl _ _).alloc _
 have hU : W1.heap[u]? = some (.cells #[.int .i64 k, .float .f64 0, .string ⟨#[]⟩] 38 (0, 0)) := by rw [hW1, ← hu]; exact heap_alloc_new w1 _
 have hqu : q < u := by rw [← hu]; exact (Array.getElem?_eq_some_iff.1 hA1).1
 have hnu : ¬ u = b := by omega
 have hR2 := hR1.mod hE1 id (fun _ _ => id)
 have hA2 := hE1.blk hA1 id
 have HM : Hid (Mod (fun k => k = b) w W1) := Lib.hid (((HE.out.mod _).self hm1).ext hE1)
 have HA1 := Lib.hid hA1
 have HR1 := Lib.hid hR1
 have HM1 : Hid (Mod (fun k => k = b) w w1) := Lib.hid ((HE.out.mod _).self hm1)
 have HW1 := Lib.hid hW1
 have Hu := Lib.hid hu
 have HU := Lib.hid hU
 have HA2 := Lib.hid hA2
 have HR2 := Lib.hid hR2
 have Hk := Lib.hid hk
 have Hr1 := Lib.hid hr1
 have ql1 : q < w1.heap.size := (Array.getElem?_eq_some_iff.1 hA1).1
 have f0 : w1.frozen? ⟨q, 0, none⟩ = false := blk_free 0 hA1
 have f1 : w1.frozen? ⟨q, 1, none⟩ = false := blk_free 1 hA1
 have f2 : w1.frozen? ⟨q, 2, none⟩ = false := blk_free 2 hA1
 obtain ⟨a0, a1, a2⟩ := cq3 hA1
 clear hA1 hW1 hu hU hA2 hR2 hE1 hm1 hR1 hA hRW hk hr1 h
 by_cases e0 : k = 0
 ·
  have d0 : (k == 0) = true := by simp [e0]
  have He0 := Lib.hid e0
  have Hv : Hid (r.valP = (⟨k, 0, ⟨#[]⟩⟩, r1)) := Lib.hid (by
   unfold RS.valP RS.val
   rw [Hk.out, Hr1.out, if_pos (.inl e0), if_neg (by omega), if_neg (by omega)])
  clear e0
  go_wp2_with fail
  refine bodyPost_ret (v := .agg #[.int .i64 k, .float .f64 0, .string ⟨#[]⟩]) (by simp [results, Try.results80, go_sem, a0, a1, a2, World.cell?_alloc_past, ql1]) rfl ⟨by rw [Hv.out], ?_, ?_⟩
  ·
   rw [Hv.out]
   refine HR1.out.mod (S := fun k => k = q) ?_ (by omega) (fun g hg e => by have := HTq.out g hg; omega)
   repeat (with_reducible (first | exact Mod.refl _ _ | refine Mod.alloc ?_ _ | refine mod_same ?_ _ _))
  ·
   refine Mod.trans HM1.out (T := fun k => k = q) ?_ (fun g hg e => by have := Hq.out; omega)
   repeat (with_reducible (first | exact Mod.refl _ _ | refine Mod.alloc ?_ _ | refine mod_same ?_ _ _))
 have d0 : (k == 0) = false := by simpa using e0
 by_cases e1 : k = 1
 ·
  have d1 : (k == 1) = true := by simp [e1]
  have He1 := Lib.hid e1
  clear e1
  have Hv : Hid (r.valP = (⟨1, r1.float.1, ⟨#[]⟩⟩, r1.float.2)) := Lib.hid (by unfold RS.valP RS.val; rw [Hk.out, if_pos (.inr (.inl He1.out)), if_pos He1.out, Hr1.out])
  clear e0
  go_wp2_with fail
  rw [← HW1.out, Hu.out]
  refine (p_float W1 T b bs r1 HR2.out).mono ?_
  rintro e w2 ⟨rfl, hR3, hm3⟩
  clear a0 a1 a2 f0 f1 f2
  have hA3 := hm3.blk HA2.out hnq
  have hU3 := hm3.blk HU.out hnu
  have HR3 := Lib.hid hR3
  have HM3 := Lib.hid (HM.out.self hm3)
  obtain ⟨x, hx⟩ : ∃ x, r1.float.1 = x := ⟨_, rfl⟩
  have Hx := Lib.hid hx
  rw [hx]
  have a0 : w2.cell? ⟨q, 0, none⟩ = some _ := blk_cell hA3 rfl
  have f0 : w2.frozen? ⟨q, 0, none⟩ = false := blk_free 0 hA3
  have c0 : w2.cell? ⟨u, 0, none⟩ = some _ := blk_cell hU3 rfl
  have g0 : w2.frozen? ⟨u, 0, none⟩ = false := blk_free 0 hU3
  have a1 : w2.cell? ⟨q, 1, none⟩ = some _ := blk_cell hA3 rfl
  have f1 : w2.frozen? ⟨q, 1, none⟩ = false := blk_free 1 hA3
  have c1 : w2.cell? ⟨u, 1, none⟩ = some _ := blk_cell hU3 rfl
  have g1 : w2.frozen? ⟨u, 1, none⟩ = false := blk_free 1 hU3
  have a2 : w2.cell? ⟨q, 2, none⟩ = some _ := blk_cell hA3 rfl
  have f2 : w2.frozen? ⟨q, 2, none⟩ = false := blk_free 2 hA3
  have c2 : w2.cell? ⟨u, 2, none⟩ = some _ := blk_cell hU3 rfl
  have g2 : w2.frozen? ⟨u, 2, none⟩ = false := blk_free 2 hU3
  have Hqu := Lib.hid hqu
  have nqu : ¬ q = u := by omega
  have nuq : ¬ u = q := by omega
  have ql1 : q < w2.heap.size := (Array.getElem?_eq_some_iff.1 hA3).1
  have Hbq := Lib.hid hbq
  clear hA3 hU3 hR3 hm3 hx hbq
  go_wp2
  refine bodyPost_ret (v := .agg #[.int .i64 k, .float .f64 x, .string ⟨#[]⟩]) (by simp [results, Try.results80, go_sem, a0, a1, a2, World.cell?_alloc_past, ql1]) rfl ⟨by rw [Hv.out, He1.out, Hx.out], ?_, ?_⟩
  ·
   rw [Hv.out]
   refine HR3.out.mod (S := fun k => k = q ∨ k = u) ?_ (by have := Hbq.out; have := Hqu.out; omega) (fun g hg e => by have := HTq.out g hg; have := Hqu.out; omega)
   repeat (with_reducible (first | exact Mod.refl _ _ | refine Mod.alloc ?_ _ | refine Mod.setCell ?_ (.inr (.inl rfl)) _ | refine Mod.setCell ?_ (.inr (.inr rfl)) _))
  ·
   refine Mod.trans HM3.out (T := fun k => k = q ∨ k = u) ?_ (fun g hg e => by have := Hq.out; have := Hqu.out; omega)
   repeat (with_reducible (first | exact Mod.refl _ _ | refine Mod.alloc ?_ _ | refine Mod.setCell ?_ (.inr (.inl rfl)) _ | refine Mod.setCell ?_ (.inr (.inr rfl)) _))
 have d1 : (k == 1) = false := by simpa using e1
 by_cases e2 : k = 2
 ·
  have d2 : (k == 2) = true := by simp [e2]
  have He1 := Lib.hid e1
  have He2 := Lib.hid e2
  clear e0 e1 e2
  have Hv : Hid (r.valP = (⟨2, 0, ⟨r1.text.1.toArray⟩⟩, r1.text.2)) := Lib.hid (by unfold RS.valP RS.val; rw [Hk.out, if_pos (.inr (.inr He2.out)), if_neg He1.out, if_pos He2.out, Hr1.out])
  go_wp2_with fail
  rw [← HW1.out, Hu.out]
  refine (p_text W1 T b bs r1 HR2.out).mono ?_
  rintro e w2 ⟨vt, rfl, hNB, hR3, hm3⟩
  clear a0 a1 a2 f0 f1 f2
  obtain ⟨A5, c5, rfl⟩ := own_form hNB.1
  have hcv := conv_bs hNB.sl
  have hA3 := hm3.blk HA2.out hnq
  have hU3 := hm3.blk HU.out hnu
  have HR3 := Lib.hid hR3
  have HM3 := Lib.hid (HM.out.self hm3)
  obtain ⟨x, hx⟩ : ∃ x, r1.text.1 = x := ⟨_, rfl⟩
  have Hx := Lib.hid hx
  rw [hx] at hcv ⊢
  have a0 : w2.cell? ⟨q, 0, none⟩ = some _ := blk_cell hA3 rfl
  have f0 : w2.frozen? ⟨q, 0, none⟩ = false := blk_free 0 hA3
  have c0 : w2.cell? ⟨u, 0, none⟩ = some _ := blk_cell hU3 rfl
  have g0 : w2.frozen? ⟨u, 0, none⟩ = false := blk_free 0 hU3
  have a1 : w2.cell? ⟨q, 1, none⟩ = some _ := blk_cell hA3 rfl
  have f1 : w2.frozen? ⟨q, 1, none⟩ = false := blk_free 1 hA3
  have c1 : w2.cell? ⟨u, 1, none⟩ = some _ := blk_cell hU3 rfl
  have g1 : w2.frozen? ⟨u, 1, none⟩ = false := blk_free 1 hU3
  have a2 : w2.cell? ⟨q, 2, none⟩ = some _ := blk_cell hA3 rfl
  have f2 : w2.frozen? ⟨q, 2, none⟩ = false := blk_free 2 hA3
  have c2 : w2.cell? ⟨u, 2, none⟩ = some _ := blk_cell hU3 rfl
  have g2 : w2.frozen? ⟨u, 2, none⟩ = false := blk_free 2 hU3
  have Hqu := Lib.hid hqu
  have nqu : ¬ q = u := by omega
  have nuq : ¬ u = q := by omega
  have ql1 : q < w2.heap.size := (Array.getElem?_eq_some_iff.1 hA3).1
  have Hbq := Lib.hid hbq
  clear hA3 hU3 hR3 hm3 hx hNB hbq
  go_wp2
  refine bodyPost_ret (v := .agg #[.int .i64 k, .float .f64 0, .string ⟨x.toArray⟩]) (by simp [results, Try.results80, go_sem, a0, a1, a2, World.cell?_alloc_past, ql1]) rfl ⟨by rw [Hv.out, He2.out, Hx.out], ?_, ?_⟩
  ·
   rw [Hv.out]
   refine HR3.out.mod (S := fun k => k = q ∨ k = u) ?_ (by have := Hbq.out; have := Hqu.out; omega) (fun g hg e => by have := HTq.out g hg; have := Hqu.out; omega)
   repeat (with_reducible (first | exact Mod.refl _ _ | refine Mod.alloc ?_ _ | refine Mod.setCell ?_ (.inr (.inl rfl)) _ | refine Mod.setCell ?_ (.inr (.inr rfl)) _))
  ·
   refine Mod.trans HM3.out (T := fun k => k = q ∨ k = u) ?_ (fun g hg e => by have := Hq.out; have := Hqu.out; omega)
   repeat (with_reducible (first | exact Mod.refl _ _ | refine Mod.alloc ?_ _ | refine Mod.setCell ?_ (.inr (.inl rfl)) _ | refine Mod.setCell ?_ (.inr (.inr rfl)) _))
 ·
  have d2 : (k == 2) = false := by simpa using e2
  have Hv : Hid (r.valP = (⟨k, 0, ⟨#[]⟩⟩, r1.fail 3)) := Lib.hid (by unfold RS.valP; rw [Hk.out, if_neg (by omega), Hr1.out])
  clear e0 e1 e2
  go_wp2_with fail
  rw [← HW1.out, Hu.out]
  obtain ⟨aa, hRa⟩ := HR2.out
  refine (p_none W1 T b bs aa r1 3 hRa).mono ?_
  rintro e w2 ⟨rfl, hR3, hm3⟩
  clear a0 a1 a2 f0 f1 f2 hRa
  have hA3 := hm3.blk HA2.out hnq
  have hU3 := hm3.blk HU.out hnu
  have HR3 : Hid (RpX w2 T b bs (r1.fail 3)) := Lib.hid ⟨aa, hR3⟩
  have HM3 := Lib.hid (HM.out.self hm3)
  have a0 : w2.cell? ⟨q, 0, none⟩ = some _ := blk_cell hA3 rfl
  have f0 : w2.frozen? ⟨q, 0, none⟩ = false := blk_free 0 hA3
  have c0 : w2.cell? ⟨u, 0, none⟩ = some _ := blk_cell hU3 rfl
  have g0 : w2.frozen? ⟨u, 0, none⟩ = false := blk_free 0 hU3
  have a1 : w2.cell? ⟨q, 1, none⟩ = some _ := blk_cell hA3 rfl
  have f1 : w2.frozen? ⟨q, 1, none⟩ = false := blk_free 1 hA3
  have c1 : w2.cell? ⟨u, 1, none⟩ = some _ := blk_cell hU3 rfl
  have g1 : w2.frozen? ⟨u, 1, none⟩ = false := blk_free 1 hU3
  have a2 : w2.cell? ⟨q, 2, none⟩ = some _ := blk_cell hA3 rfl
  have f2 : w2.frozen? ⟨q, 2, none⟩ = false := blk_free 2 hA3
  have c2 : w2.cell? ⟨u, 2, none⟩ = some _ := blk_cell hU3 rfl
  have g2 : w2.frozen? ⟨u, 2, none⟩ = false := blk_free 2 hU3
  have Hqu := Lib.hid hqu
  have nqu : ¬ q = u := by omega
  have nuq : ¬ u = q := by omega
  have ql1 : q < w2.heap.size := (Array.getElem?_eq_some_iff.1 hA3).1
  have Hbq := Lib.hid hbq
  clear hA3 hU3 hR3 hm3 hbq
  go_wp2
  refine bodyPost_ret (v := .agg #[.int .i64 k, .float .f64 0, .string ⟨#[]⟩]) (by simp [results, Try.results80, go_sem, a0, a1, a2, World.cell?_alloc_past, ql1]) rfl ⟨by rw [Hv.out], ?_, ?_⟩
  ·
   rw [Hv.out]
   refine HR3.out.mod (S := fun k => k = q ∨ k = u) ?_ (by have := Hbq.out; have := Hqu.out; omega) (fun g hg e => by have := HTq.out g hg; have := Hqu.out; omega)
   repeat (with_reducible (first | exact Mod.refl _ _ | refine Mod.alloc ?_ _ | refine Mod.setCell ?_ (.inr (.inl rfl)) _ | refine Mod.setCell ?_ (.inr (.inr rfl)) _))
  ·
   refine Mod.trans HM3.out (T := fun k => k = q ∨ k = u) ?_ (fun g hg e => by have := Hq.out; have := Hqu.out; omega)
   repeat (with_reducible (first | exact Mod.refl _ _ | refine Mod.alloc ?_ _ | refine Mod.setCell ?_ (.inr (.inl rfl)) _ | refine Mod.setCell ?_ (.inr (.inr rfl)) _))
end Go.Proofs.Ytfkacakbengboaa
