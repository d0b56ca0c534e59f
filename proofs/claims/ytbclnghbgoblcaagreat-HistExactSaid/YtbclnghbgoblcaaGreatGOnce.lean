/-
 The page's Once: what is refused. Conditions: as each theorem names them.
 The page's Once: the same number again. Conditions: as each theorem names them.
-/
import Derived.Test.YtbclnghbgoblcaaGreatGSesDo
import Derived.Test.YtbclnghbgoblcaaGreatGSes
namespace Go.Proofs.YtbclnghbgoblcaaGreat
set_option linter.unusedSimpArgs false
open Go.RowKit

set_option maxRecDepth 100000 in
set_option maxHeartbeats 2000000 in
theorem r_once_arg (w : World) (T U : Nat → Prop) (pv v : Value) (p : List APair) (l : List ASess) (c : ACall) (hP : Prs w U pv p) (h : Ses w T v l) (hp : p.length ≤ 1000000) (hl : l.length ≤ 1000000) (hc : callE c ≠ 0) :
  Calls Tryz.prog 31 #[.agg #[pv, v], .agg #[.int .i64 c.client, .int .i64 c.seq, .int .i64 c.cmd.kind, .string c.cmd.key, .int .i64 c.cmd.old.kind, .float .f64 c.cmd.old.num, .string c.cmd.old.text, .int .i64 c.cmd.val.kind, .float .f64 c.cmd.val.num, .string c.cmd.val.text]] w (OnceOut w ⟨p, l⟩ ⟨callE c, AVal.zero⟩) := by
 obtain ⟨A, c0, rfl⟩ := h.form
 obtain ⟨A', c', rfl⟩ := hP.form
 obtain ⟨b, hb⟩ : ∃ b, w.heap.size = b := ⟨_, rfl⟩
 obtain ⟨W, hW⟩ : ∃ W, W = (((w.alloc (.cells #[.slice A' p.length c', .slice A l.length c0] 33)).alloc (.cells #[.int .i64 c.client, .int .i64 c.seq, .int .i64 c.cmd.kind, .string c.cmd.key, .int .i64 c.cmd.old.kind, .float .f64 c.cmd.old.num, .string c.cmd.old.text, .int .i64 c.cmd.val.kind, .float .f64 c.cmd.val.num, .string c.cmd.val.text] 44)).alloc (.cells #[.slice none 0 0, .slice none 0 0] 33)).alloc (.cells #[.int .i64 0, .int .i64 0, .float .f64 0, .string ⟨#[]⟩] 46) := ⟨_, rfl⟩
 obtain ⟨hA, hB, hC, hD, hsz, hE⟩ := four_boxes w _ _ _ _ hW
 rw [hb] at hA hB hC hD hsz
 have hPW := hP.ext hE
 have hSW := h.ext hE
 have HW := Lib.hid hW
 have Hb := Lib.hid hb
 have HE := Lib.hid hE
 have HA := Lib.hid hA
 have HB := Lib.hid hB
 have HC := Lib.hid hC
 have HD := Lib.hid hD
 clear hA hB hC hD hW hb hE
 go_enter Tryz.func31, Tryz.ntmps31
 go_wp2_with fail
 rw [← HW.out, Hb.out]
 refine (k_twinMachine W T U _ _ p l hPW hSW hp hl).mono ?_
 rintro e w1 ⟨pv1, v1, rfl, hN1, hE1⟩
 obtain ⟨A1, c1, rfl⟩ := own_form hN1.1.1
 obtain ⟨A2, c2, rfl⟩ := own_form hN1.2.1.1
 have hA1 := hE1.blk HA.out id
 have hB1 := hE1.blk HB.out id
 have hC1 := hE1.blk HC.out id
 have hD1 := hE1.blk HD.out id
 have l3 : b + 1 + 1 + 1 < w1.heap.size := (Array.getElem?_eq_some_iff.1 hD1).1
 have l2 : b + 1 + 1 < w1.heap.size := by omega
 have l1 : b + 1 < w1.heap.size := by omega
 have l0 : b < w1.heap.size := by omega
 have hXW : Ext w w1 := Mod.ext HE.out hE1
 have hNW : NewM w w1 (.slice A1 p.length c1) (.slice A2 l.length c2) ⟨p, l⟩ := ⟨newP_up hN1.1 HE.out.size, ⟨hN1.2.1.1, hN1.2.1.2.1, fun g hg => Nat.le_trans HE.out.size (hN1.2.1.2.2 g hg)⟩, hN1.2.2⟩
 have hfar : (∀ g, (Value.slice A1 p.length c1).ownBlock = some g → b + 4 ≤ g ∧ g < w1.heap.size) ∧ (∀ g, (Value.slice A2 l.length c2).ownBlock = some g → b + 4 ≤ g ∧ g < w1.heap.size) := ⟨fun g hg => ⟨by have := hN1.1.2.2 g hg; omega, (hN1.1.1.lt g hg).2⟩, fun g hg => ⟨by have := hN1.2.1.2.2 g hg; omega, (hN1.2.1.1.lt g hg).2⟩⟩
 obtain ⟨k0, k1, k2, k3, k4, k5, k6, k7, k8, k9⟩ := cq10 hB1
 have Hfar := Lib.hid hfar
 have HA1 := Lib.hid hA1
 have HB1 := Lib.hid hB1
 have HC1 := Lib.hid hC1
 have HD1 := Lib.hid hD1
 have HXW := Lib.hid hXW
 have HNW := Lib.hid hNW
 have HPW := Lib.hid hPW
 have HSW := Lib.hid hSW
 clear hA1 hB1 hC1 hD1 hN1 hE1 hfar hXW hNW hPW hSW
 go_wp2_with fail
 obtain ⟨w2, hw2⟩ : ∃ w2, w2 = w1.alloc (.cells #[.slice A1 p.length c1, .slice A2 l.length c2] 33) := ⟨_, rfl⟩
 rw [← hw2]
 have hE2 : Ext w1 w2 := by rw [hw2]; exact (Mod.refl _ _).alloc _
 have hT2 : w2.heap[w1.heap.size]? = some (.cells #[.slice A1 p.length c1, .slice A2 l.length c2] 33 (0, 0)) := by rw [hw2]; exact heap_alloc_new w1 _
 have hfar := Hfar.out
 have hA2 := hE2.blk HA1.out id
 have hB2 := hE2.blk HB1.out id
 have hC2 := hE2.blk HC1.out id
 have hD2 := hE2.blk HD1.out id
 have hN2 := newM_mod HNW.out hE2 (fun _ _ => id) (fun _ _ => id)
 have hX2 := Mod.ext HXW.out hE2
 obtain ⟨sb, hsb⟩ : ∃ sb, w1.heap.size = sb := ⟨_, rfl⟩
 rw [hsb] at l0 l1 l2 l3 hfar hT2 ⊢
 clear hsb hw2 hE2 Hfar HA1 HB1 HC1 HD1 HXW HNW HPW HSW k0 k1 k2 k3 k4 k5 k6 k7 k8 k9
 have Hfar := Lib.hid hfar
 clear hfar
 have n0 : ¬ sb = b := by omega
 have n1 : ¬ b = sb := by omega
 have n2 : ¬ sb = b + 1 := by omega
 have n3 : ¬ b + 1 = sb := by omega
 have n4 : ¬ sb = b + 1 + 1 := by omega
 have n5 : ¬ b + 1 + 1 = sb := by omega
 have n6 : ¬ sb = b + 1 + 1 + 1 := by omega
 have n7 : ¬ b + 1 + 1 + 1 = sb := by omega
 refine (r_call c w2).mono ?_
 rintro e w3 ⟨rfl, hE3⟩
 have hA3 := hE3.blk hA2 id
 have hB3 := hE3.blk hB2 id
 have hC3 := hE3.blk hC2 id
 have hD3 := hE3.blk hD2 id
 have hT3 := hE3.blk hT2 id
 have hN3 := newM_mod hN2 hE3 (fun _ _ => id) (fun _ _ => id)
 have hX3 := Mod.ext hX2 hE3
 clear hA2 hB2 hC2 hD2 hT2 hN2 hX2 hE3
 have a0 : w3.cell? ⟨b, 0, none⟩ = some _ := blk_cell hA3 rfl
 have a1 : w3.cell? ⟨b, 1, none⟩ = some _ := blk_cell hA3 rfl
 have m0 : w3.cell? ⟨sb, 0, none⟩ = some _ := blk_cell hT3 rfl
 have m1 : w3.cell? ⟨sb, 1, none⟩ = some _ := blk_cell hT3 rfl
 have g0 : w3.cell? ⟨b + 1 + 1, 0, none⟩ = some _ := blk_cell hC3 rfl
 have g1 : w3.cell? ⟨b + 1 + 1, 1, none⟩ = some _ := blk_cell hC3 rfl
 have fg0 : w3.frozen? ⟨b + 1 + 1, 0, none⟩ = false := blk_free 0 hC3
 have fg1 : w3.frozen? ⟨b + 1 + 1, 1, none⟩ = false := blk_free 1 hC3
 obtain ⟨q0, q1, q2, q3⟩ := cq4 hD3
 have fq0 : w3.frozen? ⟨b + 1 + 1 + 1, 0, none⟩ = false := blk_free 0 hD3
 have fq1 : w3.frozen? ⟨b + 1 + 1 + 1, 1, none⟩ = false := blk_free 1 hD3
 have fq2 : w3.frozen? ⟨b + 1 + 1 + 1, 2, none⟩ = false := blk_free 2 hD3
 have fq3 : w3.frozen? ⟨b + 1 + 1 + 1, 3, none⟩ = false := blk_free 3 hD3
 obtain ⟨k0, k1, k2, k3, k4, k5, k6, k7, k8, k9⟩ := cq10 hB3
 have HA3 := Lib.hid hA3
 have HB3 := Lib.hid hB3
 have HC3 := Lib.hid hC3
 have HD3 := Lib.hid hD3
 have HT3 := Lib.hid hT3
 have HN3 := Lib.hid hN3
 have HX3 := Lib.hid hX3
 clear hA3 hB3 hC3 hD3 hT3 hN3 hX3
 have e1 : (callE c == 0) = false := by simpa using hc
 have e2 : (callE c != 0) = true := by simpa using hc
 clear hc
 go_wp2_with fail
 have hm : Mod (fun k => k = b + 1 + 1 ∨ k = b + 1 + 1 + 1) w3 ((((((w3.setCell ⟨b + 1 + 1, 0, none⟩ (.slice A1 p.length c1)).setCell ⟨b + 1 + 1, 1, none⟩ (.slice A2 l.length c2)).setCell ⟨b + 1 + 1 + 1, 0, none⟩ (.int .i64 (callE c))).setCell ⟨b + 1 + 1 + 1, 1, none⟩ (.int .i64 0)).setCell ⟨b + 1 + 1 + 1, 2, none⟩ (.float .f64 0)).setCell ⟨b + 1 + 1 + 1, 3, none⟩ (.string ⟨#[]⟩)) := by
  skip
  refine Mod.setCell (Mod.setCell (Mod.setCell (Mod.setCell (Mod.setCell (Mod.setCell (Mod.refl _ _) (.inr (.inl rfl)) _) (.inr (.inl rfl)) _) (.inr (.inr rfl)) _) (.inr (.inr rfl)) _) (.inr (.inr rfl)) _) (.inr (.inr rfl)) _
 refine bodyPost_ret (v := .tuple #[.agg #[.slice A1 p.length c1, .slice A2 l.length c2], .agg #[.int .i64 (callE c), .int .i64 0, .float .f64 0, .string ⟨#[]⟩]]) (by simp [results, Tryz.results31, go_sem, m0, m1, g0, g1, q0, q1, q2, q3]) rfl ⟨_, _, rfl, newM_mod HN3.out hm (fun g hg e => by have := Hfar.out.1 g hg; omega) (fun g hg e => by have := Hfar.out.2 g hg; omega), ?_⟩
 exact Mod.toExt ((Ext.mod HX3.out (Since w.heap.size)).trans hm (fun k _ e => by have := Hb.out; unfold Since; omega))
set_option maxRecDepth 100000 in
set_option maxHeartbeats 2000000 in
theorem r_once_bad (w : World) (T U : Nat → Prop) (pv v : Value) (p : List APair) (l : List ASess) (c : ACall) (hP : Prs w U pv p) (h : Ses w T v l) (hp : p.length ≤ 1000000) (hl : l.length ≤ 1000000) (hc : callE c = 0) (hm : machB ⟨p, l⟩ = false) :
  Calls Tryz.prog 31 #[.agg #[pv, v], .agg #[.int .i64 c.client, .int .i64 c.seq, .int .i64 c.cmd.kind, .string c.cmd.key, .int .i64 c.cmd.old.kind, .float .f64 c.cmd.old.num, .string c.cmd.old.text, .int .i64 c.cmd.val.kind, .float .f64 c.cmd.val.num, .string c.cmd.val.text]] w (OnceOut w ⟨p, l⟩ ⟨6, AVal.zero⟩) := by
 obtain ⟨A, c0, rfl⟩ := h.form
 obtain ⟨A', c', rfl⟩ := hP.form
 obtain ⟨b, hb⟩ : ∃ b, w.heap.size = b := ⟨_, rfl⟩
 obtain ⟨W, hW⟩ : ∃ W, W = (((w.alloc (.cells #[.slice A' p.length c', .slice A l.length c0] 33)).alloc (.cells #[.int .i64 c.client, .int .i64 c.seq, .int .i64 c.cmd.kind, .string c.cmd.key, .int .i64 c.cmd.old.kind, .float .f64 c.cmd.old.num, .string c.cmd.old.text, .int .i64 c.cmd.val.kind, .float .f64 c.cmd.val.num, .string c.cmd.val.text] 44)).alloc (.cells #[.slice none 0 0, .slice none 0 0] 33)).alloc (.cells #[.int .i64 0, .int .i64 0, .float .f64 0, .string ⟨#[]⟩] 46) := ⟨_, rfl⟩
 obtain ⟨hA, hB, hC, hD, hsz, hE⟩ := four_boxes w _ _ _ _ hW
 rw [hb] at hA hB hC hD hsz
 have hPW := hP.ext hE
 have hSW := h.ext hE
 have HW := Lib.hid hW
 have Hb := Lib.hid hb
 have HE := Lib.hid hE
 have HA := Lib.hid hA
 have HB := Lib.hid hB
 have HC := Lib.hid hC
 have HD := Lib.hid hD
 clear hA hB hC hD hW hb hE
 go_enter Tryz.func31, Tryz.ntmps31
 go_wp2_with fail
 rw [← HW.out, Hb.out]
 refine (k_twinMachine W T U _ _ p l hPW hSW hp hl).mono ?_
 rintro e w1 ⟨pv1, v1, rfl, hN1, hE1⟩
 obtain ⟨A1, c1, rfl⟩ := own_form hN1.1.1
 obtain ⟨A2, c2, rfl⟩ := own_form hN1.2.1.1
 have hA1 := hE1.blk HA.out id
 have hB1 := hE1.blk HB.out id
 have hC1 := hE1.blk HC.out id
 have hD1 := hE1.blk HD.out id
 have l3 : b + 1 + 1 + 1 < w1.heap.size := (Array.getElem?_eq_some_iff.1 hD1).1
 have l2 : b + 1 + 1 < w1.heap.size := by omega
 have l1 : b + 1 < w1.heap.size := by omega
 have l0 : b < w1.heap.size := by omega
 have hXW : Ext w w1 := Mod.ext HE.out hE1
 have hNW : NewM w w1 (.slice A1 p.length c1) (.slice A2 l.length c2) ⟨p, l⟩ := ⟨newP_up hN1.1 HE.out.size, ⟨hN1.2.1.1, hN1.2.1.2.1, fun g hg => Nat.le_trans HE.out.size (hN1.2.1.2.2 g hg)⟩, hN1.2.2⟩
 have hfar : (∀ g, (Value.slice A1 p.length c1).ownBlock = some g → b + 4 ≤ g ∧ g < w1.heap.size) ∧ (∀ g, (Value.slice A2 l.length c2).ownBlock = some g → b + 4 ≤ g ∧ g < w1.heap.size) := ⟨fun g hg => ⟨by have := hN1.1.2.2 g hg; omega, (hN1.1.1.lt g hg).2⟩, fun g hg => ⟨by have := hN1.2.1.2.2 g hg; omega, (hN1.2.1.1.lt g hg).2⟩⟩
 obtain ⟨k0, k1, k2, k3, k4, k5, k6, k7, k8, k9⟩ := cq10 hB1
 have Hfar := Lib.hid hfar
 have HA1 := Lib.hid hA1
 have HB1 := Lib.hid hB1
 have HC1 := Lib.hid hC1
 have HD1 := Lib.hid hD1
 have HXW := Lib.hid hXW
 have HNW := Lib.hid hNW
 have HPW := Lib.hid hPW
 have HSW := Lib.hid hSW
 clear hA1 hB1 hC1 hD1 hN1 hE1 hfar hXW hNW hPW hSW
 go_wp2_with fail
 obtain ⟨w2, hw2⟩ : ∃ w2, w2 = w1.alloc (.cells #[.slice A1 p.length c1, .slice A2 l.length c2] 33) := ⟨_, rfl⟩
 rw [← hw2]
 have hE2 : Ext w1 w2 := by rw [hw2]; exact (Mod.refl _ _).alloc _
 have hT2 : w2.heap[w1.heap.size]? = some (.cells #[.slice A1 p.length c1, .slice A2 l.length c2] 33 (0, 0)) := by rw [hw2]; exact heap_alloc_new w1 _
 have hfar := Hfar.out
 have hA2 := hE2.blk HA1.out id
 have hB2 := hE2.blk HB1.out id
 have hC2 := hE2.blk HC1.out id
 have hD2 := hE2.blk HD1.out id
 have hN2 := newM_mod HNW.out hE2 (fun _ _ => id) (fun _ _ => id)
 have hX2 := Mod.ext HXW.out hE2
 obtain ⟨sb, hsb⟩ : ∃ sb, w1.heap.size = sb := ⟨_, rfl⟩
 rw [hsb] at l0 l1 l2 l3 hfar hT2 ⊢
 clear hsb hw2 hE2 Hfar HA1 HB1 HC1 HD1 HXW HNW HPW HSW k0 k1 k2 k3 k4 k5 k6 k7 k8 k9
 have Hfar := Lib.hid hfar
 clear hfar
 have n0 : ¬ sb = b := by omega
 have n1 : ¬ b = sb := by omega
 have n2 : ¬ sb = b + 1 := by omega
 have n3 : ¬ b + 1 = sb := by omega
 have n4 : ¬ sb = b + 1 + 1 := by omega
 have n5 : ¬ b + 1 + 1 = sb := by omega
 have n6 : ¬ sb = b + 1 + 1 + 1 := by omega
 have n7 : ¬ b + 1 + 1 + 1 = sb := by omega
 refine (r_call c w2).mono ?_
 rintro e w3 ⟨rfl, hE3⟩
 have hA3 := hE3.blk hA2 id
 have hB3 := hE3.blk hB2 id
 have hC3 := hE3.blk hC2 id
 have hD3 := hE3.blk hD2 id
 have hT3 := hE3.blk hT2 id
 have hN3 := newM_mod hN2 hE3 (fun _ _ => id) (fun _ _ => id)
 have hX3 := Mod.ext hX2 hE3
 clear hA2 hB2 hC2 hD2 hT2 hN2 hX2 hE3
 have a0 : w3.cell? ⟨b, 0, none⟩ = some _ := blk_cell hA3 rfl
 have a1 : w3.cell? ⟨b, 1, none⟩ = some _ := blk_cell hA3 rfl
 have m0 : w3.cell? ⟨sb, 0, none⟩ = some _ := blk_cell hT3 rfl
 have m1 : w3.cell? ⟨sb, 1, none⟩ = some _ := blk_cell hT3 rfl
 have g0 : w3.cell? ⟨b + 1 + 1, 0, none⟩ = some _ := blk_cell hC3 rfl
 have g1 : w3.cell? ⟨b + 1 + 1, 1, none⟩ = some _ := blk_cell hC3 rfl
 have fg0 : w3.frozen? ⟨b + 1 + 1, 0, none⟩ = false := blk_free 0 hC3
 have fg1 : w3.frozen? ⟨b + 1 + 1, 1, none⟩ = false := blk_free 1 hC3
 obtain ⟨q0, q1, q2, q3⟩ := cq4 hD3
 have fq0 : w3.frozen? ⟨b + 1 + 1 + 1, 0, none⟩ = false := blk_free 0 hD3
 have fq1 : w3.frozen? ⟨b + 1 + 1 + 1, 1, none⟩ = false := blk_free 1 hD3
 have fq2 : w3.frozen? ⟨b + 1 + 1 + 1, 2, none⟩ = false := blk_free 2 hD3
 have fq3 : w3.frozen? ⟨b + 1 + 1 + 1, 3, none⟩ = false := blk_free 3 hD3
 have HA3 := Lib.hid hA3
 have HB3 := Lib.hid hB3
 have HC3 := Lib.hid hC3
 have HD3 := Lib.hid hD3
 have HT3 := Lib.hid hT3
 have HN3 := Lib.hid hN3
 have HX3 := Lib.hid hX3
 clear hA3 hB3 hC3 hD3 hT3 hN3 hX3
 rw [hc]
 go_wp2_with fail
 refine (r_machine w3 T U _ _ p l (hP.ext HX3.out) (h.ext HX3.out)).mono ?_
 rintro e w4 ⟨rfl, hE4⟩
 rw [hm]
 clear a0 a1 m0 m1 g0 g1 q0 q1 q2 q3 fg0 fg1 fq0 fq1 fq2 fq3
 have hA3 := HA3.out
 have hB3 := HB3.out
 have hC3 := HC3.out
 have hD3 := HD3.out
 have hT3 := HT3.out
 have hN3 := HN3.out
 have hX3 := HX3.out
 clear HA3 HB3 HC3 HD3 HT3 HN3 HX3
 have hA4 := hE4.blk hA3 id
 have hB4 := hE4.blk hB3 id
 have hC4 := hE4.blk hC3 id
 have hD4 := hE4.blk hD3 id
 have hT4 := hE4.blk hT3 id
 have hN4 := newM_mod hN3 hE4 (fun _ _ => id) (fun _ _ => id)
 have hX4 := Mod.ext hX3 hE4
 clear hA3 hB3 hC3 hD3 hT3 hN3 hX3 hE4
 have a0 : w4.cell? ⟨b, 0, none⟩ = some _ := blk_cell hA4 rfl
 have a1 : w4.cell? ⟨b, 1, none⟩ = some _ := blk_cell hA4 rfl
 have m0 : w4.cell? ⟨sb, 0, none⟩ = some _ := blk_cell hT4 rfl
 have m1 : w4.cell? ⟨sb, 1, none⟩ = some _ := blk_cell hT4 rfl
 have g0 : w4.cell? ⟨b + 1 + 1, 0, none⟩ = some _ := blk_cell hC4 rfl
 have g1 : w4.cell? ⟨b + 1 + 1, 1, none⟩ = some _ := blk_cell hC4 rfl
 have fg0 : w4.frozen? ⟨b + 1 + 1, 0, none⟩ = false := blk_free 0 hC4
 have fg1 : w4.frozen? ⟨b + 1 + 1, 1, none⟩ = false := blk_free 1 hC4
 obtain ⟨q0, q1, q2, q3⟩ := cq4 hD4
 have fq0 : w4.frozen? ⟨b + 1 + 1 + 1, 0, none⟩ = false := blk_free 0 hD4
 have fq1 : w4.frozen? ⟨b + 1 + 1 + 1, 1, none⟩ = false := blk_free 1 hD4
 have fq2 : w4.frozen? ⟨b + 1 + 1 + 1, 2, none⟩ = false := blk_free 2 hD4
 have fq3 : w4.frozen? ⟨b + 1 + 1 + 1, 3, none⟩ = false := blk_free 3 hD4
 obtain ⟨k0, k1, k2, k3, k4, k5, k6, k7, k8, k9⟩ := cq10 hB4
 have HA4 := Lib.hid hA4
 have HB4 := Lib.hid hB4
 have HC4 := Lib.hid hC4
 have HD4 := Lib.hid hD4
 have HT4 := Lib.hid hT4
 have HN4 := Lib.hid hN4
 have HX4 := Lib.hid hX4
 clear hA4 hB4 hC4 hD4 hT4 hN4 hX4
 go_wp2_with fail
 have hm : Mod (fun k => k = b + 1 + 1 ∨ k = b + 1 + 1 + 1) w4 ((((((w4.setCell ⟨b + 1 + 1, 0, none⟩ (.slice A1 p.length c1)).setCell ⟨b + 1 + 1, 1, none⟩ (.slice A2 l.length c2)).setCell ⟨b + 1 + 1 + 1, 0, none⟩ (.int .i64 6)).setCell ⟨b + 1 + 1 + 1, 1, none⟩ (.int .i64 0)).setCell ⟨b + 1 + 1 + 1, 2, none⟩ (.float .f64 0)).setCell ⟨b + 1 + 1 + 1, 3, none⟩ (.string ⟨#[]⟩)) := by
  skip
  refine Mod.setCell (Mod.setCell (Mod.setCell (Mod.setCell (Mod.setCell (Mod.setCell (Mod.refl _ _) (.inr (.inl rfl)) _) (.inr (.inl rfl)) _) (.inr (.inr rfl)) _) (.inr (.inr rfl)) _) (.inr (.inr rfl)) _) (.inr (.inr rfl)) _
 refine bodyPost_ret (v := .tuple #[.agg #[.slice A1 p.length c1, .slice A2 l.length c2], .agg #[.int .i64 6, .int .i64 0, .float .f64 0, .string ⟨#[]⟩]]) (by simp [results, Tryz.results31, go_sem, m0, m1, g0, g1, q0, q1, q2, q3]) rfl ⟨_, _, rfl, newM_mod HN4.out hm (fun g hg e => by have := Hfar.out.1 g hg; omega) (fun g hg e => by have := Hfar.out.2 g hg; omega), ?_⟩
 exact Mod.toExt ((Ext.mod HX4.out (Since w.heap.size)).trans hm (fun k _ e => by have := Hb.out; unfold Since; omega))
set_option maxRecDepth 100000 in
set_option maxHeartbeats 2000000 in
theorem r_once_less (w : World) (T U : Nat → Prop) (pv v : Value) (p : List APair) (l : List ASess) (c : ACall) (hP : Prs w U pv p) (h : Ses w T v l) (hp : p.length ≤ 1000000) (hl : l.length ≤ 1000000) (hc : callE c = 0) (hm : machB ⟨p, l⟩ = true) (n : Int) (r : AReply) (hla : lastS l c.client = (n, r)) (hlt : c.seq < n) :
  Calls Tryz.prog 31 #[.agg #[pv, v], .agg #[.int .i64 c.client, .int .i64 c.seq, .int .i64 c.cmd.kind, .string c.cmd.key, .int .i64 c.cmd.old.kind, .float .f64 c.cmd.old.num, .string c.cmd.old.text, .int .i64 c.cmd.val.kind, .float .f64 c.cmd.val.num, .string c.cmd.val.text]] w (OnceOut w ⟨p, l⟩ ⟨10, AVal.zero⟩) := by
 obtain ⟨A, c0, rfl⟩ := h.form
 obtain ⟨A', c', rfl⟩ := hP.form
 obtain ⟨b, hb⟩ : ∃ b, w.heap.size = b := ⟨_, rfl⟩
 obtain ⟨W, hW⟩ : ∃ W, W = (((w.alloc (.cells #[.slice A' p.length c', .slice A l.length c0] 33)).alloc (.cells #[.int .i64 c.client, .int .i64 c.seq, .int .i64 c.cmd.kind, .string c.cmd.key, .int .i64 c.cmd.old.kind, .float .f64 c.cmd.old.num, .string c.cmd.old.text, .int .i64 c.cmd.val.kind, .float .f64 c.cmd.val.num, .string c.cmd.val.text] 44)).alloc (.cells #[.slice none 0 0, .slice none 0 0] 33)).alloc (.cells #[.int .i64 0, .int .i64 0, .float .f64 0, .string ⟨#[]⟩] 46) := ⟨_, rfl⟩
 obtain ⟨hA, hB, hC, hD, hsz, hE⟩ := four_boxes w _ _ _ _ hW
 rw [hb] at hA hB hC hD hsz
 have hPW := hP.ext hE
 have hSW := h.ext hE
 have HW := Lib.hid hW
 have Hb := Lib.hid hb
 have HE := Lib.hid hE
 have HA := Lib.hid hA
 have HB := Lib.hid hB
 have HC := Lib.hid hC
 have HD := Lib.hid hD
 clear hA hB hC hD hW hb hE
 go_enter Tryz.func31, Tryz.ntmps31
 go_wp2_with fail
 rw [← HW.out, Hb.out]
 refine (k_twinMachine W T U _ _ p l hPW hSW hp hl).mono ?_
 rintro e w1 ⟨pv1, v1, rfl, hN1, hE1⟩
 obtain ⟨A1, c1, rfl⟩ := own_form hN1.1.1
 obtain ⟨A2, c2, rfl⟩ := own_form hN1.2.1.1
 have hA1 := hE1.blk HA.out id
 have hB1 := hE1.blk HB.out id
 have hC1 := hE1.blk HC.out id
 have hD1 := hE1.blk HD.out id
 have l3 : b + 1 + 1 + 1 < w1.heap.size := (Array.getElem?_eq_some_iff.1 hD1).1
 have l2 : b + 1 + 1 < w1.heap.size := by omega
 have l1 : b + 1 < w1.heap.size := by omega
 have l0 : b < w1.heap.size := by omega
 have hXW : Ext w w1 := Mod.ext HE.out hE1
 have hNW : NewM w w1 (.slice A1 p.length c1) (.slice A2 l.length c2) ⟨p, l⟩ := ⟨newP_up hN1.1 HE.out.size, ⟨hN1.2.1.1, hN1.2.1.2.1, fun g hg => Nat.le_trans HE.out.size (hN1.2.1.2.2 g hg)⟩, hN1.2.2⟩
 have hfar : (∀ g, (Value.slice A1 p.length c1).ownBlock = some g → b + 4 ≤ g ∧ g < w1.heap.size) ∧ (∀ g, (Value.slice A2 l.length c2).ownBlock = some g → b + 4 ≤ g ∧ g < w1.heap.size) := ⟨fun g hg => ⟨by have := hN1.1.2.2 g hg; omega, (hN1.1.1.lt g hg).2⟩, fun g hg => ⟨by have := hN1.2.1.2.2 g hg; omega, (hN1.2.1.1.lt g hg).2⟩⟩
 obtain ⟨k0, k1, k2, k3, k4, k5, k6, k7, k8, k9⟩ := cq10 hB1
 have Hfar := Lib.hid hfar
 have HA1 := Lib.hid hA1
 have HB1 := Lib.hid hB1
 have HC1 := Lib.hid hC1
 have HD1 := Lib.hid hD1
 have HXW := Lib.hid hXW
 have HNW := Lib.hid hNW
 have HPW := Lib.hid hPW
 have HSW := Lib.hid hSW
 clear hA1 hB1 hC1 hD1 hN1 hE1 hfar hXW hNW hPW hSW
 go_wp2_with fail
 obtain ⟨w2, hw2⟩ : ∃ w2, w2 = w1.alloc (.cells #[.slice A1 p.length c1, .slice A2 l.length c2] 33) := ⟨_, rfl⟩
 rw [← hw2]
 have hE2 : Ext w1 w2 := by rw [hw2]; exact (Mod.refl _ _).alloc _
 have hT2 : w2.heap[w1.heap.size]? = some (.cells #[.slice A1 p.length c1, .slice A2 l.length c2] 33 (0, 0)) := by rw [hw2]; exact heap_alloc_new w1 _
 have hfar := Hfar.out
 have hA2 := hE2.blk HA1.out id
 have hB2 := hE2.blk HB1.out id
 have hC2 := hE2.blk HC1.out id
 have hD2 := hE2.blk HD1.out id
 have hN2 := newM_mod HNW.out hE2 (fun _ _ => id) (fun _ _ => id)
 have hX2 := Mod.ext HXW.out hE2
 obtain ⟨sb, hsb⟩ : ∃ sb, w1.heap.size = sb := ⟨_, rfl⟩
 rw [hsb] at l0 l1 l2 l3 hfar hT2 ⊢
 clear hsb hw2 hE2 Hfar HA1 HB1 HC1 HD1 HXW HNW HPW HSW k0 k1 k2 k3 k4 k5 k6 k7 k8 k9
 have Hfar := Lib.hid hfar
 clear hfar
 have n0 : ¬ sb = b := by omega
 have n1 : ¬ b = sb := by omega
 have n2 : ¬ sb = b + 1 := by omega
 have n3 : ¬ b + 1 = sb := by omega
 have n4 : ¬ sb = b + 1 + 1 := by omega
 have n5 : ¬ b + 1 + 1 = sb := by omega
 have n6 : ¬ sb = b + 1 + 1 + 1 := by omega
 have n7 : ¬ b + 1 + 1 + 1 = sb := by omega
 refine (r_call c w2).mono ?_
 rintro e w3 ⟨rfl, hE3⟩
 have hA3 := hE3.blk hA2 id
 have hB3 := hE3.blk hB2 id
 have hC3 := hE3.blk hC2 id
 have hD3 := hE3.blk hD2 id
 have hT3 := hE3.blk hT2 id
 have hN3 := newM_mod hN2 hE3 (fun _ _ => id) (fun _ _ => id)
 have hX3 := Mod.ext hX2 hE3
 clear hA2 hB2 hC2 hD2 hT2 hN2 hX2 hE3
 have a0 : w3.cell? ⟨b, 0, none⟩ = some _ := blk_cell hA3 rfl
 have a1 : w3.cell? ⟨b, 1, none⟩ = some _ := blk_cell hA3 rfl
 have m0 : w3.cell? ⟨sb, 0, none⟩ = some _ := blk_cell hT3 rfl
 have m1 : w3.cell? ⟨sb, 1, none⟩ = some _ := blk_cell hT3 rfl
 have g0 : w3.cell? ⟨b + 1 + 1, 0, none⟩ = some _ := blk_cell hC3 rfl
 have g1 : w3.cell? ⟨b + 1 + 1, 1, none⟩ = some _ := blk_cell hC3 rfl
 have fg0 : w3.frozen? ⟨b + 1 + 1, 0, none⟩ = false := blk_free 0 hC3
 have fg1 : w3.frozen? ⟨b + 1 + 1, 1, none⟩ = false := blk_free 1 hC3
 obtain ⟨q0, q1, q2, q3⟩ := cq4 hD3
 have fq0 : w3.frozen? ⟨b + 1 + 1 + 1, 0, none⟩ = false := blk_free 0 hD3
 have fq1 : w3.frozen? ⟨b + 1 + 1 + 1, 1, none⟩ = false := blk_free 1 hD3
 have fq2 : w3.frozen? ⟨b + 1 + 1 + 1, 2, none⟩ = false := blk_free 2 hD3
 have fq3 : w3.frozen? ⟨b + 1 + 1 + 1, 3, none⟩ = false := blk_free 3 hD3
 have HA3 := Lib.hid hA3
 have HB3 := Lib.hid hB3
 have HC3 := Lib.hid hC3
 have HD3 := Lib.hid hD3
 have HT3 := Lib.hid hT3
 have HN3 := Lib.hid hN3
 have HX3 := Lib.hid hX3
 clear hA3 hB3 hC3 hD3 hT3 hN3 hX3
 rw [hc]
 go_wp2_with fail
 refine (r_machine w3 T U _ _ p l (hP.ext HX3.out) (h.ext HX3.out)).mono ?_
 rintro e w4 ⟨rfl, hE4⟩
 rw [hm]
 clear a0 a1 m0 m1 g0 g1 q0 q1 q2 q3 fg0 fg1 fq0 fq1 fq2 fq3
 have hA3 := HA3.out
 have hB3 := HB3.out
 have hC3 := HC3.out
 have hD3 := HD3.out
 have hT3 := HT3.out
 have hN3 := HN3.out
 have hX3 := HX3.out
 clear HA3 HB3 HC3 HD3 HT3 HN3 HX3
 have hA4 := hE4.blk hA3 id
 have hB4 := hE4.blk hB3 id
 have hC4 := hE4.blk hC3 id
 have hD4 := hE4.blk hD3 id
 have hT4 := hE4.blk hT3 id
 have hN4 := newM_mod hN3 hE4 (fun _ _ => id) (fun _ _ => id)
 have hX4 := Mod.ext hX3 hE4
 clear hA3 hB3 hC3 hD3 hT3 hN3 hX3 hE4
 have a0 : w4.cell? ⟨b, 0, none⟩ = some _ := blk_cell hA4 rfl
 have a1 : w4.cell? ⟨b, 1, none⟩ = some _ := blk_cell hA4 rfl
 have m0 : w4.cell? ⟨sb, 0, none⟩ = some _ := blk_cell hT4 rfl
 have m1 : w4.cell? ⟨sb, 1, none⟩ = some _ := blk_cell hT4 rfl
 have g0 : w4.cell? ⟨b + 1 + 1, 0, none⟩ = some _ := blk_cell hC4 rfl
 have g1 : w4.cell? ⟨b + 1 + 1, 1, none⟩ = some _ := blk_cell hC4 rfl
 have fg0 : w4.frozen? ⟨b + 1 + 1, 0, none⟩ = false := blk_free 0 hC4
 have fg1 : w4.frozen? ⟨b + 1 + 1, 1, none⟩ = false := blk_free 1 hC4
 obtain ⟨q0, q1, q2, q3⟩ := cq4 hD4
 have fq0 : w4.frozen? ⟨b + 1 + 1 + 1, 0, none⟩ = false := blk_free 0 hD4
 have fq1 : w4.frozen? ⟨b + 1 + 1 + 1, 1, none⟩ = false := blk_free 1 hD4
 have fq2 : w4.frozen? ⟨b + 1 + 1 + 1, 2, none⟩ = false := blk_free 2 hD4
 have fq3 : w4.frozen? ⟨b + 1 + 1 + 1, 3, none⟩ = false := blk_free 3 hD4
 obtain ⟨k0, k1, k2, k3, k4, k5, k6, k7, k8, k9⟩ := cq10 hB4
 have HA4 := Lib.hid hA4
 have HB4 := Lib.hid hB4
 have HC4 := Lib.hid hC4
 have HD4 := Lib.hid hD4
 have HT4 := Lib.hid hT4
 have HN4 := Lib.hid hN4
 have HX4 := Lib.hid hX4
 clear hA4 hB4 hC4 hD4 hT4 hN4 hX4
 go_wp2_with fail
 refine (r_last w4 T _ _ l c.client (h.ext HX4.out)).mono ?_
 rw [hla]
 rintro e w5 ⟨rfl, hE5⟩
 clear hla a0 a1 m0 m1 g0 g1 q0 q1 q2 q3 fg0 fg1 fq0 fq1 fq2 fq3 k0 k1 k2 k3 k4 k5 k6 k7 k8 k9
 have hA4 := HA4.out
 have hB4 := HB4.out
 have hC4 := HC4.out
 have hD4 := HD4.out
 have hT4 := HT4.out
 have hN4 := HN4.out
 have hX4 := HX4.out
 clear HA4 HB4 HC4 HD4 HT4 HN4 HX4
 have hA5 := hE5.blk hA4 id
 have hB5 := hE5.blk hB4 id
 have hC5 := hE5.blk hC4 id
 have hD5 := hE5.blk hD4 id
 have hT5 := hE5.blk hT4 id
 have hN5 := newM_mod hN4 hE5 (fun _ _ => id) (fun _ _ => id)
 have hX5 := Mod.ext hX4 hE5
 clear hA4 hB4 hC4 hD4 hT4 hN4 hX4 hE5
 have l5 : sb < w5.heap.size := (Array.getElem?_eq_some_iff.1 hT5).1
 have l6 : b < w5.heap.size := by omega
 have l7 : b + 1 < w5.heap.size := by omega
 have l8 : b + 1 + 1 < w5.heap.size := by omega
 have l9 : b + 1 + 1 + 1 < w5.heap.size := by omega
 have a0 : w5.cell? ⟨b, 0, none⟩ = some _ := blk_cell hA5 rfl
 have a1 : w5.cell? ⟨b, 1, none⟩ = some _ := blk_cell hA5 rfl
 have m0 : w5.cell? ⟨sb, 0, none⟩ = some _ := blk_cell hT5 rfl
 have m1 : w5.cell? ⟨sb, 1, none⟩ = some _ := blk_cell hT5 rfl
 have g0 : w5.cell? ⟨b + 1 + 1, 0, none⟩ = some _ := blk_cell hC5 rfl
 have g1 : w5.cell? ⟨b + 1 + 1, 1, none⟩ = some _ := blk_cell hC5 rfl
 have fg0 : w5.frozen? ⟨b + 1 + 1, 0, none⟩ = false := blk_free 0 hC5
 have fg1 : w5.frozen? ⟨b + 1 + 1, 1, none⟩ = false := blk_free 1 hC5
 obtain ⟨q0, q1, q2, q3⟩ := cq4 hD5
 have fq0 : w5.frozen? ⟨b + 1 + 1 + 1, 0, none⟩ = false := blk_free 0 hD5
 have fq1 : w5.frozen? ⟨b + 1 + 1 + 1, 1, none⟩ = false := blk_free 1 hD5
 have fq2 : w5.frozen? ⟨b + 1 + 1 + 1, 2, none⟩ = false := blk_free 2 hD5
 have fq3 : w5.frozen? ⟨b + 1 + 1 + 1, 3, none⟩ = false := blk_free 3 hD5
 obtain ⟨k0, k1, k2, k3, k4, k5, k6, k7, k8, k9⟩ := cq10 hB5
 have HA5 := Lib.hid hA5
 have HB5 := Lib.hid hB5
 have HC5 := Lib.hid hC5
 have HD5 := Lib.hid hD5
 have HT5 := Lib.hid hT5
 have HN5 := Lib.hid hN5
 have HX5 := Lib.hid hX5
 clear hA5 hB5 hC5 hD5 hT5 hN5 hX5
 have e1 : (c.seq == n) = false := by simp; omega
 have e2 : decide (c.seq < n) = true := decide_eq_true hlt
 clear hlt
 go_wp2_with fail
 have hm : Mod (fun k => k = b + 1 + 1 ∨ k = b + 1 + 1 + 1) w5 (((((((w5.setCell ⟨b + 1 + 1, 0, none⟩ (.slice A1 p.length c1)).setCell ⟨b + 1 + 1, 1, none⟩ (.slice A2 l.length c2)).setCell ⟨b + 1 + 1 + 1, 0, none⟩ (.int .i64 10)).setCell ⟨b + 1 + 1 + 1, 1, none⟩ (.int .i64 0)).setCell ⟨b + 1 + 1 + 1, 2, none⟩ (.float .f64 0)).setCell ⟨b + 1 + 1 + 1, 3, none⟩ (.string ⟨#[]⟩)).alloc (.cells #[.int .i64 r.code, .int .i64 r.val.kind, .float .f64 r.val.num, .string r.val.text] 46)) := by
  refine Mod.alloc ?_ _
  refine Mod.setCell (Mod.setCell (Mod.setCell (Mod.setCell (Mod.setCell (Mod.setCell (Mod.refl _ _) (.inr (.inl rfl)) _) (.inr (.inl rfl)) _) (.inr (.inr rfl)) _) (.inr (.inr rfl)) _) (.inr (.inr rfl)) _) (.inr (.inr rfl)) _
 refine bodyPost_ret (v := .tuple #[.agg #[.slice A1 p.length c1, .slice A2 l.length c2], .agg #[.int .i64 10, .int .i64 0, .float .f64 0, .string ⟨#[]⟩]]) (by simp [results, Tryz.results31, go_sem, m0, m1, g0, g1, q0, q1, q2, q3, World.cell?_alloc_past, l8, l9]) rfl ⟨_, _, rfl, newM_mod HN5.out hm (fun g hg e => by have := Hfar.out.1 g hg; omega) (fun g hg e => by have := Hfar.out.2 g hg; omega), ?_⟩
 exact Mod.toExt ((Ext.mod HX5.out (Since w.heap.size)).trans hm (fun k _ e => by have := Hb.out; unfold Since; omega))
end Go.Proofs.YtbclnghbgoblcaaGreat

namespace Go.Proofs.YtbclnghbgoblcaaGreat
set_option linter.unusedSimpArgs false
open Go.RowKit

set_option maxRecDepth 100000 in
set_option maxHeartbeats 2000000 in
theorem r_once_same (w : World) (T U : Nat → Prop) (pv v : Value) (p : List APair) (l : List ASess) (c : ACall) (hP : Prs w U pv p) (h : Ses w T v l) (hp : p.length ≤ 1000000) (hl : l.length ≤ 1000000) (hc : callE c = 0) (hm : machB ⟨p, l⟩ = true) (n : Int) (r : AReply) (hla : lastS l c.client = (n, r)) (hlt : Hid (c.seq = n)) :
  Calls Tryz.prog 31 #[.agg #[pv, v], .agg #[.int .i64 c.client, .int .i64 c.seq, .int .i64 c.cmd.kind, .string c.cmd.key, .int .i64 c.cmd.old.kind, .float .f64 c.cmd.old.num, .string c.cmd.old.text, .int .i64 c.cmd.val.kind, .float .f64 c.cmd.val.num, .string c.cmd.val.text]] w (OnceOut w ⟨p, l⟩ r) := by
 obtain ⟨A, c0, rfl⟩ := h.form
 obtain ⟨A', c', rfl⟩ := hP.form
 obtain ⟨b, hb⟩ : ∃ b, w.heap.size = b := ⟨_, rfl⟩
 obtain ⟨W, hW⟩ : ∃ W, W = (((w.alloc (.cells #[.slice A' p.length c', .slice A l.length c0] 33)).alloc (.cells #[.int .i64 c.client, .int .i64 c.seq, .int .i64 c.cmd.kind, .string c.cmd.key, .int .i64 c.cmd.old.kind, .float .f64 c.cmd.old.num, .string c.cmd.old.text, .int .i64 c.cmd.val.kind, .float .f64 c.cmd.val.num, .string c.cmd.val.text] 44)).alloc (.cells #[.slice none 0 0, .slice none 0 0] 33)).alloc (.cells #[.int .i64 0, .int .i64 0, .float .f64 0, .string ⟨#[]⟩] 46) := ⟨_, rfl⟩
 obtain ⟨hA, hB, hC, hD, hsz, hE⟩ := four_boxes w _ _ _ _ hW
 rw [hb] at hA hB hC hD hsz
 have hPW := hP.ext hE
 have hSW := h.ext hE
 have HW := Lib.hid hW
 have Hb := Lib.hid hb
 have HE := Lib.hid hE
 have HA := Lib.hid hA
 have HB := Lib.hid hB
 have HC := Lib.hid hC
 have HD := Lib.hid hD
 clear hA hB hC hD hW hb hE
 go_enter Tryz.func31, Tryz.ntmps31
 go_wp2_with fail
 rw [← HW.out, Hb.out]
 refine (k_twinMachine W T U _ _ p l hPW hSW hp hl).mono ?_
 rintro e w1 ⟨pv1, v1, rfl, hN1, hE1⟩
 obtain ⟨A1, c1, rfl⟩ := own_form hN1.1.1
 obtain ⟨A2, c2, rfl⟩ := own_form hN1.2.1.1
 have hA1 := hE1.blk HA.out id
 have hB1 := hE1.blk HB.out id
 have hC1 := hE1.blk HC.out id
 have hD1 := hE1.blk HD.out id
 have l3 : b + 1 + 1 + 1 < w1.heap.size := (Array.getElem?_eq_some_iff.1 hD1).1
 have l2 : b + 1 + 1 < w1.heap.size := by omega
 have l1 : b + 1 < w1.heap.size := by omega
 have l0 : b < w1.heap.size := by omega
 have hXW : Ext w w1 := Mod.ext HE.out hE1
 have hNW : NewM w w1 (.slice A1 p.length c1) (.slice A2 l.length c2) ⟨p, l⟩ := ⟨newP_up hN1.1 HE.out.size, ⟨hN1.2.1.1, hN1.2.1.2.1, fun g hg => Nat.le_trans HE.out.size (hN1.2.1.2.2 g hg)⟩, hN1.2.2⟩
 have hfar : (∀ g, (Value.slice A1 p.length c1).ownBlock = some g → b + 4 ≤ g ∧ g < w1.heap.size) ∧ (∀ g, (Value.slice A2 l.length c2).ownBlock = some g → b + 4 ≤ g ∧ g < w1.heap.size) := ⟨fun g hg => ⟨by have := hN1.1.2.2 g hg; omega, (hN1.1.1.lt g hg).2⟩, fun g hg => ⟨by have := hN1.2.1.2.2 g hg; omega, (hN1.2.1.1.lt g hg).2⟩⟩
 obtain ⟨k0, k1, k2, k3, k4, k5, k6, k7, k8, k9⟩ := cq10 hB1
 have Hfar := Lib.hid hfar
 have HA1 := Lib.hid hA1
 have HB1 := Lib.hid hB1
 have HC1 := Lib.hid hC1
 have HD1 := Lib.hid hD1
 have HXW := Lib.hid hXW
 have HNW := Lib.hid hNW
 have HPW := Lib.hid hPW
 have HSW := Lib.hid hSW
 clear hA1 hB1 hC1 hD1 hN1 hE1 hfar hXW hNW hPW hSW
 go_wp2_with fail
 obtain ⟨w2, hw2⟩ : ∃ w2, w2 = w1.alloc (.cells #[.slice A1 p.length c1, .slice A2 l.length c2] 33) := ⟨_, rfl⟩
 rw [← hw2]
 have hE2 : Ext w1 w2 := by rw [hw2]; exact (Mod.refl _ _).alloc _
 have hT2 : w2.heap[w1.heap.size]? = some (.cells #[.slice A1 p.length c1, .slice A2 l.length c2] 33 (0, 0)) := by rw [hw2]; exact heap_alloc_new w1 _
 have hfar := Hfar.out
 have hA2 := hE2.blk HA1.out id
 have hB2 := hE2.blk HB1.out id
 have hC2 := hE2.blk HC1.out id
 have hD2 := hE2.blk HD1.out id
 have hN2 := newM_mod HNW.out hE2 (fun _ _ => id) (fun _ _ => id)
 have hX2 := Mod.ext HXW.out hE2
 obtain ⟨sb, hsb⟩ : ∃ sb, w1.heap.size = sb := ⟨_, rfl⟩
 rw [hsb] at l0 l1 l2 l3 hfar hT2 ⊢
 clear hsb hw2 hE2 Hfar HA1 HB1 HC1 HD1 HXW HNW HPW HSW k0 k1 k2 k3 k4 k5 k6 k7 k8 k9
 have Hfar := Lib.hid hfar
 clear hfar
 have n0 : ¬ sb = b := by omega
 have n1 : ¬ b = sb := by omega
 have n2 : ¬ sb = b + 1 := by omega
 have n3 : ¬ b + 1 = sb := by omega
 have n4 : ¬ sb = b + 1 + 1 := by omega
 have n5 : ¬ b + 1 + 1 = sb := by omega
 have n6 : ¬ sb = b + 1 + 1 + 1 := by omega
 have n7 : ¬ b + 1 + 1 + 1 = sb := by omega
 refine (r_call c w2).mono ?_
 rintro e w3 ⟨rfl, hE3⟩
 have hA3 := hE3.blk hA2 id
 have hB3 := hE3.blk hB2 id
 have hC3 := hE3.blk hC2 id
 have hD3 := hE3.blk hD2 id
 have hT3 := hE3.blk hT2 id
 have hN3 := newM_mod hN2 hE3 (fun _ _ => id) (fun _ _ => id)
 have hX3 := Mod.ext hX2 hE3
 clear hA2 hB2 hC2 hD2 hT2 hN2 hX2 hE3
 have a0 : w3.cell? ⟨b, 0, none⟩ = some _ := blk_cell hA3 rfl
 have a1 : w3.cell? ⟨b, 1, none⟩ = some _ := blk_cell hA3 rfl
 have m0 : w3.cell? ⟨sb, 0, none⟩ = some _ := blk_cell hT3 rfl
 have m1 : w3.cell? ⟨sb, 1, none⟩ = some _ := blk_cell hT3 rfl
 have g0 : w3.cell? ⟨b + 1 + 1, 0, none⟩ = some _ := blk_cell hC3 rfl
 have g1 : w3.cell? ⟨b + 1 + 1, 1, none⟩ = some _ := blk_cell hC3 rfl
 have fg0 : w3.frozen? ⟨b + 1 + 1, 0, none⟩ = false := blk_free 0 hC3
 have fg1 : w3.frozen? ⟨b + 1 + 1, 1, none⟩ = false := blk_free 1 hC3
 obtain ⟨q0, q1, q2, q3⟩ := cq4 hD3
 have fq0 : w3.frozen? ⟨b + 1 + 1 + 1, 0, none⟩ = false := blk_free 0 hD3
 have fq1 : w3.frozen? ⟨b + 1 + 1 + 1, 1, none⟩ = false := blk_free 1 hD3
 have fq2 : w3.frozen? ⟨b + 1 + 1 + 1, 2, none⟩ = false := blk_free 2 hD3
 have fq3 : w3.frozen? ⟨b + 1 + 1 + 1, 3, none⟩ = false := blk_free 3 hD3
 have HA3 := Lib.hid hA3
 have HB3 := Lib.hid hB3
 have HC3 := Lib.hid hC3
 have HD3 := Lib.hid hD3
 have HT3 := Lib.hid hT3
 have HN3 := Lib.hid hN3
 have HX3 := Lib.hid hX3
 clear hA3 hB3 hC3 hD3 hT3 hN3 hX3
 rw [hc]
 go_wp2_with fail
 refine (r_machine w3 T U _ _ p l (hP.ext HX3.out) (h.ext HX3.out)).mono ?_
 rintro e w4 ⟨rfl, hE4⟩
 rw [hm]
 clear a0 a1 m0 m1 g0 g1 q0 q1 q2 q3 fg0 fg1 fq0 fq1 fq2 fq3
 have hA3 := HA3.out
 have hB3 := HB3.out
 have hC3 := HC3.out
 have hD3 := HD3.out
 have hT3 := HT3.out
 have hN3 := HN3.out
 have hX3 := HX3.out
 clear HA3 HB3 HC3 HD3 HT3 HN3 HX3
 have hA4 := hE4.blk hA3 id
 have hB4 := hE4.blk hB3 id
 have hC4 := hE4.blk hC3 id
 have hD4 := hE4.blk hD3 id
 have hT4 := hE4.blk hT3 id
 have hN4 := newM_mod hN3 hE4 (fun _ _ => id) (fun _ _ => id)
 have hX4 := Mod.ext hX3 hE4
 clear hA3 hB3 hC3 hD3 hT3 hN3 hX3 hE4
 have a0 : w4.cell? ⟨b, 0, none⟩ = some _ := blk_cell hA4 rfl
 have a1 : w4.cell? ⟨b, 1, none⟩ = some _ := blk_cell hA4 rfl
 have m0 : w4.cell? ⟨sb, 0, none⟩ = some _ := blk_cell hT4 rfl
 have m1 : w4.cell? ⟨sb, 1, none⟩ = some _ := blk_cell hT4 rfl
 have g0 : w4.cell? ⟨b + 1 + 1, 0, none⟩ = some _ := blk_cell hC4 rfl
 have g1 : w4.cell? ⟨b + 1 + 1, 1, none⟩ = some _ := blk_cell hC4 rfl
 have fg0 : w4.frozen? ⟨b + 1 + 1, 0, none⟩ = false := blk_free 0 hC4
 have fg1 : w4.frozen? ⟨b + 1 + 1, 1, none⟩ = false := blk_free 1 hC4
 obtain ⟨q0, q1, q2, q3⟩ := cq4 hD4
 have fq0 : w4.frozen? ⟨b + 1 + 1 + 1, 0, none⟩ = false := blk_free 0 hD4
 have fq1 : w4.frozen? ⟨b + 1 + 1 + 1, 1, none⟩ = false := blk_free 1 hD4
 have fq2 : w4.frozen? ⟨b + 1 + 1 + 1, 2, none⟩ = false := blk_free 2 hD4
 have fq3 : w4.frozen? ⟨b + 1 + 1 + 1, 3, none⟩ = false := blk_free 3 hD4
 obtain ⟨k0, k1, k2, k3, k4, k5, k6, k7, k8, k9⟩ := cq10 hB4
 have HA4 := Lib.hid hA4
 have HB4 := Lib.hid hB4
 have HC4 := Lib.hid hC4
 have HD4 := Lib.hid hD4
 have HT4 := Lib.hid hT4
 have HN4 := Lib.hid hN4
 have HX4 := Lib.hid hX4
 clear hA4 hB4 hC4 hD4 hT4 hN4 hX4
 go_wp2_with fail
 refine (r_last w4 T _ _ l c.client (h.ext HX4.out)).mono ?_
 rw [hla]
 rintro e w5 ⟨rfl, hE5⟩
 clear hla a0 a1 m0 m1 g0 g1 q0 q1 q2 q3 fg0 fg1 fq0 fq1 fq2 fq3 k0 k1 k2 k3 k4 k5 k6 k7 k8 k9
 have hA4 := HA4.out
 have hB4 := HB4.out
 have hC4 := HC4.out
 have hD4 := HD4.out
 have hT4 := HT4.out
 have hN4 := HN4.out
 have hX4 := HX4.out
 clear HA4 HB4 HC4 HD4 HT4 HN4 HX4
 have hA5 := hE5.blk hA4 id
 have hB5 := hE5.blk hB4 id
 have hC5 := hE5.blk hC4 id
 have hD5 := hE5.blk hD4 id
 have hT5 := hE5.blk hT4 id
 have hN5 := newM_mod hN4 hE5 (fun _ _ => id) (fun _ _ => id)
 have hX5 := Mod.ext hX4 hE5
 clear hA4 hB4 hC4 hD4 hT4 hN4 hX4 hE5
 have l5 : sb < w5.heap.size := (Array.getElem?_eq_some_iff.1 hT5).1
 have l6 : b < w5.heap.size := by omega
 have l7 : b + 1 < w5.heap.size := by omega
 have l8 : b + 1 + 1 < w5.heap.size := by omega
 have l9 : b + 1 + 1 + 1 < w5.heap.size := by omega
 have a0 : w5.cell? ⟨b, 0, none⟩ = some _ := blk_cell hA5 rfl
 have a1 : w5.cell? ⟨b, 1, none⟩ = some _ := blk_cell hA5 rfl
 have m0 : w5.cell? ⟨sb, 0, none⟩ = some _ := blk_cell hT5 rfl
 have m1 : w5.cell? ⟨sb, 1, none⟩ = some _ := blk_cell hT5 rfl
 have g0 : w5.cell? ⟨b + 1 + 1, 0, none⟩ = some _ := blk_cell hC5 rfl
 have g1 : w5.cell? ⟨b + 1 + 1, 1, none⟩ = some _ := blk_cell hC5 rfl
 have fg0 : w5.frozen? ⟨b + 1 + 1, 0, none⟩ = false := blk_free 0 hC5
 have fg1 : w5.frozen? ⟨b + 1 + 1, 1, none⟩ = false := blk_free 1 hC5
 obtain ⟨q0, q1, q2, q3⟩ := cq4 hD5
 have fq0 : w5.frozen? ⟨b + 1 + 1 + 1, 0, none⟩ = false := blk_free 0 hD5
 have fq1 : w5.frozen? ⟨b + 1 + 1 + 1, 1, none⟩ = false := blk_free 1 hD5
 have fq2 : w5.frozen? ⟨b + 1 + 1 + 1, 2, none⟩ = false := blk_free 2 hD5
 have fq3 : w5.frozen? ⟨b + 1 + 1 + 1, 3, none⟩ = false := blk_free 3 hD5
 obtain ⟨k0, k1, k2, k3, k4, k5, k6, k7, k8, k9⟩ := cq10 hB5
 have HA5 := Lib.hid hA5
 have HB5 := Lib.hid hB5
 have HC5 := Lib.hid hC5
 have HD5 := Lib.hid hD5
 have HT5 := Lib.hid hT5
 have HN5 := Lib.hid hN5
 have HX5 := Lib.hid hX5
 clear hA5 hB5 hC5 hD5 hT5 hN5 hX5
 have e1 : (c.seq == n) = true := by simp [hlt.out]
 clear hlt
 go_wp2_with fail
 clear a0 a1 m0 m1 g0 g1 q0 q1 q2 q3 fg0 fg1 fq0 fq1 fq2 fq3 k0 k1 k2 k3 k4 k5 k6 k7 k8 k9
 obtain ⟨w6, hw6⟩ : ∃ w6, w6 = w5.alloc (.cells #[.int .i64 r.code, .int .i64 r.val.kind, .float .f64 r.val.num, .string r.val.text] 46) := ⟨_, rfl⟩
 rw [← hw6]
 have hE6 : Ext w5 w6 := by rw [hw6]; exact (Mod.refl _ _).alloc _
 have hR6 : w6.heap[w5.heap.size]? = some (.cells #[.int .i64 r.code, .int .i64 r.val.kind, .float .f64 r.val.num, .string r.val.text] 46 (0, 0)) := by rw [hw6]; exact heap_alloc_new w5 _
 clear hw6
 obtain ⟨rb, hrb⟩ : ∃ rb, w5.heap.size = rb := ⟨_, rfl⟩
 rw [hrb] at hR6 l5 l6 l7 l8 l9 ⊢
 clear hrb
 have hA5 := HA5.out
 have hB5 := HB5.out
 have hC5 := HC5.out
 have hD5 := HD5.out
 have hT5 := HT5.out
 have hN5 := HN5.out
 have hX5 := HX5.out
 clear HA5 HB5 HC5 HD5 HT5 HN5 HX5
 have hA6 := hE6.blk hA5 id
 have hB6 := hE6.blk hB5 id
 have hC6 := hE6.blk hC5 id
 have hD6 := hE6.blk hD5 id
 have hT6 := hE6.blk hT5 id
 have hN6 := newM_mod hN5 hE6 (fun _ _ => id) (fun _ _ => id)
 have hX6 := Mod.ext hX5 hE6
 clear hA5 hB5 hC5 hD5 hT5 hN5 hX5 hE6
 have m0 : w6.cell? ⟨sb, 0, none⟩ = some _ := blk_cell hT6 rfl
 have m1 : w6.cell? ⟨sb, 1, none⟩ = some _ := blk_cell hT6 rfl
 have g0 : w6.cell? ⟨b + 1 + 1, 0, none⟩ = some _ := blk_cell hC6 rfl
 have g1 : w6.cell? ⟨b + 1 + 1, 1, none⟩ = some _ := blk_cell hC6 rfl
 have fg0 : w6.frozen? ⟨b + 1 + 1, 0, none⟩ = false := blk_free 0 hC6
 have fg1 : w6.frozen? ⟨b + 1 + 1, 1, none⟩ = false := blk_free 1 hC6
 obtain ⟨q0, q1, q2, q3⟩ := cq4 hD6
 have fq0 : w6.frozen? ⟨b + 1 + 1 + 1, 0, none⟩ = false := blk_free 0 hD6
 have fq1 : w6.frozen? ⟨b + 1 + 1 + 1, 1, none⟩ = false := blk_free 1 hD6
 have fq2 : w6.frozen? ⟨b + 1 + 1 + 1, 2, none⟩ = false := blk_free 2 hD6
 have fq3 : w6.frozen? ⟨b + 1 + 1 + 1, 3, none⟩ = false := blk_free 3 hD6
 obtain ⟨rr0, rr1, rr2, rr3⟩ := cq4 hR6
 have d1 : ¬ rb = b + 1 + 1 := by omega
 have d2 : ¬ rb = b + 1 + 1 + 1 := by omega
 have d3 : ¬ b + 1 + 1 = rb := by omega
 have d4 : ¬ b + 1 + 1 + 1 = rb := by omega
 have d5 : ¬ b = b + 1 + 1 := by omega
 have d6 : ¬ b + 1 + 1 = b := by omega
 have d7 : ¬ b = b + 1 + 1 + 1 := by omega
 have d8 : ¬ b + 1 + 1 + 1 = b := by omega
 have hfin : Hid (∀ w', Mod (fun k => k = b + 1 + 1 ∨ k = b + 1 + 1 + 1) w6 w' → OnceOut w ⟨p, l⟩ r (.returned (.tuple #[.agg #[.slice A1 p.length c1, .slice A2 l.length c2], .agg #[.int .i64 r.code, .int .i64 r.val.kind, .float .f64 r.val.num, .string r.val.text]])) w') := Lib.hid (fun w' hm => ⟨_, _, rfl, newM_mod hN6 hm (fun g hg e => by have := Hfar.out.1 g hg; omega) (fun g hg e => by have := Hfar.out.2 g hg; omega), Mod.toExt ((Ext.mod hX6 (Since w.heap.size)).trans hm (fun k _ e => by have := Hb.out; unfold Since; omega))⟩)
 clear hA6 hB6 hC6 hD6 hT6 hN6 hX6 hR6 l0 l1 l2 l3 l5 l6 l7 l8 l9
 go_region_held3 (fun w' => w'.cell? ⟨sb, 0, none⟩ = some (.slice A1 p.length c1) ∧ w'.cell? ⟨sb, 1, none⟩ = some (.slice A2 l.length c2) ∧ w'.cell? ⟨rb, 0, none⟩ = some (.int .i64 r.code) ∧ w'.cell? ⟨rb, 1, none⟩ = some (.int .i64 r.val.kind) ∧ w'.cell? ⟨rb, 2, none⟩ = some (.float .f64 r.val.num) ∧ w'.cell? ⟨rb, 3, none⟩ = some (.string r.val.text)) (go_keep) (fail)
 all_goals
  go_wp2_with fail
  refine bodyPost_ret (v := .tuple #[.agg #[.slice A1 p.length c1, .slice A2 l.length c2], .agg #[.int .i64 r.code, .int .i64 r.val.kind, .float .f64 r.val.num, .string r.val.text]]) (by simp [results, Tryz.results31, go_sem, m0, m1, g0, g1, q0, q1, q2, q3]) rfl (hfin.out _ ?_)
  repeat (with_reducible (first | refine Mod.drew ?_ | exact Mod.refl _ _ | refine Mod.setCell ?_ (.inr (.inl rfl)) _ | refine Mod.setCell ?_ (.inr (.inr rfl)) _))
end Go.Proofs.YtbclnghbgoblcaaGreat
