/-
 The contract of the page's readEntry (layer 10). Conditions: as each theorem names them.
-/
import Derived.Test.YtjhnlncgmejkcaaGreatS19
import Derived.Test.YtjhnlncgmejkcaaGreatS20
set_option maxRecDepth 100000
set_option maxHeartbeats 4000000
namespace Go.Proofs.YtjhnlncgmejkcaaGreat
set_option linter.unusedSimpArgs false
open Go.RowKit
theorem zqL (w : World) (T : Nat → Prop) (b : Nat) (bs : List UInt8) (r : RS) (h : RpX w T b bs r) (hT : ∀ k, T k → k < w.heap.size) (hb : b < w.heap.size) (hk : r.int.2.int.1 = 0) :
  Calls Tryz.prog 159 #[.pointer (some ⟨b, 0, none⟩)] w (fun e w' => e = .returned (.agg #[.int .i64 r.entP.1.term, .int .i64 r.entP.1.kind, .int .i64 r.entP.1.call.client, .int .i64 r.entP.1.call.seq, .int .i64 r.entP.1.call.cmd.kind, .string r.entP.1.call.cmd.key, .int .i64 r.entP.1.call.cmd.old.kind, .float .f64 r.entP.1.call.cmd.old.num, .string r.entP.1.call.cmd.old.text, .int .i64 r.entP.1.call.cmd.val.kind, .float .f64 r.entP.1.call.cmd.val.num, .string r.entP.1.call.cmd.val.text, .int .i64 r.entP.1.conf.full, .int .i64 r.entP.1.conf.wit, .int .i64 r.entP.1.conf.learn, .int .i64 r.entP.1.conf.learnWit]) ∧ RpX w' T b bs r.entP.2 ∧ Mod (fun k => k = b) w w') := by
 obtain ⟨q, hq⟩ : ∃ q, w.heap.size = q := ⟨_, rfl⟩
 obtain ⟨W, hW⟩ : ∃ W, W = w.alloc (.cells zE.toArray 56) := ⟨_, rfl⟩
 have hE : Ext w W := by rw [hW]; exact (Mod.refl _ w).alloc _
 have hA : W.heap[q]? = some (.cells zE.toArray 56 (0, 0)) := by rw [hW, ← hq]; exact heap_alloc_new w _
 have hnq : ¬ q = b := by omega
 have hnb : ¬ b = q := by omega
 have HTq : Hid (∀ g, T g → g < q) := hJ (fun g hg => by have := hT g hg; omega)
 have hbq : b < q := by omega
 have Hbq := hJ hbq
 have HR : Hid (RpX W T b bs r) := hJ (h.mod hE id (fun _ _ => id))
 have HM : Hid (Mod (fun k => k = b) w W) := hJ (hE.mod _)
 have HQ := hJ hA
 have HW := hJ hW
 have Hq := hJ hq
 clear hW hq hE hA hT hb h hbq
 go_enter Tryz.func159, Tryz.ntmps159
 go_wp2_with fail
 rw [← HW.out, Hq.out]
 clear HW
 refine (za3 W T b bs r HR.out).mono ?_
 rintro e w1 ⟨rfl, hR2, hm2⟩
 obtain ⟨k0, hk0⟩ : ∃ k, r.int.1 = k := ⟨_, rfl⟩
 obtain ⟨r1, hr1⟩ : ∃ s, r.int.2 = s := ⟨_, rfl⟩
 rw [hk0]
 rw [hr1] at hR2
 have Hk0 := hJ hk0
 have Hr1 := hJ hr1
 clear hk0 hr1
 replace HR := hJ hR2
 replace HM := hJ (HM.out.self hm2)
 replace HQ := hJ (hm2.blk HQ.out hnq)
 clear hR2 hm2
 go_wp2_with fail
 refine (za3 w1 T b bs r1 HR.out).mono ?_
 rintro e w2 ⟨rfl, hR2, hm2⟩
 obtain ⟨k, hk⟩ : ∃ k, r1.int.1 = k := ⟨_, rfl⟩
 obtain ⟨r2, hr2⟩ : ∃ s, r1.int.2 = s := ⟨_, rfl⟩
 rw [hk]
 rw [hr2] at hR2
 have Hk := hJ hk
 have Hr2 := hJ hr2
 clear hk hr2
 replace HR := hJ hR2
 replace HM := hJ (HM.out.self hm2)
 replace HQ := hJ (hm2.blk HQ.out hnq)
 clear hR2 hm2
 obtain ⟨p, hp⟩ : ∃ p, w2.heap.size = p := ⟨_, rfl⟩
 obtain ⟨w3, hWn⟩ : ∃ W, W = w2.alloc (.cells #[.int .i64 k0, .int .i64 k, .int .i64 0, .int .i64 0, .int .i64 0, .string ⟨#[]⟩, .int .i64 0, .float .f64 0, .string ⟨#[]⟩, .int .i64 0, .float .f64 0, .string ⟨#[]⟩, .int .i64 0, .int .i64 0, .int .i64 0, .int .i64 0] 56) := ⟨_, rfl⟩
 have hE2 : Ext w2 w3 := by rw [hWn]; exact (Mod.refl _ _).alloc _
 have hP : w3.heap[p]? = some (.cells #[.int .i64 k0, .int .i64 k, .int .i64 0, .int .i64 0, .int .i64 0, .string ⟨#[]⟩, .int .i64 0, .float .f64 0, .string ⟨#[]⟩, .int .i64 0, .float .f64 0, .string ⟨#[]⟩, .int .i64 0, .int .i64 0, .int .i64 0, .int .i64 0] 56 (0, 0)) := by rw [hWn, ← hp]; exact heap_alloc_new _ _
 have hqp : q < p := by rw [← hp]; exact (Array.getElem?_eq_some_iff.1 HQ.out).1
 have hnp : ¬ p = b := by have := Hbq.out; omega
 have hbp : ¬ b = p := by omega
 have hpq : ¬ p = q := by omega
 replace HR := hJ (HR.out.mod hE2 id (fun _ _ => id))
 replace HM := hJ (HM.out.ext hE2)
 replace HQ := hJ (hE2.blk HQ.out id)
 have HP := hJ hP
 have HWn := hJ hWn
 have Hp := hJ hp
 have Hqp := hJ hqp
 clear hE2 hP hWn hp hqp
 rw [Hr1.out, Hk.out] at hk
 have he : r.entP = (if k = 0 then (⟨k0, k, yK.zero, yF.zero⟩, r2) else if k = 1 then (⟨k0, k, r2.callP.1, yF.zero⟩, r2.callP.2) else if k = 2 then (⟨k0, k, yK.zero, r2.confP.1⟩, r2.confP.2) else (⟨k0, k, yK.zero, yF.zero⟩, r2.fail 3)) := by unfold RS.entP; simp only [Hk0.out, Hr1.out, Hk.out, Hr2.out]
 rw [if_pos hk] at he
 have d0 : (k == 0) = true := by simp [hk]
 have Hen := hJ he
 clear he hk
 have hld := zF (P := Tryz.prog) (o := 0) (cs := [.int .i64 k0, .int .i64 k, .int .i64 0, .int .i64 0, .int .i64 0, .string ⟨#[]⟩, .int .i64 0, .float .f64 0, .string ⟨#[]⟩, .int .i64 0, .float .f64 0, .string ⟨#[]⟩, .int .i64 0, .int .i64 0, .int .i64 0, .int .i64 0]) zM HP.out rfl (fun j u hu => by rw [Nat.zero_add]; exact hu)
 have hqq := HQ.out
 rw [HWn.out] at hld hqq
 rw [← Hp.out] at hld
 go_wp2_with (first | (refine zG rfl 56 _ rfl _ _ rfl hld ?_) | (refine zD rfl 56 _ _ rfl 16 q 0 [.int .i64 k0, .int .i64 k, .int .i64 0, .int .i64 0, .int .i64 0, .string ⟨#[]⟩, .int .i64 0, .float .f64 0, .string ⟨#[]⟩, .int .i64 0, .float .f64 0, .string ⟨#[]⟩, .int .i64 0, .int .i64 0, .int .i64 0, .int .i64 0] rfl rfl zM _ _ [.int .i64 k0, .int .i64 k, .int .i64 0, .int .i64 0, .int .i64 0, .string ⟨#[]⟩, .int .i64 0, .float .f64 0, .string ⟨#[]⟩, .int .i64 0, .float .f64 0, .string ⟨#[]⟩, .int .i64 0, .int .i64 0, .int .i64 0, .int .i64 0] hqq rfl (by simp) (List.all_eq_true.1 rfl) rfl ?_))
 intro w4 hA4 hm4 _
 rw [← HWn.out] at hm4
 have HZ : Hid (w4.heap[q]? = some (.cells #[.int .i64 k0, .int .i64 k, .int .i64 0, .int .i64 0, .int .i64 0, .string ⟨#[]⟩, .int .i64 0, .float .f64 0, .string ⟨#[]⟩, .int .i64 0, .float .f64 0, .string ⟨#[]⟩, .int .i64 0, .int .i64 0, .int .i64 0, .int .i64 0] 56 (0, 0))) := hJ hA4
 replace HR := hJ (HR.out.mod hm4 hnb (fun g hg e => by have := HTq.out g hg; omega))
 replace HM := hJ (jI HM.out hm4 (by have := Hq.out; omega))
 clear hld hqq hA4 hm4
 go_wp2
 obtain ⟨c0, c1, c2, c3, c4, c5, c6, c7, c8, c9, c10, c11, c12, c13, c14, c15⟩ := zj0 HZ.out
 refine bodyPost_ret (v := .agg #[.int .i64 k0, .int .i64 k, .int .i64 0, .int .i64 0, .int .i64 0, .string ⟨#[]⟩, .int .i64 0, .float .f64 0, .string ⟨#[]⟩, .int .i64 0, .float .f64 0, .string ⟨#[]⟩, .int .i64 0, .int .i64 0, .int .i64 0, .int .i64 0]) (by simp [results, Tryz.results159, go_sem, c0, c1, c2, c3, c4, c5, c6, c7, c8, c9, c10, c11, c12, c13, c14, c15]) rfl ?_
 rw [Hen.out]
 exact ⟨rfl, HR.out, HM.out⟩
theorem zqM (w : World) (T : Nat → Prop) (b : Nat) (bs : List UInt8) (r : RS) (h : RpX w T b bs r) (hT : ∀ k, T k → k < w.heap.size) (hb : b < w.heap.size) (hk : r.int.2.int.1 = 1) :
  Calls Tryz.prog 159 #[.pointer (some ⟨b, 0, none⟩)] w (fun e w' => e = .returned (.agg #[.int .i64 r.entP.1.term, .int .i64 r.entP.1.kind, .int .i64 r.entP.1.call.client, .int .i64 r.entP.1.call.seq, .int .i64 r.entP.1.call.cmd.kind, .string r.entP.1.call.cmd.key, .int .i64 r.entP.1.call.cmd.old.kind, .float .f64 r.entP.1.call.cmd.old.num, .string r.entP.1.call.cmd.old.text, .int .i64 r.entP.1.call.cmd.val.kind, .float .f64 r.entP.1.call.cmd.val.num, .string r.entP.1.call.cmd.val.text, .int .i64 r.entP.1.conf.full, .int .i64 r.entP.1.conf.wit, .int .i64 r.entP.1.conf.learn, .int .i64 r.entP.1.conf.learnWit]) ∧ RpX w' T b bs r.entP.2 ∧ Mod (fun k => k = b) w w') := by
 obtain ⟨q, hq⟩ : ∃ q, w.heap.size = q := ⟨_, rfl⟩
 obtain ⟨W, hW⟩ : ∃ W, W = w.alloc (.cells zE.toArray 56) := ⟨_, rfl⟩
 have hE : Ext w W := by rw [hW]; exact (Mod.refl _ w).alloc _
 have hA : W.heap[q]? = some (.cells zE.toArray 56 (0, 0)) := by rw [hW, ← hq]; exact heap_alloc_new w _
 have hnq : ¬ q = b := by omega
 have hnb : ¬ b = q := by omega
 have HTq : Hid (∀ g, T g → g < q) := hJ (fun g hg => by have := hT g hg; omega)
 have hbq : b < q := by omega
 have Hbq := hJ hbq
 have HR : Hid (RpX W T b bs r) := hJ (h.mod hE id (fun _ _ => id))
 have HM : Hid (Mod (fun k => k = b) w W) := hJ (hE.mod _)
 have HQ := hJ hA
 have HW := hJ hW
 have Hq := hJ hq
 clear hW hq hE hA hT hb h hbq
 go_enter Tryz.func159, Tryz.ntmps159
 go_wp2_with fail
 rw [← HW.out, Hq.out]
 clear HW
 refine (za3 W T b bs r HR.out).mono ?_
 rintro e w1 ⟨rfl, hR2, hm2⟩
 obtain ⟨k0, hk0⟩ : ∃ k, r.int.1 = k := ⟨_, rfl⟩
 obtain ⟨r1, hr1⟩ : ∃ s, r.int.2 = s := ⟨_, rfl⟩
 rw [hk0]
 rw [hr1] at hR2
 have Hk0 := hJ hk0
 have Hr1 := hJ hr1
 clear hk0 hr1
 replace HR := hJ hR2
 replace HM := hJ (HM.out.self hm2)
 replace HQ := hJ (hm2.blk HQ.out hnq)
 clear hR2 hm2
 go_wp2_with fail
 refine (za3 w1 T b bs r1 HR.out).mono ?_
 rintro e w2 ⟨rfl, hR2, hm2⟩
 obtain ⟨k, hk⟩ : ∃ k, r1.int.1 = k := ⟨_, rfl⟩
 obtain ⟨r2, hr2⟩ : ∃ s, r1.int.2 = s := ⟨_, rfl⟩
 rw [hk]
 rw [hr2] at hR2
 have Hk := hJ hk
 have Hr2 := hJ hr2
 clear hk hr2
 replace HR := hJ hR2
 replace HM := hJ (HM.out.self hm2)
 replace HQ := hJ (hm2.blk HQ.out hnq)
 clear hR2 hm2
 obtain ⟨p, hp⟩ : ∃ p, w2.heap.size = p := ⟨_, rfl⟩
 obtain ⟨w3, hWn⟩ : ∃ W, W = w2.alloc (.cells #[.int .i64 k0, .int .i64 k, .int .i64 0, .int .i64 0, .int .i64 0, .string ⟨#[]⟩, .int .i64 0, .float .f64 0, .string ⟨#[]⟩, .int .i64 0, .float .f64 0, .string ⟨#[]⟩, .int .i64 0, .int .i64 0, .int .i64 0, .int .i64 0] 56) := ⟨_, rfl⟩
 have hE2 : Ext w2 w3 := by rw [hWn]; exact (Mod.refl _ _).alloc _
 have hP : w3.heap[p]? = some (.cells #[.int .i64 k0, .int .i64 k, .int .i64 0, .int .i64 0, .int .i64 0, .string ⟨#[]⟩, .int .i64 0, .float .f64 0, .string ⟨#[]⟩, .int .i64 0, .float .f64 0, .string ⟨#[]⟩, .int .i64 0, .int .i64 0, .int .i64 0, .int .i64 0] 56 (0, 0)) := by rw [hWn, ← hp]; exact heap_alloc_new _ _
 have hqp : q < p := by rw [← hp]; exact (Array.getElem?_eq_some_iff.1 HQ.out).1
 have hnp : ¬ p = b := by have := Hbq.out; omega
 have hbp : ¬ b = p := by omega
 have hpq : ¬ p = q := by omega
 replace HR := hJ (HR.out.mod hE2 id (fun _ _ => id))
 replace HM := hJ (HM.out.ext hE2)
 replace HQ := hJ (hE2.blk HQ.out id)
 have HP := hJ hP
 have HWn := hJ hWn
 have Hp := hJ hp
 have Hqp := hJ hqp
 clear hE2 hP hWn hp hqp
 rw [Hr1.out, Hk.out] at hk
 have he : r.entP = (if k = 0 then (⟨k0, k, yK.zero, yF.zero⟩, r2) else if k = 1 then (⟨k0, k, r2.callP.1, yF.zero⟩, r2.callP.2) else if k = 2 then (⟨k0, k, yK.zero, r2.confP.1⟩, r2.confP.2) else (⟨k0, k, yK.zero, yF.zero⟩, r2.fail 3)) := by unfold RS.entP; simp only [Hk0.out, Hr1.out, Hk.out, Hr2.out]
 rw [if_neg (by omega), if_pos hk] at he
 have d0 : (k == 0) = false := by simp [hk]
 have d1 : (k == 1) = true := by simp [hk]
 have Hen := hJ he
 clear he hk
 go_wp2_with fail
 rw [← HWn.out, Hp.out]
 clear HWn Hp
 refine (za3 w3 T b bs r2 HR.out).mono ?_
 rintro e w4 ⟨rfl, hR2, hm2⟩
 obtain ⟨j0, hj0⟩ : ∃ k, r2.int.1 = k := ⟨_, rfl⟩
 obtain ⟨s1, hs1⟩ : ∃ s, r2.int.2 = s := ⟨_, rfl⟩
 rw [hj0]
 rw [hs1] at hR2
 have Hj0 := hJ hj0
 have Hs1 := hJ hs1
 clear hj0 hs1
 replace HR := hJ hR2
 replace HM := hJ (HM.out.self hm2)
 replace HQ := hJ (hm2.blk HQ.out hnq)
 replace HP := hJ (hm2.blk HP.out hnp)
 clear hR2 hm2
 have a2 : w4.cell? ⟨p, 2, none⟩ = some _ := zB HP.out rfl
 have f2 : w4.frozen? ⟨p, 2, none⟩ = false := zK 2 HP.out
 obtain ⟨w5, hWn⟩ : ∃ W, w4.setCell ⟨p, 2, none⟩ (.int .i64 j0) = W := ⟨_, rfl⟩
 have hA4 : w5.heap[p]? = some (.cells #[.int .i64 k0, .int .i64 k, .int .i64 j0, .int .i64 0, .int .i64 0, .string ⟨#[]⟩, .int .i64 0, .float .f64 0, .string ⟨#[]⟩, .int .i64 0, .float .f64 0, .string ⟨#[]⟩, .int .i64 0, .int .i64 0, .int .i64 0, .int .i64 0] 56 (0, 0)) := by rw [← hWn]; exact yC HP.out 2 (.int .i64 j0)
 have hm4 : Mod (fun k => k = p) w4 w5 := by rw [← hWn]; exact zO (Mod.refl _ _) _ _
 replace HP := hJ hA4
 replace HR := hJ (HR.out.mod hm4 hbp (fun g hg e => by have := HTq.out g hg; have := Hqp.out; omega))
 replace HM := hJ (jI HM.out hm4 (by have := Hq.out; have := Hqp.out; omega))
 replace HQ := hJ (hm4.blk HQ.out (fun e => hpq e.symm))
 clear hA4 hm4
 have HWn := hJ hWn
 clear hWn
 go_wp2_with fail
 rw [HWn.out]
 clear HWn a2 f2
 refine (za3 w5 T b bs s1 HR.out).mono ?_
 rintro e w6 ⟨rfl, hR2, hm2⟩
 obtain ⟨j1, hj1⟩ : ∃ k, s1.int.1 = k := ⟨_, rfl⟩
 obtain ⟨s2, hs2⟩ : ∃ s, s1.int.2 = s := ⟨_, rfl⟩
 rw [hj1]
 rw [hs2] at hR2
 have Hj1 := hJ hj1
 have Hs2 := hJ hs2
 clear hj1 hs2
 replace HR := hJ hR2
 replace HM := hJ (HM.out.self hm2)
 replace HQ := hJ (hm2.blk HQ.out hnq)
 replace HP := hJ (hm2.blk HP.out hnp)
 clear hR2 hm2
 have a3 : w6.cell? ⟨p, 3, none⟩ = some _ := zB HP.out rfl
 have f3 : w6.frozen? ⟨p, 3, none⟩ = false := zK 3 HP.out
 obtain ⟨w7, hWn⟩ : ∃ W, w6.setCell ⟨p, 3, none⟩ (.int .i64 j1) = W := ⟨_, rfl⟩
 have hA4 : w7.heap[p]? = some (.cells #[.int .i64 k0, .int .i64 k, .int .i64 j0, .int .i64 j1, .int .i64 0, .string ⟨#[]⟩, .int .i64 0, .float .f64 0, .string ⟨#[]⟩, .int .i64 0, .float .f64 0, .string ⟨#[]⟩, .int .i64 0, .int .i64 0, .int .i64 0, .int .i64 0] 56 (0, 0)) := by rw [← hWn]; exact yC HP.out 3 (.int .i64 j1)
 have hm4 : Mod (fun k => k = p) w6 w7 := by rw [← hWn]; exact zO (Mod.refl _ _) _ _
 replace HP := hJ hA4
 replace HR := hJ (HR.out.mod hm4 hbp (fun g hg e => by have := HTq.out g hg; have := Hqp.out; omega))
 replace HM := hJ (jI HM.out hm4 (by have := Hq.out; have := Hqp.out; omega))
 replace HQ := hJ (hm4.blk HQ.out (fun e => hpq e.symm))
 clear hA4 hm4
 have HWn := hJ hWn
 clear hWn
 go_wp2_with fail
 rw [HWn.out]
 clear HWn a3 f3
 refine (za3 w7 T b bs s2 HR.out).mono ?_
 rintro e w8 ⟨rfl, hR2, hm2⟩
 obtain ⟨j2, hj2⟩ : ∃ k, s2.int.1 = k := ⟨_, rfl⟩
 obtain ⟨s3, hs3⟩ : ∃ s, s2.int.2 = s := ⟨_, rfl⟩
 rw [hj2]
 rw [hs3] at hR2
 have Hj2 := hJ hj2
 have Hs3 := hJ hs3
 clear hj2 hs3
 replace HR := hJ hR2
 replace HM := hJ (HM.out.self hm2)
 replace HQ := hJ (hm2.blk HQ.out hnq)
 replace HP := hJ (hm2.blk HP.out hnp)
 clear hR2 hm2
 have a4 : w8.cell? ⟨p, 4, none⟩ = some _ := zB HP.out rfl
 have f4 : w8.frozen? ⟨p, 4, none⟩ = false := zK 4 HP.out
 obtain ⟨w9, hWn⟩ : ∃ W, w8.setCell ⟨p, 4, none⟩ (.int .i64 j2) = W := ⟨_, rfl⟩
 have hA4 : w9.heap[p]? = some (.cells #[.int .i64 k0, .int .i64 k, .int .i64 j0, .int .i64 j1, .int .i64 j2, .string ⟨#[]⟩, .int .i64 0, .float .f64 0, .string ⟨#[]⟩, .int .i64 0, .float .f64 0, .string ⟨#[]⟩, .int .i64 0, .int .i64 0, .int .i64 0, .int .i64 0] 56 (0, 0)) := by rw [← hWn]; exact yC HP.out 4 (.int .i64 j2)
 have hm4 : Mod (fun k => k = p) w8 w9 := by rw [← hWn]; exact zO (Mod.refl _ _) _ _
 replace HP := hJ hA4
 replace HR := hJ (HR.out.mod hm4 hbp (fun g hg e => by have := HTq.out g hg; have := Hqp.out; omega))
 replace HM := hJ (jI HM.out hm4 (by have := Hq.out; have := Hqp.out; omega))
 replace HQ := hJ (hm4.blk HQ.out (fun e => hpq e.symm))
 clear hA4 hm4
 have HWn := hJ hWn
 clear hWn
 go_wp2_with fail
 rw [HWn.out]
 clear HWn a4 f4
 refine (zp3 w9 T b bs s3 HR.out).mono ?_
 rintro e w10 ⟨vt, rfl, hNB, hR2, hm2⟩
 obtain ⟨A5, c5, rfl⟩ := zN hNB.1
 have hcv := zeR hNB.sl
 obtain ⟨tx, hx⟩ : ∃ x, s3.text.1 = x := ⟨_, rfl⟩
 obtain ⟨s4, hs4⟩ : ∃ s, s3.text.2 = s := ⟨_, rfl⟩
 rw [hx] at hcv ⊢
 rw [hs4] at hR2
 have Htx := hJ hx
 have Hs4 := hJ hs4
 clear hx hs4 hNB
 replace HR := hJ hR2
 replace HM := hJ (HM.out.self hm2)
 replace HQ := hJ (hm2.blk HQ.out hnq)
 replace HP := hJ (hm2.blk HP.out hnp)
 clear hR2 hm2
 have a5 : w10.cell? ⟨p, 5, none⟩ = some _ := zB HP.out rfl
 have f5 : w10.frozen? ⟨p, 5, none⟩ = false := zK 5 HP.out
 obtain ⟨w11, hWn⟩ : ∃ W, w10.setCell ⟨p, 5, none⟩ (.string ⟨tx.toArray⟩) = W := ⟨_, rfl⟩
 have hA4 : w11.heap[p]? = some (.cells #[.int .i64 k0, .int .i64 k, .int .i64 j0, .int .i64 j1, .int .i64 j2, .string ⟨tx.toArray⟩, .int .i64 0, .float .f64 0, .string ⟨#[]⟩, .int .i64 0, .float .f64 0, .string ⟨#[]⟩, .int .i64 0, .int .i64 0, .int .i64 0, .int .i64 0] 56 (0, 0)) := by rw [← hWn]; exact yC HP.out 5 (.string ⟨tx.toArray⟩)
 have hm4 : Mod (fun k => k = p) w10 w11 := by rw [← hWn]; exact zO (Mod.refl _ _) _ _
 replace HP := hJ hA4
 replace HR := hJ (HR.out.mod hm4 hbp (fun g hg e => by have := HTq.out g hg; have := Hqp.out; omega))
 replace HM := hJ (jI HM.out hm4 (by have := Hq.out; have := Hqp.out; omega))
 replace HQ := hJ (hm4.blk HQ.out (fun e => hpq e.symm))
 clear hA4 hm4
 have HWn := hJ hWn
 clear hWn
 go_wp2_with fail
 rw [HWn.out]
 clear HWn a5 f5 hcv
 refine (zp4 w11 T b bs s4 HR.out (fun k hk => by have := HTq.out k hk; have := (Array.getElem?_eq_some_iff.1 HQ.out).1; omega) (by have := Hbq.out; have := (Array.getElem?_eq_some_iff.1 HQ.out).1; omega)).mono ?_
 rintro e w12 ⟨rfl, hR2, hm2⟩
 replace HR := hJ hR2
 replace HM := hJ (HM.out.self hm2)
 replace HQ := hJ (hm2.blk HQ.out hnq)
 replace HP := hJ (hm2.blk HP.out hnp)
 clear hR2 hm2
 go_wp2_with (refine zD rfl 50 _ _ rfl 3 p 6 [.int .i64 s4.valP.1.kind, .float .f64 s4.valP.1.num, .string s4.valP.1.text] rfl rfl ziC _ _ [.int .i64 k0, .int .i64 k, .int .i64 j0, .int .i64 j1, .int .i64 j2, .string ⟨tx.toArray⟩, .int .i64 s4.valP.1.kind, .float .f64 s4.valP.1.num, .string s4.valP.1.text, .int .i64 0, .float .f64 0, .string ⟨#[]⟩, .int .i64 0, .int .i64 0, .int .i64 0, .int .i64 0] HP.out rfl (by simp) (List.all_eq_true.1 rfl) rfl ?_)
 intro w13 hA4 hm4 _
 replace hA4 : w13.heap[p]? = some (.cells #[.int .i64 k0, .int .i64 k, .int .i64 j0, .int .i64 j1, .int .i64 j2, .string ⟨tx.toArray⟩, .int .i64 s4.valP.1.kind, .float .f64 s4.valP.1.num, .string s4.valP.1.text, .int .i64 0, .float .f64 0, .string ⟨#[]⟩, .int .i64 0, .int .i64 0, .int .i64 0, .int .i64 0] 56 (0, 0)) := hA4
 replace HP := hJ hA4
 replace HR := hJ (HR.out.mod hm4 hbp (fun g hg e => by have := HTq.out g hg; have := Hqp.out; omega))
 replace HM := hJ (jI HM.out hm4 (by have := Hq.out; have := Hqp.out; omega))
 replace HQ := hJ (hm4.blk HQ.out (fun e => hpq e.symm))
 clear hA4 hm4
 go_wp2_with fail
 refine (zp4 w13 T b bs s4.valP.2 HR.out (fun k hk => by have := HTq.out k hk; have := (Array.getElem?_eq_some_iff.1 HQ.out).1; omega) (by have := Hbq.out; have := (Array.getElem?_eq_some_iff.1 HQ.out).1; omega)).mono ?_
 rintro e w14 ⟨rfl, hR2, hm2⟩
 replace HR := hJ hR2
 replace HM := hJ (HM.out.self hm2)
 replace HQ := hJ (hm2.blk HQ.out hnq)
 replace HP := hJ (hm2.blk HP.out hnp)
 clear hR2 hm2
 go_wp2_with (refine zD rfl 50 _ _ rfl 3 p 9 [.int .i64 s4.valP.2.valP.1.kind, .float .f64 s4.valP.2.valP.1.num, .string s4.valP.2.valP.1.text] rfl rfl ziC _ _ [.int .i64 k0, .int .i64 k, .int .i64 j0, .int .i64 j1, .int .i64 j2, .string ⟨tx.toArray⟩, .int .i64 s4.valP.1.kind, .float .f64 s4.valP.1.num, .string s4.valP.1.text, .int .i64 s4.valP.2.valP.1.kind, .float .f64 s4.valP.2.valP.1.num, .string s4.valP.2.valP.1.text, .int .i64 0, .int .i64 0, .int .i64 0, .int .i64 0] HP.out rfl (by simp) (List.all_eq_true.1 rfl) rfl ?_)
 intro w15 hA4 hm4 _
 replace hA4 : w15.heap[p]? = some (.cells #[.int .i64 k0, .int .i64 k, .int .i64 j0, .int .i64 j1, .int .i64 j2, .string ⟨tx.toArray⟩, .int .i64 s4.valP.1.kind, .float .f64 s4.valP.1.num, .string s4.valP.1.text, .int .i64 s4.valP.2.valP.1.kind, .float .f64 s4.valP.2.valP.1.num, .string s4.valP.2.valP.1.text, .int .i64 0, .int .i64 0, .int .i64 0, .int .i64 0] 56 (0, 0)) := hA4
 replace HP := hJ hA4
 replace HR := hJ (HR.out.mod hm4 hbp (fun g hg e => by have := HTq.out g hg; have := Hqp.out; omega))
 replace HM := hJ (jI HM.out hm4 (by have := Hq.out; have := Hqp.out; omega))
 replace HQ := hJ (hm4.blk HQ.out (fun e => hpq e.symm))
 clear hA4 hm4
 have hld := zF (P := Tryz.prog) (o := 0) (cs := [.int .i64 k0, .int .i64 k, .int .i64 j0, .int .i64 j1, .int .i64 j2, .string ⟨tx.toArray⟩, .int .i64 s4.valP.1.kind, .float .f64 s4.valP.1.num, .string s4.valP.1.text, .int .i64 s4.valP.2.valP.1.kind, .float .f64 s4.valP.2.valP.1.num, .string s4.valP.2.valP.1.text, .int .i64 0, .int .i64 0, .int .i64 0, .int .i64 0]) zM HP.out rfl (fun j u hu => by rw [Nat.zero_add]; exact hu)
 have hqq := HQ.out
 go_wp2_with (first | (refine zG rfl 56 _ rfl _ _ rfl hld ?_) | (refine zD rfl 56 _ _ rfl 16 q 0 [.int .i64 k0, .int .i64 k, .int .i64 j0, .int .i64 j1, .int .i64 j2, .string ⟨tx.toArray⟩, .int .i64 s4.valP.1.kind, .float .f64 s4.valP.1.num, .string s4.valP.1.text, .int .i64 s4.valP.2.valP.1.kind, .float .f64 s4.valP.2.valP.1.num, .string s4.valP.2.valP.1.text, .int .i64 0, .int .i64 0, .int .i64 0, .int .i64 0] rfl rfl zM _ _ [.int .i64 k0, .int .i64 k, .int .i64 j0, .int .i64 j1, .int .i64 j2, .string ⟨tx.toArray⟩, .int .i64 s4.valP.1.kind, .float .f64 s4.valP.1.num, .string s4.valP.1.text, .int .i64 s4.valP.2.valP.1.kind, .float .f64 s4.valP.2.valP.1.num, .string s4.valP.2.valP.1.text, .int .i64 0, .int .i64 0, .int .i64 0, .int .i64 0] hqq rfl (by simp) (List.all_eq_true.1 rfl) rfl ?_))
 intro w16 hA4 hm4 _
 have HZ : Hid (w16.heap[q]? = some (.cells #[.int .i64 k0, .int .i64 k, .int .i64 j0, .int .i64 j1, .int .i64 j2, .string ⟨tx.toArray⟩, .int .i64 s4.valP.1.kind, .float .f64 s4.valP.1.num, .string s4.valP.1.text, .int .i64 s4.valP.2.valP.1.kind, .float .f64 s4.valP.2.valP.1.num, .string s4.valP.2.valP.1.text, .int .i64 0, .int .i64 0, .int .i64 0, .int .i64 0] 56 (0, 0))) := hJ hA4
 replace HR := hJ (HR.out.mod hm4 hnb (fun g hg e => by have := HTq.out g hg; omega))
 replace HM := hJ (jI HM.out hm4 (by have := Hq.out; omega))
 clear hld hqq hA4 hm4
 go_wp2
 obtain ⟨c0, c1, c2, c3, c4, c5, c6, c7, c8, c9, c10, c11, c12, c13, c14, c15⟩ := zj0 HZ.out
 refine bodyPost_ret (v := .agg #[.int .i64 k0, .int .i64 k, .int .i64 j0, .int .i64 j1, .int .i64 j2, .string ⟨tx.toArray⟩, .int .i64 s4.valP.1.kind, .float .f64 s4.valP.1.num, .string s4.valP.1.text, .int .i64 s4.valP.2.valP.1.kind, .float .f64 s4.valP.2.valP.1.num, .string s4.valP.2.valP.1.text, .int .i64 0, .int .i64 0, .int .i64 0, .int .i64 0]) (by simp [results, Tryz.results159, go_sem, c0, c1, c2, c3, c4, c5, c6, c7, c8, c9, c10, c11, c12, c13, c14, c15]) rfl ?_
 rw [Hen.out, show r2.callP = (⟨j0, j1, ⟨j2, ⟨tx.toArray⟩, s4.valP.1, s4.valP.2.valP.1⟩⟩, s4.valP.2.valP.2) by unfold RS.callP; simp only [Hj0.out, Hs1.out, Hj1.out, Hs2.out, Hj2.out, Hs3.out, Htx.out, Hs4.out]]
 exact ⟨rfl, HR.out, HM.out⟩
theorem zqN (w : World) (T : Nat → Prop) (b : Nat) (bs : List UInt8) (r : RS) (h : RpX w T b bs r) (hT : ∀ k, T k → k < w.heap.size) (hb : b < w.heap.size) (hk : r.int.2.int.1 = 2) :
  Calls Tryz.prog 159 #[.pointer (some ⟨b, 0, none⟩)] w (fun e w' => e = .returned (.agg #[.int .i64 r.entP.1.term, .int .i64 r.entP.1.kind, .int .i64 r.entP.1.call.client, .int .i64 r.entP.1.call.seq, .int .i64 r.entP.1.call.cmd.kind, .string r.entP.1.call.cmd.key, .int .i64 r.entP.1.call.cmd.old.kind, .float .f64 r.entP.1.call.cmd.old.num, .string r.entP.1.call.cmd.old.text, .int .i64 r.entP.1.call.cmd.val.kind, .float .f64 r.entP.1.call.cmd.val.num, .string r.entP.1.call.cmd.val.text, .int .i64 r.entP.1.conf.full, .int .i64 r.entP.1.conf.wit, .int .i64 r.entP.1.conf.learn, .int .i64 r.entP.1.conf.learnWit]) ∧ RpX w' T b bs r.entP.2 ∧ Mod (fun k => k = b) w w') := by
 obtain ⟨q, hq⟩ : ∃ q, w.heap.size = q := ⟨_, rfl⟩
 obtain ⟨W, hW⟩ : ∃ W, W = w.alloc (.cells zE.toArray 56) := ⟨_, rfl⟩
 have hE : Ext w W := by rw [hW]; exact (Mod.refl _ w).alloc _
 have hA : W.heap[q]? = some (.cells zE.toArray 56 (0, 0)) := by rw [hW, ← hq]; exact heap_alloc_new w _
 have hnq : ¬ q = b := by omega
 have hnb : ¬ b = q := by omega
 have HTq : Hid (∀ g, T g → g < q) := hJ (fun g hg => by have := hT g hg; omega)
 have hbq : b < q := by omega
 have Hbq := hJ hbq
 have HR : Hid (RpX W T b bs r) := hJ (h.mod hE id (fun _ _ => id))
 have HM : Hid (Mod (fun k => k = b) w W) := hJ (hE.mod _)
 have HQ := hJ hA
 have HW := hJ hW
 have Hq := hJ hq
 clear hW hq hE hA hT hb h hbq
 go_enter Tryz.func159, Tryz.ntmps159
 go_wp2_with fail
 rw [← HW.out, Hq.out]
 clear HW
 refine (za3 W T b bs r HR.out).mono ?_
 rintro e w1 ⟨rfl, hR2, hm2⟩
 obtain ⟨k0, hk0⟩ : ∃ k, r.int.1 = k := ⟨_, rfl⟩
 obtain ⟨r1, hr1⟩ : ∃ s, r.int.2 = s := ⟨_, rfl⟩
 rw [hk0]
 rw [hr1] at hR2
 have Hk0 := hJ hk0
 have Hr1 := hJ hr1
 clear hk0 hr1
 replace HR := hJ hR2
 replace HM := hJ (HM.out.self hm2)
 replace HQ := hJ (hm2.blk HQ.out hnq)
 clear hR2 hm2
 go_wp2_with fail
 refine (za3 w1 T b bs r1 HR.out).mono ?_
 rintro e w2 ⟨rfl, hR2, hm2⟩
 obtain ⟨k, hk⟩ : ∃ k, r1.int.1 = k := ⟨_, rfl⟩
 obtain ⟨r2, hr2⟩ : ∃ s, r1.int.2 = s := ⟨_, rfl⟩
 rw [hk]
 rw [hr2] at hR2
 have Hk := hJ hk
 have Hr2 := hJ hr2
 clear hk hr2
 replace HR := hJ hR2
 replace HM := hJ (HM.out.self hm2)
 replace HQ := hJ (hm2.blk HQ.out hnq)
 clear hR2 hm2
 obtain ⟨p, hp⟩ : ∃ p, w2.heap.size = p := ⟨_, rfl⟩
 obtain ⟨w3, hWn⟩ : ∃ W, W = w2.alloc (.cells #[.int .i64 k0, .int .i64 k, .int .i64 0, .int .i64 0, .int .i64 0, .string ⟨#[]⟩, .int .i64 0, .float .f64 0, .string ⟨#[]⟩, .int .i64 0, .float .f64 0, .string ⟨#[]⟩, .int .i64 0, .int .i64 0, .int .i64 0, .int .i64 0] 56) := ⟨_, rfl⟩
 have hE2 : Ext w2 w3 := by rw [hWn]; exact (Mod.refl _ _).alloc _
 have hP : w3.heap[p]? = some (.cells #[.int .i64 k0, .int .i64 k, .int .i64 0, .int .i64 0, .int .i64 0, .string ⟨#[]⟩, .int .i64 0, .float .f64 0, .string ⟨#[]⟩, .int .i64 0, .float .f64 0, .string ⟨#[]⟩, .int .i64 0, .int .i64 0, .int .i64 0, .int .i64 0] 56 (0, 0)) := by rw [hWn, ← hp]; exact heap_alloc_new _ _
 have hqp : q < p := by rw [← hp]; exact (Array.getElem?_eq_some_iff.1 HQ.out).1
 have hnp : ¬ p = b := by have := Hbq.out; omega
 have hbp : ¬ b = p := by omega
 have hpq : ¬ p = q := by omega
 replace HR := hJ (HR.out.mod hE2 id (fun _ _ => id))
 replace HM := hJ (HM.out.ext hE2)
 replace HQ := hJ (hE2.blk HQ.out id)
 have HP := hJ hP
 have HWn := hJ hWn
 have Hp := hJ hp
 have Hqp := hJ hqp
 clear hE2 hP hWn hp hqp
 rw [Hr1.out, Hk.out] at hk
 have he : r.entP = (if k = 0 then (⟨k0, k, yK.zero, yF.zero⟩, r2) else if k = 1 then (⟨k0, k, r2.callP.1, yF.zero⟩, r2.callP.2) else if k = 2 then (⟨k0, k, yK.zero, r2.confP.1⟩, r2.confP.2) else (⟨k0, k, yK.zero, yF.zero⟩, r2.fail 3)) := by unfold RS.entP; simp only [Hk0.out, Hr1.out, Hk.out, Hr2.out]
 rw [if_neg (by omega), if_neg (by omega), if_pos hk] at he
 have d0 : (k == 0) = false := by simp [hk]
 have d1 : (k == 1) = false := by simp [hk]
 have d2 : (k == 2) = true := by simp [hk]
 have Hen := hJ he
 clear he hk
 go_wp2_with fail
 rw [← HWn.out, Hp.out]
 clear HWn Hp
 refine (zp5 w3 T b bs r2 HR.out (fun k hk => by have := HTq.out k hk; have := (Array.getElem?_eq_some_iff.1 HQ.out).1; omega) (by have := Hbq.out; have := (Array.getElem?_eq_some_iff.1 HQ.out).1; omega)).mono ?_
 rintro e w4 ⟨rfl, hR2, hm2⟩
 replace HR := hJ hR2
 replace HM := hJ (HM.out.self hm2)
 replace HQ := hJ (hm2.blk HQ.out hnq)
 replace HP := hJ (hm2.blk HP.out hnp)
 clear hR2 hm2
 go_wp2_with (refine zD rfl 23 _ _ rfl 4 p 12 [.int .i64 r2.confP.1.full, .int .i64 r2.confP.1.wit, .int .i64 r2.confP.1.learn, .int .i64 r2.confP.1.learnWit] rfl rfl xR _ _ [.int .i64 k0, .int .i64 k, .int .i64 0, .int .i64 0, .int .i64 0, .string ⟨#[]⟩, .int .i64 0, .float .f64 0, .string ⟨#[]⟩, .int .i64 0, .float .f64 0, .string ⟨#[]⟩, .int .i64 r2.confP.1.full, .int .i64 r2.confP.1.wit, .int .i64 r2.confP.1.learn, .int .i64 r2.confP.1.learnWit] HP.out rfl (by simp) (List.all_eq_true.1 rfl) rfl ?_)
 intro w5 hA4 hm4 _
 replace hA4 : w5.heap[p]? = some (.cells #[.int .i64 k0, .int .i64 k, .int .i64 0, .int .i64 0, .int .i64 0, .string ⟨#[]⟩, .int .i64 0, .float .f64 0, .string ⟨#[]⟩, .int .i64 0, .float .f64 0, .string ⟨#[]⟩, .int .i64 r2.confP.1.full, .int .i64 r2.confP.1.wit, .int .i64 r2.confP.1.learn, .int .i64 r2.confP.1.learnWit] 56 (0, 0)) := hA4
 replace HP := hJ hA4
 replace HR := hJ (HR.out.mod hm4 hbp (fun g hg e => by have := HTq.out g hg; have := Hqp.out; omega))
 replace HM := hJ (jI HM.out hm4 (by have := Hq.out; have := Hqp.out; omega))
 replace HQ := hJ (hm4.blk HQ.out (fun e => hpq e.symm))
 clear hA4 hm4
 have hld := zF (P := Tryz.prog) (o := 0) (cs := [.int .i64 k0, .int .i64 k, .int .i64 0, .int .i64 0, .int .i64 0, .string ⟨#[]⟩, .int .i64 0, .float .f64 0, .string ⟨#[]⟩, .int .i64 0, .float .f64 0, .string ⟨#[]⟩, .int .i64 r2.confP.1.full, .int .i64 r2.confP.1.wit, .int .i64 r2.confP.1.learn, .int .i64 r2.confP.1.learnWit]) zM HP.out rfl (fun j u hu => by rw [Nat.zero_add]; exact hu)
 have hqq := HQ.out
 go_wp2_with (first | (refine zG rfl 56 _ rfl _ _ rfl hld ?_) | (refine zD rfl 56 _ _ rfl 16 q 0 [.int .i64 k0, .int .i64 k, .int .i64 0, .int .i64 0, .int .i64 0, .string ⟨#[]⟩, .int .i64 0, .float .f64 0, .string ⟨#[]⟩, .int .i64 0, .float .f64 0, .string ⟨#[]⟩, .int .i64 r2.confP.1.full, .int .i64 r2.confP.1.wit, .int .i64 r2.confP.1.learn, .int .i64 r2.confP.1.learnWit] rfl rfl zM _ _ [.int .i64 k0, .int .i64 k, .int .i64 0, .int .i64 0, .int .i64 0, .string ⟨#[]⟩, .int .i64 0, .float .f64 0, .string ⟨#[]⟩, .int .i64 0, .float .f64 0, .string ⟨#[]⟩, .int .i64 r2.confP.1.full, .int .i64 r2.confP.1.wit, .int .i64 r2.confP.1.learn, .int .i64 r2.confP.1.learnWit] hqq rfl (by simp) (List.all_eq_true.1 rfl) rfl ?_))
 intro w6 hA4 hm4 _
 have HZ : Hid (w6.heap[q]? = some (.cells #[.int .i64 k0, .int .i64 k, .int .i64 0, .int .i64 0, .int .i64 0, .string ⟨#[]⟩, .int .i64 0, .float .f64 0, .string ⟨#[]⟩, .int .i64 0, .float .f64 0, .string ⟨#[]⟩, .int .i64 r2.confP.1.full, .int .i64 r2.confP.1.wit, .int .i64 r2.confP.1.learn, .int .i64 r2.confP.1.learnWit] 56 (0, 0))) := hJ hA4
 replace HR := hJ (HR.out.mod hm4 hnb (fun g hg e => by have := HTq.out g hg; omega))
 replace HM := hJ (jI HM.out hm4 (by have := Hq.out; omega))
 clear hld hqq hA4 hm4
 go_wp2
 obtain ⟨c0, c1, c2, c3, c4, c5, c6, c7, c8, c9, c10, c11, c12, c13, c14, c15⟩ := zj0 HZ.out
 refine bodyPost_ret (v := .agg #[.int .i64 k0, .int .i64 k, .int .i64 0, .int .i64 0, .int .i64 0, .string ⟨#[]⟩, .int .i64 0, .float .f64 0, .string ⟨#[]⟩, .int .i64 0, .float .f64 0, .string ⟨#[]⟩, .int .i64 r2.confP.1.full, .int .i64 r2.confP.1.wit, .int .i64 r2.confP.1.learn, .int .i64 r2.confP.1.learnWit]) (by simp [results, Tryz.results159, go_sem, c0, c1, c2, c3, c4, c5, c6, c7, c8, c9, c10, c11, c12, c13, c14, c15]) rfl ?_
 rw [Hen.out]
 exact ⟨rfl, HR.out, HM.out⟩
theorem zqO (w : World) (T : Nat → Prop) (b : Nat) (bs : List UInt8) (r : RS) (h : RpX w T b bs r) (hT : ∀ k, T k → k < w.heap.size) (hb : b < w.heap.size) (hk : r.int.2.int.1 ≠ 0 ∧ r.int.2.int.1 ≠ 1 ∧ r.int.2.int.1 ≠ 2) :
  Calls Tryz.prog 159 #[.pointer (some ⟨b, 0, none⟩)] w (fun e w' => e = .returned (.agg #[.int .i64 r.entP.1.term, .int .i64 r.entP.1.kind, .int .i64 r.entP.1.call.client, .int .i64 r.entP.1.call.seq, .int .i64 r.entP.1.call.cmd.kind, .string r.entP.1.call.cmd.key, .int .i64 r.entP.1.call.cmd.old.kind, .float .f64 r.entP.1.call.cmd.old.num, .string r.entP.1.call.cmd.old.text, .int .i64 r.entP.1.call.cmd.val.kind, .float .f64 r.entP.1.call.cmd.val.num, .string r.entP.1.call.cmd.val.text, .int .i64 r.entP.1.conf.full, .int .i64 r.entP.1.conf.wit, .int .i64 r.entP.1.conf.learn, .int .i64 r.entP.1.conf.learnWit]) ∧ RpX w' T b bs r.entP.2 ∧ Mod (fun k => k = b) w w') := by
 obtain ⟨q, hq⟩ : ∃ q, w.heap.size = q := ⟨_, rfl⟩
 obtain ⟨W, hW⟩ : ∃ W, W = w.alloc (.cells zE.toArray 56) := ⟨_, rfl⟩
 have hE : Ext w W := by rw [hW]; exact (Mod.refl _ w).alloc _
 have hA : W.heap[q]? = some (.cells zE.toArray 56 (0, 0)) := by rw [hW, ← hq]; exact heap_alloc_new w _
 have hnq : ¬ q = b := by omega
 have hnb : ¬ b = q := by omega
 have HTq : Hid (∀ g, T g → g < q) := hJ (fun g hg => by have := hT g hg; omega)
 have hbq : b < q := by omega
 have Hbq := hJ hbq
 have HR : Hid (RpX W T b bs r) := hJ (h.mod hE id (fun _ _ => id))
 have HM : Hid (Mod (fun k => k = b) w W) := hJ (hE.mod _)
 have HQ := hJ hA
 have HW := hJ hW
 have Hq := hJ hq
 clear hW hq hE hA hT hb h hbq
 go_enter Tryz.func159, Tryz.ntmps159
 go_wp2_with fail
 rw [← HW.out, Hq.out]
 clear HW
 refine (za3 W T b bs r HR.out).mono ?_
 rintro e w1 ⟨rfl, hR2, hm2⟩
 obtain ⟨k0, hk0⟩ : ∃ k, r.int.1 = k := ⟨_, rfl⟩
 obtain ⟨r1, hr1⟩ : ∃ s, r.int.2 = s := ⟨_, rfl⟩
 rw [hk0]
 rw [hr1] at hR2
 have Hk0 := hJ hk0
 have Hr1 := hJ hr1
 clear hk0 hr1
 replace HR := hJ hR2
 replace HM := hJ (HM.out.self hm2)
 replace HQ := hJ (hm2.blk HQ.out hnq)
 clear hR2 hm2
 go_wp2_with fail
 refine (za3 w1 T b bs r1 HR.out).mono ?_
 rintro e w2 ⟨rfl, hR2, hm2⟩
 obtain ⟨k, hk⟩ : ∃ k, r1.int.1 = k := ⟨_, rfl⟩
 obtain ⟨r2, hr2⟩ : ∃ s, r1.int.2 = s := ⟨_, rfl⟩
 rw [hk]
 rw [hr2] at hR2
 have Hk := hJ hk
 have Hr2 := hJ hr2
 clear hk hr2
 replace HR := hJ hR2
 replace HM := hJ (HM.out.self hm2)
 replace HQ := hJ (hm2.blk HQ.out hnq)
 clear hR2 hm2
 obtain ⟨p, hp⟩ : ∃ p, w2.heap.size = p := ⟨_, rfl⟩
 obtain ⟨w3, hWn⟩ : ∃ W, W = w2.alloc (.cells #[.int .i64 k0, .int .i64 k, .int .i64 0, .int .i64 0, .int .i64 0, .string ⟨#[]⟩, .int .i64 0, .float .f64 0, .string ⟨#[]⟩, .int .i64 0, .float .f64 0, .string ⟨#[]⟩, .int .i64 0, .int .i64 0, .int .i64 0, .int .i64 0] 56) := ⟨_, rfl⟩
 have hE2 : Ext w2 w3 := by rw [hWn]; exact (Mod.refl _ _).alloc _
 have hP : w3.heap[p]? = some (.cells #[.int .i64 k0, .int .i64 k, .int .i64 0, .int .i64 0, .int .i64 0, .string ⟨#[]⟩, .int .i64 0, .float .f64 0, .string ⟨#[]⟩, .int .i64 0, .float .f64 0, .string ⟨#[]⟩, .int .i64 0, .int .i64 0, .int .i64 0, .int .i64 0] 56 (0, 0)) := by rw [hWn, ← hp]; exact heap_alloc_new _ _
 have hqp : q < p := by rw [← hp]; exact (Array.getElem?_eq_some_iff.1 HQ.out).1
 have hnp : ¬ p = b := by have := Hbq.out; omega
 have hbp : ¬ b = p := by omega
 have hpq : ¬ p = q := by omega
 replace HR := hJ (HR.out.mod hE2 id (fun _ _ => id))
 replace HM := hJ (HM.out.ext hE2)
 replace HQ := hJ (hE2.blk HQ.out id)
 have HP := hJ hP
 have HWn := hJ hWn
 have Hp := hJ hp
 have Hqp := hJ hqp
 clear hE2 hP hWn hp hqp
 rw [Hr1.out, Hk.out] at hk
 have he : r.entP = (if k = 0 then (⟨k0, k, yK.zero, yF.zero⟩, r2) else if k = 1 then (⟨k0, k, r2.callP.1, yF.zero⟩, r2.callP.2) else if k = 2 then (⟨k0, k, yK.zero, r2.confP.1⟩, r2.confP.2) else (⟨k0, k, yK.zero, yF.zero⟩, r2.fail 3)) := by unfold RS.entP; simp only [Hk0.out, Hr1.out, Hk.out, Hr2.out]
 rw [if_neg hk.1, if_neg hk.2.1, if_neg hk.2.2] at he
 have d0 : (k == 0) = false := by simp [hk.1]
 have d1 : (k == 1) = false := by simp [hk.2.1]
 have d2 : (k == 2) = false := by simp [hk.2.2]
 have Hen := hJ he
 clear he hk
 go_wp2_with fail
 rw [← HWn.out, Hp.out]
 clear HWn Hp
 obtain ⟨aa, hRa⟩ := HR.out
 refine (zcT w3 T b bs aa r2 3 hRa).mono ?_
 rintro e w4 ⟨rfl, hR2, hm2⟩
 clear hRa
 replace HR : Hid (RpX w4 T b bs (r2.fail 3)) := hJ ⟨aa, hR2⟩
 replace HM := hJ (HM.out.self hm2)
 replace HQ := hJ (hm2.blk HQ.out hnq)
 replace HP := hJ (hm2.blk HP.out hnp)
 clear hR2 hm2
 have hld := zF (P := Tryz.prog) (o := 0) (cs := [.int .i64 k0, .int .i64 k, .int .i64 0, .int .i64 0, .int .i64 0, .string ⟨#[]⟩, .int .i64 0, .float .f64 0, .string ⟨#[]⟩, .int .i64 0, .float .f64 0, .string ⟨#[]⟩, .int .i64 0, .int .i64 0, .int .i64 0, .int .i64 0]) zM HP.out rfl (fun j u hu => by rw [Nat.zero_add]; exact hu)
 have hqq := HQ.out
 go_wp2_with (first | (refine zG rfl 56 _ rfl _ _ rfl hld ?_) | (refine zD rfl 56 _ _ rfl 16 q 0 [.int .i64 k0, .int .i64 k, .int .i64 0, .int .i64 0, .int .i64 0, .string ⟨#[]⟩, .int .i64 0, .float .f64 0, .string ⟨#[]⟩, .int .i64 0, .float .f64 0, .string ⟨#[]⟩, .int .i64 0, .int .i64 0, .int .i64 0, .int .i64 0] rfl rfl zM _ _ [.int .i64 k0, .int .i64 k, .int .i64 0, .int .i64 0, .int .i64 0, .string ⟨#[]⟩, .int .i64 0, .float .f64 0, .string ⟨#[]⟩, .int .i64 0, .float .f64 0, .string ⟨#[]⟩, .int .i64 0, .int .i64 0, .int .i64 0, .int .i64 0] hqq rfl (by simp) (List.all_eq_true.1 rfl) rfl ?_))
 intro w5 hA4 hm4 _
 have HZ : Hid (w5.heap[q]? = some (.cells #[.int .i64 k0, .int .i64 k, .int .i64 0, .int .i64 0, .int .i64 0, .string ⟨#[]⟩, .int .i64 0, .float .f64 0, .string ⟨#[]⟩, .int .i64 0, .float .f64 0, .string ⟨#[]⟩, .int .i64 0, .int .i64 0, .int .i64 0, .int .i64 0] 56 (0, 0))) := hJ hA4
 replace HR := hJ (HR.out.mod hm4 hnb (fun g hg e => by have := HTq.out g hg; omega))
 replace HM := hJ (jI HM.out hm4 (by have := Hq.out; omega))
 clear hld hqq hA4 hm4
 go_wp2
 obtain ⟨c0, c1, c2, c3, c4, c5, c6, c7, c8, c9, c10, c11, c12, c13, c14, c15⟩ := zj0 HZ.out
 refine bodyPost_ret (v := .agg #[.int .i64 k0, .int .i64 k, .int .i64 0, .int .i64 0, .int .i64 0, .string ⟨#[]⟩, .int .i64 0, .float .f64 0, .string ⟨#[]⟩, .int .i64 0, .float .f64 0, .string ⟨#[]⟩, .int .i64 0, .int .i64 0, .int .i64 0, .int .i64 0]) (by simp [results, Tryz.results159, go_sem, c0, c1, c2, c3, c4, c5, c6, c7, c8, c9, c10, c11, c12, c13, c14, c15]) rfl ?_
 rw [Hen.out]
 exact ⟨rfl, HR.out, HM.out⟩
theorem ziJ (w : World) (T : Nat → Prop) (b : Nat) (bs : List UInt8) (r : RS) (h : RpX w T b bs r) (hT : ∀ k, T k → k < w.heap.size) (hb : b < w.heap.size) :
  Calls Tryz.prog 159 #[.pointer (some ⟨b, 0, none⟩)] w (fun e w' => e = .returned (.agg #[.int .i64 r.entP.1.term, .int .i64 r.entP.1.kind, .int .i64 r.entP.1.call.client, .int .i64 r.entP.1.call.seq, .int .i64 r.entP.1.call.cmd.kind, .string r.entP.1.call.cmd.key, .int .i64 r.entP.1.call.cmd.old.kind, .float .f64 r.entP.1.call.cmd.old.num, .string r.entP.1.call.cmd.old.text, .int .i64 r.entP.1.call.cmd.val.kind, .float .f64 r.entP.1.call.cmd.val.num, .string r.entP.1.call.cmd.val.text, .int .i64 r.entP.1.conf.full, .int .i64 r.entP.1.conf.wit, .int .i64 r.entP.1.conf.learn, .int .i64 r.entP.1.conf.learnWit]) ∧ RpX w' T b bs r.entP.2 ∧ Mod (fun k => k = b) w w') := by
 by_cases h0 : r.int.2.int.1 = 0
 · exact zqL w T b bs r h hT hb h0
 by_cases h1 : r.int.2.int.1 = 1
 · exact zqM w T b bs r h hT hb h1
 by_cases h2 : r.int.2.int.1 = 2
 · exact zqN w T b bs r h hT hb h2
 exact zqO w T b bs r h hT hb ⟨h0, h1, h2⟩
end Go.Proofs.YtjhnlncgmejkcaaGreat
set_option maxRecDepth 100000
set_option maxHeartbeats 2000000
namespace Go.Proofs.YtjhnlncgmejkcaaGreat
set_option linter.unusedSimpArgs false
open Go.RowKit
theorem zk7 (w : World) (T : Nat → Prop) (v : Value) (bs : List UInt8) (h : Byt w T v bs) (hT : ∀ g, T g → g < w.heap.size) (hl : bs.length ≤ 1000000) :
  Calls Tryz.prog 121 #[v] w (RdEntP w (jV bs)) := by
 obtain ⟨A, cp, rfl⟩ := h.form
 obtain ⟨n, hn⟩ : ∃ n, bs.length = n := ⟨_, rfl⟩
 obtain ⟨q, hq⟩ : ∃ q, w.heap.size = q := ⟨_, rfl⟩
 obtain ⟨W, hW⟩ : ∃ W, W = (w.alloc (.cells zE.toArray 56)).alloc (.cells #[.slice A n cp, .int .i64 0, .int .i64 0] 154) := ⟨_, rfl⟩
 have hE : Ext w W := by rw [hW]; exact ((Mod.refl _ w).alloc _).alloc _
 have hA : W.heap[q]? = some (.cells zE.toArray 56 (0, 0)) := by rw [hW, ← hq, Below.heap_alloc _ _ _ (by simp)]; exact heap_alloc_new w _
 have hB : W.heap[q + 1]? = some (.cells #[.slice A n cp, .int .i64 ((0 : Nat) : Int), .int .i64 0] 154 (0, 0)) := by
  rw [hW, ← hq]
  have := heap_alloc_new (w.alloc (.cells zE.toArray 56)) (.cells #[.slice A n cp, .int .i64 0, .int .i64 0] 154)
  simpa using this
 have hsz : W.heap.size = q + 2 := by rw [hW, ← hq]; simp
 have hR : RpX W T (q + 1) bs ⟨bs, 0⟩ := ⟨0, .slice A n cp, hB, by rw [← hn]; exact h.ext hE, fun e => by have := hT _ e; omega, Nat.zero_le _, rfl⟩
 have HT : Hid (∀ g, T g → g < q) := hJ (fun g hg => by have := hT g hg; omega)
 have HW := hJ hW
 have Hq := hJ hq
 have HE := hJ hE
 have HA := hJ hA
 have Hsz := hJ hsz
 have Hn := hJ hn
 have hn1 : n ≤ 1000000 := by omega
 rw [hn]
 clear hW hq hE hA hB h hT hl hsz hn
 go_enter Tryz.func121, Tryz.ntmps121
 go_wp2_with fail
 rw [← HW.out, Hq.out]
 refine (ziJ W T (q + 1) bs ⟨bs, 0⟩ hR (fun g hg => by have := HT.out g hg; have := Hsz.out; omega) (by have := Hsz.out; omega)).mono ?_
 rintro e w1 ⟨rfl, hR1, hm1⟩
 obtain ⟨y, hy⟩ : ∃ y, (RS.entP ⟨bs, 0⟩).1 = y := ⟨_, rfl⟩
 obtain ⟨r, hr⟩ : ∃ r, (RS.entP ⟨bs, 0⟩).2 = r := ⟨_, rfl⟩
 rw [hy]
 rw [hr] at hR1
 have hX1 : Ext w w1 := Mod.toExt ((Ext.mod HE.out (zZ w.heap.size)).trans hm1 (fun k _ e => by unfold zZ; have := Hq.out; omega))
 have hA1 := hm1.blk HA.out (by omega)
 obtain ⟨p, hp⟩ : ∃ p, w1.heap.size = p := ⟨_, rfl⟩
 obtain ⟨W3, hW3⟩ : ∃ W3, W3 = w1.alloc (.cells y.cells.toArray 56) := ⟨_, rfl⟩
 have hE3 : Ext w1 W3 := by rw [hW3]; exact (Mod.refl _ _).alloc _
 have hP3 : W3.heap[p]? = some (.cells y.cells.toArray 56 (0, 0)) := by rw [hW3, ← hp]; exact heap_alloc_new w1 _
 have HA3 := hJ (hE3.blk hA1 id)
 have HP3 := hJ hP3
 have HX3 := hJ (hX1.ext hE3)
 have HR3 : Hid (RpX W3 T (q + 1) bs r) := hJ (hR1.mod hE3 id (fun _ _ => id))
 have HW3 := hJ hW3
 have Hp := hJ hp
 have Hy := hJ hy
 have Hr := hJ hr
 clear hW3 hE3 hP3 hA1 hX1 hm1 hR1 hR hy hr hp
 go_wp2_with fail
 rw [← HW3.out]
 refine (p_over W3 T (q + 1) bs r HR3.out A n cp hn1).mono ?_
 rintro e w4 ⟨rfl, hE4⟩
 have HX4 := hJ (HX3.out.ext hE4)
 have HA4 := hJ (hE4.blk HA3.out id)
 have HP4 := hJ (hE4.blk HP3.out id)
 clear hE4
 rw [Hp.out]
 obtain ⟨ok, hok⟩ : ∃ ok, (r.done == 0 && decide (n ≤ 16384)) = ok := ⟨_, rfl⟩
 rw [hok]
 have Hok := hJ hok
 clear hok
 have hrd : ok = true → jV bs = some y := fun h => by
  have h1 := Hok.out
  rw [h, Bool.and_eq_true, beq_iff_eq, decide_eq_true_iff] at h1
  unfold jV
  rw [Hr.out, Hy.out, if_pos ⟨h1.1, by rw [Hn.out]; exact h1.2⟩]
 have hrn : ok = false → jV bs = none := fun h => by
  unfold jV
  rw [Hr.out, if_neg]
  rintro ⟨g1, g2⟩
  have h1 := Hok.out
  rw [g1, decide_eq_true (by rw [← Hn.out]; exact g2), h] at h1
  cases h1
 have Hrd := hJ hrd
 have Hrn := hJ hrn
 clear hrd hrn
 rcases ok with _ | _
 ·
  go_wp2_with (refine zD rfl 56 _ _ rfl 16 q 0 zE rfl rfl zM _ _ zE HA4.out rfl (by simp) (List.all_eq_true.1 rfl) rfl ?_)
  intro w5 hA5 hm5 _
  have HA5 : Hid (w5.heap[q]? = some (.cells zE.toArray 56 (0, 0))) := hJ hA5
  have HX : Hid (Ext w w5) := hJ (Mod.toExt ((Ext.mod HX4.out (zZ w.heap.size)).trans hm5 (fun k _ e => by unfold zZ; have := Hq.out; omega)))
  clear hA5 hm5
  go_wp2
  obtain ⟨c0, c1, c2, c3, c4, c5, c6, c7, c8, c9, c10, c11, c12, c13, c14, c15⟩ := zj0 HA5.out
  refine bodyPost_ret (v := .tuple #[.agg #[.int .i64 0, .int .i64 0, .int .i64 0, .int .i64 0, .int .i64 0, .string ⟨#[]⟩, .int .i64 0, .float .f64 0, .string ⟨#[]⟩, .int .i64 0, .float .f64 0, .string ⟨#[]⟩, .int .i64 0, .int .i64 0, .int .i64 0, .int .i64 0], .bool false]) (by simp [results, Tryz.results121, go_sem, c0, c1, c2, c3, c4, c5, c6, c7, c8, c9, c10, c11, c12, c13, c14, c15]) rfl ?_
  have hN := Hrn.out trivial
  exact ⟨zI.zero, false, by rw [hN]; rfl, by rw [hN]; rfl, rfl, HX.out⟩
 have hld := zF (P := Tryz.prog) (o := 0) (cs := y.cells) zM HP4.out rfl (fun j u hu => by rw [Nat.zero_add]; exact hu)
 go_wp2_with (first | (refine zG rfl 56 _ rfl _ _ rfl hld ?_) | (refine zD rfl 56 _ _ rfl 16 q 0 y.cells rfl rfl zM _ _ y.cells HA4.out rfl (by simp) (List.all_eq_true.1 rfl) rfl ?_))
 intro w5 hA5 hm5 _
 have HA5 : Hid (w5.heap[q]? = some (.cells y.cells.toArray 56 (0, 0))) := hJ hA5
 have HX : Hid (Ext w w5) := hJ (Mod.toExt ((Ext.mod HX4.out (zZ w.heap.size)).trans hm5 (fun k _ e => by unfold zZ; have := Hq.out; omega)))
 clear hA5 hm5 hld
 go_wp2
 obtain ⟨c0, c1, c2, c3, c4, c5, c6, c7, c8, c9, c10, c11, c12, c13, c14, c15⟩ := zj0 HA5.out
 refine bodyPost_ret (v := .tuple #[.agg #[.int .i64 y.term, .int .i64 y.kind, .int .i64 y.call.client, .int .i64 y.call.seq, .int .i64 y.call.cmd.kind, .string y.call.cmd.key, .int .i64 y.call.cmd.old.kind, .float .f64 y.call.cmd.old.num, .string y.call.cmd.old.text, .int .i64 y.call.cmd.val.kind, .float .f64 y.call.cmd.val.num, .string y.call.cmd.val.text, .int .i64 y.conf.full, .int .i64 y.conf.wit, .int .i64 y.conf.learn, .int .i64 y.conf.learnWit], .bool true]) (by simp [results, Tryz.results121, go_sem, c0, c1, c2, c3, c4, c5, c6, c7, c8, c9, c10, c11, c12, c13, c14, c15]) rfl ?_
 have hN := Hrd.out trivial
 exact ⟨y, true, by rw [hN]; rfl, by rw [hN]; rfl, rfl, HX.out⟩
end Go.Proofs.YtjhnlncgmejkcaaGreat
