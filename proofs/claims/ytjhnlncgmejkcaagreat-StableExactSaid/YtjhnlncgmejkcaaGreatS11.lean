/-
  Contracts of wire.reader: conf, call, entry. Conditions: as each theorem names them.
-/
import Derived.Test.YtjhnlncgmejkcaaGreatS10
import Derived.Test.YtjhnlncgmejkcaaGreatS7
import Derived.Test.YtjhnlncgmejkcaaGreatS8
import Derived.Test.YtjhnlncgmejkcaaGreatS9
set_option maxRecDepth 100000
set_option maxHeartbeats 2000000
namespace Go.Proofs.YtjhnlncgmejkcaaGreat
set_option linter.unusedSimpArgs false
open Go.RowKit
theorem ziA (w : World) (q k : Nat) (e : TypeId) (cs : Array Value) (hc : cs = (ptrs q k).toArray) (hk : k ≤ 100) :
  Sl (w.alloc (.cells cs e)) (fun g => g = w.heap.size) 1 (.slice (some ⟨w.heap.size, 0, none⟩) k k) k (ptrs q k) := by
 subst hc
 have hl : (ptrs q k).length = k := by simp [ptrs]
 refine ⟨by rw [hl, Nat.mul_one], _, _, rfl, Nat.le_refl _, by simp only [maxLen]; omega, fun _ => ⟨_, 0, rfl, rfl, fun j u hu => ?_⟩⟩
 rw [cell_of_row _ _ _ _ _ _ (heap_alloc_new w _), Nat.zero_add]
 simpa using hu
theorem ints2 (r : RS) : ∃ a0 a1 r1, RS.ints 2 r = ([a0, a1], r1) := ⟨_, _, _, rfl⟩
theorem ints3 (r : RS) : ∃ a0 a1 a2 r1, RS.ints 3 r = ([a0, a1, a2], r1) := ⟨_, _, _, _, rfl⟩
theorem ints4 (r : RS) : ∃ a0 a1 a2 a3 r1, RS.ints 4 r = ([a0, a1, a2, a3], r1) := ⟨_, _, _, _, _, rfl⟩
theorem callP_eq {r r1 : RS} {a0 a1 a2 : Int} (h : RS.ints 3 r = ([a0, a1, a2], r1)) : r.callP = (⟨a0, a1, ⟨a2, ⟨r1.text.1.toArray⟩, r1.text.2.valP.1, r1.text.2.valP.2.valP.1⟩⟩, r1.text.2.valP.2.valP.2) := by
 simp only [RS.ints, Prod.mk.injEq, List.cons.injEq, and_true] at h
 obtain ⟨⟨rfl, rfl, rfl⟩, rfl⟩ := h
 rfl
theorem ziB {r r1 : RS} {a0 a1 a2 : Int} (h : RS.ints 3 r = ([a0, a1, a2], r1)) : r.callT = (r1.text.2.valT || r1.text.2.valP.2.valT) := by
 simp only [RS.ints, Prod.mk.injEq, List.cons.injEq, and_true] at h
 obtain ⟨⟨rfl, rfl, rfl⟩, rfl⟩ := h
 rfl
theorem confP_eq {r r1 : RS} {a0 a1 a2 a3 : Int} (h : RS.ints 4 r = ([a0, a1, a2, a3], r1)) : r.confP = (⟨a0, a1, a2, a3⟩, r1) := by
 simp only [RS.ints, Prod.mk.injEq, List.cons.injEq, and_true] at h
 obtain ⟨⟨rfl, rfl, rfl, rfl⟩, rfl⟩ := h
 rfl
theorem zkO {r r1 : RS} {a0 k : Int} (h : RS.ints 2 r = ([a0, k], r1)) : r.entP = (if k = 0 then (⟨a0, k, yK.zero, yF.zero⟩, r1) else if k = 1 then (⟨a0, k, r1.callP.1, yF.zero⟩, r1.callP.2) else if k = 2 then (⟨a0, k, yK.zero, r1.confP.1⟩, r1.confP.2) else (⟨a0, k, yK.zero, yF.zero⟩, r1.fail 3)) := by
 simp only [RS.ints, Prod.mk.injEq, List.cons.injEq, and_true] at h
 obtain ⟨⟨rfl, rfl⟩, rfl⟩ := h
 rfl
theorem zf7 {r r1 : RS} {a0 k : Int} (h : RS.ints 2 r = ([a0, k], r1)) : r.entT = (!(k == 0 || k == 1 || k == 2) || (k == 1 && r1.callT)) := by
 simp only [RS.ints, Prod.mk.injEq, List.cons.injEq, and_true] at h
 obtain ⟨⟨rfl, rfl⟩, rfl⟩ := h
 rfl
theorem ziC : Str Tryz.prog 50 3 := ⟨⟨_, Tryz.underlying50⟩, by kernel_rfl⟩
theorem ziD : Str Tryz.prog 54 10 := ⟨⟨_, Tryz.underlying54⟩, by kernel_rfl⟩
theorem xR : Str Tryz.prog 23 4 := ⟨⟨_, Tryz.underlying23⟩, by kernel_rfl⟩
theorem zM : Str Tryz.prog 56 16 := ⟨⟨_, Tryz.underlying56⟩, by kernel_rfl⟩
theorem zpM (w : World) (S : Nat → Prop) (c b : Nat) (r : RS) (h : Rw w S c b r) :
  Calls Tryz.prog 174 #[.pointer (some ⟨c, 0, none⟩)] w (ROut w S c b false (.agg #[.int .i64 r.confP.1.full, .int .i64 r.confP.1.wit, .int .i64 r.confP.1.learn, .int .i64 r.confP.1.learnWit]) r.confP.2) := by
 obtain ⟨q, hq⟩ : ∃ q, w.heap.size = q := ⟨_, rfl⟩
 obtain ⟨W, hW⟩ : ∃ W, W = w.alloc (.cells #[.int .i64 0, .int .i64 0, .int .i64 0, .int .i64 0] 23) := ⟨_, rfl⟩
 have hE : Ext w W := by rw [hW]; exact (Mod.refl _ w).alloc _
 have hA : W.heap[q]? = some (.cells #[.int .i64 0, .int .i64 0, .int .i64 0, .int .i64 0] 23 (0, 0)) := by rw [hW, ← hq]; exact heap_alloc_new w _
 have hsz : W.heap.size = q + 1 := by rw [hW, ← hq]; simp
 have hnq : ¬ S q := fun e => by have := h.2.2.2 q e; omega
 have hcq : ¬ c = q := by have := h.lt; omega
 have hqc : ¬ q = c := by omega
 have Hnq := hJ hnq
 have HR : Hid (Rw W S c b r) := hJ (h.ext hE)
 have HM : Hid (Mod S w W) := hJ (hE.mod S)
 have HA := hJ hA
 have HW := hJ hW
 have Hq := hJ hq
 have hqw : w.heap.size ≤ q := by omega
 have Hqw := hJ hqw
 have Hsz := hJ hsz
 have rl := h.lt
 clear hW hq hE h hA hsz hqw
 go_enter Tryz.func174, Tryz.ntmps174
 go_wp2_with fail
 rw [← HW.out, Hq.out]
 have hE1 : Ext W (W.alloc (.cells #[.pointer (some ⟨q, 0, none⟩), .pointer (some ⟨q, 1, none⟩), .pointer (some ⟨q, 2, none⟩), .pointer (some ⟨q, 3, none⟩)] 200)) := (Mod.refl _ W).alloc _
 have hsl := ziA W q 4 200 #[.pointer (some ⟨q, 0, none⟩), .pointer (some ⟨q, 1, none⟩), .pointer (some ⟨q, 2, none⟩), .pointer (some ⟨q, 3, none⟩)] rfl (by omega)
 rw [Hsz.out] at hsl
 refine (zh6 _ S _ c b q r 4 [.int .i64 0, .int .i64 0, .int .i64 0, .int .i64 0] [] 23 _ (HR.out.ext hE1) (hE1.blk HA.out id) rfl (by omega) hsl (fun g e => by
  subst e
  intro hh
  rcases hh with hh | hh
  · have := HR.out.2.2.2 _ hh; have := Hsz.out; omega
  omega) hnq hcq).mono ?_
 rintro e w1 ⟨rfl, hR1, hA1, hm1⟩
 obtain ⟨a0, a1, a2, a3, r1, hints⟩ := ints4 r
 rw [hints] at hR1 hA1
 replace hA1 : w1.heap[q]? = some (.cells #[.int .i64 a0, .int .i64 a1, .int .i64 a2, .int .i64 a3] 23 (0, 0)) := hA1
 replace HA := hJ hA1
 replace HM : Hid (Mod S w w1) := hJ ((HM.out.ext hE1).trans hm1 (fun i hi e => by
  rcases e with e | e
  · exact e
  have := Hqw.out; omega))
 replace HR := hJ hR1
 have Hints := hJ hints
 clear HW Hsz hE1 hsl hR1 hA1 hm1 hints
 have hld := zF (P := Tryz.prog) (o := 0) (cs := [.int .i64 a0, .int .i64 a1, .int .i64 a2, .int .i64 a3]) xR HA.out rfl (fun j u hu => by rw [Nat.zero_add]; exact hu)
 have hst := zaD (P := Tryz.prog) xR HA.out rfl (List.all_eq_true.1 rfl)
 go_wp2_with (first | (refine zG rfl 23 _ rfl _ _ rfl hld ?_) | (refine zaJ rfl 23 _ _ rfl _ _ rfl rfl hst ?_))
 clear hld hst
 obtain ⟨c0, c1, c2, c3⟩ := cq4 HA.out
 refine bodyPost_ret (v := .agg #[.int .i64 a0, .int .i64 a1, .int .i64 a2, .int .i64 a3]) (by simp [results, Tryz.results174, go_sem, c0, c1, c2, c3]) rfl ?_
 rw [confP_eq Hints.out]
 exact zbY (rfl) HM.out HR.out
theorem wr_call (w : World) (S : Nat → Prop) (c b : Nat) (r : RS) (h : Rw w S c b r) :
  Calls Tryz.prog 180 #[.pointer (some ⟨c, 0, none⟩)] w (ROut w S c b r.callT (.agg #[.int .i64 r.callP.1.client, .int .i64 r.callP.1.seq, .int .i64 r.callP.1.cmd.kind, .string r.callP.1.cmd.key, .int .i64 r.callP.1.cmd.old.kind, .float .f64 r.callP.1.cmd.old.num, .string r.callP.1.cmd.old.text, .int .i64 r.callP.1.cmd.val.kind, .float .f64 r.callP.1.cmd.val.num, .string r.callP.1.cmd.val.text]) r.callP.2) := by
 obtain ⟨q, hq⟩ : ∃ q, w.heap.size = q := ⟨_, rfl⟩
 obtain ⟨W, hW⟩ : ∃ W, W = w.alloc (.cells #[.int .i64 0, .int .i64 0, .int .i64 0, .string ⟨#[]⟩, .int .i64 0, .float .f64 0, .string ⟨#[]⟩, .int .i64 0, .float .f64 0, .string ⟨#[]⟩] 54) := ⟨_, rfl⟩
 have hE : Ext w W := by rw [hW]; exact (Mod.refl _ w).alloc _
 have hA : W.heap[q]? = some (.cells #[.int .i64 0, .int .i64 0, .int .i64 0, .string ⟨#[]⟩, .int .i64 0, .float .f64 0, .string ⟨#[]⟩, .int .i64 0, .float .f64 0, .string ⟨#[]⟩] 54 (0, 0)) := by rw [hW, ← hq]; exact heap_alloc_new w _
 have hsz : W.heap.size = q + 1 := by rw [hW, ← hq]; simp
 have hnq : ¬ S q := fun e => by have := h.2.2.2 q e; omega
 have hcq : ¬ c = q := by have := h.lt; omega
 have hqc : ¬ q = c := by omega
 have Hnq := hJ hnq
 have HR : Hid (Rw W S c b r) := hJ (h.ext hE)
 have HM : Hid (Mod S w W) := hJ (hE.mod S)
 have HA := hJ hA
 have HW := hJ hW
 have Hq := hJ hq
 have hqw : w.heap.size ≤ q := by omega
 have Hqw := hJ hqw
 have Hsz := hJ hsz
 have rl := h.lt
 clear hW hq hE h hA hsz hqw
 go_enter Tryz.func180, Tryz.ntmps180
 go_wp2_with fail
 rw [← HW.out, Hq.out]
 have hE1 : Ext W (W.alloc (.cells #[.pointer (some ⟨q, 0, none⟩), .pointer (some ⟨q, 1, none⟩), .pointer (some ⟨q, 2, none⟩)] 200)) := (Mod.refl _ W).alloc _
 have hsl := ziA W q 3 200 #[.pointer (some ⟨q, 0, none⟩), .pointer (some ⟨q, 1, none⟩), .pointer (some ⟨q, 2, none⟩)] rfl (by omega)
 rw [Hsz.out] at hsl
 refine (zh6 _ S _ c b q r 3 [.int .i64 0, .int .i64 0, .int .i64 0] [.string ⟨#[]⟩, .int .i64 0, .float .f64 0, .string ⟨#[]⟩, .int .i64 0, .float .f64 0, .string ⟨#[]⟩] 54 _ (HR.out.ext hE1) (hE1.blk HA.out id) rfl (by omega) hsl (fun g e => by
  subst e
  intro hh
  rcases hh with hh | hh
  · have := HR.out.2.2.2 _ hh; have := Hsz.out; omega
  omega) hnq hcq).mono ?_
 rintro e w1 ⟨rfl, hR1, hA1, hm1⟩
 obtain ⟨a0, a1, a2, r1, hints⟩ := ints3 r
 rw [hints] at hR1 hA1
 replace hA1 : w1.heap[q]? = some (.cells #[.int .i64 a0, .int .i64 a1, .int .i64 a2, .string ⟨#[]⟩, .int .i64 0, .float .f64 0, .string ⟨#[]⟩, .int .i64 0, .float .f64 0, .string ⟨#[]⟩] 54 (0, 0)) := hA1
 replace HA := hJ hA1
 replace HM : Hid (Mod S w w1) := hJ ((HM.out.ext hE1).trans hm1 (fun i hi e => by
  rcases e with e | e
  · exact e
  have := Hqw.out; omega))
 replace HR := hJ hR1
 have Hints := hJ hints
 clear HW Hsz hE1 hsl hR1 hA1 hm1 hints
 have rc := HR.out.cell
 go_wp2_with fail
 refine (zn9 w1 S b r1 HR.out.1 HR.out.2.2.2).mono ?_
 rintro e w2 ⟨vt, rfl, hNB, hR2, hm2⟩
 clear rc
 obtain ⟨A5, c5, rfl⟩ := zN hNB.1
 have hcv := zeR hNB.sl
 replace HR := hJ (HR.out.step hm2 hR2)
 replace HM := hJ (HM.out.self hm2)
 replace HA := hJ (hm2.blk HA.out hnq)
 obtain ⟨tx, hx⟩ : ∃ x, r1.text.1 = x := ⟨_, rfl⟩
 obtain ⟨r2, hr2⟩ : ∃ r, r1.text.2 = r := ⟨_, rfl⟩
 rw [hx] at hcv ⊢
 rw [hr2] at HR
 have Hxtx := hJ hx
 have Hrr2 := hJ hr2
 clear hx hr2 hNB hR2 hm2
 have a3 : w2.cell? ⟨q, 3, none⟩ = some _ := zB HA.out rfl
 have f3 : w2.frozen? ⟨q, 3, none⟩ = false := zK 3 HA.out
 obtain ⟨w3, hWn⟩ : ∃ w3, w2.setCell ⟨q, 3, none⟩ (.string ⟨tx.toArray⟩) = w3 := ⟨_, rfl⟩
 have hA4 : w3.heap[q]? = some (.cells #[.int .i64 a0, .int .i64 a1, .int .i64 a2, .string ⟨tx.toArray⟩, .int .i64 0, .float .f64 0, .string ⟨#[]⟩, .int .i64 0, .float .f64 0, .string ⟨#[]⟩] 54 (0, 0)) := by rw [← hWn]; exact yC HA.out 3 (.string ⟨tx.toArray⟩)
 have hm4 : Mod (fun k => k = q) w2 w3 := by rw [← hWn]; exact zO (Mod.refl _ _) _ _
 replace HA := hJ hA4
 replace HR := hJ (HR.out.mod hm4 (fun g hg e => Hnq.out (e ▸ hg)) hcq)
 replace HM := hJ (jZ HM.out hm4 Hqw.out)
 have HWn := hJ hWn
 clear hA4 hm4 hWn
 go_wp2_with fail
 rw [HWn.out]
 clear HWn hcv a3 f3
 refine (zlZ w3 S c b r2 HR.out).mono ?_
 rintro e w4 ⟨hm2, hbad, hok⟩
 rcases hT : r2.valT with _ | _
 rotate_left
 · obtain rfl := hbad hT
   exact ⟨rfl, zbQ (by rw [ziB Hints.out, Hrr2.out, hT]; rfl) (HM.out.self hm2)⟩
 obtain ⟨rfl, hR2⟩ := hok hT
 replace HR := hJ hR2
 replace HM := hJ (HM.out.self hm2)
 replace HA := hJ (hm2.blk HA.out hnq)
 have Hb1 := hJ hT
 clear hbad hok hR2 hm2 hT
 go_wp2_with (refine zD rfl 50 _ _ rfl 3 q 4 [.int .i64 r2.valP.1.kind, .float .f64 r2.valP.1.num, .string r2.valP.1.text] rfl rfl ziC _ _ [.int .i64 a0, .int .i64 a1, .int .i64 a2, .string ⟨tx.toArray⟩, .int .i64 r2.valP.1.kind, .float .f64 r2.valP.1.num, .string r2.valP.1.text, .int .i64 0, .float .f64 0, .string ⟨#[]⟩] HA.out rfl (by simp) (List.all_eq_true.1 rfl) rfl ?_)
 intro w5 hA4 hm4 hs4
 replace HA : Hid (w5.heap[q]? = some (.cells #[.int .i64 a0, .int .i64 a1, .int .i64 a2, .string ⟨tx.toArray⟩, .int .i64 r2.valP.1.kind, .float .f64 r2.valP.1.num, .string r2.valP.1.text, .int .i64 0, .float .f64 0, .string ⟨#[]⟩] 54 (0, 0))) := hJ hA4
 replace HR := hJ (HR.out.mod hm4 (fun g hg e => Hnq.out (e ▸ hg)) hcq)
 replace HM := hJ (jZ HM.out hm4 Hqw.out)
 clear hA4 hm4 hs4
 go_wp2_with fail
 refine (zlZ w5 S c b r2.valP.2 HR.out).mono ?_
 rintro e w6 ⟨hm2, hbad, hok⟩
 rcases hT : r2.valP.2.valT with _ | _
 rotate_left
 · obtain rfl := hbad hT
   exact ⟨rfl, zbQ (by rw [ziB Hints.out, Hrr2.out, hT, Bool.or_true]) (HM.out.self hm2)⟩
 obtain ⟨rfl, hR2⟩ := hok hT
 replace HR := hJ hR2
 replace HM := hJ (HM.out.self hm2)
 replace HA := hJ (hm2.blk HA.out hnq)
 have Hb2 := hJ hT
 clear hbad hok hR2 hm2 hT
 go_wp2_with (refine zD rfl 50 _ _ rfl 3 q 7 [.int .i64 r2.valP.2.valP.1.kind, .float .f64 r2.valP.2.valP.1.num, .string r2.valP.2.valP.1.text] rfl rfl ziC _ _ [.int .i64 a0, .int .i64 a1, .int .i64 a2, .string ⟨tx.toArray⟩, .int .i64 r2.valP.1.kind, .float .f64 r2.valP.1.num, .string r2.valP.1.text, .int .i64 r2.valP.2.valP.1.kind, .float .f64 r2.valP.2.valP.1.num, .string r2.valP.2.valP.1.text] HA.out rfl (by simp) (List.all_eq_true.1 rfl) rfl ?_)
 intro w7 hA4 hm4 hs4
 replace HA : Hid (w7.heap[q]? = some (.cells #[.int .i64 a0, .int .i64 a1, .int .i64 a2, .string ⟨tx.toArray⟩, .int .i64 r2.valP.1.kind, .float .f64 r2.valP.1.num, .string r2.valP.1.text, .int .i64 r2.valP.2.valP.1.kind, .float .f64 r2.valP.2.valP.1.num, .string r2.valP.2.valP.1.text] 54 (0, 0))) := hJ hA4
 replace HR := hJ (HR.out.mod hm4 (fun g hg e => Hnq.out (e ▸ hg)) hcq)
 replace HM := hJ (jZ HM.out hm4 Hqw.out)
 clear hA4 hm4 hs4
 have hld := zF (P := Tryz.prog) (o := 0) (cs := [.int .i64 a0, .int .i64 a1, .int .i64 a2, .string ⟨tx.toArray⟩, .int .i64 r2.valP.1.kind, .float .f64 r2.valP.1.num, .string r2.valP.1.text, .int .i64 r2.valP.2.valP.1.kind, .float .f64 r2.valP.2.valP.1.num, .string r2.valP.2.valP.1.text]) ziD HA.out rfl (fun j u hu => by rw [Nat.zero_add]; exact hu)
 have hst := zaD (P := Tryz.prog) ziD HA.out rfl (List.all_eq_true.1 rfl)
 go_wp2_with (first | (refine zG rfl 54 _ rfl _ _ rfl hld ?_) | (refine zaJ rfl 54 _ _ rfl _ _ rfl rfl hst ?_))
 clear hld hst
 obtain ⟨c0, c1, c2, c3, c4, c5, c6, c7, c8, c9⟩ := cq10 HA.out
 refine bodyPost_ret (v := .agg #[.int .i64 a0, .int .i64 a1, .int .i64 a2, .string ⟨tx.toArray⟩, .int .i64 r2.valP.1.kind, .float .f64 r2.valP.1.num, .string r2.valP.1.text, .int .i64 r2.valP.2.valP.1.kind, .float .f64 r2.valP.2.valP.1.num, .string r2.valP.2.valP.1.text]) (by simp [results, Tryz.results180, go_sem, c0, c1, c2, c3, c4, c5, c6, c7, c8, c9]) rfl ?_
 rw [callP_eq Hints.out, Hrr2.out, Hxtx.out]
 exact zbY (by rw [ziB Hints.out, Hrr2.out, Hb1.out, Hb2.out]; rfl) HM.out HR.out
theorem zl6 (w : World) (S : Nat → Prop) (c b : Nat) (r : RS) (h : Rw w S c b r) :
  Calls Tryz.prog 139 #[.pointer (some ⟨c, 0, none⟩)] w (ROut w S c b r.entT (.agg #[.int .i64 r.entP.1.term, .int .i64 r.entP.1.kind, .int .i64 r.entP.1.call.client, .int .i64 r.entP.1.call.seq, .int .i64 r.entP.1.call.cmd.kind, .string r.entP.1.call.cmd.key, .int .i64 r.entP.1.call.cmd.old.kind, .float .f64 r.entP.1.call.cmd.old.num, .string r.entP.1.call.cmd.old.text, .int .i64 r.entP.1.call.cmd.val.kind, .float .f64 r.entP.1.call.cmd.val.num, .string r.entP.1.call.cmd.val.text, .int .i64 r.entP.1.conf.full, .int .i64 r.entP.1.conf.wit, .int .i64 r.entP.1.conf.learn, .int .i64 r.entP.1.conf.learnWit]) r.entP.2) := by
 obtain ⟨q, hq⟩ : ∃ q, w.heap.size = q := ⟨_, rfl⟩
 obtain ⟨W, hW⟩ : ∃ W, W = w.alloc (.cells zE.toArray 56) := ⟨_, rfl⟩
 have hE : Ext w W := by rw [hW]; exact (Mod.refl _ w).alloc _
 have hA : W.heap[q]? = some (.cells zE.toArray 56 (0, 0)) := by rw [hW, ← hq]; exact heap_alloc_new w _
 have hsz : W.heap.size = q + 1 := by rw [hW, ← hq]; simp
 have hnq : ¬ S q := fun e => by have := h.2.2.2 q e; omega
 have hcq : ¬ c = q := by have := h.lt; omega
 have hqc : ¬ q = c := by omega
 have Hnq := hJ hnq
 have HR : Hid (Rw W S c b r) := hJ (h.ext hE)
 have HM : Hid (Mod S w W) := hJ (hE.mod S)
 have HA := hJ hA
 have HW := hJ hW
 have Hq := hJ hq
 have hqw : w.heap.size ≤ q := by omega
 have Hqw := hJ hqw
 have Hsz := hJ hsz
 have rl := h.lt
 clear hW hq hE h hA hsz hqw
 go_enter Tryz.func139, Tryz.ntmps139
 go_wp2_with fail
 rw [← HW.out, Hq.out]
 have hE1 : Ext W (W.alloc (.cells #[.pointer (some ⟨q, 0, none⟩), .pointer (some ⟨q, 1, none⟩)] 200)) := (Mod.refl _ W).alloc _
 have hsl := ziA W q 2 200 #[.pointer (some ⟨q, 0, none⟩), .pointer (some ⟨q, 1, none⟩)] rfl (by omega)
 rw [Hsz.out] at hsl
 refine (zh6 _ S _ c b q r 2 [.int .i64 0, .int .i64 0] [.int .i64 0, .int .i64 0, .int .i64 0, .string ⟨#[]⟩, .int .i64 0, .float .f64 0, .string ⟨#[]⟩, .int .i64 0, .float .f64 0, .string ⟨#[]⟩, .int .i64 0, .int .i64 0, .int .i64 0, .int .i64 0] 56 _ (HR.out.ext hE1) (hE1.blk HA.out id) rfl (by omega) hsl (fun g e => by
  subst e
  intro hh
  rcases hh with hh | hh
  · have := HR.out.2.2.2 _ hh; have := Hsz.out; omega
  omega) hnq hcq).mono ?_
 rintro e w1 ⟨rfl, hR1, hA1, hm1⟩
 obtain ⟨a0, k, r1, hints⟩ := ints2 r
 rw [hints] at hR1 hA1
 replace hA1 : w1.heap[q]? = some (.cells #[.int .i64 a0, .int .i64 k, .int .i64 0, .int .i64 0, .int .i64 0, .string ⟨#[]⟩, .int .i64 0, .float .f64 0, .string ⟨#[]⟩, .int .i64 0, .float .f64 0, .string ⟨#[]⟩, .int .i64 0, .int .i64 0, .int .i64 0, .int .i64 0] 56 (0, 0)) := hA1
 replace HA := hJ hA1
 replace HM : Hid (Mod S w w1) := hJ ((HM.out.ext hE1).trans hm1 (fun i hi e => by
  rcases e with e | e
  · exact e
  have := Hqw.out; omega))
 replace HR := hJ hR1
 have Hints := hJ hints
 clear HW Hsz hE1 hsl hR1 hA1 hm1 hints
 have a1 : w1.cell? ⟨q, 1, none⟩ = some _ := zB HA.out rfl
 by_cases e0 : k = 0
 ·
  have d0 : (k == 0) = true := by simp [e0]
  have He0 := hJ e0
  have Hd0 := hJ d0
  clear e0
  have hld := zF (P := Tryz.prog) (o := 0) (cs := [.int .i64 a0, .int .i64 k, .int .i64 0, .int .i64 0, .int .i64 0, .string ⟨#[]⟩, .int .i64 0, .float .f64 0, .string ⟨#[]⟩, .int .i64 0, .float .f64 0, .string ⟨#[]⟩, .int .i64 0, .int .i64 0, .int .i64 0, .int .i64 0]) zM HA.out rfl (fun j u hu => by rw [Nat.zero_add]; exact hu)
  have hst := zaD (P := Tryz.prog) zM HA.out rfl (List.all_eq_true.1 rfl)
  go_wp2_with (first | (refine zG rfl 56 _ rfl _ _ rfl hld ?_) | (refine zaJ rfl 56 _ _ rfl _ _ rfl rfl hst ?_))
  clear hld hst
  obtain ⟨c0, c1, c2, c3, c4, c5, c6, c7, c8, c9, c10, c11, c12, c13, c14, c15⟩ := zj0 HA.out
  refine bodyPost_ret (v := .agg #[.int .i64 a0, .int .i64 k, .int .i64 0, .int .i64 0, .int .i64 0, .string ⟨#[]⟩, .int .i64 0, .float .f64 0, .string ⟨#[]⟩, .int .i64 0, .float .f64 0, .string ⟨#[]⟩, .int .i64 0, .int .i64 0, .int .i64 0, .int .i64 0]) (by simp [results, Tryz.results139, go_sem, c0, c1, c2, c3, c4, c5, c6, c7, c8, c9, c10, c11, c12, c13, c14, c15]) rfl ?_
  rw [zkO Hints.out, if_pos He0.out]
  exact zbY (by rw [zf7 Hints.out, Hd0.out, He0.out]; rfl) HM.out HR.out
 have d0 : (k == 0) = false := by simpa using e0
 by_cases e1 : k = 1
 ·
  have d1 : (k == 1) = true := by simp [e1]
  have He0 := hJ e0
  have He1 := hJ e1
  have Hd0 := hJ d0
  have Hd1 := hJ d1
  clear e0 e1
  go_wp2_with fail
  clear a1
  refine (wr_call w1 S c b r1 HR.out).mono ?_
  rintro e w2 ⟨hm2, hbad, hok⟩
  rcases hT : r1.callT with _ | _
  rotate_left
  · obtain rfl := hbad hT
    exact ⟨rfl, zbQ (by rw [zf7 Hints.out, hT, Hd0.out, Hd1.out]; rfl) (HM.out.self hm2)⟩
  obtain ⟨rfl, hR2⟩ := hok hT
  replace HR := hJ hR2
  replace HM := hJ (HM.out.self hm2)
  replace HA := hJ (hm2.blk HA.out hnq)
  have Hb1 := hJ hT
  clear hbad hok hR2 hm2 hT
  go_wp2_with (refine zD rfl 54 _ _ rfl 10 q 2 [.int .i64 r1.callP.1.client, .int .i64 r1.callP.1.seq, .int .i64 r1.callP.1.cmd.kind, .string r1.callP.1.cmd.key, .int .i64 r1.callP.1.cmd.old.kind, .float .f64 r1.callP.1.cmd.old.num, .string r1.callP.1.cmd.old.text, .int .i64 r1.callP.1.cmd.val.kind, .float .f64 r1.callP.1.cmd.val.num, .string r1.callP.1.cmd.val.text] rfl rfl ziD _ _ [.int .i64 a0, .int .i64 k, .int .i64 r1.callP.1.client, .int .i64 r1.callP.1.seq, .int .i64 r1.callP.1.cmd.kind, .string r1.callP.1.cmd.key, .int .i64 r1.callP.1.cmd.old.kind, .float .f64 r1.callP.1.cmd.old.num, .string r1.callP.1.cmd.old.text, .int .i64 r1.callP.1.cmd.val.kind, .float .f64 r1.callP.1.cmd.val.num, .string r1.callP.1.cmd.val.text, .int .i64 0, .int .i64 0, .int .i64 0, .int .i64 0] HA.out rfl (by simp) (List.all_eq_true.1 rfl) rfl ?_)
  intro w3 hA4 hm4 hs4
  replace HA : Hid (w3.heap[q]? = some (.cells #[.int .i64 a0, .int .i64 k, .int .i64 r1.callP.1.client, .int .i64 r1.callP.1.seq, .int .i64 r1.callP.1.cmd.kind, .string r1.callP.1.cmd.key, .int .i64 r1.callP.1.cmd.old.kind, .float .f64 r1.callP.1.cmd.old.num, .string r1.callP.1.cmd.old.text, .int .i64 r1.callP.1.cmd.val.kind, .float .f64 r1.callP.1.cmd.val.num, .string r1.callP.1.cmd.val.text, .int .i64 0, .int .i64 0, .int .i64 0, .int .i64 0] 56 (0, 0))) := hJ hA4
  replace HR := hJ (HR.out.mod hm4 (fun g hg e => Hnq.out (e ▸ hg)) hcq)
  replace HM := hJ (jZ HM.out hm4 Hqw.out)
  clear hA4 hm4 hs4
  have hld := zF (P := Tryz.prog) (o := 0) (cs := [.int .i64 a0, .int .i64 k, .int .i64 r1.callP.1.client, .int .i64 r1.callP.1.seq, .int .i64 r1.callP.1.cmd.kind, .string r1.callP.1.cmd.key, .int .i64 r1.callP.1.cmd.old.kind, .float .f64 r1.callP.1.cmd.old.num, .string r1.callP.1.cmd.old.text, .int .i64 r1.callP.1.cmd.val.kind, .float .f64 r1.callP.1.cmd.val.num, .string r1.callP.1.cmd.val.text, .int .i64 0, .int .i64 0, .int .i64 0, .int .i64 0]) zM HA.out rfl (fun j u hu => by rw [Nat.zero_add]; exact hu)
  have hst := zaD (P := Tryz.prog) zM HA.out rfl (List.all_eq_true.1 rfl)
  go_wp2_with (first | (refine zG rfl 56 _ rfl _ _ rfl hld ?_) | (refine zaJ rfl 56 _ _ rfl _ _ rfl rfl hst ?_))
  clear hld hst
  obtain ⟨c0, c1, c2, c3, c4, c5, c6, c7, c8, c9, c10, c11, c12, c13, c14, c15⟩ := zj0 HA.out
  refine bodyPost_ret (v := .agg #[.int .i64 a0, .int .i64 k, .int .i64 r1.callP.1.client, .int .i64 r1.callP.1.seq, .int .i64 r1.callP.1.cmd.kind, .string r1.callP.1.cmd.key, .int .i64 r1.callP.1.cmd.old.kind, .float .f64 r1.callP.1.cmd.old.num, .string r1.callP.1.cmd.old.text, .int .i64 r1.callP.1.cmd.val.kind, .float .f64 r1.callP.1.cmd.val.num, .string r1.callP.1.cmd.val.text, .int .i64 0, .int .i64 0, .int .i64 0, .int .i64 0]) (by simp [results, Tryz.results139, go_sem, c0, c1, c2, c3, c4, c5, c6, c7, c8, c9, c10, c11, c12, c13, c14, c15]) rfl ?_
  rw [zkO Hints.out, if_neg He0.out, if_pos He1.out]
  exact zbY (by rw [zf7 Hints.out, Hb1.out, Hd0.out, Hd1.out]; rfl) HM.out HR.out
 have d1 : (k == 1) = false := by simpa using e1
 by_cases e2 : k = 2
 ·
  have d2 : (k == 2) = true := by simp [e2]
  have He0 := hJ e0
  have He1 := hJ e1
  have He2 := hJ e2
  have Hd0 := hJ d0
  have Hd1 := hJ d1
  have Hd2 := hJ d2
  clear e0 e1 e2
  go_wp2_with fail
  clear a1
  refine (zpM w1 S c b r1 HR.out).mono ?_
  rintro e w2 ⟨hm2, _, hok⟩
  obtain ⟨rfl, hR2⟩ := hok rfl
  replace HR := hJ hR2
  replace HM := hJ (HM.out.self hm2)
  replace HA := hJ (hm2.blk HA.out hnq)
  clear hok hR2 hm2
  go_wp2_with (refine zD rfl 23 _ _ rfl 4 q 12 [.int .i64 r1.confP.1.full, .int .i64 r1.confP.1.wit, .int .i64 r1.confP.1.learn, .int .i64 r1.confP.1.learnWit] rfl rfl xR _ _ [.int .i64 a0, .int .i64 k, .int .i64 0, .int .i64 0, .int .i64 0, .string ⟨#[]⟩, .int .i64 0, .float .f64 0, .string ⟨#[]⟩, .int .i64 0, .float .f64 0, .string ⟨#[]⟩, .int .i64 r1.confP.1.full, .int .i64 r1.confP.1.wit, .int .i64 r1.confP.1.learn, .int .i64 r1.confP.1.learnWit] HA.out rfl (by simp) (List.all_eq_true.1 rfl) rfl ?_)
  intro w3 hA4 hm4 hs4
  replace HA : Hid (w3.heap[q]? = some (.cells #[.int .i64 a0, .int .i64 k, .int .i64 0, .int .i64 0, .int .i64 0, .string ⟨#[]⟩, .int .i64 0, .float .f64 0, .string ⟨#[]⟩, .int .i64 0, .float .f64 0, .string ⟨#[]⟩, .int .i64 r1.confP.1.full, .int .i64 r1.confP.1.wit, .int .i64 r1.confP.1.learn, .int .i64 r1.confP.1.learnWit] 56 (0, 0))) := hJ hA4
  replace HR := hJ (HR.out.mod hm4 (fun g hg e => Hnq.out (e ▸ hg)) hcq)
  replace HM := hJ (jZ HM.out hm4 Hqw.out)
  clear hA4 hm4 hs4
  have hld := zF (P := Tryz.prog) (o := 0) (cs := [.int .i64 a0, .int .i64 k, .int .i64 0, .int .i64 0, .int .i64 0, .string ⟨#[]⟩, .int .i64 0, .float .f64 0, .string ⟨#[]⟩, .int .i64 0, .float .f64 0, .string ⟨#[]⟩, .int .i64 r1.confP.1.full, .int .i64 r1.confP.1.wit, .int .i64 r1.confP.1.learn, .int .i64 r1.confP.1.learnWit]) zM HA.out rfl (fun j u hu => by rw [Nat.zero_add]; exact hu)
  have hst := zaD (P := Tryz.prog) zM HA.out rfl (List.all_eq_true.1 rfl)
  go_wp2_with (first | (refine zG rfl 56 _ rfl _ _ rfl hld ?_) | (refine zaJ rfl 56 _ _ rfl _ _ rfl rfl hst ?_))
  clear hld hst
  obtain ⟨c0, c1, c2, c3, c4, c5, c6, c7, c8, c9, c10, c11, c12, c13, c14, c15⟩ := zj0 HA.out
  refine bodyPost_ret (v := .agg #[.int .i64 a0, .int .i64 k, .int .i64 0, .int .i64 0, .int .i64 0, .string ⟨#[]⟩, .int .i64 0, .float .f64 0, .string ⟨#[]⟩, .int .i64 0, .float .f64 0, .string ⟨#[]⟩, .int .i64 r1.confP.1.full, .int .i64 r1.confP.1.wit, .int .i64 r1.confP.1.learn, .int .i64 r1.confP.1.learnWit]) (by simp [results, Tryz.results139, go_sem, c0, c1, c2, c3, c4, c5, c6, c7, c8, c9, c10, c11, c12, c13, c14, c15]) rfl ?_
  rw [zkO Hints.out, if_neg He0.out, if_neg He1.out, if_pos He2.out]
  exact zbY (by rw [zf7 Hints.out, Hd0.out, Hd1.out, Hd2.out]; rfl) HM.out HR.out
 have d2 : (k == 2) = false := by simpa using e2
 have Hb : Hid (r.entT = true) := hJ (by rw [zf7 Hints.out, d0, d1, d2]; rfl)
 clear e0 e1 e2
 go_wp2_with fail
 refine (zaI _).mono ?_
 rintro e w' ⟨rfl, rfl⟩
 exact ⟨rfl, zbQ Hb.out HM.out⟩
section
variable {P : Program} {w w' : World} {ops : Array Oper} {rest : List Oper} {o : Oper} {a : Act} {Q : Exit → Act → World → Prop}
theorem xO (hw : Region.wanted o (yielded ops a.tmps) = true) (t : TypeId) (x : Operand) (ho : o.op = .load t x) (xv v : Value) (hx : a.eval x = xv) (hr : (Instr.loadAt t xv).run P w = .ok v w)
  (h : wpList P ops Q rest (a.put o.dst v) w) : wpList P ops Q (o :: rest) a w :=
 wpList_step fun _ hK => by
  rw [if_pos hw]
  unfold Oper.wp execOp
  simp only [ho, hx, Sem.run_bind, Sem.run_pure, hr, Result.andThen_ok]
  exact hK _ _ h
theorem yD (t : TypeId) (x : Operand) (ho : o.op = .load t x) (xv v : Value) (hx : a.eval x = xv) (hr : (Instr.loadAt t xv).run P w = .ok v w) : (execOp a.eval o).run P w = .ok (.value v) w := by
 unfold execOp
 simp only [ho, hx, Sem.run_bind, Sem.run_pure, hr, Result.andThen_ok]
theorem jQ {K : Act → World → Prop} {E : Prop} (hgd : o.guard = none) (t : TypeId) (p x : Operand) (ho : o.op = .store t p x) (k g f : Nat) (vs : List Value) (hp : a.eval p = .pointer (some ⟨g, f, none⟩)) (hx : a.eval x = .agg vs.toArray) (hs : Str P t k)
  (e : TypeId) (cur cur' : List Value) (hg : w.heap[g]? = some (.cells cur.toArray e (0, 0))) (hc : vs.length = k) (hfit : f + k ≤ cur.length) (h1 : ∀ v ∈ vs, v.oneCell' = true) (hcur : put cur f vs = cur')
  (h : ∀ w', w'.heap[g]? = some (.cells cur'.toArray e (0, 0)) → Mod (fun k => k = g) w w' → w'.heap.size = w.heap.size → K (a.put o.dst undef) w') : if Region.wanted o (yielded ops a.tmps) = true then Oper.wp P o a w K Q else E := by
 have hw : Region.wanted o (yielded ops a.tmps) = true := by simp [Region.wanted, hgd]
 rw [if_pos hw]
 unfold Oper.wp execOp
 simp only [ho, hp, hx, Sem.run_bind, Sem.run_pure, zfZ hs hg hc hfit h1, Result.andThen_ok]
 refine h _ ?_ ?_ ?_
 · rw [hcur]; exact setRow_heap w g _ _ e _ hg
 · exact ⟨rfl, rfl, rfl, by simp, fun k hk hn => setRow_other w g k _ hn⟩
 simp
end
theorem zl7 (term t : Int) (x : zI) (l : List zI) : zdK term t (x :: l) = (decide (t ≤ x.term) && decide (x.term ≤ term) && xB x && zdK term x.term l) := rfl
theorem zjE (w : World) (T : Nat → Prop) (v : Value) (l : List zI) (b term : Int) (h : zbJ w T v l) (hl : l.length ≤ 1000000) :
  Calls Tryz.prog 67 #[v, .int .i64 b, .int .i64 term] w fun e w' => e = .returned (.bool (zdK term (max b 1) l)) ∧ Ext w w' := by
 obtain ⟨n, hn⟩ : ∃ n, l.length = n := ⟨_, rfl⟩
 obtain ⟨A, c, rfl⟩ := h.1.form
 rw [hn] at h hl ⊢
 obtain ⟨r, hr⟩ : ∃ r, zdK term (max b 1) l = r := ⟨_, rfl⟩
 rw [hr]
 have Hn := hJ hn
 have H := hJ h
 have Hr := hJ hr
 clear hn h hr
 by_cases hb : b < 1
 focus
  have hm : max b 1 = 1 := by omega
 rotate_left
 focus
  have hm : max b 1 = b := by omega
 all_goals
  rw [hm] at Hr
  clear hm
  go_enter Tryz.func67, Tryz.ntmps67
  go_wp2_with fail
  go_loopw [7, 14] (fun tv iv wr => ∃ (i : Nat) (t : Int), i ≤ n ∧ iv = .int .i64 i ∧ tv = .int .i64 t ∧ zdK term t (l.drop i) = r ∧ Ext w wr) (fun _ iv _ => n - (intOf iv).toNat)
  case atStart => exact ⟨0, _, by omega, rfl, rfl, by simpa using Hr.out, Mod.refl _ _⟩
  obtain ⟨i, t, hin, rfl, rfl, hrow, hX⟩ := hrel
  have HX := hJ hX
  by_cases hi : i < n
  case neg =>
   have e : i = n := by omega
   subst e
   have Hf : Hid (r = true) := hJ (by rw [← hrow, List.drop_of_length_le (by rw [Hn.out]; exact Nat.le_refl _)]; rfl)
   clear hrow hX
   go_wp2
   go_ret
   exact ⟨by rw [Hf.out]; rfl, HX.out⟩
  obtain ⟨g, off, x, rfl, hgT, hx, hxok, hcells⟩ := (H.out.mod hX (fun _ _ => id)).at hi
  have hd : l.drop i = x :: l.drop (i + 1) := by
   obtain ⟨h1, h2⟩ := List.getElem?_eq_some_iff.1 hx
   rw [List.drop_eq_getElem_cons h1, h2]
  rw [hd, zl7] at hrow
  have hld := jE (P := Tryz.prog) (o := off + i * 16) (cs := x.cells) zM rfl hcells
  have i0 : (0 : Int) ≤ (i : Int) := by omega
  have i1 : (i : Int) < (n : Int) := by omega
  have hz : (wr.alloc (.cells zE.toArray 56)).heap[wr.heap.size]? = some (.cells zE.toArray 56 (0, 0)) := heap_alloc_new wr _
  have Hrow := hJ hrow
  clear hx hxok hcells hgT hd hrow hX
  go_wp2_with (first | (refine zG rfl 56 _ rfl _ _ rfl hld ?_) | (refine zD rfl 56 _ _ rfl 16 wr.heap.size 0 x.cells rfl rfl zM _ zE x.cells hz rfl (by simp) (by simpa using xX [x]) rfl ?_))
  intro w2 hb2 hm2 hs2
  have hE2 : Ext wr w2 := ((Mod.refl _ wr).alloc _).trans hm2 (fun k hk e => by omega)
  have HX2 := hJ (HX.out.ext hE2)
  have hcs : ∀ j u, x.cells[j]? = some u → w2.cell? ⟨wr.heap.size, j, none⟩ = some u := fun j u hu => zB hb2 hu
  have hld2 := zF (P := Tryz.prog) (o := 0) (cs := x.cells) zM hb2 rfl (fun j u hu => by rw [Nat.zero_add]; exact hu)
  have x0 := hcs 0 _ rfl
  have Hcs := hJ hcs
  clear hz hld hm2 hs2 hb2 hE2 hcs
  by_cases h1 : x.term < t
  ·
   have Hf : Hid (r = false) := hJ (by rw [← Hrow.out, decide_eq_false (by omega)]; rfl)
   go_wp2
   go_ret
   exact ⟨by rw [Hf.out]; rfl, HX2.out⟩
  by_cases h2 : term < x.term
  ·
   have Hf : Hid (r = false) := hJ (by rw [← Hrow.out, decide_eq_false (show ¬ x.term ≤ term by omega), Bool.and_false]; rfl)
   go_wp2
   go_ret
   exact ⟨by rw [Hf.out]; rfl, HX2.out⟩
  go_wp2_with (refine xO (by rfl) 56 _ rfl _ _ rfl hld2 ?_)
  refine (l_entry x w2).mono ?_
  rintro e w3 ⟨rfl, hE3⟩
  have y0 : w3.cell? ⟨wr.heap.size, 0, none⟩ = some (.int .i64 x.term) := hE3.cell (Hcs.out 0 _ rfl) id
  have HX3 := hJ (HX2.out.ext hE3)
  clear hE3 hld2 x0
  rcases hb : xB x with _ | _
  ·
   have Hf : Hid (r = false) := hJ (by rw [← Hrow.out, hb, Bool.and_false]; rfl)
   go_wp2
   go_ret
   exact ⟨by rw [Hf.out]; rfl, HX3.out⟩
  have Hs : Hid (zdK term x.term (l.drop (i + 1)) = r) := hJ (by rw [← Hrow.out, hb, decide_eq_true (show t ≤ x.term by omega), decide_eq_true (show x.term ≤ term by omega)]; rfl)
  go_wp2
  exact ⟨⟨i + 1, _, by omega, by go_num, rfl, Hs.out, HX3.out⟩, by simp [intOf]; omega⟩
theorem zpN (w : World) (T : Nat → Prop) (v : Value) (l : List zI) (b term : Int) (h : zbJ w T v l) (hl : l.length ≤ 1000000) :
  Calls Tryz.prog 79 #[v, .int .i64 b, .int .i64 term] w fun e w' => e = .returned (.bool (zdK term (max b 1) l)) ∧ Ext w w' := by
 obtain ⟨n, hn⟩ : ∃ n, l.length = n := ⟨_, rfl⟩
 obtain ⟨A, c, rfl⟩ := h.1.form
 rw [hn] at h hl ⊢
 obtain ⟨r, hr⟩ : ∃ r, zdK term (max b 1) l = r := ⟨_, rfl⟩
 rw [hr]
 have Hn := hJ hn
 have H := hJ h
 have Hr := hJ hr
 clear hn h hr
 go_enter Tryz.func79, Tryz.ntmps79
 go_wp2_with fail
 go_loopw [1, 7] (fun tv iv wr => ∃ (i : Nat) (t : Int), i ≤ n ∧ tv = .int .i64 t ∧ iv = .int .i64 i ∧ zdK term (max t 1) (l.drop i) = r ∧ Ext w wr) (fun _ iv _ => n - (intOf iv).toNat)
 case atStart => exact ⟨0, _, by omega, rfl, rfl, by simpa using Hr.out, Mod.refl _ _⟩
 obtain ⟨i, t, hin, rfl, rfl, hrow, hX⟩ := hrel
 have HX := hJ hX
 by_cases hi : i < n
 case neg =>
  have e : i = n := by omega
  subst e
  have Hf : Hid (r = true) := hJ (by rw [← hrow, List.drop_of_length_le (by rw [Hn.out]; exact Nat.le_refl _)]; rfl)
  clear hrow hX
  go_wp2
  go_ret
  exact ⟨by rw [Hf.out]; rfl, HX.out⟩
 obtain ⟨g, off, x, rfl, hgT, hx, hxok, hcells⟩ := (H.out.mod hX (fun _ _ => id)).at hi
 have hd : l.drop i = x :: l.drop (i + 1) := by
  obtain ⟨h1, h2⟩ := List.getElem?_eq_some_iff.1 hx
  rw [List.drop_eq_getElem_cons h1, h2]
 rw [hd, zl7] at hrow
 have hld := jE (P := Tryz.prog) (o := off + i * 16) (cs := x.cells) zM rfl hcells
 have x0 := hcells 0 _ rfl
 rw [Nat.add_zero] at x0
 have i0 : (0 : Int) ≤ (i : Int) := by omega
 have i1 : (i : Int) < (n : Int) := by omega
 have Hrow := hJ hrow
 clear hx hxok hcells hgT hd hrow hX
 by_cases hb : t < 1
 ·
  rw [show max t 1 = 1 by omega] at Hrow
  go_wp2_with fail
  refine (xQ x.term 1 term wr).mono ?_
  rintro e w2 ⟨rfl, rfl⟩
  by_cases h1 : x.term < 1
  ·
   have Hf : Hid (r = false) := hJ (by rw [← Hrow.out, decide_eq_false (by omega)]; rfl)
   have d1 : decide (1 ≤ x.term) = false := decide_eq_false (by omega)
   rw [d1, Bool.false_and]
   go_wp2
   go_ret
   exact ⟨by rw [Hf.out]; rfl, HX.out⟩
  have d1 : decide (1 ≤ x.term) = true := decide_eq_true (by omega)
  rw [d1, Bool.true_and]
  by_cases h2 : term < x.term
  ·
   have Hf : Hid (r = false) := hJ (by rw [← Hrow.out, decide_eq_false (show ¬ x.term ≤ term by omega), Bool.and_false]; rfl)
   have d2 : decide (x.term ≤ term) = false := decide_eq_false (by omega)
   rw [d2]
   go_wp2
   go_ret
   exact ⟨by rw [Hf.out]; rfl, HX.out⟩
  have d2 : decide (x.term ≤ term) = true := decide_eq_true (by omega)
  rw [d2]
  go_wp2_with (refine xO (by rfl) 56 _ rfl _ _ rfl hld ?_)
  refine (zlV x wr).mono ?_
  rintro e w3 ⟨rfl, hE3⟩
  have y0 := hE3.cell x0 id
  have HX3 := hJ (HX.out.ext hE3)
  clear hE3 hld x0
  rcases hb : xB x with _ | _
  ·
   have Hf : Hid (r = false) := hJ (by rw [← Hrow.out, hb, Bool.and_false]; rfl)
   go_wp2
   go_ret
   exact ⟨by rw [Hf.out]; rfl, HX3.out⟩
  have Hs : Hid (zdK term x.term (l.drop (i + 1)) = r) := hJ (by rw [← Hrow.out, hb, decide_eq_true (show 1 ≤ x.term by omega), decide_eq_true (show x.term ≤ term by omega)]; rfl)
  go_wp2
  exact ⟨⟨i + 1, _, by omega, rfl, by go_num, by rw [show max x.term 1 = x.term by omega]; exact Hs.out, HX3.out⟩, by simp [intOf]; omega⟩
 rw [show max t 1 = t by omega] at Hrow
 go_wp2_with fail
 refine (xQ x.term t term wr).mono ?_
 rintro e w2 ⟨rfl, rfl⟩
 by_cases h1 : x.term < t
 ·
  have Hf : Hid (r = false) := hJ (by rw [← Hrow.out, decide_eq_false (by omega)]; rfl)
  have d1 : decide (t ≤ x.term) = false := decide_eq_false (by omega)
  rw [d1, Bool.false_and]
  go_wp2
  go_ret
  exact ⟨by rw [Hf.out]; rfl, HX.out⟩
 have d1 : decide (t ≤ x.term) = true := decide_eq_true (by omega)
 rw [d1, Bool.true_and]
 by_cases h2 : term < x.term
 ·
  have Hf : Hid (r = false) := hJ (by rw [← Hrow.out, decide_eq_false (show ¬ x.term ≤ term by omega), Bool.and_false]; rfl)
  have d2 : decide (x.term ≤ term) = false := decide_eq_false (by omega)
  rw [d2]
  go_wp2
  go_ret
  exact ⟨by rw [Hf.out]; rfl, HX.out⟩
 have d2 : decide (x.term ≤ term) = true := decide_eq_true (by omega)
 rw [d2]
 go_wp2_with (refine xO (by rfl) 56 _ rfl _ _ rfl hld ?_)
 refine (zlV x wr).mono ?_
 rintro e w3 ⟨rfl, hE3⟩
 have y0 := hE3.cell x0 id
 have HX3 := hJ (HX.out.ext hE3)
 clear hE3 hld x0
 rcases hb : xB x with _ | _
 ·
  have Hf : Hid (r = false) := hJ (by rw [← Hrow.out, hb, Bool.and_false]; rfl)
  go_wp2
  go_ret
  exact ⟨by rw [Hf.out]; rfl, HX3.out⟩
 have Hs : Hid (zdK term x.term (l.drop (i + 1)) = r) := hJ (by rw [← Hrow.out, hb, decide_eq_true (show t ≤ x.term by omega), decide_eq_true (show x.term ≤ term by omega)]; rfl)
 go_wp2
 exact ⟨⟨i + 1, _, by omega, rfl, by go_num, by rw [show max x.term 1 = x.term by omega]; exact Hs.out, HX3.out⟩, by simp [intOf]; omega⟩
end Go.Proofs.YtjhnlncgmejkcaaGreat
