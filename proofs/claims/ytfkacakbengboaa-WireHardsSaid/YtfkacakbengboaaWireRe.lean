/-
 Contracts of wire.reader: conf, call, entry. Conditions: as each theorem names them.
-/
import Derived.Test.YtfkacakbengboaaWireRd
namespace Go.Proofs.Ytfkacakbengboaa
set_option linter.unusedSimpArgs false
open Go.RowKit

theorem sl_ptrs (w : World) (q k : Nat) (e : TypeId) (cs : Array Value) (hc : cs = (ptrs q k).toArray) (hk : k ≤ 100) :
  Sl (w.alloc (.cells cs e)) (fun g => g = w.heap.size) 1 (.slice (some ⟨w.heap.size, 0, none⟩) k k) k (ptrs q k) := by
 subst hc
 have hl : (ptrs q k).length = k := by simp [ptrs]
 refine ⟨by rw [hl, Nat.mul_one], _, _, rfl, Nat.le_refl _, by simp only [maxLen]; omega, fun _ => ⟨_, 0, rfl, rfl, fun j u hu => ?_⟩⟩
 rw [cell_of_row _ _ _ _ _ _ (heap_alloc_new w _), Nat.zero_add]
 simpa using hu
theorem ints2 (r : RS) : ∃ a0 a1 r1, RS.ints 2 r = ([a0, a1], r1) := ⟨_, _, _, rfl⟩
theorem ints3 (r : RS) : ∃ a0 a1 a2 r1, RS.ints 3 r = ([a0, a1, a2], r1) := ⟨_, _, _, _, rfl⟩
theorem ints4 (r : RS) : ∃ a0 a1 a2 a3 r1, RS.ints 4 r = ([a0, a1, a2, a3], r1) := ⟨_, _, _, _, _, rfl⟩
theorem callP_eq {r r1 : RS} {a0 a1 a2 : Int} (h : RS.ints 3 r = ([a0, a1, a2], r1)) : r.callP = (⟨a0, a1, ⟨a2, ⟨r1.text.1.toArray⟩, r1.text.2.valP.1, r1.text.2.valP.2.valP.1⟩⟩, r1.text.2.valP.2.valP.2) := by
 simp only [RS.ints, Prod.mk.injEq, List.cons.injEq, and_true] at h
 obtain ⟨⟨rfl, rfl, rfl⟩, rfl⟩ := h
 rfl
theorem callT_eq {r r1 : RS} {a0 a1 a2 : Int} (h : RS.ints 3 r = ([a0, a1, a2], r1)) : r.callT = (r1.text.2.valT || r1.text.2.valP.2.valT) := by
 simp only [RS.ints, Prod.mk.injEq, List.cons.injEq, and_true] at h
 obtain ⟨⟨rfl, rfl, rfl⟩, rfl⟩ := h
 rfl
theorem confP_eq {r r1 : RS} {a0 a1 a2 a3 : Int} (h : RS.ints 4 r = ([a0, a1, a2, a3], r1)) : r.confP = (⟨a0, a1, a2, a3⟩, r1) := by
 simp only [RS.ints, Prod.mk.injEq, List.cons.injEq, and_true] at h
 obtain ⟨⟨rfl, rfl, rfl, rfl⟩, rfl⟩ := h
 rfl
theorem entP_eq {r r1 : RS} {a0 k : Int} (h : RS.ints 2 r = ([a0, k], r1)) : r.entP = (if k = 0 then (⟨a0, k, ACall.zero, AConf.zero⟩, r1) else if k = 1 then (⟨a0, k, r1.callP.1, AConf.zero⟩, r1.callP.2) else if k = 2 then (⟨a0, k, ACall.zero, r1.confP.1⟩, r1.confP.2) else (⟨a0, k, ACall.zero, AConf.zero⟩, r1.fail 3)) := by
 simp only [RS.ints, Prod.mk.injEq, List.cons.injEq, and_true] at h
 obtain ⟨⟨rfl, rfl⟩, rfl⟩ := h
 rfl
theorem entT_eq {r r1 : RS} {a0 k : Int} (h : RS.ints 2 r = ([a0, k], r1)) : r.entT = (!(k == 0 || k == 1 || k == 2) || (k == 1 && r1.callT)) := by
 simp only [RS.ints, Prod.mk.injEq, List.cons.injEq, and_true] at h
 obtain ⟨⟨rfl, rfl⟩, rfl⟩ := h
 rfl
theorem str_val : Str Try.prog 38 3 := ⟨⟨_, Try.underlying38⟩, by kernel_rfl⟩
theorem str_call : Str Try.prog 42 10 := ⟨⟨_, Try.underlying42⟩, by kernel_rfl⟩
theorem str_conf : Str Try.prog 24 4 := ⟨⟨_, Try.underlying24⟩, by kernel_rfl⟩
theorem str_entry : Str Try.prog 44 16 := ⟨⟨_, Try.underlying44⟩, by kernel_rfl⟩
set_option maxRecDepth 100000 in
set_option maxHeartbeats 2000000 in
theorem wr_conf (w : World) (S : Nat → Prop) (c b : Nat) (r : RS) (h : Rw w S c b r) :
  Calls Try.prog 79 #[.pointer (some ⟨c, 0, none⟩)] w (ROut w S c b false (.agg #[.int .i64 r.confP.1.full, .int .i64 r.confP.1.wit, .int .i64 r.confP.1.learn, .int .i64 r.confP.1.learnWit]) r.confP.2) := by
 obtain ⟨q, hq⟩ : ∃ q, w.heap.size = q := ⟨_, rfl⟩
 obtain ⟨W, hW⟩ : ∃ W, W = w.alloc (.cells #[.int .i64 0, .int .i64 0, .int .i64 0, .int .i64 0] 24) := ⟨_, rfl⟩
 have hE : Ext w W := by rw [hW]; exact (Mod.refl _ w).alloc _
 have hA : W.heap[q]? = some (.cells #[.int .i64 0, .int .i64 0, .int .i64 0, .int .i64 0] 24 (0, 0)) := by rw [hW, ← hq]; exact heap_alloc_new w _
 have hsz : W.heap.size = q + 1 := by rw [hW, ← hq]; simp
 have hnq : ¬ S q := fun e => by have := h.2.2.2 q e; omega
 have hcq : ¬ c = q := by have := h.lt; omega
 have hqc : ¬ q = c := by omega
 have Hnq := Lib.hid hnq
 have HR : Hid (Rw W S c b r) := Lib.hid (h.ext hE)
 have HM : Hid (Mod S w W) := Lib.hid (hE.mod S)
 have HA := Lib.hid hA
 have HW := Lib.hid hW
 have Hq := Lib.hid hq
 have hqw : w.heap.size ≤ q := by omega
 have Hqw := Lib.hid hqw
 have Hsz := Lib.hid hsz
 have rl := h.lt
 clear hW hq hE h hA hsz hqw
 go_enter Try.func79, Try.ntmps79
 go_wp2_with fail
 rw [← HW.out, Hq.out]
 have hE1 : Ext W (W.alloc (.cells #[.pointer (some ⟨q, 0, none⟩), .pointer (some ⟨q, 1, none⟩), .pointer (some ⟨q, 2, none⟩), .pointer (some ⟨q, 3, none⟩)] 122)) := (Mod.refl _ W).alloc _
 have hsl := sl_ptrs W q 4 122 #[.pointer (some ⟨q, 0, none⟩), .pointer (some ⟨q, 1, none⟩), .pointer (some ⟨q, 2, none⟩), .pointer (some ⟨q, 3, none⟩)] rfl (by omega)
 rw [Hsz.out] at hsl
 refine (wr_into _ S _ c b q r 4 [.int .i64 0, .int .i64 0, .int .i64 0, .int .i64 0] [] 24 _ (HR.out.ext hE1) (hE1.blk HA.out id) rfl (by omega) hsl (fun g e => by
  subst e
  intro hh
  rcases hh with hh | hh
  ·
   have := HR.out.2.2.2 _ hh; have := Hsz.out; omega
  ·
   omega) hnq hcq).mono ?_
 rintro e w1 ⟨rfl, hR1, hA1, hm1⟩
 obtain ⟨a0, a1, a2, a3, r1, hints⟩ := ints4 r
 rw [hints] at hR1 hA1
 replace hA1 : w1.heap[q]? = some (.cells #[.int .i64 a0, .int .i64 a1, .int .i64 a2, .int .i64 a3] 24 (0, 0)) := hA1
 replace HA := Lib.hid hA1
 replace HM : Hid (Mod S w w1) := Lib.hid ((HM.out.ext hE1).trans hm1 (fun i hi e => by
  rcases e with e | e
  ·
   exact e
  ·
   have := Hqw.out; omega))
 replace HR := Lib.hid hR1
 have Hints := Lib.hid hints
 clear HW Hsz hE1 hsl hR1 hA1 hm1 hints
 have hld := load_row (P := Try.prog) (o := 0) (cs := [.int .i64 a0, .int .i64 a1, .int .i64 a2, .int .i64 a3]) str_conf HA.out rfl (fun j u hu => by rw [Nat.zero_add]; exact hu)
 have hst := store_self (P := Try.prog) str_conf HA.out rfl (List.all_eq_true.1 rfl)
 go_wp2_with (first | (refine wpList_ld rfl 24 _ rfl _ _ rfl hld ?_) | (refine wpList_st rfl 24 _ _ rfl _ _ rfl rfl hst ?_))
 clear hld hst
 obtain ⟨c0, c1, c2, c3⟩ := cq4 HA.out
 refine bodyPost_ret (v := .agg #[.int .i64 a0, .int .i64 a1, .int .i64 a2, .int .i64 a3]) (by simp [results, Try.results79, go_sem, c0, c1, c2, c3]) rfl ?_
 rw [confP_eq Hints.out]
 exact rout_ok (rfl) HM.out HR.out
set_option maxRecDepth 100000 in
set_option maxHeartbeats 2000000 in
theorem wr_call (w : World) (S : Nat → Prop) (c b : Nat) (r : RS) (h : Rw w S c b r) :
  Calls Try.prog 78 #[.pointer (some ⟨c, 0, none⟩)] w (ROut w S c b r.callT (.agg #[.int .i64 r.callP.1.client, .int .i64 r.callP.1.seq, .int .i64 r.callP.1.cmd.kind, .string r.callP.1.cmd.key, .int .i64 r.callP.1.cmd.old.kind, .float .f64 r.callP.1.cmd.old.num, .string r.callP.1.cmd.old.text, .int .i64 r.callP.1.cmd.val.kind, .float .f64 r.callP.1.cmd.val.num, .string r.callP.1.cmd.val.text]) r.callP.2) := by
 obtain ⟨q, hq⟩ : ∃ q, w.heap.size = q := ⟨_, rfl⟩
 obtain ⟨W, hW⟩ : ∃ W, W = w.alloc (.cells #[.int .i64 0, .int .i64 0, .int .i64 0, .string ⟨#[]⟩, .int .i64 0, .float .f64 0, .string ⟨#[]⟩, .int .i64 0, .float .f64 0, .string ⟨#[]⟩] 42) := ⟨_, rfl⟩
 have hE : Ext w W := by rw [hW]; exact (Mod.refl _ w).alloc _
 have hA : W.heap[q]? = some (.cells #[.int .i64 0, .int .i64 0, .int .i64 0, .string ⟨#[]⟩, .int .i64 0, .float .f64 0, .string ⟨#[]⟩, .int .i64 0, .float .f64 0, .string ⟨#[]⟩] 42 (0, 0)) := by rw [hW, ← hq]; exact heap_alloc_new w _
 have hsz : W.heap.size = q + 1 := by rw [hW, ← hq]; simp
 have hnq : ¬ S q := fun e => by have := h.2.2.2 q e; omega
 have hcq : ¬ c = q := by have := h.lt; omega
 have hqc : ¬ q = c := by omega
 have Hnq := Lib.hid hnq
 have HR : Hid (Rw W S c b r) := Lib.hid (h.ext hE)
 have HM : Hid (Mod S w W) := Lib.hid (hE.mod S)
 have HA := Lib.hid hA
 have HW := Lib.hid hW
 have Hq := Lib.hid hq
 have hqw : w.heap.size ≤ q := by omega
 have Hqw := Lib.hid hqw
 have Hsz := Lib.hid hsz
 have rl := h.lt
 clear hW hq hE h hA hsz hqw
 go_enter Try.func78, Try.ntmps78
 go_wp2_with fail
 rw [← HW.out, Hq.out]
 have hE1 : Ext W (W.alloc (.cells #[.pointer (some ⟨q, 0, none⟩), .pointer (some ⟨q, 1, none⟩), .pointer (some ⟨q, 2, none⟩)] 122)) := (Mod.refl _ W).alloc _
 have hsl := sl_ptrs W q 3 122 #[.pointer (some ⟨q, 0, none⟩), .pointer (some ⟨q, 1, none⟩), .pointer (some ⟨q, 2, none⟩)] rfl (by omega)
 rw [Hsz.out] at hsl
 refine (wr_into _ S _ c b q r 3 [.int .i64 0, .int .i64 0, .int .i64 0] [.string ⟨#[]⟩, .int .i64 0, .float .f64 0, .string ⟨#[]⟩, .int .i64 0, .float .f64 0, .string ⟨#[]⟩] 42 _ (HR.out.ext hE1) (hE1.blk HA.out id) rfl (by omega) hsl (fun g e => by
  subst e
  intro hh
  rcases hh with hh | hh
  ·
   have := HR.out.2.2.2 _ hh; have := Hsz.out; omega
  ·
   omega) hnq hcq).mono ?_
 rintro e w1 ⟨rfl, hR1, hA1, hm1⟩
 obtain ⟨a0, a1, a2, r1, hints⟩ := ints3 r
 rw [hints] at hR1 hA1
 replace hA1 : w1.heap[q]? = some (.cells #[.int .i64 a0, .int .i64 a1, .int .i64 a2, .string ⟨#[]⟩, .int .i64 0, .float .f64 0, .string ⟨#[]⟩, .int .i64 0, .float .f64 0, .string ⟨#[]⟩] 42 (0, 0)) := hA1
 replace HA := Lib.hid hA1
 replace HM : Hid (Mod S w w1) := Lib.hid ((HM.out.ext hE1).trans hm1 (fun i hi e => by
  rcases e with e | e
  ·
   exact e
  ·
   have := Hqw.out; omega))
 replace HR := Lib.hid hR1
 have Hints := Lib.hid hints
 clear HW Hsz hE1 hsl hR1 hA1 hm1 hints
 have rc := HR.out.cell
 go_wp2_with fail
 refine (r_text w1 S b r1 HR.out.1 HR.out.2.2.2).mono ?_
 rintro e w2 ⟨vt, rfl, hNB, hR2, hm2⟩
 clear rc
 obtain ⟨A5, c5, rfl⟩ := own_form hNB.1
 have hcv := conv_bs hNB.sl
 replace HR := Lib.hid (HR.out.step hm2 hR2)
 replace HM := Lib.hid (HM.out.self hm2)
 replace HA := Lib.hid (hm2.blk HA.out hnq)
 obtain ⟨tx, hx⟩ : ∃ x, r1.text.1 = x := ⟨_, rfl⟩
 obtain ⟨r2, hr2⟩ : ∃ r, r1.text.2 = r := ⟨_, rfl⟩
 rw [hx] at hcv ⊢
 rw [hr2] at HR
 have Hxtx := Lib.hid hx
 have Hrr2 := Lib.hid hr2
 clear hx hr2 hNB hR2 hm2
 have a3 : w2.cell? ⟨q, 3, none⟩ = some _ := blk_cell HA.out rfl
 have f3 : w2.frozen? ⟨q, 3, none⟩ = false := blk_free 3 HA.out
 obtain ⟨w3, hWn⟩ : ∃ w3, w2.setCell ⟨q, 3, none⟩ (.string ⟨tx.toArray⟩) = w3 := ⟨_, rfl⟩
 have hA4 : w3.heap[q]? = some (.cells #[.int .i64 a0, .int .i64 a1, .int .i64 a2, .string ⟨tx.toArray⟩, .int .i64 0, .float .f64 0, .string ⟨#[]⟩, .int .i64 0, .float .f64 0, .string ⟨#[]⟩] 42 (0, 0)) := by rw [← hWn]; exact blk_set HA.out 3 (.string ⟨tx.toArray⟩)
 have hm4 : Mod (fun k => k = q) w2 w3 := by rw [← hWn]; exact mod_same (Mod.refl _ _) _ _
 replace HA := Lib.hid hA4
 replace HR := Lib.hid (HR.out.mod hm4 (fun g hg e => Hnq.out (e ▸ hg)) hcq)
 replace HM := Lib.hid (mod_new HM.out hm4 Hqw.out)
 have HWn := Lib.hid hWn
 clear hA4 hm4 hWn
 go_wp2_with fail
 rw [HWn.out]
 clear HWn hcv a3 f3
 refine (wr_value w3 S c b r2 HR.out).mono ?_
 rintro e w4 ⟨hm2, hbad, hok⟩
 rcases hT : r2.valT with _ | _
 rotate_left
 ·
  obtain rfl := hbad hT
  exact ⟨rfl, rout_bad (by rw [callT_eq Hints.out, Hrr2.out, hT]; rfl) (HM.out.self hm2)⟩
 obtain ⟨rfl, hR2⟩ := hok hT
 replace HR := Lib.hid hR2
 replace HM := Lib.hid (HM.out.self hm2)
 replace HA := Lib.hid (hm2.blk HA.out hnq)
 have Hb1 := Lib.hid hT
 clear hbad hok hR2 hm2 hT
 go_wp2_with (refine wpList_stR rfl 38 _ _ rfl 3 q 4 [.int .i64 r2.valP.1.kind, .float .f64 r2.valP.1.num, .string r2.valP.1.text] rfl rfl str_val _ _ [.int .i64 a0, .int .i64 a1, .int .i64 a2, .string ⟨tx.toArray⟩, .int .i64 r2.valP.1.kind, .float .f64 r2.valP.1.num, .string r2.valP.1.text, .int .i64 0, .float .f64 0, .string ⟨#[]⟩] HA.out rfl (by simp) (List.all_eq_true.1 rfl) rfl ?_)
 intro w5 hA4 hm4 hs4
 replace HA : Hid (w5.heap[q]? = some (.cells #[.int .i64 a0, .int .i64 a1, .int .i64 a2, .string ⟨tx.toArray⟩, .int .i64 r2.valP.1.kind, .float .f64 r2.valP.1.num, .string r2.valP.1.text, .int .i64 0, .float .f64 0, .string ⟨#[]⟩] 42 (0, 0))) := Lib.hid hA4
 replace HR := Lib.hid (HR.out.mod hm4 (fun g hg e => Hnq.out (e ▸ hg)) hcq)
 replace HM := Lib.hid (mod_new HM.out hm4 Hqw.out)
 clear hA4 hm4 hs4
 go_wp2_with fail
 refine (wr_value w5 S c b r2.valP.2 HR.out).mono ?_
 rintro e w6 ⟨hm2, hbad, hok⟩
 rcases hT : r2.valP.2.valT with _ | _
 rotate_left
 ·
  obtain rfl := hbad hT
  exact ⟨rfl, rout_bad (by rw [callT_eq Hints.out, Hrr2.out, hT, Bool.or_true]) (HM.out.self hm2)⟩
 obtain ⟨rfl, hR2⟩ := hok hT
 replace HR := Lib.hid hR2
 replace HM := Lib.hid (HM.out.self hm2)
 replace HA := Lib.hid (hm2.blk HA.out hnq)
 have Hb2 := Lib.hid hT
 clear hbad hok hR2 hm2 hT
 go_wp2_with (refine wpList_stR rfl 38 _ _ rfl 3 q 7 [.int .i64 r2.valP.2.valP.1.kind, .float .f64 r2.valP.2.valP.1.num, .string r2.valP.2.valP.1.text] rfl rfl str_val _ _ [.int .i64 a0, .int .i64 a1, .int .i64 a2, .string ⟨tx.toArray⟩, .int .i64 r2.valP.1.kind, .float .f64 r2.valP.1.num, .string r2.valP.1.text, .int .i64 r2.valP.2.valP.1.kind, .float .f64 r2.valP.2.valP.1.num, .string r2.valP.2.valP.1.text] HA.out rfl (by simp) (List.all_eq_true.1 rfl) rfl ?_)
 intro w7 hA4 hm4 hs4
 replace HA : Hid (w7.heap[q]? = some (.cells #[.int .i64 a0, .int .i64 a1, .int .i64 a2, .string ⟨tx.toArray⟩, .int .i64 r2.valP.1.kind, .float .f64 r2.valP.1.num, .string r2.valP.1.text, .int .i64 r2.valP.2.valP.1.kind, .float .f64 r2.valP.2.valP.1.num, .string r2.valP.2.valP.1.text] 42 (0, 0))) := Lib.hid hA4
 replace HR := Lib.hid (HR.out.mod hm4 (fun g hg e => Hnq.out (e ▸ hg)) hcq)
 replace HM := Lib.hid (mod_new HM.out hm4 Hqw.out)
 clear hA4 hm4 hs4
 have hld := load_row (P := Try.prog) (o := 0) (cs := [.int .i64 a0, .int .i64 a1, .int .i64 a2, .string ⟨tx.toArray⟩, .int .i64 r2.valP.1.kind, .float .f64 r2.valP.1.num, .string r2.valP.1.text, .int .i64 r2.valP.2.valP.1.kind, .float .f64 r2.valP.2.valP.1.num, .string r2.valP.2.valP.1.text]) str_call HA.out rfl (fun j u hu => by rw [Nat.zero_add]; exact hu)
 have hst := store_self (P := Try.prog) str_call HA.out rfl (List.all_eq_true.1 rfl)
 go_wp2_with (first | (refine wpList_ld rfl 42 _ rfl _ _ rfl hld ?_) | (refine wpList_st rfl 42 _ _ rfl _ _ rfl rfl hst ?_))
 clear hld hst
 obtain ⟨c0, c1, c2, c3, c4, c5, c6, c7, c8, c9⟩ := cq10 HA.out
 refine bodyPost_ret (v := .agg #[.int .i64 a0, .int .i64 a1, .int .i64 a2, .string ⟨tx.toArray⟩, .int .i64 r2.valP.1.kind, .float .f64 r2.valP.1.num, .string r2.valP.1.text, .int .i64 r2.valP.2.valP.1.kind, .float .f64 r2.valP.2.valP.1.num, .string r2.valP.2.valP.1.text]) (by simp [results, Try.results78, go_sem, c0, c1, c2, c3, c4, c5, c6, c7, c8, c9]) rfl ?_
 rw [callP_eq Hints.out, Hrr2.out, Hxtx.out]
 exact rout_ok (by rw [callT_eq Hints.out, Hrr2.out, Hb1.out, Hb2.out]; rfl) HM.out HR.out
set_option maxRecDepth 100000 in
set_option maxHeartbeats 2000000 in
theorem wr_entry (w : World) (S : Nat → Prop) (c b : Nat) (r : RS) (h : Rw w S c b r) :
  Calls Try.prog 38 #[.pointer (some ⟨c, 0, none⟩)] w (ROut w S c b r.entT (.agg #[.int .i64 r.entP.1.term, .int .i64 r.entP.1.kind, .int .i64 r.entP.1.call.client, .int .i64 r.entP.1.call.seq, .int .i64 r.entP.1.call.cmd.kind, .string r.entP.1.call.cmd.key, .int .i64 r.entP.1.call.cmd.old.kind, .float .f64 r.entP.1.call.cmd.old.num, .string r.entP.1.call.cmd.old.text, .int .i64 r.entP.1.call.cmd.val.kind, .float .f64 r.entP.1.call.cmd.val.num, .string r.entP.1.call.cmd.val.text, .int .i64 r.entP.1.conf.full, .int .i64 r.entP.1.conf.wit, .int .i64 r.entP.1.conf.learn, .int .i64 r.entP.1.conf.learnWit]) r.entP.2) := by
 obtain ⟨q, hq⟩ : ∃ q, w.heap.size = q := ⟨_, rfl⟩
 obtain ⟨W, hW⟩ : ∃ W, W = w.alloc (.cells #[.int .i64 0, .int .i64 0, .int .i64 0, .int .i64 0, .int .i64 0, .string ⟨#[]⟩, .int .i64 0, .float .f64 0, .string ⟨#[]⟩, .int .i64 0, .float .f64 0, .string ⟨#[]⟩, .int .i64 0, .int .i64 0, .int .i64 0, .int .i64 0] 44) := ⟨_, rfl⟩
 have hE : Ext w W := by rw [hW]; exact (Mod.refl _ w).alloc _
 have hA : W.heap[q]? = some (.cells #[.int .i64 0, .int .i64 0, .int .i64 0, .int .i64 0, .int .i64 0, .string ⟨#[]⟩, .int .i64 0, .float .f64 0, .string ⟨#[]⟩, .int .i64 0, .float .f64 0, .string ⟨#[]⟩, .int .i64 0, .int .i64 0, .int .i64 0, .int .i64 0] 44 (0, 0)) := by rw [hW, ← hq]; exact heap_alloc_new w _
 have hsz : W.heap.size = q + 1 := by rw [hW, ← hq]; simp
 have hnq : ¬ S q := fun e => by have := h.2.2.2 q e; omega
 have hcq : ¬ c = q := by have := h.lt; omega
 have hqc : ¬ q = c := by omega
 have Hnq := Lib.hid hnq
 have HR : Hid (Rw W S c b r) := Lib.hid (h.ext hE)
 have HM : Hid (Mod S w W) := Lib.hid (hE.mod S)
 have HA := Lib.hid hA
 have HW := Lib.hid hW
 have Hq := Lib.hid hq
 have hqw : w.heap.size ≤ q := by omega
 have Hqw := Lib.hid hqw
 have Hsz := Lib.hid hsz
 have rl := h.lt
 clear hW hq hE h hA hsz hqw
 go_enter Try.func38, Try.ntmps38
 go_wp2_with fail
 rw [← HW.out, Hq.out]
 have hE1 : Ext W (W.alloc (.cells #[.pointer (some ⟨q, 0, none⟩), .pointer (some ⟨q, 1, none⟩)] 122)) := (Mod.refl _ W).alloc _
 have hsl := sl_ptrs W q 2 122 #[.pointer (some ⟨q, 0, none⟩), .pointer (some ⟨q, 1, none⟩)] rfl (by omega)
 rw [Hsz.out] at hsl
 refine (wr_into _ S _ c b q r 2 [.int .i64 0, .int .i64 0] [.int .i64 0, .int .i64 0, .int .i64 0, .string ⟨#[]⟩, .int .i64 0, .float .f64 0, .string ⟨#[]⟩, .int .i64 0, .float .f64 0, .string ⟨#[]⟩, .int .i64 0, .int .i64 0, .int .i64 0, .int .i64 0] 44 _ (HR.out.ext hE1) (hE1.blk HA.out id) rfl (by omega) hsl (fun g e => by
  subst e
  intro hh
  rcases hh with hh | hh
  ·
   have := HR.out.2.2.2 _ hh; have := Hsz.out; omega
  ·
   omega) hnq hcq).mono ?_
 rintro e w1 ⟨rfl, hR1, hA1, hm1⟩
 obtain ⟨a0, k, r1, hints⟩ := ints2 r
 rw [hints] at hR1 hA1
 replace hA1 : w1.heap[q]? = some (.cells #[.int .i64 a0, .int .i64 k, .int .i64 0, .int .i64 0, .int .i64 0, .string ⟨#[]⟩, .int .i64 0, .float .f64 0, .string ⟨#[]⟩, .int .i64 0, .float .f64 0, .string ⟨#[]⟩, .int .i64 0, .int .i64 0, .int .i64 0, .int .i64 0] 44 (0, 0)) := hA1
 replace HA := Lib.hid hA1
 replace HM : Hid (Mod S w w1) := Lib.hid ((HM.out.ext hE1).trans hm1 (fun i hi e => by
  rcases e with e | e
  ·
   exact e
  ·
   have := Hqw.out; omega))
 replace HR := Lib.hid hR1
 have Hints := Lib.hid hints
 clear HW Hsz hE1 hsl hR1 hA1 hm1 hints
 have a1 : w1.cell? ⟨q, 1, none⟩ = some _ := blk_cell HA.out rfl
 by_cases e0 : k = 0
 ·
  have d0 : (k == 0) = true := by simp [e0]
  have He0 := Lib.hid e0
  have Hd0 := Lib.hid d0
  clear e0
  have hld := load_row (P := Try.prog) (o := 0) (cs := [.int .i64 a0, .int .i64 k, .int .i64 0, .int .i64 0, .int .i64 0, .string ⟨#[]⟩, .int .i64 0, .float .f64 0, .string ⟨#[]⟩, .int .i64 0, .float .f64 0, .string ⟨#[]⟩, .int .i64 0, .int .i64 0, .int .i64 0, .int .i64 0]) str_entry HA.out rfl (fun j u hu => by rw [Nat.zero_add]; exact hu)
  have hst := store_self (P := Try.prog) str_entry HA.out rfl (List.all_eq_true.1 rfl)
  go_wp2_with (first | (refine wpList_ld rfl 44 _ rfl _ _ rfl hld ?_) | (refine wpList_st rfl 44 _ _ rfl _ _ rfl rfl hst ?_))
  clear hld hst
  obtain ⟨c0, c1, c2, c3, c4, c5, c6, c7, c8, c9, c10, c11, c12, c13, c14, c15⟩ := cq16 HA.out
  refine bodyPost_ret (v := .agg #[.int .i64 a0, .int .i64 k, .int .i64 0, .int .i64 0, .int .i64 0, .string ⟨#[]⟩, .int .i64 0, .float .f64 0, .string ⟨#[]⟩, .int .i64 0, .float .f64 0, .string ⟨#[]⟩, .int .i64 0, .int .i64 0, .int .i64 0, .int .i64 0]) (by simp [results, Try.results38, go_sem, c0, c1, c2, c3, c4, c5, c6, c7, c8, c9, c10, c11, c12, c13, c14, c15]) rfl ?_
  rw [entP_eq Hints.out, if_pos He0.out]
  exact rout_ok (by rw [entT_eq Hints.out, Hd0.out, He0.out]; rfl) HM.out HR.out
 have d0 : (k == 0) = false := by simpa using e0
 by_cases e1 : k = 1
 ·
  have d1 : (k == 1) = true := by simp [e1]
  have He0 := Lib.hid e0
  have He1 := Lib.hid e1
  have Hd0 := Lib.hid d0
  have Hd1 := Lib.hid d1
  clear e0 e1
  go_wp2_with fail
  clear a1
  refine (wr_call w1 S c b r1 HR.out).mono ?_
  rintro e w2 ⟨hm2, hbad, hok⟩
  rcases hT : r1.callT with _ | _
  rotate_left
  ·
   obtain rfl := hbad hT
   exact ⟨rfl, rout_bad (by rw [entT_eq Hints.out, hT, Hd0.out, Hd1.out]; rfl) (HM.out.self hm2)⟩
  obtain ⟨rfl, hR2⟩ := hok hT
  replace HR := Lib.hid hR2
  replace HM := Lib.hid (HM.out.self hm2)
  replace HA := Lib.hid (hm2.blk HA.out hnq)
  have Hb1 := Lib.hid hT
  clear hbad hok hR2 hm2 hT
  go_wp2_with (refine wpList_stR rfl 42 _ _ rfl 10 q 2 [.int .i64 r1.callP.1.client, .int .i64 r1.callP.1.seq, .int .i64 r1.callP.1.cmd.kind, .string r1.callP.1.cmd.key, .int .i64 r1.callP.1.cmd.old.kind, .float .f64 r1.callP.1.cmd.old.num, .string r1.callP.1.cmd.old.text, .int .i64 r1.callP.1.cmd.val.kind, .float .f64 r1.callP.1.cmd.val.num, .string r1.callP.1.cmd.val.text] rfl rfl str_call _ _ [.int .i64 a0, .int .i64 k, .int .i64 r1.callP.1.client, .int .i64 r1.callP.1.seq, .int .i64 r1.callP.1.cmd.kind, .string r1.callP.1.cmd.key, .int .i64 r1.callP.1.cmd.old.kind, .float .f64 r1.callP.1.cmd.old.num, .string r1.callP.1.cmd.old.text, .int .i64 r1.callP.1.cmd.val.kind, .float .f64 r1.callP.1.cmd.val.num, .string r1.callP.1.cmd.val.text, .int .i64 0, .int .i64 0, .int .i64 0, .int .i64 0] HA.out rfl (by simp) (List.all_eq_true.1 rfl) rfl ?_)
  intro w3 hA4 hm4 hs4
  replace HA : Hid (w3.heap[q]? = some (.cells #[.int .i64 a0, .int .i64 k, .int .i64 r1.callP.1.client, .int .i64 r1.callP.1.seq, .int .i64 r1.callP.1.cmd.kind, .string r1.callP.1.cmd.key, .int .i64 r1.callP.1.cmd.old.kind, .float .f64 r1.callP.1.cmd.old.num, .string r1.callP.1.cmd.old.text, .int .i64 r1.callP.1.cmd.val.kind, .float .f64 r1.callP.1.cmd.val.num, .string r1.callP.1.cmd.val.text, .int .i64 0, .int .i64 0, .int .i64 0, .int .i64 0] 44 (0, 0))) := Lib.hid hA4
  replace HR := Lib.hid (HR.out.mod hm4 (fun g hg e => Hnq.out (e ▸ hg)) hcq)
  replace HM := Lib.hid (mod_new HM.out hm4 Hqw.out)
  clear hA4 hm4 hs4
  have hld := load_row (P := Try.prog) (o := 0) (cs := [.int .i64 a0, .int .i64 k, .int .i64 r1.callP.1.client, .int .i64 r1.callP.1.seq, .int .i64 r1.callP.1.cmd.kind, .string r1.callP.1.cmd.key, .int .i64 r1.callP.1.cmd.old.kind, .float .f64 r1.callP.1.cmd.old.num, .string r1.callP.1.cmd.old.text, .int .i64 r1.callP.1.cmd.val.kind, .float .f64 r1.callP.1.cmd.val.num, .string r1.callP.1.cmd.val.text, .int .i64 0, .int .i64 0, .int .i64 0, .int .i64 0]) str_entry HA.out rfl (fun j u hu => by rw [Nat.zero_add]; exact hu)
  have hst := store_self (P := Try.prog) str_entry HA.out rfl (List.all_eq_true.1 rfl)
  go_wp2_with (first | (refine wpList_ld rfl 44 _ rfl _ _ rfl hld ?_) | (refine wpList_st rfl 44 _ _ rfl _ _ rfl rfl hst ?_))
  clear hld hst
  obtain ⟨c0, c1, c2, c3, c4, c5, c6, c7, c8, c9, c10, c11, c12, c13, c14, c15⟩ := cq16 HA.out
  refine bodyPost_ret (v := .agg #[.int .i64 a0, .int .i64 k, .int .i64 r1.callP.1.client, .int .i64 r1.callP.1.seq, .int .i64 r1.callP.1.cmd.kind, .string r1.callP.1.cmd.key, .int .i64 r1.callP.1.cmd.old.kind, .float .f64 r1.callP.1.cmd.old.num, .string r1.callP.1.cmd.old.text, .int .i64 r1.callP.1.cmd.val.kind, .float .f64 r1.callP.1.cmd.val.num, .string r1.callP.1.cmd.val.text, .int .i64 0, .int .i64 0, .int .i64 0, .int .i64 0]) (by simp [results, Try.results38, go_sem, c0, c1, c2, c3, c4, c5, c6, c7, c8, c9, c10, c11, c12, c13, c14, c15]) rfl ?_
  rw [entP_eq Hints.out, if_neg He0.out, if_pos He1.out]
  exact rout_ok (by rw [entT_eq Hints.out, Hb1.out, Hd0.out, Hd1.out]; rfl) HM.out HR.out
 have d1 : (k == 1) = false := by simpa using e1
 by_cases e2 : k = 2
 ·
  have d2 : (k == 2) = true := by simp [e2]
  have He0 := Lib.hid e0
  have He1 := Lib.hid e1
  have He2 := Lib.hid e2
  have Hd0 := Lib.hid d0
  have Hd1 := Lib.hid d1
  have Hd2 := Lib.hid d2
  clear e0 e1 e2
  go_wp2_with fail
  clear a1
  refine (wr_conf w1 S c b r1 HR.out).mono ?_
  rintro e w2 ⟨hm2, _, hok⟩
  obtain ⟨rfl, hR2⟩ := hok rfl
  replace HR := Lib.hid hR2
  replace HM := Lib.hid (HM.out.self hm2)
  replace HA := Lib.hid (hm2.blk HA.out hnq)
  clear hok hR2 hm2
  go_wp2_with (refine wpList_stR rfl 24 _ _ rfl 4 q 12 [.int .i64 r1.confP.1.full, .int .i64 r1.confP.1.wit, .int .i64 r1.confP.1.learn, .int .i64 r1.confP.1.learnWit] rfl rfl str_conf _ _ [.int .i64 a0, .int .i64 k, .int .i64 0, .int .i64 0, .int .i64 0, .string ⟨#[]⟩, .int .i64 0, .float .f64 0, .string ⟨#[]⟩, .int .i64 0, .float .f64 0, .string ⟨#[]⟩, .int .i64 r1.confP.1.full, .int .i64 r1.confP.1.wit, .int .i64 r1.confP.1.learn, .int .i64 r1.confP.1.learnWit] HA.out rfl (by simp) (List.all_eq_true.1 rfl) rfl ?_)
  intro w3 hA4 hm4 hs4
  replace HA : Hid (w3.heap[q]? = some (.cells #[.int .i64 a0, .int .i64 k, .int .i64 0, .int .i64 0, .int .i64 0, .string ⟨#[]⟩, .int .i64 0, .float .f64 0, .string ⟨#[]⟩, .int .i64 0, .float .f64 0, .string ⟨#[]⟩, .int .i64 r1.confP.1.full, .int .i64 r1.confP.1.wit, .int .i64 r1.confP.1.learn, .int .i64 r1.confP.1.learnWit] 44 (0, 0))) := Lib.hid hA4
  replace HR := Lib.hid (HR.out.mod hm4 (fun g hg e => Hnq.out (e ▸ hg)) hcq)
  replace HM := Lib.hid (mod_new HM.out hm4 Hqw.out)
  clear hA4 hm4 hs4
  have hld := load_row (P := Try.prog) (o := 0) (cs := [.int .i64 a0, .int .i64 k, .int .i64 0, .int .i64 0, .int .i64 0, .string ⟨#[]⟩, .int .i64 0, .float .f64 0, .string ⟨#[]⟩, .int .i64 0, .float .f64 0, .string ⟨#[]⟩, .int .i64 r1.confP.1.full, .int .i64 r1.confP.1.wit, .int .i64 r1.confP.1.learn, .int .i64 r1.confP.1.learnWit]) str_entry HA.out rfl (fun j u hu => by rw [Nat.zero_add]; exact hu)
  have hst := store_self (P := Try.prog) str_entry HA.out rfl (List.all_eq_true.1 rfl)
  go_wp2_with (first | (refine wpList_ld rfl 44 _ rfl _ _ rfl hld ?_) | (refine wpList_st rfl 44 _ _ rfl _ _ rfl rfl hst ?_))
  clear hld hst
  obtain ⟨c0, c1, c2, c3, c4, c5, c6, c7, c8, c9, c10, c11, c12, c13, c14, c15⟩ := cq16 HA.out
  refine bodyPost_ret (v := .agg #[.int .i64 a0, .int .i64 k, .int .i64 0, .int .i64 0, .int .i64 0, .string ⟨#[]⟩, .int .i64 0, .float .f64 0, .string ⟨#[]⟩, .int .i64 0, .float .f64 0, .string ⟨#[]⟩, .int .i64 r1.confP.1.full, .int .i64 r1.confP.1.wit, .int .i64 r1.confP.1.learn, .int .i64 r1.confP.1.learnWit]) (by simp [results, Try.results38, go_sem, c0, c1, c2, c3, c4, c5, c6, c7, c8, c9, c10, c11, c12, c13, c14, c15]) rfl ?_
  rw [entP_eq Hints.out, if_neg He0.out, if_neg He1.out, if_pos He2.out]
  exact rout_ok (by rw [entT_eq Hints.out, Hd0.out, Hd1.out, Hd2.out]; rfl) HM.out HR.out
 ·
  have d2 : (k == 2) = false := by simpa using e2
  have Hb : Hid (r.entT = true) := Lib.hid (by rw [entT_eq Hints.out, d0, d1, d2]; rfl)
  clear e0 e1 e2
  go_wp2_with fail
  refine (must_no _).mono ?_
  rintro e w' ⟨rfl, rfl⟩
  exact ⟨rfl, rout_bad Hb.out HM.out⟩
end Go.Proofs.Ytfkacakbengboaa
