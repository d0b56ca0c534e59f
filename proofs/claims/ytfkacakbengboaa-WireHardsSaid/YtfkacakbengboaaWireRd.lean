/-
 Contracts of wire.reader: value, conf, call, entry. Conditions: as each theorem names them.
-/
import Derived.Test.YtfkacakbengboaaWireI
import Derived.Test.YtfkacakbengboaaWireHrdP
import Derived.Test.YtfkacakbengboaaEncB
import Derived.Test.YtfkacakbengboaaCopy
namespace Go.Proofs.Ytfkacakbengboaa
set_option linter.unusedSimpArgs false
open Go.RowKit

/-- What a reader's step leaves: it throws, or has read. -/
def ROut (w : World) (S : Nat → Prop) (c b : Nat) (bad : Bool) (v : Value) (r : RS) (e : Ending) (w' : World) : Prop :=
 Mod S w w' ∧ (bad = true → e = thrown 3) ∧ (bad = false → e = .returned v ∧ Rw w' S c b r)
theorem rout_bad {w w' : World} {S : Nat → Prop} {c b : Nat} {bad : Bool} {v : Value} {r : RS} (hb : bad = true) (hm : Mod S w w') : ROut w S c b bad v r (thrown 3) w' :=
 ⟨hm, fun _ => rfl, fun h => by simp [hb] at h⟩
theorem rout_ok {w w' : World} {S : Nat → Prop} {c b : Nat} {bad : Bool} {v : Value} {r : RS} (hb : bad = false) (hm : Mod S w w') (hR : Rw w' S c b r) : ROut w S c b bad v r (.returned v) w' :=
 ⟨hm, fun h => by simp [hb] at h, fun _ => ⟨rfl, hR⟩⟩
/-- A new block may turn. -/
theorem mod_new {w w1 w2 : World} {S : Nat → Prop} {q : Nat} (h : Mod S w w1) (hm : Mod (fun k => k = q) w1 w2) (hq : w.heap.size ≤ q) : Mod S w w2 :=
 h.trans hm (fun i hi e => absurd hi (by omega))
set_option maxRecDepth 100000 in
set_option maxHeartbeats 2000000 in
theorem wr_value (w : World) (S : Nat → Prop) (c b : Nat) (r : RS) (h : Rw w S c b r) :
  Calls Try.prog 96 #[.pointer (some ⟨c, 0, none⟩)] w (ROut w S c b r.valT (.agg #[.int .i64 r.valP.1.kind, .float .f64 r.valP.1.num, .string r.valP.1.text]) r.valP.2) := by
 obtain ⟨q, hq⟩ : ∃ q, w.heap.size = q := ⟨_, rfl⟩
 obtain ⟨W, hW⟩ : ∃ W, W = w.alloc (.cells #[.int .i64 0, .float .f64 0, .string ⟨#[]⟩] 38) := ⟨_, rfl⟩
 have hE : Ext w W := by rw [hW]; exact (Mod.refl _ w).alloc _
 have hA : W.heap[q]? = some (.cells #[.int .i64 0, .float .f64 0, .string ⟨#[]⟩] 38 (0, 0)) := by rw [hW, ← hq]; exact heap_alloc_new w _
 have hnq : ¬ S q := fun e => by have := h.2.2.2 q e; omega
 have hcq : ¬ c = q := by have := h.lt; omega
 have hqc : ¬ q = c := by omega
 have hRW := h.ext hE
 have HW := Lib.hid hW
 have Hq := Lib.hid hq
 have HE := Lib.hid hE
 have rc := h.cell
 have rl := h.lt
 clear hW hq hE h
 go_enter Try.func96, Try.ntmps96
 go_wp2_with fail
 rw [← HW.out, Hq.out]
 refine (r_int W S b r hRW.1).mono ?_
 rintro e w1 ⟨rfl, hR1, hm1⟩
 obtain ⟨k, hk⟩ : ∃ k, r.int.1 = k := ⟨_, rfl⟩
 obtain ⟨r1, hr1⟩ : ∃ r1, r.int.2 = r1 := ⟨_, rfl⟩
 rw [hr1] at hR1
 rw [hk]
 have hA1 := hm1.blk hA hnq
 have HR1 := Lib.hid (hRW.step hm1 hR1)
 have HM1 : Hid (Mod S w w1) := Lib.hid ((HE.out.mod S).self hm1)
 obtain ⟨W2, hW2⟩ : ∃ W2, w1.setCell ⟨q, 0, none⟩ (.int .i64 k) = W2 := ⟨_, rfl⟩
 have hm2 : Mod (fun k => k = q) w1 W2 := by rw [← hW2]; exact mod_same (Mod.refl _ _) _ _
 have hA2 : W2.heap[q]? = some (.cells #[.int .i64 k, .float .f64 0, .string ⟨#[]⟩] 38 (0, 0)) := by rw [← hW2]; exact blk_set hA1 0 (.int .i64 k)
 have HR2 := Lib.hid (HR1.out.mod hm2 (fun g hg e => hnq (e ▸ hg)) hcq)
 have HM2 : Hid (Mod S w W2) := Lib.hid (mod_new HM1.out hm2 (by have := Hq.out; omega))
 have HA2 := Lib.hid hA2
 have Hk := Lib.hid hk
 have Hr1 := Lib.hid hr1
 have HW2 := Lib.hid hW2
 have f0 : w1.frozen? ⟨q, 0, none⟩ = false := blk_free 0 hA1
 obtain ⟨a0, a1, a2⟩ := cq3 hA1
 have g1 : w1.frozen? ⟨q, 1, none⟩ = false := blk_free 1 hA1
 have g2 : w1.frozen? ⟨q, 2, none⟩ = false := blk_free 2 hA1
 have rc1 := HR1.out.cell
 have hqw : w.heap.size ≤ q := by have := Hq.out; omega
 have Hqw := Lib.hid hqw
 clear hA1 hW2 hA2 hm1 hm2 hR1 hA hRW hk hr1 hqw
 by_cases e0 : k = 0
 ·
  have d0 : (k == 0) = true := by simp [e0]
  have Hv : Hid (r.valP = (⟨k, 0, ⟨#[]⟩⟩, r1)) := Lib.hid (by
   unfold RS.valP RS.val
   rw [Hk.out, Hr1.out, if_pos (.inl e0), if_neg (by omega), if_neg (by omega)])
  have Hb : Hid (r.valT = false) := Lib.hid (by unfold RS.valT; rw [Hk.out, d0]; rfl)
  clear e0
  go_wp2_with fail
  rw [HW2.out]
  refine bodyPost_ret (v := .agg #[.int .i64 k, .float .f64 0, .string ⟨#[]⟩]) (by have c0 : W2.cell? ⟨q, 0, none⟩ = some _ := blk_cell HA2.out rfl; have c1 : W2.cell? ⟨q, 1, none⟩ = some _ := blk_cell HA2.out rfl; have c2 : W2.cell? ⟨q, 2, none⟩ = some _ := blk_cell HA2.out rfl; simp [results, Try.results96, go_sem, c0, c1, c2]) rfl ?_
  rw [Hv.out]
  refine rout_ok Hb.out (mod_new HM2.out (q := q) ?_ Hqw.out) (HR2.out.mod (T := fun k => k = q) ?_ (fun g hg e => hnq (e ▸ hg)) hcq)
  all_goals repeat (with_reducible (first | exact Mod.refl _ _ | refine mod_same ?_ _ _))
 have d0 : (k == 0) = false := by simpa using e0
 by_cases e1 : k = 1
 ·
  have d1 : (k == 1) = true := by simp [e1]
  have He1 := Lib.hid e1
  have Hv : Hid (r.valP = (⟨k, r1.float.1, ⟨#[]⟩⟩, r1.float.2)) := Lib.hid (by unfold RS.valP RS.val; rw [Hk.out, if_pos (.inr (.inl He1.out)), if_pos He1.out, Hr1.out, He1.out])
  have Hb : Hid (r.valT = false) := Lib.hid (by unfold RS.valT; rw [Hk.out, d1]; simp)
  clear e1 e0
  go_wp2_with fail
  rw [HW2.out]
  refine (r_float W2 S b r1 HR2.out.1).mono ?_
  rintro e w2 ⟨rfl, hR3, hm3⟩
  clear a0 a1 a2 f0 g1 g2
  have hA3 := hm3.blk HA2.out hnq
  have HR3 := Lib.hid (HR2.out.step hm3 hR3)
  have HM3 := Lib.hid (HM2.out.self hm3)
  obtain ⟨x, hx⟩ : ∃ x, r1.float.1 = x := ⟨_, rfl⟩
  have Hx := Lib.hid hx
  rw [hx]
  obtain ⟨a0, a1, a2⟩ := cq3 hA3
  have f0 : w2.frozen? ⟨q, 0, none⟩ = false := blk_free 0 hA3
  have f1 : w2.frozen? ⟨q, 1, none⟩ = false := blk_free 1 hA3
  have f2 : w2.frozen? ⟨q, 2, none⟩ = false := blk_free 2 hA3
  obtain ⟨W4, hW4⟩ : ∃ W4, w2.setCell ⟨q, 1, none⟩ (.float .f64 x) = W4 := ⟨_, rfl⟩
  have hA4 : W4.heap[q]? = some (.cells #[.int .i64 k, .float .f64 x, .string ⟨#[]⟩] 38 (0, 0)) := by rw [← hW4]; exact blk_set hA3 1 (.float .f64 x)
  have hm4 : Mod (fun k => k = q) w2 W4 := by rw [← hW4]; exact mod_same (Mod.refl _ _) _ _
  have HA4 := Lib.hid hA4
  have HW4 := Lib.hid hW4
  have HR4 := Lib.hid (HR3.out.mod hm4 (fun g hg e => hnq (e ▸ hg)) hcq)
  have HM4 := Lib.hid (mod_new HM3.out hm4 Hqw.out)
  clear hA3 hR3 hm3 hx hA4 hm4 hW4
  go_wp2
  rw [HW4.out]
  refine bodyPost_ret (v := .agg #[.int .i64 k, .float .f64 x, .string ⟨#[]⟩]) (by have c0 : W4.cell? ⟨q, 0, none⟩ = some _ := blk_cell HA4.out rfl; have c1 : W4.cell? ⟨q, 1, none⟩ = some _ := blk_cell HA4.out rfl; have c2 : W4.cell? ⟨q, 2, none⟩ = some _ := blk_cell HA4.out rfl; simp [results, Try.results96, go_sem, c0, c1, c2]) rfl ?_
  rw [Hv.out, Hx.out]
  refine rout_ok Hb.out (mod_new HM4.out (q := q) ?_ Hqw.out) (HR4.out.mod (T := fun k => k = q) ?_ (fun g hg e => hnq (e ▸ hg)) hcq)
  all_goals repeat (with_reducible (first | exact Mod.refl _ _ | refine mod_same ?_ _ _))
 have d1 : (k == 1) = false := by simpa using e1
 by_cases e2 : k = 2
 ·
  have d2 : (k == 2) = true := by simp [e2]
  have He1 := Lib.hid e1
  have He2 := Lib.hid e2
  have Hv : Hid (r.valP = (⟨k, 0, ⟨r1.text.1.toArray⟩⟩, r1.text.2)) := Lib.hid (by unfold RS.valP RS.val; rw [Hk.out, if_pos (.inr (.inr He2.out)), if_neg He1.out, if_pos He2.out, Hr1.out, He2.out])
  have Hb : Hid (r.valT = false) := Lib.hid (by unfold RS.valT; rw [Hk.out, d2]; simp)
  clear e0 e1 e2
  go_wp2_with fail
  rw [HW2.out]
  refine (r_text W2 S b r1 HR2.out.1 HR2.out.2.2.2).mono ?_
  rintro e w2 ⟨vt, rfl, hNB, hR3, hm3⟩
  clear a0 a1 a2 f0 g1 g2
  obtain ⟨A5, c5, rfl⟩ := own_form hNB.1
  have hcv := conv_bs hNB.sl
  have hA3 := hm3.blk HA2.out hnq
  have HR3 := Lib.hid (HR2.out.step hm3 hR3)
  have HM3 := Lib.hid (HM2.out.self hm3)
  obtain ⟨x, hx⟩ : ∃ x, r1.text.1 = x := ⟨_, rfl⟩
  have Hx := Lib.hid hx
  rw [hx] at hcv ⊢
  clear hNB
  obtain ⟨a0, a1, a2⟩ := cq3 hA3
  have f0 : w2.frozen? ⟨q, 0, none⟩ = false := blk_free 0 hA3
  have f1 : w2.frozen? ⟨q, 1, none⟩ = false := blk_free 1 hA3
  have f2 : w2.frozen? ⟨q, 2, none⟩ = false := blk_free 2 hA3
  obtain ⟨W4, hW4⟩ : ∃ W4, w2.setCell ⟨q, 2, none⟩ (.string ⟨x.toArray⟩) = W4 := ⟨_, rfl⟩
  have hA4 : W4.heap[q]? = some (.cells #[.int .i64 k, .float .f64 0, .string ⟨x.toArray⟩] 38 (0, 0)) := by rw [← hW4]; exact blk_set hA3 2 (.string ⟨x.toArray⟩)
  have hm4 : Mod (fun k => k = q) w2 W4 := by rw [← hW4]; exact mod_same (Mod.refl _ _) _ _
  have HA4 := Lib.hid hA4
  have HW4 := Lib.hid hW4
  have HR4 := Lib.hid (HR3.out.mod hm4 (fun g hg e => hnq (e ▸ hg)) hcq)
  have HM4 := Lib.hid (mod_new HM3.out hm4 Hqw.out)
  clear hA3 hR3 hm3 hx hA4 hm4 hW4
  go_wp2
  rw [HW4.out]
  refine bodyPost_ret (v := .agg #[.int .i64 k, .float .f64 0, .string ⟨x.toArray⟩]) (by have c0 : W4.cell? ⟨q, 0, none⟩ = some _ := blk_cell HA4.out rfl; have c1 : W4.cell? ⟨q, 1, none⟩ = some _ := blk_cell HA4.out rfl; have c2 : W4.cell? ⟨q, 2, none⟩ = some _ := blk_cell HA4.out rfl; simp [results, Try.results96, go_sem, c0, c1, c2]) rfl ?_
  rw [Hv.out, Hx.out]
  refine rout_ok Hb.out (mod_new HM4.out (q := q) ?_ Hqw.out) (HR4.out.mod (T := fun k => k = q) ?_ (fun g hg e => hnq (e ▸ hg)) hcq)
  all_goals repeat (with_reducible (first | exact Mod.refl _ _ | refine mod_same ?_ _ _))
 ·
  have d2 : (k == 2) = false := by simpa using e2
  have Hb : Hid (r.valT = true) := Lib.hid (by unfold RS.valT; rw [Hk.out, d0, d1, d2]; rfl)
  clear e0 e1 e2
  go_wp2_with fail
  rw [HW2.out]
  refine (must_no _).mono ?_
  rintro e w' ⟨rfl, rfl⟩
  exact ⟨rfl, rout_bad Hb.out HM2.out⟩
end Go.Proofs.Ytfkacakbengboaa
