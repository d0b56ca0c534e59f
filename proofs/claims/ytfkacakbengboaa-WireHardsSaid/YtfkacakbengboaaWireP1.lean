/-
 Contracts of the page's checks (layer 10): value, zeroCall, zeroConf, entry. Conditions: as each theorem names them.
-/
import Derived.Test.YtfkacakbengboaaWireEntP
import Derived.Test.YtfkacakbengboaaKeepApi
import Derived.Deep.QuietTactic
import Derived.BigQuiet
namespace Go.Proofs.Ytfkacakbengboaa
set_option linter.unusedSimpArgs false
open Go.RowKit
attribute [local go_sem] call_frombits call_bits

set_option maxRecDepth 100000 in
set_option maxHeartbeats 1000000 in
theorem p_val (v : AVal) (w : World) : Calls Try.prog 72 #[.agg #[.int .i64 v.kind, .float .f64 v.num, .string v.text]] w fun e w' => e = .returned (.bool (valB v)) ∧ Ext w w' := by
 have hT : v.text.toList.isEmpty = isEmptyT v.text := rfl
 rcases h1 : decide (v.kind < 0) with _ | _
 rotate_left
 ·
  go_enter Try.func72, Try.ntmps72
  go_wp2
  go_ret
  exact ⟨ret_bool (by simp only [valB, h1]; rfl), (Mod.refl _ w).alloc _⟩
 rcases h2 : decide (2 < v.kind) with _ | _
 rotate_left
 ·
  go_enter Try.func72, Try.ntmps72
  go_wp2
  go_ret
  exact ⟨ret_bool (by simp only [valB, h1, h2]; rfl), (Mod.refl _ w).alloc _⟩
 by_cases k2 : v.kind = 2
 ·
  have d2 : (v.kind != 2) = false := by simp [k2]
  have d1 : (v.kind == 1) = false := by simp [k2]
  have d3 : (v.kind != 1) = true := by simp [k2]
  clear k2
  rcases h4 : ((v.num : Int) == 0) with _ | _
  all_goals
   have h5 : (v.num == 0) = ((v.num : Int) == 0) := by rw [Bool.eq_iff_iff]; simp
   have H : Hid (valB v = ((v.num : Int) == 0)) := Lib.hid (by simp only [valB, h1, h2, d1, d2, d3, h5]; simp)
   clear h5
   rw [H.out, h4]
   go_enter Try.func72, Try.ntmps72
   go_wp2
   go_quiet (fail)
   go_wp2
   go_ret
   exact ⟨rfl, ((Mod.refl _ w).alloc _).drewN _⟩
 have d2 : (v.kind != 2) = true := by simp [k2]
 rcases h3 : isEmptyT v.text with _ | _
 ·
  go_enter Try.func72, Try.ntmps72
  go_wp2
  go_ret
  exact ⟨ret_bool (by simp only [valB, h1, h2, h3, d2]; rfl), (Mod.refl _ w).alloc _⟩
 by_cases k1 : v.kind = 1
 ·
  have d1 : (v.kind == 1) = true := by simp [k1]
  have d3 : (v.kind != 1) = false := by simp [k1]
  clear k1 k2
  rcases h4 : ((v.num : Int) == (canon v.num : Int)) with _ | _
  all_goals
   have h5 : (v.num == canon v.num) = ((v.num : Int) == (canon v.num : Int)) := by rw [Bool.eq_iff_iff]; simp; omega
   have H : Hid (valB v = ((v.num : Int) == (canon v.num : Int))) := Lib.hid (by simp only [valB, h1, h2, h3, d1, d2, d3, h5]; simp)
   clear h5
   rw [H.out, h4]
   go_enter Try.func72, Try.ntmps72
   go_wp2
   go_quiet ((go_at_call 93; exact Calls.quiet_of_same ((refcanon_any _ _).mono (fun _ _ h => ⟨h.1, h.2.symm⟩))))
   go_wp2
   go_ret
   exact ⟨rfl, ((Mod.refl _ w).alloc _).drewN _⟩
 ·
  have d1 : (v.kind == 1) = false := by simp [k1]
  have d3 : (v.kind != 1) = true := by simp [k1]
  clear k1 k2
  rcases h4 : ((v.num : Int) == 0) with _ | _
  all_goals
   have h5 : (v.num == 0) = ((v.num : Int) == 0) := by rw [Bool.eq_iff_iff]; simp
   have H : Hid (valB v = ((v.num : Int) == 0)) := Lib.hid (by simp only [valB, h1, h2, h3, d1, d2, d3, h5]; simp)
   clear h5
   rw [H.out, h4]
   go_enter Try.func72, Try.ntmps72
   go_wp2
   go_quiet (fail)
   go_wp2
   go_ret
   exact ⟨rfl, ((Mod.refl _ w).alloc _).drewN _⟩

set_option maxRecDepth 100000 in
set_option maxHeartbeats 1000000 in
theorem p_zcall (c : ACall) (w : World) : Calls Try.prog 70 #[.agg #[.int .i64 c.client, .int .i64 c.seq, .int .i64 c.cmd.kind, .string c.cmd.key, .int .i64 c.cmd.old.kind, .float .f64 c.cmd.old.num, .string c.cmd.old.text, .int .i64 c.cmd.val.kind, .float .f64 c.cmd.val.num, .string c.cmd.val.text]] w fun e w' => e = .returned (.bool (eqCall c ACall.zero)) ∧ Ext w w' := by
 go_enter Try.func70, Try.ntmps70
 go_wp2_with fail
 refine (k_call c ACall.zero _).mono ?_
 rintro e w1 ⟨rfl, hE⟩
 have HE := Lib.hid (((Mod.refl (fun _ => False) w).alloc _).ext hE)
 clear hE
 go_wp2
 go_ret
 exact ⟨rfl, HE.out⟩
set_option maxRecDepth 100000 in
set_option maxHeartbeats 1000000 in
theorem p_zconf (c : AConf) (w : World) : Calls Try.prog 71 #[.agg #[.int .i64 c.full, .int .i64 c.wit, .int .i64 c.learn, .int .i64 c.learnWit]] w fun e w' => e = .returned (.bool (eqConf c AConf.zero)) ∧ Ext w w' := by
 go_enter Try.func71, Try.ntmps71
 go_wp2_with fail
 refine (k_conf c AConf.zero _).mono ?_
 rintro e w1 ⟨rfl, hE⟩
 have HE := Lib.hid (((Mod.refl (fun _ => False) w).alloc _).ext hE)
 clear hE
 go_wp2
 go_ret
 exact ⟨rfl, HE.out⟩

set_option maxRecDepth 100000 in
set_option maxHeartbeats 2000000 in
theorem p_entB (x : AEntry) (w : World) : Calls Try.prog 33 #[.agg #[.int .i64 x.term, .int .i64 x.kind, .int .i64 x.call.client, .int .i64 x.call.seq, .int .i64 x.call.cmd.kind, .string x.call.cmd.key, .int .i64 x.call.cmd.old.kind, .float .f64 x.call.cmd.old.num, .string x.call.cmd.old.text, .int .i64 x.call.cmd.val.kind, .float .f64 x.call.cmd.val.num, .string x.call.cmd.val.text, .int .i64 x.conf.full, .int .i64 x.conf.wit, .int .i64 x.conf.learn, .int .i64 x.conf.learnWit]] w fun e w' => e = .returned (.bool (entB x)) ∧ Ext w w' := by
 obtain ⟨q, hq⟩ : ∃ q, w.heap.size = q := ⟨_, rfl⟩
 obtain ⟨W, hW⟩ : ∃ W, W = w.alloc (.cells #[.int .i64 x.term, .int .i64 x.kind, .int .i64 x.call.client, .int .i64 x.call.seq, .int .i64 x.call.cmd.kind, .string x.call.cmd.key, .int .i64 x.call.cmd.old.kind, .float .f64 x.call.cmd.old.num, .string x.call.cmd.old.text, .int .i64 x.call.cmd.val.kind, .float .f64 x.call.cmd.val.num, .string x.call.cmd.val.text, .int .i64 x.conf.full, .int .i64 x.conf.wit, .int .i64 x.conf.learn, .int .i64 x.conf.learnWit] 44) := ⟨_, rfl⟩
 have hE : Ext w W := by rw [hW]; exact (Mod.refl _ w).alloc _
 have hA : W.heap[q]? = some (.cells #[.int .i64 x.term, .int .i64 x.kind, .int .i64 x.call.client, .int .i64 x.call.seq, .int .i64 x.call.cmd.kind, .string x.call.cmd.key, .int .i64 x.call.cmd.old.kind, .float .f64 x.call.cmd.old.num, .string x.call.cmd.old.text, .int .i64 x.call.cmd.val.kind, .float .f64 x.call.cmd.val.num, .string x.call.cmd.val.text, .int .i64 x.conf.full, .int .i64 x.conf.wit, .int .i64 x.conf.learn, .int .i64 x.conf.learnWit] 44 (0, 0)) := by rw [hW, ← hq]; exact heap_alloc_new w _
 have HW := Lib.hid hW
 have Hq := Lib.hid hq
 have HE := Lib.hid hE
 have HA := Lib.hid hA
 clear hW hq hE hA
 have hret : ∀ b w', entB x = b → Ext W w' → Ending.returned (.bool b) = .returned (.bool (entB x)) ∧ Ext w w' := fun b w' h1 h2 => ⟨by rw [h1], HE.out.ext h2⟩
 have Hret := Lib.hid hret
 clear hret
 rcases h1 : decide (x.kind < 0) with _ | _
 rotate_left
 ·
  have Hb : Hid (entB x = false) := Lib.hid (by simp only [entB, h1]; rfl)
  go_enter Try.func33, Try.ntmps33
  go_wp2
  rw [← HW.out]
  go_ret
  exact Hret.out _ _ Hb.out (Mod.refl _ _)
 rcases h2 : decide (2 < x.kind) with _ | _
 rotate_left
 ·
  have Hb : Hid (entB x = false) := Lib.hid (by simp only [entB, h1, h2]; rfl)
  go_enter Try.func33, Try.ntmps33
  go_wp2
  rw [← HW.out]
  go_ret
  exact Hret.out _ _ Hb.out (Mod.refl _ _)
 have hk3 : x.kind = 0 ∨ x.kind = 1 ∨ x.kind = 2 := by simp at h1 h2; omega
 rcases hk3 with hk | hk | hk
 ·
  have d1 : (x.kind != 1) = true := by simp [hk]
  have d2 : (x.kind != 2) = true := by simp [hk]
  have Hb : Hid (entB x = (eqCall x.call ACall.zero && eqConf x.conf AConf.zero)) := Lib.hid (by simp only [entB, h1, h2, d1, d2]; simp)
  clear hk
  go_enter Try.func33, Try.ntmps33
  go_wp2_with fail
  rw [← HW.out]
  refine (p_zcall x.call W).mono ?_
  rintro e w1 ⟨rfl, hE1⟩
  rcases hz : eqCall x.call ACall.zero with _ | _
  ·
   have HE1 := Lib.hid hE1
   have HA1 := Lib.hid (hE1.blk HA.out id)
   have Hz := Lib.hid hz
   clear hE1 hz
   go_wp2
   go_ret
   exact Hret.out _ _ (by rw [Hb.out, Hz.out]; rfl) HE1.out
  ·
   have HE1 := Lib.hid hE1
   have HA1 := Lib.hid (hE1.blk HA.out id)
   have Hz := Lib.hid hz
   clear hE1 hz
   rw [Hq.out]
   obtain ⟨a0, a1, a2, a3, a4, a5, a6, a7, a8, a9, a10, a11, a12, a13, a14, a15⟩ := cq16 HA1.out
   go_wp2_with fail
   refine (p_zconf x.conf w1).mono ?_
   rintro e w2 ⟨rfl, hE2⟩
   have HE2 := Lib.hid (HE1.out.ext hE2)
   have HA2 := Lib.hid (hE2.blk HA1.out id)
   clear hE2
   clear a0 a1 a2 a3 a4 a5 a6 a7 a8 a9 a10 a11 a12 a13 a14 a15
   obtain ⟨a0, a1, a2, a3, a4, a5, a6, a7, a8, a9, a10, a11, a12, a13, a14, a15⟩ := cq16 HA2.out
   rcases hz : eqConf x.conf AConf.zero with _ | _
   all_goals
    have Hz2 := Lib.hid hz
    clear hz
    go_wp2
    go_ret
    exact Hret.out _ _ (by rw [Hb.out, Hz.out, Hz2.out]; rfl) HE2.out
 ·
  have d1 : (x.kind != 1) = false := by simp [hk]
  have d2 : (x.kind != 2) = true := by simp [hk]
  have Hb : Hid (entB x = (eqConf x.conf AConf.zero && (valB x.call.cmd.old && valB x.call.cmd.val))) := Lib.hid (by simp only [entB, h1, h2, d1, d2]; simp)
  clear hk
  go_enter Try.func33, Try.ntmps33
  go_wp2_with fail
  rw [← HW.out]
  refine (p_zconf x.conf W).mono ?_
  rintro e w1 ⟨rfl, hE1⟩
  have HE1 := Lib.hid hE1
  have HA1 := Lib.hid (hE1.blk HA.out id)
  rw [Hq.out]
  clear hE1
  obtain ⟨a0, a1, a2, a3, a4, a5, a6, a7, a8, a9, a10, a11, a12, a13, a14, a15⟩ := cq16 HA1.out
  rcases hz : eqConf x.conf AConf.zero with _ | _
  ·
   have Hz := Lib.hid hz
   clear hz
   go_wp2
   go_ret
   exact Hret.out _ _ (by rw [Hb.out, Hz.out]; rfl) HE1.out
  ·
   have Hz := Lib.hid hz
   clear hz
   go_wp2_with fail
   refine (p_val x.call.cmd.old w1).mono ?_
   rintro e w2 ⟨rfl, hE2⟩
   have HE2 := Lib.hid (HE1.out.ext hE2)
   have HA2 := Lib.hid (hE2.blk HA1.out id)
   clear hE2
   clear a0 a1 a2 a3 a4 a5 a6 a7 a8 a9 a10 a11 a12 a13 a14 a15
   obtain ⟨a0, a1, a2, a3, a4, a5, a6, a7, a8, a9, a10, a11, a12, a13, a14, a15⟩ := cq16 HA2.out
   rcases hz : valB x.call.cmd.old with _ | _
   ·
    have Hz2 := Lib.hid hz
    clear hz
    go_wp2
    go_ret
    exact Hret.out _ _ (by rw [Hb.out, Hz.out, Hz2.out]; rfl) HE2.out
   ·
    have Hz2 := Lib.hid hz
    clear hz
    go_wp2_with fail
    refine (p_val x.call.cmd.val w2).mono ?_
    rintro e w3 ⟨rfl, hE3⟩
    have HE3 := Lib.hid (HE2.out.ext hE3)
    clear hE3
    go_wp2
    go_ret
    exact Hret.out _ _ (by rw [Hb.out, Hz.out, Hz2.out]; rfl) HE3.out
 ·
  have d1 : (x.kind != 1) = true := by simp [hk]
  have d2 : (x.kind != 2) = false := by simp [hk]
  have Hb : Hid (entB x = eqCall x.call ACall.zero) := Lib.hid (by simp only [entB, h1, h2, d1, d2]; simp)
  clear hk
  go_enter Try.func33, Try.ntmps33
  go_wp2_with fail
  rw [← HW.out]
  refine (p_zcall x.call W).mono ?_
  rintro e w1 ⟨rfl, hE1⟩
  have HE1 := Lib.hid hE1
  have HA1 := Lib.hid (hE1.blk HA.out id)
  rw [Hq.out]
  clear hE1
  obtain ⟨a0, a1, a2, a3, a4, a5, a6, a7, a8, a9, a10, a11, a12, a13, a14, a15⟩ := cq16 HA1.out
  rcases hz : eqCall x.call ACall.zero with _ | _
  all_goals
   have Hz := Lib.hid hz
   clear hz
   go_wp2
   go_ret
   exact Hret.out _ _ (by rw [Hb.out, Hz.out]) HE1.out
end Go.Proofs.Ytfkacakbengboaa
