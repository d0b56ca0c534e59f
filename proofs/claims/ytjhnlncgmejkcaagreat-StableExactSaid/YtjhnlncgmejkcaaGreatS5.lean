/-
  Contracts of the verifier's comparisons of plain data (skerrykeep): values, commands, calls, configurations, entries. Conditions: as each theorem names them.
-/
import Derived.Test.YtjhnlncgmejkcaaGreatKeep
import Derived.Test.YtjhnlncgmejkcaaGreatGSpec
import Derived.Test.YtjhnlncgmejkcaaGreatS1
import Derived.Test.YtjhnlncgmejkcaaGreatS3
import Derived.Deep.QuietTactic
import Derived.BigQuiet
import Derived.Test.YtjhnlncgmejkcaaGreatStbK
import Derived.Laws.BitsAllLaws
import Derived.Test.YtjhnlncgmejkcaaGreatPackR
set_option maxRecDepth 100000
set_option maxHeartbeats 2000000
namespace Go.Proofs.YtjhnlncgmejkcaaGreat
open Go.RowKit
-- GEN
theorem k_cmd (a b : zeG) (w : World) : Calls Tryz.prog 123 #[.agg #[.int .i64 a.kind, .string a.key, .int .i64 a.old.kind, .float .f64 a.old.num, .string a.old.text, .int .i64 a.val.kind, .float .f64 a.val.num, .string a.val.text], .agg #[.int .i64 b.kind, .string b.key, .int .i64 b.old.kind, .float .f64 b.old.num, .string b.old.text, .int .i64 b.val.kind, .float .f64 b.val.num, .string b.val.text]] w fun e w' => e = .returned (.bool (zgT a b)) ∧ Ext w w' := by
 have hE : Ext w ((w.alloc (.cells #[.int .i64 a.kind, .string a.key, .int .i64 a.old.kind, .float .f64 a.old.num, .string a.old.text, .int .i64 a.val.kind, .float .f64 a.val.num, .string a.val.text] 52)).alloc (.cells #[.int .i64 b.kind, .string b.key, .int .i64 b.old.kind, .float .f64 b.old.num, .string b.old.text, .int .i64 b.val.kind, .float .f64 b.val.num, .string b.val.text] 52)) := ((Mod.refl _ w).alloc _).alloc _
 have hT : (a.key.toList == b.key.toList) = eqT a.key b.key := rfl
 rcases h0 : (a.kind == b.kind) with _ | _
 ·
  go_enter Tryz.func123, Tryz.ntmps123
  go_wp2
  go_ret
  exact ⟨zP (by simp [zgT, h0]), hE⟩
 rcases h1 : eqT a.key b.key with _ | _
 ·
  go_enter Tryz.func123, Tryz.ntmps123
  go_wp2
  go_ret
  exact ⟨zP (by simp [zgT, h1]), hE⟩
 go_enter Tryz.func123, Tryz.ntmps123
 go_wp2_with fail
 refine (znV a.old b.old _).mono ?_
 rintro e w0 ⟨rfl, hE0⟩
 have hF0 : Ext w w0 := Mod.ext hE hE0
 have HF0 := hJ hF0
 have ca5 := hE0.cell (p := ⟨w.heap.size, 5, none⟩) (v := .int .i64 a.val.kind) (by simp) id
 have ca6 := hE0.cell (p := ⟨w.heap.size, 6, none⟩) (v := .float .f64 a.val.num) (by simp) id
 have ca7 := hE0.cell (p := ⟨w.heap.size, 7, none⟩) (v := .string a.val.text) (by simp) id
 have cb5 := hE0.cell (p := ⟨w.heap.size + 1, 5, none⟩) (v := .int .i64 b.val.kind) (by simp) id
 have cb6 := hE0.cell (p := ⟨w.heap.size + 1, 6, none⟩) (v := .float .f64 b.val.num) (by simp) id
 have cb7 := hE0.cell (p := ⟨w.heap.size + 1, 7, none⟩) (v := .string b.val.text) (by simp) id
 clear hF0 hE0
 rcases g0 : zdB a.old b.old with _ | _
 ·
  go_wp2
  go_ret
  exact ⟨zP (by simp [zgT, g0]), HF0.out⟩
 go_wp2_with fail
 refine (znV a.val b.val _).mono ?_
 rintro e w1 ⟨rfl, hE1⟩
 have hF1 : Ext w w1 := Mod.ext HF0.out hE1
 have HF1 := hJ hF1
 clear hF1 hE1
 go_wp2
 go_ret
 exact ⟨zP (by simp [zgT, h0, h1, g0]), HF1.out⟩
theorem zoR (a b : yK) (w : World) : Calls Tryz.prog 97 #[.agg #[.int .i64 a.client, .int .i64 a.seq, .int .i64 a.cmd.kind, .string a.cmd.key, .int .i64 a.cmd.old.kind, .float .f64 a.cmd.old.num, .string a.cmd.old.text, .int .i64 a.cmd.val.kind, .float .f64 a.cmd.val.num, .string a.cmd.val.text], .agg #[.int .i64 b.client, .int .i64 b.seq, .int .i64 b.cmd.kind, .string b.cmd.key, .int .i64 b.cmd.old.kind, .float .f64 b.cmd.old.num, .string b.cmd.old.text, .int .i64 b.cmd.val.kind, .float .f64 b.cmd.val.num, .string b.cmd.val.text]] w fun e w' => e = .returned (.bool (jJ a b)) ∧ Ext w w' := by
 have hE : Ext w ((w.alloc (.cells #[.int .i64 a.client, .int .i64 a.seq, .int .i64 a.cmd.kind, .string a.cmd.key, .int .i64 a.cmd.old.kind, .float .f64 a.cmd.old.num, .string a.cmd.old.text, .int .i64 a.cmd.val.kind, .float .f64 a.cmd.val.num, .string a.cmd.val.text] 54)).alloc (.cells #[.int .i64 b.client, .int .i64 b.seq, .int .i64 b.cmd.kind, .string b.cmd.key, .int .i64 b.cmd.old.kind, .float .f64 b.cmd.old.num, .string b.cmd.old.text, .int .i64 b.cmd.val.kind, .float .f64 b.cmd.val.num, .string b.cmd.val.text] 54)) := ((Mod.refl _ w).alloc _).alloc _
 rcases h0 : (a.client == b.client) with _ | _
 ·
  go_enter Tryz.func97, Tryz.ntmps97
  go_wp2
  go_ret
  exact ⟨zP (by simp [jJ, h0]), hE⟩
 rcases h1 : (a.seq == b.seq) with _ | _
 ·
  go_enter Tryz.func97, Tryz.ntmps97
  go_wp2
  go_ret
  exact ⟨zP (by simp [jJ, h1]), hE⟩
 go_enter Tryz.func97, Tryz.ntmps97
 go_wp2_with fail
 refine (k_cmd a.cmd b.cmd _).mono ?_
 rintro e w0 ⟨rfl, hE0⟩
 have hF0 : Ext w w0 := Mod.ext hE hE0
 have HF0 := hJ hF0
 clear hF0 hE0
 go_wp2
 go_ret
 exact ⟨zP (by simp [jJ, h0, h1]), HF0.out⟩
theorem zi1 (a b : yF) (w : World) : Calls Tryz.prog 51 #[.agg #[.int .i64 a.full, .int .i64 a.wit, .int .i64 a.learn, .int .i64 a.learnWit], .agg #[.int .i64 b.full, .int .i64 b.wit, .int .i64 b.learn, .int .i64 b.learnWit]] w fun e w' => e = .returned (.bool (xI a b)) ∧ Ext w w' := by
 have hE : Ext w ((w.alloc (.cells #[.int .i64 a.full, .int .i64 a.wit, .int .i64 a.learn, .int .i64 a.learnWit] 23)).alloc (.cells #[.int .i64 b.full, .int .i64 b.wit, .int .i64 b.learn, .int .i64 b.learnWit] 23)) := ((Mod.refl _ w).alloc _).alloc _
 rcases h0 : (a.full == b.full) with _ | _
 ·
  go_enter Tryz.func51, Tryz.ntmps51
  go_wp2
  go_ret
  exact ⟨zP (by simp [xI, h0]), hE⟩
 rcases h1 : (a.wit == b.wit) with _ | _
 ·
  go_enter Tryz.func51, Tryz.ntmps51
  go_wp2
  go_ret
  exact ⟨zP (by simp [xI, h1]), hE⟩
 rcases h2 : (a.learn == b.learn) with _ | _
 ·
  go_enter Tryz.func51, Tryz.ntmps51
  go_wp2
  go_ret
  exact ⟨zP (by simp [xI, h2]), hE⟩
 go_enter Tryz.func51, Tryz.ntmps51
 go_wp2
 go_ret
 exact ⟨zP (by simp [xI, h0, h1, h2]), hE⟩
theorem zkF (a b : zI) (w : World) : Calls Tryz.prog 63 #[.agg #[.int .i64 a.term, .int .i64 a.kind, .int .i64 a.call.client, .int .i64 a.call.seq, .int .i64 a.call.cmd.kind, .string a.call.cmd.key, .int .i64 a.call.cmd.old.kind, .float .f64 a.call.cmd.old.num, .string a.call.cmd.old.text, .int .i64 a.call.cmd.val.kind, .float .f64 a.call.cmd.val.num, .string a.call.cmd.val.text, .int .i64 a.conf.full, .int .i64 a.conf.wit, .int .i64 a.conf.learn, .int .i64 a.conf.learnWit], .agg #[.int .i64 b.term, .int .i64 b.kind, .int .i64 b.call.client, .int .i64 b.call.seq, .int .i64 b.call.cmd.kind, .string b.call.cmd.key, .int .i64 b.call.cmd.old.kind, .float .f64 b.call.cmd.old.num, .string b.call.cmd.old.text, .int .i64 b.call.cmd.val.kind, .float .f64 b.call.cmd.val.num, .string b.call.cmd.val.text, .int .i64 b.conf.full, .int .i64 b.conf.wit, .int .i64 b.conf.learn, .int .i64 b.conf.learnWit]] w fun e w' => e = .returned (.bool (xZ a b)) ∧ Ext w w' := by
 have hE : Ext w ((w.alloc (.cells #[.int .i64 a.term, .int .i64 a.kind, .int .i64 a.call.client, .int .i64 a.call.seq, .int .i64 a.call.cmd.kind, .string a.call.cmd.key, .int .i64 a.call.cmd.old.kind, .float .f64 a.call.cmd.old.num, .string a.call.cmd.old.text, .int .i64 a.call.cmd.val.kind, .float .f64 a.call.cmd.val.num, .string a.call.cmd.val.text, .int .i64 a.conf.full, .int .i64 a.conf.wit, .int .i64 a.conf.learn, .int .i64 a.conf.learnWit] 56)).alloc (.cells #[.int .i64 b.term, .int .i64 b.kind, .int .i64 b.call.client, .int .i64 b.call.seq, .int .i64 b.call.cmd.kind, .string b.call.cmd.key, .int .i64 b.call.cmd.old.kind, .float .f64 b.call.cmd.old.num, .string b.call.cmd.old.text, .int .i64 b.call.cmd.val.kind, .float .f64 b.call.cmd.val.num, .string b.call.cmd.val.text, .int .i64 b.conf.full, .int .i64 b.conf.wit, .int .i64 b.conf.learn, .int .i64 b.conf.learnWit] 56)) := ((Mod.refl _ w).alloc _).alloc _
 rcases h0 : (a.term == b.term) with _ | _
 ·
  go_enter Tryz.func63, Tryz.ntmps63
  go_wp2
  go_ret
  exact ⟨zP (by simp [xZ, h0]), hE⟩
 rcases h1 : (a.kind == b.kind) with _ | _
 ·
  go_enter Tryz.func63, Tryz.ntmps63
  go_wp2
  go_ret
  exact ⟨zP (by simp [xZ, h1]), hE⟩
 go_enter Tryz.func63, Tryz.ntmps63
 go_wp2_with fail
 refine (zoR a.call b.call _).mono ?_
 rintro e w0 ⟨rfl, hE0⟩
 have hF0 : Ext w w0 := Mod.ext hE hE0
 have HF0 := hJ hF0
 have ca12 := hE0.cell (p := ⟨w.heap.size, 12, none⟩) (v := .int .i64 a.conf.full) (by simp) id
 have ca13 := hE0.cell (p := ⟨w.heap.size, 13, none⟩) (v := .int .i64 a.conf.wit) (by simp) id
 have ca14 := hE0.cell (p := ⟨w.heap.size, 14, none⟩) (v := .int .i64 a.conf.learn) (by simp) id
 have ca15 := hE0.cell (p := ⟨w.heap.size, 15, none⟩) (v := .int .i64 a.conf.learnWit) (by simp) id
 have cb12 := hE0.cell (p := ⟨w.heap.size + 1, 12, none⟩) (v := .int .i64 b.conf.full) (by simp) id
 have cb13 := hE0.cell (p := ⟨w.heap.size + 1, 13, none⟩) (v := .int .i64 b.conf.wit) (by simp) id
 have cb14 := hE0.cell (p := ⟨w.heap.size + 1, 14, none⟩) (v := .int .i64 b.conf.learn) (by simp) id
 have cb15 := hE0.cell (p := ⟨w.heap.size + 1, 15, none⟩) (v := .int .i64 b.conf.learnWit) (by simp) id
 clear hF0 hE0
 rcases g0 : jJ a.call b.call with _ | _
 ·
  go_wp2
  go_ret
  exact ⟨zP (by simp [xZ, g0]), HF0.out⟩
 go_wp2_with fail
 refine (zi1 a.conf b.conf _).mono ?_
 rintro e w1 ⟨rfl, hE1⟩
 have hF1 : Ext w w1 := Mod.ext HF0.out hE1
 have HF1 := hJ hF1
 clear hF1 hE1
 go_wp2
 go_ret
 exact ⟨zP (by simp [xZ, h0, h1, g0]), HF1.out⟩
end Go.Proofs.YtjhnlncgmejkcaaGreat
namespace Go.Proofs.YtjhnlncgmejkcaaGreat
set_option linter.unusedSimpArgs false
open Go.RowKit
attribute [local go_sem] yP jA
theorem p_val (v : jY) (w : World) : Calls Tryz.prog 85 #[.agg #[.int .i64 v.kind, .float .f64 v.num, .string v.text]] w fun e w' => e = .returned (.bool (zb4 v)) ∧ Ext w w' := by
 have hT : v.text.toList.isEmpty = zX v.text := rfl
 rcases h1 : decide (v.kind < 0) with _ | _
 rotate_left
 ·
  go_enter Tryz.func85, Tryz.ntmps85
  go_wp2
  go_ret
  exact ⟨zP (by simp only [zb4, h1]; rfl), (Mod.refl _ w).alloc _⟩
 rcases h2 : decide (2 < v.kind) with _ | _
 rotate_left
 ·
  go_enter Tryz.func85, Tryz.ntmps85
  go_wp2
  go_ret
  exact ⟨zP (by simp only [zb4, h1, h2]; rfl), (Mod.refl _ w).alloc _⟩
 by_cases k2 : v.kind = 2
 ·
  have d2 : (v.kind != 2) = false := by simp [k2]
  have d1 : (v.kind == 1) = false := by simp [k2]
  have d3 : (v.kind != 1) = true := by simp [k2]
  clear k2
  rcases h4 : ((v.num : Int) == 0) with _ | _
  all_goals
   have h5 : (v.num == 0) = ((v.num : Int) == 0) := by rw [Bool.eq_iff_iff]; simp
   have H : Hid (zb4 v = ((v.num : Int) == 0)) := hJ (by simp only [zb4, h1, h2, d1, d2, d3, h5]; simp)
   clear h5
   rw [H.out, h4]
   go_enter Tryz.func85, Tryz.ntmps85
   go_wp2
   go_quiet (fail)
   go_wp2
   go_ret
   exact ⟨rfl, ((Mod.refl _ w).alloc _).drewN _⟩
 have d2 : (v.kind != 2) = true := by simp [k2]
 rcases h3 : zX v.text with _ | _
 ·
  go_enter Tryz.func85, Tryz.ntmps85
  go_wp2
  go_ret
  exact ⟨zP (by simp only [zb4, h1, h2, h3, d2]; rfl), (Mod.refl _ w).alloc _⟩
 by_cases k1 : v.kind = 1
 ·
  have d1 : (v.kind == 1) = true := by simp [k1]
  have d3 : (v.kind != 1) = false := by simp [k1]
  clear k1 k2
  rcases h4 : ((v.num : Int) == (yU v.num : Int)) with _ | _
  all_goals
   have h5 : (v.num == yU v.num) = ((v.num : Int) == (yU v.num : Int)) := by rw [Bool.eq_iff_iff]; simp; omega
   have H : Hid (zb4 v = ((v.num : Int) == (yU v.num : Int))) := hJ (by simp only [zb4, h1, h2, h3, d1, d2, d3, h5]; simp)
   clear h5
   rw [H.out, h4]
   go_enter Tryz.func85, Tryz.ntmps85
   go_wp2
   go_quiet ((go_at_call 112; exact Calls.quiet_of_same ((zeW _ _).mono (fun _ _ h => ⟨h.1, h.2.symm⟩))))
   go_wp2
   go_ret
   exact ⟨rfl, ((Mod.refl _ w).alloc _).drewN _⟩
 have d1 : (v.kind == 1) = false := by simp [k1]
 have d3 : (v.kind != 1) = true := by simp [k1]
 clear k1 k2
 rcases h4 : ((v.num : Int) == 0) with _ | _
 all_goals
  have h5 : (v.num == 0) = ((v.num : Int) == 0) := by rw [Bool.eq_iff_iff]; simp
  have H : Hid (zb4 v = ((v.num : Int) == 0)) := hJ (by simp only [zb4, h1, h2, h3, d1, d2, d3, h5]; simp)
  clear h5
  rw [H.out, h4]
  go_enter Tryz.func85, Tryz.ntmps85
  go_wp2
  go_quiet (fail)
  go_wp2
  go_ret
  exact ⟨rfl, ((Mod.refl _ w).alloc _).drewN _⟩
theorem zoS (c : yK) (w : World) : Calls Tryz.prog 83 #[.agg #[.int .i64 c.client, .int .i64 c.seq, .int .i64 c.cmd.kind, .string c.cmd.key, .int .i64 c.cmd.old.kind, .float .f64 c.cmd.old.num, .string c.cmd.old.text, .int .i64 c.cmd.val.kind, .float .f64 c.cmd.val.num, .string c.cmd.val.text]] w fun e w' => e = .returned (.bool (jJ c yK.zero)) ∧ Ext w w' := by
 go_enter Tryz.func83, Tryz.ntmps83
 go_wp2_with fail
 refine (zoR c yK.zero _).mono ?_
 rintro e w1 ⟨rfl, hE⟩
 have HE := hJ (((Mod.refl (fun _ => False) w).alloc _).ext hE)
 clear hE
 go_wp2
 go_ret
 exact ⟨rfl, HE.out⟩
theorem zoT (c : yF) (w : World) : Calls Tryz.prog 84 #[.agg #[.int .i64 c.full, .int .i64 c.wit, .int .i64 c.learn, .int .i64 c.learnWit]] w fun e w' => e = .returned (.bool (xI c yF.zero)) ∧ Ext w w' := by
 go_enter Tryz.func84, Tryz.ntmps84
 go_wp2_with fail
 refine (zi1 c yF.zero _).mono ?_
 rintro e w1 ⟨rfl, hE⟩
 have HE := hJ (((Mod.refl (fun _ => False) w).alloc _).ext hE)
 clear hE
 go_wp2
 go_ret
 exact ⟨rfl, HE.out⟩
theorem p_entB (x : zI) (w : World) : Calls Tryz.prog 47 #[.agg #[.int .i64 x.term, .int .i64 x.kind, .int .i64 x.call.client, .int .i64 x.call.seq, .int .i64 x.call.cmd.kind, .string x.call.cmd.key, .int .i64 x.call.cmd.old.kind, .float .f64 x.call.cmd.old.num, .string x.call.cmd.old.text, .int .i64 x.call.cmd.val.kind, .float .f64 x.call.cmd.val.num, .string x.call.cmd.val.text, .int .i64 x.conf.full, .int .i64 x.conf.wit, .int .i64 x.conf.learn, .int .i64 x.conf.learnWit]] w fun e w' => e = .returned (.bool (zcK x)) ∧ Ext w w' := by
 obtain ⟨q, hq⟩ : ∃ q, w.heap.size = q := ⟨_, rfl⟩
 obtain ⟨W, hW⟩ : ∃ W, W = w.alloc (.cells #[.int .i64 x.term, .int .i64 x.kind, .int .i64 x.call.client, .int .i64 x.call.seq, .int .i64 x.call.cmd.kind, .string x.call.cmd.key, .int .i64 x.call.cmd.old.kind, .float .f64 x.call.cmd.old.num, .string x.call.cmd.old.text, .int .i64 x.call.cmd.val.kind, .float .f64 x.call.cmd.val.num, .string x.call.cmd.val.text, .int .i64 x.conf.full, .int .i64 x.conf.wit, .int .i64 x.conf.learn, .int .i64 x.conf.learnWit] 56) := ⟨_, rfl⟩
 have hE : Ext w W := by rw [hW]; exact (Mod.refl _ w).alloc _
 have hA : W.heap[q]? = some (.cells #[.int .i64 x.term, .int .i64 x.kind, .int .i64 x.call.client, .int .i64 x.call.seq, .int .i64 x.call.cmd.kind, .string x.call.cmd.key, .int .i64 x.call.cmd.old.kind, .float .f64 x.call.cmd.old.num, .string x.call.cmd.old.text, .int .i64 x.call.cmd.val.kind, .float .f64 x.call.cmd.val.num, .string x.call.cmd.val.text, .int .i64 x.conf.full, .int .i64 x.conf.wit, .int .i64 x.conf.learn, .int .i64 x.conf.learnWit] 56 (0, 0)) := by rw [hW, ← hq]; exact heap_alloc_new w _
 have HW := hJ hW
 have Hq := hJ hq
 have HE := hJ hE
 have HA := hJ hA
 clear hW hq hE hA
 have hret : ∀ b w', zcK x = b → Ext W w' → Ending.returned (.bool b) = .returned (.bool (zcK x)) ∧ Ext w w' := fun b w' h1 h2 => ⟨by rw [h1], HE.out.ext h2⟩
 have Hret := hJ hret
 clear hret
 rcases h1 : decide (x.kind < 0) with _ | _
 rotate_left
 ·
  have Hb : Hid (zcK x = false) := hJ (by simp only [zcK, h1]; rfl)
  go_enter Tryz.func47, Tryz.ntmps47
  go_wp2
  rw [← HW.out]
  go_ret
  exact Hret.out _ _ Hb.out (Mod.refl _ _)
 rcases h2 : decide (2 < x.kind) with _ | _
 rotate_left
 ·
  have Hb : Hid (zcK x = false) := hJ (by simp only [zcK, h1, h2]; rfl)
  go_enter Tryz.func47, Tryz.ntmps47
  go_wp2
  rw [← HW.out]
  go_ret
  exact Hret.out _ _ Hb.out (Mod.refl _ _)
 have hk3 : x.kind = 0 ∨ x.kind = 1 ∨ x.kind = 2 := by simp at h1 h2; omega
 rcases hk3 with hk | hk | hk
 ·
  have d1 : (x.kind != 1) = true := by simp [hk]
  have d2 : (x.kind != 2) = true := by simp [hk]
  have Hb : Hid (zcK x = (jJ x.call yK.zero && xI x.conf yF.zero)) := hJ (by simp only [zcK, h1, h2, d1, d2]; simp)
  clear hk
  go_enter Tryz.func47, Tryz.ntmps47
  go_wp2_with fail
  rw [← HW.out]
  refine (zoS x.call W).mono ?_
  rintro e w1 ⟨rfl, hE1⟩
  rcases hz : jJ x.call yK.zero with _ | _
  ·
   have HE1 := hJ hE1
   have HA1 := hJ (hE1.blk HA.out id)
   have Hz := hJ hz
   clear hE1 hz
   go_wp2
   go_ret
   exact Hret.out _ _ (by rw [Hb.out, Hz.out]; rfl) HE1.out
  have HE1 := hJ hE1
  have HA1 := hJ (hE1.blk HA.out id)
  have Hz := hJ hz
  clear hE1 hz
  rw [Hq.out]
  obtain ⟨a0, a1, a2, a3, a4, a5, a6, a7, a8, a9, a10, a11, a12, a13, a14, a15⟩ := zj0 HA1.out
  go_wp2_with fail
  refine (zoT x.conf w1).mono ?_
  rintro e w2 ⟨rfl, hE2⟩
  have HE2 := hJ (HE1.out.ext hE2)
  have HA2 := hJ (hE2.blk HA1.out id)
  clear hE2
  clear a0 a1 a2 a3 a4 a5 a6 a7 a8 a9 a10 a11 a12 a13 a14 a15
  obtain ⟨a0, a1, a2, a3, a4, a5, a6, a7, a8, a9, a10, a11, a12, a13, a14, a15⟩ := zj0 HA2.out
  rcases hz : xI x.conf yF.zero with _ | _
  all_goals
   have Hz2 := hJ hz
   clear hz
   go_wp2
   go_ret
   exact Hret.out _ _ (by rw [Hb.out, Hz.out, Hz2.out]; rfl) HE2.out
 ·
  have d1 : (x.kind != 1) = false := by simp [hk]
  have d2 : (x.kind != 2) = true := by simp [hk]
  have Hb : Hid (zcK x = (xI x.conf yF.zero && (zb4 x.call.cmd.old && zb4 x.call.cmd.val))) := hJ (by simp only [zcK, h1, h2, d1, d2]; simp)
  clear hk
  go_enter Tryz.func47, Tryz.ntmps47
  go_wp2_with fail
  rw [← HW.out]
  refine (zoT x.conf W).mono ?_
  rintro e w1 ⟨rfl, hE1⟩
  have HE1 := hJ hE1
  have HA1 := hJ (hE1.blk HA.out id)
  rw [Hq.out]
  clear hE1
  obtain ⟨a0, a1, a2, a3, a4, a5, a6, a7, a8, a9, a10, a11, a12, a13, a14, a15⟩ := zj0 HA1.out
  rcases hz : xI x.conf yF.zero with _ | _
  ·
   have Hz := hJ hz
   clear hz
   go_wp2
   go_ret
   exact Hret.out _ _ (by rw [Hb.out, Hz.out]; rfl) HE1.out
  have Hz := hJ hz
  clear hz
  go_wp2_with fail
  refine (p_val x.call.cmd.old w1).mono ?_
  rintro e w2 ⟨rfl, hE2⟩
  have HE2 := hJ (HE1.out.ext hE2)
  have HA2 := hJ (hE2.blk HA1.out id)
  clear hE2
  clear a0 a1 a2 a3 a4 a5 a6 a7 a8 a9 a10 a11 a12 a13 a14 a15
  obtain ⟨a0, a1, a2, a3, a4, a5, a6, a7, a8, a9, a10, a11, a12, a13, a14, a15⟩ := zj0 HA2.out
  rcases hz : zb4 x.call.cmd.old with _ | _
  ·
   have Hz2 := hJ hz
   clear hz
   go_wp2
   go_ret
   exact Hret.out _ _ (by rw [Hb.out, Hz.out, Hz2.out]; rfl) HE2.out
  have Hz2 := hJ hz
  clear hz
  go_wp2_with fail
  refine (p_val x.call.cmd.val w2).mono ?_
  rintro e w3 ⟨rfl, hE3⟩
  have HE3 := hJ (HE2.out.ext hE3)
  clear hE3
  go_wp2
  go_ret
  exact Hret.out _ _ (by rw [Hb.out, Hz.out, Hz2.out]; rfl) HE3.out
 have d1 : (x.kind != 1) = true := by simp [hk]
 have d2 : (x.kind != 2) = false := by simp [hk]
 have Hb : Hid (zcK x = jJ x.call yK.zero) := hJ (by simp only [zcK, h1, h2, d1, d2]; simp)
 clear hk
 go_enter Tryz.func47, Tryz.ntmps47
 go_wp2_with fail
 rw [← HW.out]
 refine (zoS x.call W).mono ?_
 rintro e w1 ⟨rfl, hE1⟩
 have HE1 := hJ hE1
 have HA1 := hJ (hE1.blk HA.out id)
 rw [Hq.out]
 clear hE1
 obtain ⟨a0, a1, a2, a3, a4, a5, a6, a7, a8, a9, a10, a11, a12, a13, a14, a15⟩ := zj0 HA1.out
 rcases hz : jJ x.call yK.zero with _ | _
 all_goals
  have Hz := hJ hz
  clear hz
  go_wp2
  go_ret
  exact Hret.out _ _ (by rw [Hb.out, Hz.out]) HE1.out
end Go.Proofs.YtjhnlncgmejkcaaGreat
namespace Go.Proofs.YtjhnlncgmejkcaaGreat
set_option linter.unusedSimpArgs false
open Go.RowKit
theorem zcC (a b : Nat) (ha : a < 128) (hb : b < 128) : bits .and .i64 (a : Int) (b : Int) = ((a &&& b : Nat) : Int) := by
 have hx : a &&& b < 2 ^ 7 := Nat.and_lt_two_pow _ (by omega)
 show IntKind.i64.wrap ((BitVec.ofInt 64 (a : Int) &&& BitVec.ofInt 64 (b : Int)).toNat : Int) = _
 rw [BitVec.toNat_and, ofInt_u64 a (by omega), ofInt_u64 b (by omega), IntKind.wrap_i64]
 omega
theorem or_lt (a b : Nat) (ha : a < 128) (hb : b < 128) : a ||| b < 128 := by
 have : a ||| b < 2 ^ 7 := Nat.or_lt_two_pow (by omega) (by omega)
 omega
theorem zeM (a b : Nat) (ha : a < 128) (hb : b < 128) : bits .or .i64 (a : Int) (b : Int) = ((a ||| b : Nat) : Int) := by
 have hx := or_lt a b ha hb
 show IntKind.i64.wrap ((BitVec.ofInt 64 (a : Int) ||| BitVec.ofInt 64 (b : Int)).toNat : Int) = _
 rw [BitVec.toNat_or, ofInt_u64 a (by omega), ofInt_u64 b (by omega), IntKind.wrap_i64]
 omega
def chkL : List Int → Nat → Bool
 | [], _ => true
 | x :: l, a => zgQ x && (x.toNat &&& a == 0) && chkL l (a ||| x.toNat)
theorem zmZ (c : yF) : jK c = (chkL [c.full, c.wit, c.learn, c.learnWit] 0 && c.full != 0) := by
 unfold jK chkL chkL chkL chkL chkL
 rw [Nat.and_zero, Nat.zero_or, Nat.and_comm c.full.toNat, Nat.and_comm (c.full.toNat ||| c.wit.toNat), Nat.and_comm (c.full.toNat ||| c.wit.toNat ||| c.learn.toNat)]
 generalize zgQ c.full = a, zgQ c.wit = b, zgQ c.learn = d, zgQ c.learnWit = e
 generalize (c.wit.toNat &&& c.full.toNat == 0) = f, (c.learn.toNat &&& (c.full.toNat ||| c.wit.toNat) == 0) = g, (c.learnWit.toNat &&& (c.full.toNat ||| c.wit.toNat ||| c.learn.toNat) == 0) = h, (c.full != 0) = i
 revert a b d e f g h i
 decide
theorem zdU {x : Int} (h : zgQ x = true) : ∃ y : Nat, x = y ∧ y < 128 := by
 unfold zgQ at h
 simp only [Bool.and_eq_true, decide_eq_true_eq] at h
 exact ⟨x.toNat, by omega, by omega⟩
theorem zoU {x : Int} (h : x < 0 ∨ 127 < x) : zgQ x = false := by
 unfold zgQ
 rcases h with h | h
 · rw [decide_eq_false (by omega)]; rfl
 rw [decide_eq_false (show ¬ x ≤ 127 by omega), Bool.and_false]
theorem zlL {x : Int} (h0 : ¬ x < 0) (h1 : ¬ 127 < x) : zgQ x = true := by
 unfold zgQ
 rw [decide_eq_true (by omega), decide_eq_true (by omega)]; rfl
theorem zkG (c : yF) (w : World) : Calls Tryz.prog 66 #[.agg #[.int .i64 c.full, .int .i64 c.wit, .int .i64 c.learn, .int .i64 c.learnWit]] w fun e w' => e = .returned (.int .i64 (if jK c then 0 else 14)) ∧ Ext w w' := by
 rw [zmZ]
 obtain ⟨w2, hw2⟩ : ∃ w2, (w.alloc (.cells #[.int .i64 c.full, .int .i64 c.wit, .int .i64 c.learn, .int .i64 c.learnWit] 23)).alloc (.cells #[.int .i64 c.full, .int .i64 c.wit, .int .i64 c.learn, .int .i64 c.learnWit] 3) = w2 := ⟨_, rfl⟩
 have hE : Ext w w2 := by rw [← hw2]; exact ((Mod.refl _ w).alloc _).alloc _
 have hf : w2.cell? ⟨w.heap.size, 0, none⟩ = some (.int .i64 c.full) := by rw [← hw2]; simp [go_sem, World.cell?_alloc_past]
 obtain ⟨l, hl⟩ : ∃ l, [c.full, c.wit, c.learn, c.learnWit] = l := ⟨_, rfl⟩
 have hc : ∀ i x, l[i]? = some x → w2.cell? ⟨w.heap.size + 1, i, none⟩ = some (.int .i64 x) := by
  intro i x hx
  have hg : w2.heap[w.heap.size + 1]? = some (.cells (l.map (Value.int .i64)).toArray 3 (0, 0)) := by
   rw [← hw2, ← hl]
   have := heap_alloc_new (w.alloc (.cells #[.int .i64 c.full, .int .i64 c.wit, .int .i64 c.learn, .int .i64 c.learnWit] 23)) (.cells #[.int .i64 c.full, .int .i64 c.wit, .int .i64 c.learn, .int .i64 c.learnWit] 3)
   simpa using this
  exact zB hg (by rw [List.getElem?_map, hx]; rfl)
 have hll : l.length = 4 := by rw [← hl]; rfl
 rw [hl]
 obtain ⟨r, hr⟩ : ∃ r, chkL l 0 = r := ⟨_, rfl⟩
 rw [hr]
 obtain ⟨q, hq⟩ : ∃ q : Int, (if (r && c.full != 0) = true then 0 else 14) = q := ⟨_, rfl⟩
 rw [hq]
 have HQ := hJ hq
 clear hq
 have Hw2 := hJ hw2
 have HE := hJ hE
 have Hc := hJ hc
 have Hll := hJ hll
 have Hr := hJ hr
 clear hw2 hE hc hll hr hl
 go_enter Tryz.func66, Tryz.ntmps66
 go_wp2_with fail
 rw [Hw2.out]
 clear Hw2
 go_loop [3, 16] (fun av iv => ∃ i a : Nat, i ≤ 4 ∧ iv = .int .i64 i ∧ av = .int .i64 a ∧ a < 128 ∧ chkL (l.drop i) a = r) (fun _ iv => 4 - (intOf iv).toNat)
 case atStart => exact ⟨0, 0, by omega, rfl, rfl, by omega, Hr.out⟩
 obtain ⟨i, a, hi4, rfl, rfl, ha, hg⟩ := hrel
 by_cases hi : i < 4
 ·
  obtain ⟨x, hx⟩ : ∃ x, l[i]? = some x := ⟨_, List.getElem?_eq_getElem (by rw [Hll.out]; exact hi)⟩
  have hd : l.drop i = x :: l.drop (i + 1) := by
   obtain ⟨h1, h2⟩ := List.getElem?_eq_some_iff.1 hx
   rw [List.drop_eq_getElem_cons h1, h2]
  have x0 := Hc.out i x hx
  rw [hd, chkL] at hg
  have hi0 : (0 : Int) ≤ (i : Int) := by omega
  have hi1 : (i : Int) < 4 := by omega
  clear hd hx
  by_cases h1 : x < 0
  ·
   rw [zoU (.inl h1)] at hg
   have Hg := hJ hg
   clear hg
   go_wp2
   go_ret
   exact ⟨by rw [← HQ.out, ← Hg.out]; rfl, HE.out⟩
  by_cases h2 : 127 < x
  ·
   rw [zoU (.inr h2)] at hg
   have Hg := hJ hg
   clear hg
   go_wp2
   go_ret
   exact ⟨by rw [← HQ.out, ← Hg.out]; rfl, HE.out⟩
  rw [zlL h1 h2] at hg
  obtain ⟨y, rfl, hy⟩ := zdU (zlL h1 h2)
  have e1 := zcC y a hy ha
  have e2 := zeM a y ha hy
  have e3 := or_lt a y ha hy
  rw [Int.toNat_natCast, Bool.true_and] at hg
  clear h1
  have h1 : (0 : Int) ≤ (y : Int) := by omega
  obtain ⟨z, hz⟩ : ∃ z, y &&& a = z := ⟨_, rfl⟩
  obtain ⟨u, hu⟩ : ∃ u, a ||| y = u := ⟨_, rfl⟩
  rw [hz] at e1 hg
  rw [hu] at e2 e3 hg
  by_cases hz0 : z = 0
  rotate_left
  ·
   rw [show (z == 0) = false by simpa using hz0] at hg
   have hzb : ((z : Int) != 0) = true := by simpa using hz0
   have Hg := hJ hg
   clear hg hz hu hz0
   go_wp2
   go_ret
   exact ⟨by rw [← HQ.out, ← Hg.out]; rfl, HE.out⟩
  subst hz0
  rw [show ((0 : Nat) == 0) = true from rfl, Bool.true_and] at hg
  have Hg := hJ hg
  clear hg hz hu
  go_wp2_with fail
  go_round
  case rel => exact ⟨i + 1, u, by omega, by go_num, rfl, e3, Hg.out⟩
  case measure => simp [intOf]; omega
 have e : i = 4 := by omega
 subst e
 rw [List.drop_of_length_le (by rw [Hll.out]; exact Nat.le_refl _)] at hg
 have Hg := hJ hg
 clear hg
 by_cases h0 : c.full = 0
 ·
  have hb : (c.full == 0) = true := by simpa using h0
  have Hn : Hid ((c.full != 0) = false) := hJ (by simpa using h0)
  clear h0
  go_wp2
  go_ret
  exact ⟨by rw [← HQ.out, Hn.out, Bool.and_false]; rfl, HE.out⟩
 have hb : (c.full == 0) = false := by simpa using h0
 have Hn : Hid ((c.full != 0) = true) := hJ (by simpa using h0)
 clear h0
 go_wp2
 go_ret
 exact ⟨by rw [← HQ.out, Hn.out, ← Hg.out]; rfl, HE.out⟩
theorem xQ (n lo hi : Int) (w : World) : Calls Tryz.prog 65 #[.int .i64 n, .int .i64 lo, .int .i64 hi] w fun e w' => e = .returned (.bool (decide (lo ≤ n) && decide (n ≤ hi))) ∧ w = w' := by
 rcases h1 : decide (lo ≤ n) with _ | _
 ·
  go_enter Tryz.func65, Tryz.ntmps65
  go_wp2
  go_ret
  exact ⟨rfl, rfl⟩
 go_enter Tryz.func65, Tryz.ntmps65
 go_wp2
 go_ret
 exact ⟨rfl, rfl⟩
theorem zdV (n : Int) (w : World) : Calls Tryz.prog 34 #[.int .i64 n] w fun e w' => e = .returned (.bool (zgQ n)) ∧ w = w' := by
 go_enter Tryz.func34, Tryz.ntmps34
 go_wp2_with fail
 refine (xQ n 0 127 _).mono ?_
 rintro e w1 ⟨rfl, rfl⟩
 go_wp2
 go_ret
 exact ⟨rfl, rfl⟩
theorem zoV (c : yF) (w : World) : Calls Tryz.prog 9 #[.agg #[.int .i64 c.full, .int .i64 c.wit, .int .i64 c.learn, .int .i64 c.learnWit]] w fun e w' => e = .returned (.bool (jK c)) ∧ Ext w w' := by
 obtain ⟨a, b, d, f⟩ := c
 have hE : Ext w (w.alloc (.cells #[.int .i64 a, .int .i64 b, .int .i64 d, .int .i64 f] 23)) := (Mod.refl _ w).alloc _
 obtain ⟨r, hr⟩ : ∃ r, jK ⟨a, b, d, f⟩ = r := ⟨_, rfl⟩
 rw [hr]
 have Hr := hJ hr
 clear hr
 simp only
 rcases h1 : zgQ a with _ | _
 ·
  have Hf : Hid (r = false) := hJ (by rw [← Hr.out]; simp [jK, h1])
  go_enter Tryz.func9, Tryz.ntmps9
  go_wp2_with (go_at_call 34; refine (zdV _ _).mono ?_; rintro e w1 ⟨rfl, rfl⟩)
  go_ret
  exact ⟨by rw [Hf.out]; rfl, hE⟩
 rcases h2 : zgQ b with _ | _
 ·
  have Hf : Hid (r = false) := hJ (by rw [← Hr.out]; simp [jK, h2])
  go_enter Tryz.func9, Tryz.ntmps9
  go_wp2_with (go_at_call 34; refine (zdV _ _).mono ?_; rintro e w1 ⟨rfl, rfl⟩)
  go_ret
  exact ⟨by rw [Hf.out]; rfl, hE⟩
 rcases h3 : zgQ d with _ | _
 ·
  have Hf : Hid (r = false) := hJ (by rw [← Hr.out]; simp [jK, h3])
  go_enter Tryz.func9, Tryz.ntmps9
  go_wp2_with (go_at_call 34; refine (zdV _ _).mono ?_; rintro e w1 ⟨rfl, rfl⟩)
  go_ret
  exact ⟨by rw [Hf.out]; rfl, hE⟩
 rcases h4 : zgQ f with _ | _
 ·
  have Hf : Hid (r = false) := hJ (by rw [← Hr.out]; simp [jK, h4])
  go_enter Tryz.func9, Tryz.ntmps9
  go_wp2_with (go_at_call 34; refine (zdV _ _).mono ?_; rintro e w1 ⟨rfl, rfl⟩)
  go_ret
  exact ⟨by rw [Hf.out]; rfl, hE⟩
 obtain ⟨a, rfl, ha⟩ := zdU h1
 obtain ⟨b, rfl, hb⟩ := zdU h2
 obtain ⟨d, rfl, hd⟩ := zdU h3
 obtain ⟨f, rfl, hf⟩ := zdU h4
 have e1 := zcC a b ha hb
 have e2 := zeM a b ha hb
 have l2 := or_lt a b ha hb
 have e3 := zcC (a ||| b) d l2 hd
 have e4 := zeM (a ||| b) d l2 hd
 have l4 := or_lt (a ||| b) d l2 hd
 have e5 := zcC (a ||| b ||| d) f l4 hf
 have Hq : Hid (r = ((a &&& b == 0) && ((a ||| b) &&& d == 0) && ((a ||| b ||| d) &&& f == 0) && ((a : Int) != 0))) := hJ (by rw [← Hr.out]; unfold jK; simp only [h1, h2, h3, h4, Int.toNat_natCast, Bool.true_and])
 obtain ⟨x, hx⟩ : ∃ x, a &&& b = x := ⟨_, rfl⟩
 obtain ⟨u, hu⟩ : ∃ u, a ||| b = u := ⟨_, rfl⟩
 rw [hu] at e2 e3 e4 e5 Hq
 obtain ⟨y, hy⟩ : ∃ y, u &&& d = y := ⟨_, rfl⟩
 obtain ⟨v, hv⟩ : ∃ v, u ||| d = v := ⟨_, rfl⟩
 rw [hv] at e4 e5 Hq
 obtain ⟨z, hz⟩ : ∃ z, v &&& f = z := ⟨_, rfl⟩
 rw [hx] at e1 Hq
 rw [hy] at e3 Hq
 rw [hz] at e5 Hq
 clear hx hu hy hv hz l2 l4 Hr ha hb hd hf
 rcases g1 : ((a : Int) != 0) with _ | _
 ·
  have Hf : Hid (r = false) := hJ (by rw [Hq.out, g1, Bool.and_false])
  clear Hq
  go_enter Tryz.func9, Tryz.ntmps9
  go_wp2_with (go_at_call 34; refine (zdV _ _).mono ?_; rintro e w1 ⟨rfl, rfl⟩)
  go_ret
  exact ⟨by rw [Hf.out]; rfl, hE⟩
 rcases g2 : ((x : Int) == 0) with _ | _
 ·
  have Hf : Hid (r = false) := hJ (by rw [Hq.out, show (x == 0) = false by simpa using g2]; simp)
  clear Hq
  go_enter Tryz.func9, Tryz.ntmps9
  go_wp2_with (go_at_call 34; refine (zdV _ _).mono ?_; rintro e w1 ⟨rfl, rfl⟩)
  go_ret
  exact ⟨by rw [Hf.out]; rfl, hE⟩
 rcases g3 : ((y : Int) == 0) with _ | _
 ·
  have Hf : Hid (r = false) := hJ (by rw [Hq.out, show (y == 0) = false by simpa using g3]; simp)
  clear Hq
  go_enter Tryz.func9, Tryz.ntmps9
  go_wp2_with (go_at_call 34; refine (zdV _ _).mono ?_; rintro e w1 ⟨rfl, rfl⟩)
  go_ret
  exact ⟨by rw [Hf.out]; rfl, hE⟩
 rcases g4 : ((z : Int) == 0) with _ | _
 ·
  have Hf : Hid (r = false) := hJ (by rw [Hq.out, show (z == 0) = false by simpa using g4]; simp)
  clear Hq
  go_enter Tryz.func9, Tryz.ntmps9
  go_wp2_with (go_at_call 34; refine (zdV _ _).mono ?_; rintro e w1 ⟨rfl, rfl⟩)
  go_ret
  exact ⟨by rw [Hf.out]; rfl, hE⟩
 have Hf : Hid (r = true) := hJ (by rw [Hq.out, g1, show (x == 0) = true by simpa using g2, show (y == 0) = true by simpa using g3, show (z == 0) = true by simpa using g4]; rfl)
 clear Hq
 go_enter Tryz.func9, Tryz.ntmps9
 go_wp2_with (go_at_call 34; refine (zdV _ _).mono ?_; rintro e w1 ⟨rfl, rfl⟩)
 go_ret
 exact ⟨by rw [Hf.out]; rfl, hE⟩
theorem zfU (v : jY) (w : World) : Calls Tryz.prog 161 #[.agg #[.int .i64 v.kind, .float .f64 v.num, .string v.text]] w fun e w' => e = .returned (.bool (zdC v)) ∧ Ext w w' := by
 have hT : v.text.toList.isEmpty = zX v.text := rfl
 rcases h1 : (v.kind == 0) with _ | _
 ·
  go_enter Tryz.func161, Tryz.ntmps161
  go_wp2
  go_ret
  exact ⟨zP (by simp [zdC, h1]), (Mod.refl _ w).alloc _⟩
 rcases h2 : xC v.num 0 with _ | _
 focus
  go_enter Tryz.func161, Tryz.ntmps161
 rotate_left
 focus
  go_enter Tryz.func161, Tryz.ntmps161
 all_goals
  go_wp2_with (go_at_call 188; refine (zj3 _ _ _).mono ?_; rintro e w' ⟨rfl, rfl⟩)
  go_ret
  exact ⟨zP (by simp [zdC, h1, h2]), (Mod.refl _ w).alloc _⟩
theorem zlM (c : yK) (w : World) : Calls Tryz.prog 124 #[.agg #[.int .i64 c.client, .int .i64 c.seq, .int .i64 c.cmd.kind, .string c.cmd.key, .int .i64 c.cmd.old.kind, .float .f64 c.cmd.old.num, .string c.cmd.old.text, .int .i64 c.cmd.val.kind, .float .f64 c.cmd.val.num, .string c.cmd.val.text]] w
  fun e w' => e = .returned (.bool (yV c)) ∧ Ext w w' := by
 have hT : c.cmd.key.toList.isEmpty = zX c.cmd.key := rfl
 have hE : Ext w (w.alloc (.cells #[.int .i64 c.client, .int .i64 c.seq, .int .i64 c.cmd.kind, .string c.cmd.key, .int .i64 c.cmd.old.kind, .float .f64 c.cmd.old.num, .string c.cmd.old.text, .int .i64 c.cmd.val.kind, .float .f64 c.cmd.val.num, .string c.cmd.val.text] 54)) := (Mod.refl _ w).alloc _
 rcases h1 : (c.client == 0) with _ | _
 ·
  go_enter Tryz.func124, Tryz.ntmps124
  go_wp2
  go_ret
  exact ⟨zP (by simp [yV, h1]), hE⟩
 rcases h2 : (c.seq == 0) with _ | _
 ·
  go_enter Tryz.func124, Tryz.ntmps124
  go_wp2
  go_ret
  exact ⟨zP (by simp [yV, h2]), hE⟩
 rcases h3 : (c.cmd.kind == 0) with _ | _
 ·
  go_enter Tryz.func124, Tryz.ntmps124
  go_wp2
  go_ret
  exact ⟨zP (by simp [yV, h3]), hE⟩
 rcases h4 : zX c.cmd.key with _ | _
 ·
  go_enter Tryz.func124, Tryz.ntmps124
  go_wp2
  go_ret
  exact ⟨zP (by simp [yV, h4]), hE⟩
 rcases h5 : zdC c.cmd.old with _ | _
 ·
  go_enter Tryz.func124, Tryz.ntmps124
  go_wp2_with fail
  refine (zfU c.cmd.old _).mono ?_
  rintro e w1 ⟨rfl, hE1⟩
  rw [h5]
  have HE1 := hJ hE1
  clear hE1
  go_wp2
  go_ret
  exact ⟨zP (by simp [yV, h5]), Mod.ext hE HE1.out⟩
 go_enter Tryz.func124, Tryz.ntmps124
 go_wp2_with fail
 refine (zfU c.cmd.old _).mono ?_
 rintro e w1 ⟨rfl, hE1⟩
 rw [h5]
 have c1 := hE1.cell (p := ⟨w.heap.size, 7, none⟩) (v := .int .i64 c.cmd.val.kind) (by simp) id
 have c2 := hE1.cell (p := ⟨w.heap.size, 8, none⟩) (v := .float .f64 c.cmd.val.num) (by simp) id
 have c3 := hE1.cell (p := ⟨w.heap.size, 9, none⟩) (v := .string c.cmd.val.text) (by simp) id
 have HE1 := hJ hE1
 clear hE1
 go_wp2_with fail
 refine (zfU c.cmd.val _).mono ?_
 rintro e w2 ⟨rfl, hE2⟩
 have HE2 := hJ hE2
 clear hE2
 go_wp2
 go_ret
 exact ⟨zP (by simp [yV, h1, h2, h3, h4, h5]), Mod.ext (Mod.ext hE HE1.out) HE2.out⟩
end Go.Proofs.YtjhnlncgmejkcaaGreat
namespace Go.Proofs.YtjhnlncgmejkcaaGreat
open Go.RowKit
attribute [local go_sem] yP jA
def zdW (n : Int) : Ending := .panicked [{ v := .iface 191 (.agg #[.int .i64 n]), recovered := false }]
def St (w : World) (S : Nat → Prop) (b : Nat) (bs : List UInt8) (long : Bool) : Prop := Wr w S b bs long ∧ ∀ k, S k → k < w.heap.size
def znQ (w : World) (S : Nat → Prop) (b : Nat) (bs : List UInt8) (long : Bool) (o : WO) (e : Ending) (w' : World) : Prop :=
 Mod S w w' ∧ match o with
  | some (d, l) => e = .returned (.tuple #[]) ∧ ∃ S1, St w' S1 b (bs ++ d) (long || l) ∧ ∀ k, S1 k → S k ∨ w.heap.size ≤ k
  | none => e = zdW 3
theorem zaH (w : World) : Calls Tryz.prog 181 #[.bool true] w fun e w' => e = .returned (.tuple #[]) ∧ w = w' := by
 go_enter Tryz.func181, Tryz.ntmps181
 go_wp2
 go_end0
 exact ⟨rfl, rfl⟩
theorem zaI (w : World) : Calls Tryz.prog 181 #[.bool false] w fun e w' => e = zdW 3 ∧ w = w' := by
 go_enter Tryz.func181, Tryz.ntmps181
 go_wp2
 exact ⟨rfl, rfl, rfl⟩
theorem zh0 (a b : Nat) (w : World) : Calls Tryz.prog 188 #[.float .f64 a, .float .f64 b] w fun e w' => e = .returned (.bool (xC a b)) ∧ w = w' := by
 have e3 : ((yU a : Int) == (yU b : Int)) = xC a b := by unfold xC; rw [Bool.eq_iff_iff]; simp; omega
 go_enter Tryz.func188, Tryz.ntmps188
 go_wp2_with (go_at_call 199; refine (zbG _ _).mono ?_; rintro e w' ⟨rfl, rfl⟩)
 go_ret
 exact ⟨rfl, rfl⟩
theorem zm0 (a : Nat) (w : World) : Calls Tryz.prog 202 #[.float .f64 a] w fun e w' => e = .returned (.bool (za4 a)) ∧ w = w' := by
 have e3 : ((yU a : Int) == (a : Int)) = za4 a := by unfold za4; rw [Bool.eq_iff_iff]; simp; omega
 go_enter Tryz.func202, Tryz.ntmps202
 go_wp2_with (go_at_call 199; refine (zbG _ _).mono ?_; rintro e w' ⟨rfl, rfl⟩)
 go_ret
 exact ⟨rfl, rfl⟩
theorem zfV (v : jY) (w : World) : Calls Tryz.prog 194 #[.agg #[.int .i64 v.kind, .float .f64 v.num, .string v.text]] w fun e w' => e = .returned (.bool (zdC v)) ∧ Ext w w' := by
 have hT : v.text.toList.isEmpty = zX v.text := rfl
 rcases h1 : (v.kind == 0) with _ | _
 ·
  go_enter Tryz.func194, Tryz.ntmps194
  go_wp2
  go_ret
  exact ⟨zP (by simp [zdC, h1]), (Mod.refl _ w).alloc _⟩
 rcases h2 : xC v.num 0 with _ | _
 focus
  go_enter Tryz.func194, Tryz.ntmps194
 rotate_left
 focus
  go_enter Tryz.func194, Tryz.ntmps194
 all_goals
  go_wp2_with (go_at_call 188; refine (zh0 _ _ _).mono ?_; rintro e w' ⟨rfl, rfl⟩)
  go_ret
  exact ⟨zP (by simp [zdC, h1, h2]), (Mod.refl _ w).alloc _⟩
theorem zg7 (c : yK) (w : World) : Calls Tryz.prog 182 #[.agg #[.int .i64 c.client, .int .i64 c.seq, .int .i64 c.cmd.kind, .string c.cmd.key, .int .i64 c.cmd.old.kind, .float .f64 c.cmd.old.num, .string c.cmd.old.text, .int .i64 c.cmd.val.kind, .float .f64 c.cmd.val.num, .string c.cmd.val.text]] w
  fun e w' => e = .returned (.bool (yV c)) ∧ Ext w w' := by
 have hT : c.cmd.key.toList.isEmpty = zX c.cmd.key := rfl
 have hE : Ext w (w.alloc (.cells #[.int .i64 c.client, .int .i64 c.seq, .int .i64 c.cmd.kind, .string c.cmd.key, .int .i64 c.cmd.old.kind, .float .f64 c.cmd.old.num, .string c.cmd.old.text, .int .i64 c.cmd.val.kind, .float .f64 c.cmd.val.num, .string c.cmd.val.text] 54)) := (Mod.refl _ w).alloc _
 rcases h1 : (c.client == 0) with _ | _
 ·
  go_enter Tryz.func182, Tryz.ntmps182
  go_wp2
  go_ret
  exact ⟨zP (by simp [yV, h1]), hE⟩
 rcases h2 : (c.seq == 0) with _ | _
 ·
  go_enter Tryz.func182, Tryz.ntmps182
  go_wp2
  go_ret
  exact ⟨zP (by simp [yV, h2]), hE⟩
 rcases h3 : (c.cmd.kind == 0) with _ | _
 ·
  go_enter Tryz.func182, Tryz.ntmps182
  go_wp2
  go_ret
  exact ⟨zP (by simp [yV, h3]), hE⟩
 rcases h4 : zX c.cmd.key with _ | _
 ·
  go_enter Tryz.func182, Tryz.ntmps182
  go_wp2
  go_ret
  exact ⟨zP (by simp [yV, h4]), hE⟩
 rcases h5 : zdC c.cmd.old with _ | _
 ·
  go_enter Tryz.func182, Tryz.ntmps182
  go_wp2_with fail
  refine (zfV c.cmd.old _).mono ?_
  rintro e w1 ⟨rfl, hE1⟩
  rw [h5]
  have HE1 := hJ hE1
  clear hE1
  go_wp2
  go_ret
  exact ⟨zP (by simp [yV, h5]), Mod.ext hE HE1.out⟩
 go_enter Tryz.func182, Tryz.ntmps182
 go_wp2_with fail
 refine (zfV c.cmd.old _).mono ?_
 rintro e w1 ⟨rfl, hE1⟩
 rw [h5]
 have c1 := hE1.cell (p := ⟨w.heap.size, 7, none⟩) (v := .int .i64 c.cmd.val.kind) (by simp) id
 have c2 := hE1.cell (p := ⟨w.heap.size, 8, none⟩) (v := .float .f64 c.cmd.val.num) (by simp) id
 have c3 := hE1.cell (p := ⟨w.heap.size, 9, none⟩) (v := .string c.cmd.val.text) (by simp) id
 have HE1 := hJ hE1
 clear hE1
 go_wp2_with fail
 refine (zfV c.cmd.val _).mono ?_
 rintro e w2 ⟨rfl, hE2⟩
 have HE2 := hJ hE2
 clear hE2
 go_wp2
 go_ret
 exact ⟨zP (by simp [yV, h1, h2, h3, h4, h5]), Mod.ext (Mod.ext hE HE1.out) HE2.out⟩
end Go.Proofs.YtjhnlncgmejkcaaGreat
