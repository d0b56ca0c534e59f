/-
 Contracts of the verifier's comparisons of plain data (skerrykeep): values, commands, calls, configurations, entries. Conditions: as each theorem names them.
-/
import Derived.Test.YtfkacakbengboaaKeep
import Derived.Test.YtfkacakbengboaaGSpec
import Derived.Test.YtfkacakbengboaaKeepF
namespace Go.Proofs.Ytfkacakbengboaa
open Go.RowKit

-- GEN
set_option maxRecDepth 100000 in
set_option maxHeartbeats 1000000 in
theorem k_cmd (a b : ACmd) (w : World) : Calls Try.prog 83 #[.agg #[.int .i64 a.kind, .string a.key, .int .i64 a.old.kind, .float .f64 a.old.num, .string a.old.text, .int .i64 a.val.kind, .float .f64 a.val.num, .string a.val.text], .agg #[.int .i64 b.kind, .string b.key, .int .i64 b.old.kind, .float .f64 b.old.num, .string b.old.text, .int .i64 b.val.kind, .float .f64 b.val.num, .string b.val.text]] w fun e w' => e = .returned (.bool (eqCmd a b)) ∧ Ext w w' := by
 have hE : Ext w ((w.alloc (.cells #[.int .i64 a.kind, .string a.key, .int .i64 a.old.kind, .float .f64 a.old.num, .string a.old.text, .int .i64 a.val.kind, .float .f64 a.val.num, .string a.val.text] 40)).alloc (.cells #[.int .i64 b.kind, .string b.key, .int .i64 b.old.kind, .float .f64 b.old.num, .string b.old.text, .int .i64 b.val.kind, .float .f64 b.val.num, .string b.val.text] 40)) := ((Mod.refl _ w).alloc _).alloc _
 have hT : (a.key.toList == b.key.toList) = eqT a.key b.key := rfl
 rcases h0 : (a.kind == b.kind) with _ | _
 ·
  go_enter Try.func83, Try.ntmps83
  go_wp2
  go_ret
  exact ⟨ret_bool (by simp [eqCmd, h0]), hE⟩
 rcases h1 : eqT a.key b.key with _ | _
 ·
  go_enter Try.func83, Try.ntmps83
  go_wp2
  go_ret
  exact ⟨ret_bool (by simp [eqCmd, h1]), hE⟩
 go_enter Try.func83, Try.ntmps83
 go_wp2_with fail
 refine (k_value a.old b.old _).mono ?_
 rintro e w0 ⟨rfl, hE0⟩
 have hF0 : Ext w w0 := Mod.ext hE hE0
 have HF0 := Lib.hid hF0
 have ca5 := hE0.cell (p := ⟨w.heap.size, 5, none⟩) (v := .int .i64 a.val.kind) (by simp) id
 have ca6 := hE0.cell (p := ⟨w.heap.size, 6, none⟩) (v := .float .f64 a.val.num) (by simp) id
 have ca7 := hE0.cell (p := ⟨w.heap.size, 7, none⟩) (v := .string a.val.text) (by simp) id
 have cb5 := hE0.cell (p := ⟨w.heap.size + 1, 5, none⟩) (v := .int .i64 b.val.kind) (by simp) id
 have cb6 := hE0.cell (p := ⟨w.heap.size + 1, 6, none⟩) (v := .float .f64 b.val.num) (by simp) id
 have cb7 := hE0.cell (p := ⟨w.heap.size + 1, 7, none⟩) (v := .string b.val.text) (by simp) id
 clear hF0 hE0
 rcases g0 : eqVal a.old b.old with _ | _
 ·
  go_wp2
  go_ret
  exact ⟨ret_bool (by simp [eqCmd, g0]), HF0.out⟩
 go_wp2_with fail
 refine (k_value a.val b.val _).mono ?_
 rintro e w1 ⟨rfl, hE1⟩
 have hF1 : Ext w w1 := Mod.ext HF0.out hE1
 have HF1 := Lib.hid hF1
 clear hF1 hE1
 go_wp2
 go_ret
 exact ⟨ret_bool (by simp [eqCmd, h0, h1, g0]), HF1.out⟩

set_option maxRecDepth 100000 in
set_option maxHeartbeats 1000000 in
theorem k_call (a b : ACall) (w : World) : Calls Try.prog 41 #[.agg #[.int .i64 a.client, .int .i64 a.seq, .int .i64 a.cmd.kind, .string a.cmd.key, .int .i64 a.cmd.old.kind, .float .f64 a.cmd.old.num, .string a.cmd.old.text, .int .i64 a.cmd.val.kind, .float .f64 a.cmd.val.num, .string a.cmd.val.text], .agg #[.int .i64 b.client, .int .i64 b.seq, .int .i64 b.cmd.kind, .string b.cmd.key, .int .i64 b.cmd.old.kind, .float .f64 b.cmd.old.num, .string b.cmd.old.text, .int .i64 b.cmd.val.kind, .float .f64 b.cmd.val.num, .string b.cmd.val.text]] w fun e w' => e = .returned (.bool (eqCall a b)) ∧ Ext w w' := by
 have hE : Ext w ((w.alloc (.cells #[.int .i64 a.client, .int .i64 a.seq, .int .i64 a.cmd.kind, .string a.cmd.key, .int .i64 a.cmd.old.kind, .float .f64 a.cmd.old.num, .string a.cmd.old.text, .int .i64 a.cmd.val.kind, .float .f64 a.cmd.val.num, .string a.cmd.val.text] 42)).alloc (.cells #[.int .i64 b.client, .int .i64 b.seq, .int .i64 b.cmd.kind, .string b.cmd.key, .int .i64 b.cmd.old.kind, .float .f64 b.cmd.old.num, .string b.cmd.old.text, .int .i64 b.cmd.val.kind, .float .f64 b.cmd.val.num, .string b.cmd.val.text] 42)) := ((Mod.refl _ w).alloc _).alloc _
 rcases h0 : (a.client == b.client) with _ | _
 ·
  go_enter Try.func41, Try.ntmps41
  go_wp2
  go_ret
  exact ⟨ret_bool (by simp [eqCall, h0]), hE⟩
 rcases h1 : (a.seq == b.seq) with _ | _
 ·
  go_enter Try.func41, Try.ntmps41
  go_wp2
  go_ret
  exact ⟨ret_bool (by simp [eqCall, h1]), hE⟩
 go_enter Try.func41, Try.ntmps41
 go_wp2_with fail
 refine (k_cmd a.cmd b.cmd _).mono ?_
 rintro e w0 ⟨rfl, hE0⟩
 have hF0 : Ext w w0 := Mod.ext hE hE0
 have HF0 := Lib.hid hF0
 clear hF0 hE0
 go_wp2
 go_ret
 exact ⟨ret_bool (by simp [eqCall, h0, h1]), HF0.out⟩

set_option maxRecDepth 100000 in
set_option maxHeartbeats 1000000 in
theorem k_conf (a b : AConf) (w : World) : Calls Try.prog 42 #[.agg #[.int .i64 a.full, .int .i64 a.wit, .int .i64 a.learn, .int .i64 a.learnWit], .agg #[.int .i64 b.full, .int .i64 b.wit, .int .i64 b.learn, .int .i64 b.learnWit]] w fun e w' => e = .returned (.bool (eqConf a b)) ∧ Ext w w' := by
 have hE : Ext w ((w.alloc (.cells #[.int .i64 a.full, .int .i64 a.wit, .int .i64 a.learn, .int .i64 a.learnWit] 24)).alloc (.cells #[.int .i64 b.full, .int .i64 b.wit, .int .i64 b.learn, .int .i64 b.learnWit] 24)) := ((Mod.refl _ w).alloc _).alloc _
 rcases h0 : (a.full == b.full) with _ | _
 ·
  go_enter Try.func42, Try.ntmps42
  go_wp2
  go_ret
  exact ⟨ret_bool (by simp [eqConf, h0]), hE⟩
 rcases h1 : (a.wit == b.wit) with _ | _
 ·
  go_enter Try.func42, Try.ntmps42
  go_wp2
  go_ret
  exact ⟨ret_bool (by simp [eqConf, h1]), hE⟩
 rcases h2 : (a.learn == b.learn) with _ | _
 ·
  go_enter Try.func42, Try.ntmps42
  go_wp2
  go_ret
  exact ⟨ret_bool (by simp [eqConf, h2]), hE⟩
 go_enter Try.func42, Try.ntmps42
 go_wp2
 go_ret
 exact ⟨ret_bool (by simp [eqConf, h0, h1, h2]), hE⟩

set_option maxRecDepth 100000 in
set_option maxHeartbeats 1000000 in
theorem k_entry (a b : AEntry) (w : World) : Calls Try.prog 16 #[.agg #[.int .i64 a.term, .int .i64 a.kind, .int .i64 a.call.client, .int .i64 a.call.seq, .int .i64 a.call.cmd.kind, .string a.call.cmd.key, .int .i64 a.call.cmd.old.kind, .float .f64 a.call.cmd.old.num, .string a.call.cmd.old.text, .int .i64 a.call.cmd.val.kind, .float .f64 a.call.cmd.val.num, .string a.call.cmd.val.text, .int .i64 a.conf.full, .int .i64 a.conf.wit, .int .i64 a.conf.learn, .int .i64 a.conf.learnWit], .agg #[.int .i64 b.term, .int .i64 b.kind, .int .i64 b.call.client, .int .i64 b.call.seq, .int .i64 b.call.cmd.kind, .string b.call.cmd.key, .int .i64 b.call.cmd.old.kind, .float .f64 b.call.cmd.old.num, .string b.call.cmd.old.text, .int .i64 b.call.cmd.val.kind, .float .f64 b.call.cmd.val.num, .string b.call.cmd.val.text, .int .i64 b.conf.full, .int .i64 b.conf.wit, .int .i64 b.conf.learn, .int .i64 b.conf.learnWit]] w fun e w' => e = .returned (.bool (eqEntry a b)) ∧ Ext w w' := by
 have hE : Ext w ((w.alloc (.cells #[.int .i64 a.term, .int .i64 a.kind, .int .i64 a.call.client, .int .i64 a.call.seq, .int .i64 a.call.cmd.kind, .string a.call.cmd.key, .int .i64 a.call.cmd.old.kind, .float .f64 a.call.cmd.old.num, .string a.call.cmd.old.text, .int .i64 a.call.cmd.val.kind, .float .f64 a.call.cmd.val.num, .string a.call.cmd.val.text, .int .i64 a.conf.full, .int .i64 a.conf.wit, .int .i64 a.conf.learn, .int .i64 a.conf.learnWit] 44)).alloc (.cells #[.int .i64 b.term, .int .i64 b.kind, .int .i64 b.call.client, .int .i64 b.call.seq, .int .i64 b.call.cmd.kind, .string b.call.cmd.key, .int .i64 b.call.cmd.old.kind, .float .f64 b.call.cmd.old.num, .string b.call.cmd.old.text, .int .i64 b.call.cmd.val.kind, .float .f64 b.call.cmd.val.num, .string b.call.cmd.val.text, .int .i64 b.conf.full, .int .i64 b.conf.wit, .int .i64 b.conf.learn, .int .i64 b.conf.learnWit] 44)) := ((Mod.refl _ w).alloc _).alloc _
 rcases h0 : (a.term == b.term) with _ | _
 ·
  go_enter Try.func16, Try.ntmps16
  go_wp2
  go_ret
  exact ⟨ret_bool (by simp [eqEntry, h0]), hE⟩
 rcases h1 : (a.kind == b.kind) with _ | _
 ·
  go_enter Try.func16, Try.ntmps16
  go_wp2
  go_ret
  exact ⟨ret_bool (by simp [eqEntry, h1]), hE⟩
 go_enter Try.func16, Try.ntmps16
 go_wp2_with fail
 refine (k_call a.call b.call _).mono ?_
 rintro e w0 ⟨rfl, hE0⟩
 have hF0 : Ext w w0 := Mod.ext hE hE0
 have HF0 := Lib.hid hF0
 have ca12 := hE0.cell (p := ⟨w.heap.size, 12, none⟩) (v := .int .i64 a.conf.full) (by simp) id
 have ca13 := hE0.cell (p := ⟨w.heap.size, 13, none⟩) (v := .int .i64 a.conf.wit) (by simp) id
 have ca14 := hE0.cell (p := ⟨w.heap.size, 14, none⟩) (v := .int .i64 a.conf.learn) (by simp) id
 have ca15 := hE0.cell (p := ⟨w.heap.size, 15, none⟩) (v := .int .i64 a.conf.learnWit) (by simp) id
 have cb12 := hE0.cell (p := ⟨w.heap.size + 1, 12, none⟩) (v := .int .i64 b.conf.full) (by simp) id
 have cb13 := hE0.cell (p := ⟨w.heap.size + 1, 13, none⟩) (v := .int .i64 b.conf.wit) (by simp) id
 have cb14 := hE0.cell (p := ⟨w.heap.size + 1, 14, none⟩) (v := .int .i64 b.conf.learn) (by simp) id
 have cb15 := hE0.cell (p := ⟨w.heap.size + 1, 15, none⟩) (v := .int .i64 b.conf.learnWit) (by simp) id
 clear hF0 hE0
 rcases g0 : eqCall a.call b.call with _ | _
 ·
  go_wp2
  go_ret
  exact ⟨ret_bool (by simp [eqEntry, g0]), HF0.out⟩
 go_wp2_with fail
 refine (k_conf a.conf b.conf _).mono ?_
 rintro e w1 ⟨rfl, hE1⟩
 have hF1 : Ext w w1 := Mod.ext HF0.out hE1
 have HF1 := Lib.hid hF1
 clear hF1 hE1
 go_wp2
 go_ret
 exact ⟨ret_bool (by simp [eqEntry, h0, h1, g0]), HF1.out⟩

end Go.Proofs.Ytfkacakbengboaa
