/-
 The contracts of hist.sameCmd, hist.sameReply. Conditions: as each theorem names them.
-/
import Derived.Test.YtbclnghbgoblcaaGreatGGet
namespace Go.Proofs.YtbclnghbgoblcaaGreat
set_option linter.unusedSimpArgs false
open Go.RowKit

set_option maxRecDepth 100000 in
set_option maxHeartbeats 1000000 in
theorem h_sameCmd (a b : ACmd) (w : World) : Calls Tryz.prog 25 #[.agg #[.int .i64 a.kind, .string a.key, .int .i64 a.old.kind, .float .f64 a.old.num, .string a.old.text, .int .i64 a.val.kind, .float .f64 a.val.num, .string a.val.text], .agg #[.int .i64 b.kind, .string b.key, .int .i64 b.old.kind, .float .f64 b.old.num, .string b.old.text, .int .i64 b.val.kind, .float .f64 b.val.num, .string b.val.text]] w fun e w' => e = .returned (.bool (eqCmd a b)) ∧ Ext w w' := by
 have hE : Ext w ((w.alloc (.cells #[.int .i64 a.kind, .string a.key, .int .i64 a.old.kind, .float .f64 a.old.num, .string a.old.text, .int .i64 a.val.kind, .float .f64 a.val.num, .string a.val.text] 42)).alloc (.cells #[.int .i64 b.kind, .string b.key, .int .i64 b.old.kind, .float .f64 b.old.num, .string b.old.text, .int .i64 b.val.kind, .float .f64 b.val.num, .string b.val.text] 42)) := ((Mod.refl _ w).alloc _).alloc _
 have hT : (a.key.toList == b.key.toList) = eqT a.key b.key := rfl
 rcases h0 : (a.kind == b.kind) with _ | _
 ·
  go_enter Tryz.func25, Tryz.ntmps25
  go_wp2
  go_ret
  exact ⟨ret_bool (by simp [eqCmd, h0]), hE⟩
 rcases h1 : eqT a.key b.key with _ | _
 ·
  go_enter Tryz.func25, Tryz.ntmps25
  go_wp2
  go_ret
  exact ⟨ret_bool (by simp [eqCmd, h1]), hE⟩
 go_enter Tryz.func25, Tryz.ntmps25
 go_wp2_with fail
 refine (v_same a.old b.old _).mono ?_
 rintro e w0 ⟨rfl, hE0⟩
 have hF0 : Ext w w0 := Mod.ext hE hE0
 have HF0 := Lib.hid hF0
 have ca5 := hE0.cell (p := ⟨w.heap.size, 5, none⟩) (v := .int .i64 a.val.kind) (by simp) id
 have ca6 := hE0.cell (p := ⟨w.heap.size, 6, none⟩) (v := .float .f64 a.val.num) (by simp) id
 have ca7 := hE0.cell (p := ⟨w.heap.size, 7, none⟩) (v := .string a.val.text) (by simp) id
 have cb5 := hE0.cell (p := ⟨w.heap.size + 1, 5, none⟩) (v := .int .i64 b.val.kind) (by simp) id
 have cb6 := hE0.cell (p := ⟨w.heap.size + 1, 6, none⟩) (v := .float .f64 b.val.num) (by simp) id
 have cb7 := hE0.cell (p := ⟨w.heap.size + 1, 7, none⟩) (v := .string b.val.text) (by simp) id
 clear hF0 hE0
 rcases g0 : eqVal a.old b.old with _ | _
 ·
  go_wp2
  go_ret
  exact ⟨ret_bool (by simp [eqCmd, g0]), HF0.out⟩
 go_wp2_with fail
 refine (v_same a.val b.val _).mono ?_
 rintro e w1 ⟨rfl, hE1⟩
 have hF1 : Ext w w1 := Mod.ext HF0.out hE1
 have HF1 := Lib.hid hF1
 clear hF1 hE1
 go_wp2
 go_ret
 exact ⟨ret_bool (by simp [eqCmd, h0, h1, g0]), HF1.out⟩

set_option maxRecDepth 100000 in
set_option maxHeartbeats 1000000 in
theorem h_sameReply (a b : AReply) (w : World) : Calls Tryz.prog 34 #[.agg #[.int .i64 a.code, .int .i64 a.val.kind, .float .f64 a.val.num, .string a.val.text], .agg #[.int .i64 b.code, .int .i64 b.val.kind, .float .f64 b.val.num, .string b.val.text]] w fun e w' => e = .returned (.bool (eqReply a b)) ∧ Ext w w' := by
 have hE : Ext w ((w.alloc (.cells #[.int .i64 a.code, .int .i64 a.val.kind, .float .f64 a.val.num, .string a.val.text] 46)).alloc (.cells #[.int .i64 b.code, .int .i64 b.val.kind, .float .f64 b.val.num, .string b.val.text] 46)) := ((Mod.refl _ w).alloc _).alloc _
 unfold eqReply
 rcases h : (a.code == b.code) with _ | _
 ·
  go_enter Tryz.func34, Tryz.ntmps34
  go_wp2
  go_ret
  exact ⟨rfl, hE⟩
 ·
  go_enter Tryz.func34, Tryz.ntmps34
  go_wp2_with fail
  refine (v_same a.val b.val _).mono ?_
  rintro e w1 ⟨rfl, hE1⟩
  have HE := Lib.hid (Mod.ext hE hE1)
  clear hE hE1
  go_wp2
  go_ret
  exact ⟨rfl, HE.out⟩
end Go.Proofs.YtbclnghbgoblcaaGreat
