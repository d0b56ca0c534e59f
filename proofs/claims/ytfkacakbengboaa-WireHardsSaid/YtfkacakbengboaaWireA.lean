/-
 Contracts of package wire's writer. Conditions: as each theorem names them.
-/
import Derived.Test.YtfkacakbengboaaPackR
import Derived.Test.YtfkacakbengboaaGSpec
namespace Go.Proofs.Ytfkacakbengboaa
open Go.RowKit
attribute [local go_sem] call_frombits call_bits

/-- What is thrown. -/
def thrown (n : Int) : Ending := .panicked [{ v := .iface 105 (.agg #[.int .i64 n]), recovered := false }]

/-- A writer, with a bound on its blocks. -/
def St (w : World) (S : Nat → Prop) (b : Nat) (bs : List UInt8) (long : Bool) : Prop := Wr w S b bs long ∧ ∀ k, S k → k < w.heap.size
/-- What a step of the writer leaves. -/
def WOut (w : World) (S : Nat → Prop) (b : Nat) (bs : List UInt8) (long : Bool) (o : WO) (e : Ending) (w' : World) : Prop :=
 Mod S w w' ∧ match o with
  | some (d, l) => e = .returned (.tuple #[]) ∧ ∃ S1, St w' S1 b (bs ++ d) (long || l) ∧ ∀ k, S1 k → S k ∨ w.heap.size ≤ k
  | none => e = thrown 3

set_option maxRecDepth 100000 in
set_option maxHeartbeats 400000 in
theorem must_yes (w : World) : Calls Try.prog 63 #[.bool true] w fun e w' => e = .returned (.tuple #[]) ∧ w = w' := by
 go_enter Try.func63, Try.ntmps63
 go_wp2
 go_end0
 exact ⟨rfl, rfl⟩
set_option maxRecDepth 100000 in
set_option maxHeartbeats 400000 in
theorem must_no (w : World) : Calls Try.prog 63 #[.bool false] w fun e w' => e = thrown 3 ∧ w = w' := by
 go_enter Try.func63, Try.ntmps63
 go_wp2
 exact ⟨rfl, rfl, rfl⟩
set_option maxRecDepth 100000 in
set_option maxHeartbeats 400000 in
theorem same_any (a b : Nat) (w : World) : Calls Try.prog 90 #[.float .f64 a, .float .f64 b] w fun e w' => e = .returned (.bool (sameNum a b)) ∧ w = w' := by
 have e3 : ((canon a : Int) == (canon b : Int)) = sameNum a b := by unfold sameNum; rw [Bool.eq_iff_iff]; simp; omega
 go_enter Try.func90, Try.ntmps90
 go_wp2_with (go_at_call 101; refine (canon_any _ _).mono ?_; rintro e w' ⟨rfl, rfl⟩)
 go_ret
 exact ⟨rfl, rfl⟩
set_option maxRecDepth 100000 in
set_option maxHeartbeats 400000 in
theorem wcanon_any (a : Nat) (w : World) : Calls Try.prog 102 #[.float .f64 a] w fun e w' => e = .returned (.bool (canonB a)) ∧ w = w' := by
 have e3 : ((canon a : Int) == (a : Int)) = canonB a := by unfold canonB; rw [Bool.eq_iff_iff]; simp; omega
 go_enter Try.func102, Try.ntmps102
 go_wp2_with (go_at_call 101; refine (canon_any _ _).mono ?_; rintro e w' ⟨rfl, rfl⟩)
 go_ret
 exact ⟨rfl, rfl⟩
set_option maxRecDepth 100000 in
set_option maxHeartbeats 400000 in
theorem noneV_any (v : AVal) (w : World) : Calls Try.prog 89 #[.agg #[.int .i64 v.kind, .float .f64 v.num, .string v.text]] w fun e w' => e = .returned (.bool (noneV v)) ∧ Ext w w' := by
 have hT : v.text.toList.isEmpty = isEmptyT v.text := rfl
 rcases h1 : (v.kind == 0) with _ | _
 ·
  go_enter Try.func89, Try.ntmps89
  go_wp2
  go_ret
  exact ⟨ret_bool (by simp [noneV, h1]), (Mod.refl _ w).alloc _⟩
 ·
  rcases h2 : sameNum v.num 0 with _ | _
  ·
   go_enter Try.func89, Try.ntmps89
   go_wp2_with (go_at_call 90; refine (same_any _ _ _).mono ?_; rintro e w' ⟨rfl, rfl⟩)
   go_ret
   exact ⟨ret_bool (by simp [noneV, h1, h2]), (Mod.refl _ w).alloc _⟩
  ·
   go_enter Try.func89, Try.ntmps89
   go_wp2_with (go_at_call 90; refine (same_any _ _ _).mono ?_; rintro e w' ⟨rfl, rfl⟩)
   go_ret
   exact ⟨ret_bool (by simp [noneV, h1, h2]), (Mod.refl _ w).alloc _⟩
set_option maxRecDepth 100000 in
set_option maxHeartbeats 800000 in
theorem noCall_any (c : ACall) (w : World) : Calls Try.prog 68 #[.agg #[.int .i64 c.client, .int .i64 c.seq, .int .i64 c.cmd.kind, .string c.cmd.key, .int .i64 c.cmd.old.kind, .float .f64 c.cmd.old.num, .string c.cmd.old.text, .int .i64 c.cmd.val.kind, .float .f64 c.cmd.val.num, .string c.cmd.val.text]] w
  fun e w' => e = .returned (.bool (noCallB c)) ∧ Ext w w' := by
 have hT : c.cmd.key.toList.isEmpty = isEmptyT c.cmd.key := rfl
 have hE : Ext w (w.alloc (.cells #[.int .i64 c.client, .int .i64 c.seq, .int .i64 c.cmd.kind, .string c.cmd.key, .int .i64 c.cmd.old.kind, .float .f64 c.cmd.old.num, .string c.cmd.old.text, .int .i64 c.cmd.val.kind, .float .f64 c.cmd.val.num, .string c.cmd.val.text] 42)) := (Mod.refl _ w).alloc _
 rcases h1 : (c.client == 0) with _ | _
 ·
  go_enter Try.func68, Try.ntmps68
  go_wp2
  go_ret
  exact ⟨ret_bool (by simp [noCallB, h1]), hE⟩
 rcases h2 : (c.seq == 0) with _ | _
 ·
  go_enter Try.func68, Try.ntmps68
  go_wp2
  go_ret
  exact ⟨ret_bool (by simp [noCallB, h2]), hE⟩
 rcases h3 : (c.cmd.kind == 0) with _ | _
 ·
  go_enter Try.func68, Try.ntmps68
  go_wp2
  go_ret
  exact ⟨ret_bool (by simp [noCallB, h3]), hE⟩
 rcases h4 : isEmptyT c.cmd.key with _ | _
 ·
  go_enter Try.func68, Try.ntmps68
  go_wp2
  go_ret
  exact ⟨ret_bool (by simp [noCallB, h4]), hE⟩
 rcases h5 : noneV c.cmd.old with _ | _
 ·
  go_enter Try.func68, Try.ntmps68
  go_wp2_with fail
  refine (noneV_any c.cmd.old _).mono ?_
  rintro e w1 ⟨rfl, hE1⟩
  rw [h5]
  have HE1 := Lib.hid hE1
  clear hE1
  go_wp2
  go_ret
  exact ⟨ret_bool (by simp [noCallB, h5]), Mod.ext hE HE1.out⟩
 ·
  go_enter Try.func68, Try.ntmps68
  go_wp2_with fail
  refine (noneV_any c.cmd.old _).mono ?_
  rintro e w1 ⟨rfl, hE1⟩
  rw [h5]
  have c1 := hE1.cell (p := ⟨w.heap.size, 7, none⟩) (v := .int .i64 c.cmd.val.kind) (by simp) id
  have c2 := hE1.cell (p := ⟨w.heap.size, 8, none⟩) (v := .float .f64 c.cmd.val.num) (by simp) id
  have c3 := hE1.cell (p := ⟨w.heap.size, 9, none⟩) (v := .string c.cmd.val.text) (by simp) id
  have HE1 := Lib.hid hE1
  clear hE1
  go_wp2_with fail
  refine (noneV_any c.cmd.val _).mono ?_
  rintro e w2 ⟨rfl, hE2⟩
  have HE2 := Lib.hid hE2
  clear hE2
  go_wp2
  go_ret
  exact ⟨ret_bool (by simp [noCallB, h1, h2, h3, h4, h5]), Mod.ext (Mod.ext hE HE1.out) HE2.out⟩

end Go.Proofs.Ytfkacakbengboaa
