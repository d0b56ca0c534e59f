/-
  Contracts of skerrykeep.Reply, kv.throw and skerrylaw06.HeavyCmd. Conditions: as each theorem names them.
-/
import Derived.Test.YthhjaneadbkccaaKvTwin
namespace Go.Proofs.Ythhjaneadbkccaa
set_option linter.unusedSimpArgs false
open Go.RowKit

def eqReply (a b : AReply) : Bool := a.code == b.code && eqVal a.val b.val
set_option maxRecDepth 100000 in
set_option maxHeartbeats 400000 in
theorem k_reply (a b : AReply) (w : World) : Calls Try.prog 22 #[.agg #[.int .i64 a.code, .int .i64 a.val.kind, .float .f64 a.val.num, .string a.val.text], .agg #[.int .i64 b.code, .int .i64 b.val.kind, .float .f64 b.val.num, .string b.val.text]] w fun e w' => e = .returned (.bool (eqReply a b)) ∧ Ext w w' := by
  have hE : Ext w ((w.alloc (.cells #[.int .i64 a.code, .int .i64 a.val.kind, .float .f64 a.val.num, .string a.val.text] 33)).alloc (.cells #[.int .i64 b.code, .int .i64 b.val.kind, .float .f64 b.val.num, .string b.val.text] 33)) := ((Mod.refl _ w).alloc _).alloc _
  unfold eqReply
  rcases h : (a.code == b.code) with _ | _
  · go_enter Try.func22, Try.ntmps22
    go_wp2
    go_ret
    exact ⟨rfl, hE⟩
  · go_enter Try.func22, Try.ntmps22
    go_wp2_with fail
    refine (k_value a.val b.val _).mono ?_
    rintro e w1 ⟨rfl, hE1⟩
    have HE := Lib.hid (Mod.ext hE hE1)
    clear hE hE1
    go_wp2
    go_ret
    exact ⟨rfl, HE.out⟩
/-- What kv throws. -/
def thrownK (e : Int) (v : AVal) : Ending := .panicked [{ v := .iface 58 (.agg #[.int .i64 e, .int .i64 v.kind, .float .f64 v.num, .string v.text]), recovered := false }]
set_option maxRecDepth 100000 in
set_option maxHeartbeats 400000 in
theorem kv_throw_no (w : World) : Calls Try.prog 34 #[.int .i64 0] w fun e w' => e = .returned (.tuple #[]) ∧ w = w' := by
  go_enter Try.func34, Try.ntmps34
  go_wp2
  go_end0
  exact ⟨rfl, rfl⟩
set_option maxRecDepth 100000 in
set_option maxHeartbeats 400000 in
theorem kv_throw (n : Int) (hn : n ≠ 0) (w : World) : Calls Try.prog 34 #[.int .i64 n] w fun e w' => e = thrownK n AVal.zero ∧ w = w' := by
  have d : (n != 0) = true := by simpa using hn
  clear hn
  go_enter Try.func34, Try.ntmps34
  go_wp2
  exact ⟨rfl, rfl, rfl⟩
end Go.Proofs.Ythhjaneadbkccaa
