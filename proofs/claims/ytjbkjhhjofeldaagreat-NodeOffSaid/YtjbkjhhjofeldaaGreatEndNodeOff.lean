/-
  NodeOff: for all calls, each message and each call the law returns true, and its arguments read as before: a node whose disk loses its power refuses all that it is asked, sends nothing and keeps still. Conditions: none.
-/
import Derived.Test.YtjbkjhhjofeldaaGreatRows
import Derived.Test.YtjbkjhhjofeldaaGreatK4
import Derived.Test.YtjbkjhhjofeldaaGreatK3
import Derived.Test.YtjbkjhhjofeldaaGreatK5
import Derived.ProofKit
import Derived.OpenShut
import Derived.ShutString
import Derived.ChangeOld
import Derived.Below
set_option maxRecDepth 100000
set_option maxHeartbeats 8000000
namespace Go.Proofs.YtjbkjhhjofeldaaGreat.nodeOff
open Go.RowKit Go.ChangeShapes Go.WideShapes Go.ChangeAt Go.Deep
set_option linter.unusedVariables false
theorem lifted (os : Os) (started : os.Started) (H : Type) (enc : TypeId × Value → H) :
    ReturnsInHanded {} Tryz.checked os 7 .any (Rows.nodeOffSpec.pre6 enc Tryz.prog Tryz.f7 Rows.nodeOffRow.domain false) (Rows.nodeOffSpec.post enc Tryz.prog Tryz.f7 false true false false) := by
  refine returnsInHanded_of_change (C := Tryz.checked) own started (by kernel_rfl) Tryz.func7
    (ChangeSpec.witness6 (enc := enc) (C := Tryz.checked) false ⟨#[], #[.slice none 0 0, .agg #[.int .i64 0, .int .i64 0, .int .i64 0, .int .i64 0, .int .i64 0, .int .i64 0, .int .i64 0, .int .i64 0, .bool false, .slice none 0 0, .int .i64 0, .int .i64 0, .int .i64 0, .int .i64 0, .slice none 0 0, .slice none 0 0], .agg #[.int .i64 0, .int .i64 0, .int .i64 0, .string ⟨#[]⟩, .int .i64 0, .float .f64 0, .string ⟨#[]⟩, .int .i64 0, .float .f64 0, .string ⟨#[]⟩]], []⟩ 8 (by kernel_rfl) (by kernel_rfl) (by kernel_rfl) (by kernel_rfl)) ?_
  intro W base args ds gs before hval0 hW hcnd _
  have hval : ∀ (j : Nat) t v, Tryz.f7.params[j]? = some t → args[j]? = some v → Value.okWide Tryz.prog W .any base t v := hval0
  have hW' := hW
  obtain ⟨p, q, hA0, hV, rfl, hfz, hnd⟩ := hW
  have hA : DataW.TrodAll enc Tryz.prog W 0 (fun _ => true) true Tryz.f7.params.toList args.toList ds p := hA0
  rw [Tryz.params7] at hA hval
  obtain ⟨v0, vs0, d0, ds0, p0, q0, hargs, rfl, rfl, h0, r0⟩ := trodAll_cons hA
  obtain ⟨v1, vs1, d1, ds1, p1, q1, rfl, rfl, rfl, h1, r1⟩ := trodAll_cons r0
  obtain ⟨v2, vs2, d2, ds2, p2, q2, rfl, rfl, rfl, h2, r2⟩ := trodAll_cons r1
  obtain ⟨rfl, rfl, rfl⟩ := trodAll_nil r2
  obtain rfl : args = #[v0, v1, v2] := by cases args; simp_all
  obtain ⟨rfl, rfl⟩ := trodVars_none hV
  have k0 := h0
  have lt0 : ∀ x ∈ p0, x.block < W.heap.size := by obtain ⟨m, hm⟩ := k0; exact DataW.trod_lt m _ _ _ hm
  have ok0 := hval 0 22 v0 rfl rfl
  have k1 := h1
  have lt1 : ∀ x ∈ p1, x.block < W.heap.size := by obtain ⟨m, hm⟩ := k1; exact DataW.trod_lt m _ _ _ hm
  have ok1 := hval 1 92 v1 rfl rfl
  have k2 := h2
  have lt2 : ∀ x ∈ p2, x.block < W.heap.size := by obtain ⟨m, hm⟩ := k2; exact DataW.trod_lt m _ _ _ hm
  have ok2 := hval 2 29 v2 rfl rfl
  obtain ⟨fu0, hf0⟩ := val_of Tryz.underlying22 ok0 h0
  obtain ⟨x0, l0, hx0, o0⟩ := open_calls hf0
  obtain rfl : v0 = x0 := by simpa using hx0
  obtain ⟨E0, ec0, rfl⟩ := o0.form
  obtain ⟨cs1, fu1, rfl, hf1⟩ := val_agg Tryz.underlying92 ok1 h1
  obtain ⟨x1, l1, hx1, o1⟩ := open_msg hf1
  obtain rfl : cs1 = _ := (Array.toList_inj.1 hx1)
  obtain ⟨cs2, fu2, rfl, hf2⟩ := val_agg Tryz.underlying29 ok2 h2
  obtain ⟨x2, hx2, o2⟩ := open_call hf2
  obtain rfl : cs2 = _ := (Array.toList_inj.1 hx2)
  clear hA0 hval0
  refine (l_off W E0 _ ec0 l0 x1 l1 x2 o0 rfl o1 o2).mono fun e W' ⟨he, bel⟩ => ?_
  subst he
  exact ⟨_, rfl, _, _, _, [], _, [], hW', trodAll_mk1 (shut_bool Tryz.underlying4 _), (trodAll_cons_mk (Below.trod laidOut (by kernel_rfl) (of_decide_eq_true (by kernel_rfl)) k0 bel lt0) (trodAll_cons_mk (Below.trod laidOut (by kernel_rfl) (of_decide_eq_true (by kernel_rfl)) k1 bel lt1) (trodAll_cons_mk (Below.trod laidOut (by kernel_rfl) (of_decide_eq_true (by kernel_rfl)) k2 bel lt2) trodAll_mk0))), rfl, bel.frame _, fun h => by cases h⟩
theorem over : Rows.nodeOffRow.holds Tryz.pinned (OpenSpec.ofChange Rows.nodeOffSpec) :=
  OpenClaim.holds_of_wide 7 Tryz.f7 rfl rfl rfl rfl rfl rfl rfl ⟨rfl, rfl, rfl, rfl, rfl⟩ rfl rfl rfl rfl rfl named Tryz.func7 joined instd wrapd
    (fun os started H enc _ => lifted os started H enc)
theorem proved : Rows.NodeOffSaid := over
#print axioms proved
end Go.Proofs.YtjbkjhhjofeldaaGreat.nodeOff
