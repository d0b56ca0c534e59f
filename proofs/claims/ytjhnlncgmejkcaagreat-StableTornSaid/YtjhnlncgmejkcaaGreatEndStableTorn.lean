/-
 StableTorn: for each configuration, all acts, each cut and all bytes the law returns true, and its arguments read as before: whatever stands behind whole frames, as a torn one does, is not looked at, and is gone behind an opening. Conditions: none.
-/
import Derived.Test.YtjhnlncgmejkcaaGreatRows
import Derived.Test.YtjhnlncgmejkcaaGreatLawStbTorn
import Derived.Test.YtjhnlncgmejkcaaGreatOpenAct
import Derived.Test.YtjhnlncgmejkcaaGreatOpenAgg
import Derived.ProofKit
import Derived.OpenShut
import Derived.ShutString
import Derived.ChangeOld
import Derived.Below
namespace Go.Proofs.YtjhnlncgmejkcaaGreat.stableTorn
open Go.RowKit Go.ChangeShapes Go.WideShapes Go.ChangeAt Go.Deep
set_option linter.unusedVariables false

theorem own : ownKnob Tryz.prog.godebug = none := by kernel_rfl
theorem laidOut : laidOutB Tryz.prog = true := by kernel_rfl

set_option maxRecDepth 100000 in
theorem lifted (os : Os) (started : os.Started) (H : Type) (enc : TypeId × Value → H) :
  ReturnsInHanded {} Tryz.checked os 3 .any (Rows.stableTornSpec.pre6 enc Tryz.prog Tryz.f3 Rows.stableTornRow.domain false) (Rows.stableTornSpec.post enc Tryz.prog Tryz.f3 false true false false) := by
 refine returnsInHanded_of_change (C := Tryz.checked) own started (by kernel_rfl) Tryz.func3
  (ChangeSpec.witness6 (enc := enc) (C := Tryz.checked) false ⟨#[], #[.agg #[.int .i64 0, .int .i64 0, .int .i64 0, .int .i64 0], .slice none 0 0, .int .i64 0, .slice none 0 0], []⟩ 8 (by kernel_rfl) (by kernel_rfl) (by kernel_rfl) (by kernel_rfl)) ?_
 intro W base args ds gs before hval0 hW hcnd _
 have hval : ∀ (j : Nat) t v, Tryz.f3.params[j]? = some t → args[j]? = some v → Value.okWide Tryz.prog W .any base t v := hval0
 have hW' := hW
 obtain ⟨p, q, hA0, hV, rfl, hfz, hnd⟩ := hW
 have hA : DataW.TrodAll enc Tryz.prog W 0 (fun _ => true) true Tryz.f3.params.toList args.toList ds p := hA0
 rw [Tryz.params3] at hA hval
 obtain ⟨v0, vs0, d0, ds0, p0, q0, hargs, rfl, rfl, h0, r0⟩ := trodAll_cons hA
 obtain ⟨v1, vs1, d1, ds1, p1, q1, rfl, rfl, rfl, h1, r1⟩ := trodAll_cons r0
 obtain ⟨v2, vs2, d2, ds2, p2, q2, rfl, rfl, rfl, h2, r2⟩ := trodAll_cons r1
 obtain ⟨v3, vs3, d3, ds3, p3, q3, rfl, rfl, rfl, h3, r3⟩ := trodAll_cons r2
 obtain ⟨rfl, rfl, rfl⟩ := trodAll_nil r3
 obtain rfl : args = #[v0, v1, v2, v3] := by cases args; simp_all
 obtain ⟨rfl, rfl⟩ := trodVars_none hV
 have k0 := h0
 have lt0 : ∀ x ∈ p0, x.block < W.heap.size := by obtain ⟨m, hm⟩ := k0; exact DataW.trod_lt m _ _ _ hm
 have ok0 := hval 0 23 v0 rfl rfl
 have k1 := h1
 have lt1 : ∀ x ∈ p1, x.block < W.heap.size := by obtain ⟨m, hm⟩ := k1; exact DataW.trod_lt m _ _ _ hm
 have ok1 := hval 1 24 v1 rfl rfl
 have k2 := h2
 have lt2 : ∀ x ∈ p2, x.block < W.heap.size := by obtain ⟨m, hm⟩ := k2; exact DataW.trod_lt m _ _ _ hm
 have ok2 := hval 2 3 v2 rfl rfl
 have k3 := h3
 have lt3 : ∀ x ∈ p3, x.block < W.heap.size := by obtain ⟨m, hm⟩ := k3; exact DataW.trod_lt m _ _ _ hm
 have ok3 := hval 3 25 v3 rfl rfl
 obtain ⟨cs0, fu0, rfl, hf0⟩ := val_agg Tryz.underlying23 ok0 h0
 obtain ⟨x0, hx0, o0⟩ := open_conf hf0
 obtain rfl : cs0 = _ := (Array.toList_inj.1 hx0)
 obtain ⟨fu1, hf1⟩ := val_of Tryz.underlying24 ok1 h1
 obtain ⟨l1, o1⟩ := open_acts hf1
 obtain ⟨A1, cp1, rfl⟩ := o1.1.form
 obtain ⟨n2, rfl, _, _, wf2⟩ := open_int Tryz.underlying3 ok2 h2
 have b2 := bounds_i64 wf2
 obtain ⟨fu3, hf3⟩ := val_of Tryz.underlying25 ok3 h3
 obtain ⟨x3, l3, hx3, o3⟩ := open_bytes Tryz.underlying25 Tryz.underlying5 (by kernel_rfl) hf3
 obtain rfl : v3 = x3 := by simpa using hx3
 obtain ⟨E3, ec3, rfl⟩ := o3.form
 clear hA0 hval0
 refine (stableTorn_a W x0 A1 _ cp1 l1 n2 E3 _ ec3 l3 o0 o1 rfl o3 rfl).mono fun e W' ⟨he, bel⟩ => ?_
 subst he
 exact ⟨_, rfl, _, _, _, [], _, [], hW', trodAll_mk1 (shut_bool Tryz.underlying4 _), (trodAll_cons_mk (Below.trod laidOut (by kernel_rfl) (of_decide_eq_true (by kernel_rfl)) k0 bel lt0) (trodAll_cons_mk (Below.trod laidOut (by kernel_rfl) (of_decide_eq_true (by kernel_rfl)) k1 bel lt1) (trodAll_cons_mk (Below.trod laidOut (by kernel_rfl) (of_decide_eq_true (by kernel_rfl)) k2 bel lt2) (trodAll_cons_mk (Below.trod laidOut (by kernel_rfl) (of_decide_eq_true (by kernel_rfl)) k3 bel lt3) trodAll_mk0)))), rfl, bel.frame _, fun h => by cases h⟩

theorem over : Rows.stableTornRow.holds Tryz.pinned (OpenSpec.ofChange Rows.stableTornSpec) :=
 OpenClaim.holds_of_wide 3 Tryz.f3 rfl rfl rfl rfl rfl rfl rfl ⟨rfl, rfl, rfl, rfl, rfl⟩ rfl rfl rfl rfl rfl (by kernel_rfl) Tryz.func3 (by kernel_rfl)
  (of_decide_eq_true (by kernel_rfl)) (by unfold Func.isWrapper; first | (rw [if_pos (by decide +kernel)]; kernel_rfl) | (rw [if_neg (by decide +kernel)]; exact ⟨rfl, rfl⟩))
  (fun os started H enc _ => lifted os started H enc)

theorem proved : Rows.StableTornSaid := over
#print axioms proved
end Go.Proofs.YtjhnlncgmejkcaaGreat.stableTorn
