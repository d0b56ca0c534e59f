/-
  NodeAgain: for all calls and each call more the law returns true, and its arguments read as before: a call that is asked again is told again, as before, and nothing is done; an elder one is refused. Conditions: none.
-/
import Derived.Test.YtjbkjhhjofeldaaGreatRows
import Derived.Test.YtjbkjhhjofeldaaGreatH4
import Derived.Test.YtjbkjhhjofeldaaGreatG50
import Derived.Test.YtjbkjhhjofeldaaGreatH5
import Derived.ProofKit
import Derived.OpenShut
import Derived.ShutString
import Derived.ChangeOld
import Derived.Below
set_option maxRecDepth 100000
set_option maxHeartbeats 8000000
namespace Go.Proofs.YtjbkjhhjofeldaaGreat.nodeAgain
open Go.RowKit Go.ChangeShapes Go.WideShapes Go.ChangeAt Go.Deep
set_option linter.unusedVariables false
theorem lifted (os:Os) (started:os.Started) (H:Type) (enc:TypeId×Value→H):
    ReturnsInHanded {} Tryz.checked os 3 .any (Rows.nodeAgainSpec.pre6 enc Tryz.prog Tryz.f3 Rows.nodeAgainRow.domain false) (Rows.nodeAgainSpec.post enc Tryz.prog Tryz.f3 false true false false):=by
  refine returnsInHanded_of_change (C:=Tryz.checked) own started (by kernel_rfl) Tryz.func3
    (ChangeSpec.witness6 (enc:=enc) (C:=Tryz.checked) false ⟨#[],#[.slice none 0 0,.agg #[.int .i64 0,.int .i64 0,.int .i64 0,.string ⟨#[]⟩,.int .i64 0,.float .f64 0,.string ⟨#[]⟩,.int .i64 0,.float .f64 0,.string ⟨#[]⟩]],[]⟩ 8 (by kernel_rfl) (by kernel_rfl) (by kernel_rfl) (by kernel_rfl)) ?_
  intro W base args ds gs before hval0 hW hcnd _
  have hval:∀ (j:Nat) t v,Tryz.f3.params[j]? = some t→args[j]? = some v→Value.okWide Tryz.prog W .any base t v:=hval0
  have hW':=hW
  obtain ⟨p,q,hA0,hV,rfl,hfz,hnd⟩:=hW
  have hA:DataW.TrodAll enc Tryz.prog W 0 (fun _=>true) true Tryz.f3.params.toList args.toList ds p:=hA0
  rw[Tryz.params3] at hA hval
  obtain ⟨v0,vs0,d0,ds0,p0,q0,hargs,rfl,rfl,h0,r0⟩:=trodAll_cons hA
  obtain ⟨v1,vs1,d1,ds1,p1,q1,rfl,rfl,rfl,h1,r1⟩:=trodAll_cons r0
  obtain ⟨rfl,rfl,rfl⟩:=trodAll_nil r1
  obtain rfl:args = #[v0,v1]:=by cases args;simp_all
  obtain ⟨rfl,rfl⟩:=trodVars_none hV
  have k0:=h0
  have lt0:∀ x∈p0,x.block<W.heap.size:=by obtain ⟨m,hm⟩:=k0;exact DataW.trod_lt m _ _ _ hm
  have ok0:=hval 0 22 v0 rfl rfl
  have k1:=h1
  have lt1:∀ x∈p1,x.block<W.heap.size:=by obtain ⟨m,hm⟩:=k1;exact DataW.trod_lt m _ _ _ hm
  have ok1:=hval 1 29 v1 rfl rfl
  obtain ⟨fu0,hf0⟩:=val_of Tryz.underlying22 ok0 h0
  obtain ⟨x0,l0,hx0,o0⟩:=open_calls hf0
  obtain rfl:v0=x0:=by simpa using hx0
  obtain ⟨E0,ec0,rfl⟩:=o0.form
  obtain ⟨cs1,fu1,rfl,hf1⟩:=val_agg Tryz.underlying29 ok1 h1
  obtain ⟨x1,hx1,o1⟩:=open_call hf1
  obtain rfl:cs1=_:=(Array.toList_inj.1 hx1)
  clear hA0 hval0
  refine (l_again W E0 _ ec0 l0 x1 o0 rfl o1).mono fun e W' ⟨he,bel⟩=>?_
  subst he
  exact ⟨_,rfl,_,_,_,[],_,[],hW',trodAll_mk1 (shut_bool Tryz.underlying4 _),(trodAll_cons_mk (Below.trod laidOut (by kernel_rfl) (of_decide_eq_true (by kernel_rfl)) k0 bel lt0) (trodAll_cons_mk (Below.trod laidOut (by kernel_rfl) (of_decide_eq_true (by kernel_rfl)) k1 bel lt1) trodAll_mk0)),rfl,bel.frame _,fun h=>by cases h⟩
theorem over:Rows.nodeAgainRow.holds Tryz.pinned (OpenSpec.ofChange Rows.nodeAgainSpec):=
  OpenClaim.holds_of_wide 3 Tryz.f3 rfl rfl rfl rfl rfl rfl rfl ⟨rfl,rfl,rfl,rfl,rfl⟩ rfl rfl rfl rfl rfl named Tryz.func3 joined instd wrapd
    (fun os started H enc _=>lifted os started H enc)
theorem proved:Rows.NodeAgainSaid:=over
#print axioms proved
end Go.Proofs.YtjbkjhhjofeldaaGreat.nodeAgain
