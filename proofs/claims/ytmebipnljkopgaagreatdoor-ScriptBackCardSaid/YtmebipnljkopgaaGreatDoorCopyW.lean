/-
 A load of a whole struct whose guard says yes, as one step of a walk. No program is named here. Conditions: as each theorem names them.
-/
import Derived.Test.YtmebipnljkopgaaGreatDoorCopy
namespace Go.Proofs.YtmebipnljkopgaaGreatDoor
set_option linter.unusedSimpArgs false
open Go.RowKit
section
variable {P : Program} {w w' : World} {ops : Array Oper} {rest : List Oper} {o : Oper} {a : Act} {Q : Exit → Act → World → Prop}
theorem wpList_ldW (hw : Region.wanted o (yielded ops a.tmps) = true) (t : TypeId) (x : Operand) (ho : o.op = .load t x) (xv v : Value) (hx : a.eval x = xv) (hr : (Instr.loadAt t xv).run P w = .ok v w)
  (h : wpList P ops Q rest (a.put o.dst v) w) : wpList P ops Q (o :: rest) a w :=
 wpList_step fun _ hK => by
  rw [if_pos hw]
  unfold Oper.wp execOp
  simp only [ho, hx, Sem.run_bind, Sem.run_pure, hr, Result.andThen_ok]
  exact hK _ _ h
theorem exec_ld (t : TypeId) (x : Operand) (ho : o.op = .load t x) (xv v : Value) (hx : a.eval x = xv) (hr : (Instr.loadAt t xv).run P w = .ok v w) : (execOp a.eval o).run P w = .ok (.value v) w := by
 unfold execOp
 simp only [ho, hx, Sem.run_bind, Sem.run_pure, hr, Result.andThen_ok]
/-- A struct is stored into a box that is known whole, as one step of a region that draws its order. -/
theorem step_stR {K : Act → World → Prop} {E : Prop} (hgd : o.guard = none) (t : TypeId) (p x : Operand) (ho : o.op = .store t p x) (k g f : Nat) (vs : List Value) (hp : a.eval p = .pointer (some ⟨g, f, none⟩)) (hx : a.eval x = .agg vs.toArray) (hs : Str P t k)
  (e : TypeId) (cur cur' : List Value) (hg : w.heap[g]? = some (.cells cur.toArray e (0, 0))) (hc : vs.length = k) (hfit : f + k ≤ cur.length) (h1 : ∀ v ∈ vs, v.oneCell' = true) (hcur : put cur f vs = cur')
  (h : ∀ w', w'.heap[g]? = some (.cells cur'.toArray e (0, 0)) → Mod (fun k => k = g) w w' → w'.heap.size = w.heap.size → K (a.put o.dst undef) w') : if Region.wanted o (yielded ops a.tmps) = true then Oper.wp P o a w K Q else E := by
 have hw : Region.wanted o (yielded ops a.tmps) = true := by simp [Region.wanted, hgd]
 rw [if_pos hw]
 unfold Oper.wp execOp
 simp only [ho, hp, hx, Sem.run_bind, Sem.run_pure, store_row hs hg hc hfit h1, Result.andThen_ok]
 refine h _ ?_ ?_ ?_
 ·
  rw [hcur]; exact setRow_heap w g _ _ e _ hg
 ·
  exact ⟨rfl, rfl, rfl, by simp, fun k hk hn => setRow_other w g k _ hn⟩
 ·
  simp
end
end Go.Proofs.YtmebipnljkopgaaGreatDoor
