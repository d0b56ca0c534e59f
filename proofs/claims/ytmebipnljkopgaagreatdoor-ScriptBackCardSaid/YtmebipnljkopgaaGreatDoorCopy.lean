/-
 Loads and stores of whole structs in boxes that are known whole, each one step of a walk. No program is named here. Conditions: as each theorem names them.
-/
import Derived.Test.YtmebipnljkopgaaGreatDoorMem
import Derived.Laws.CopyRow
import Derived.Laws.Cells
namespace Go.Proofs.YtmebipnljkopgaaGreatDoor
set_option linter.unusedSimpArgs false
open Go.RowKit

/-- A struct of so many cells. -/
def Str (P : Program) (t : TypeId) (k : Nat) : Prop := (∃ fs, P.underlying t = some (.struct fs)) ∧ (P.info? t).map (·.size) = some k
/-- Other cells in the place of some. -/
def put (cur : List Value) (o : Nat) (vs : List Value) : List Value := cur.take o ++ vs ++ cur.drop (o + vs.length)
theorem put_self (cur : List Value) : put cur 0 cur = cur := by simp [put]
section
variable {P : Program} {w : World} {t : TypeId} {k g o : Nat} {e : TypeId} {cur cs vs : List Value}
theorem str_agg (h : Str P t k) (w : World) : (isAgg t).run P w = .ok true w := by
 obtain ⟨⟨fs, h1⟩, _⟩ := h
 simp [isAgg, run_underlying h1]
theorem str_size (h : Str P t k) (w : World) : (sizeOf t).run P w = .ok k w := by
 obtain ⟨_, h2⟩ := h
 cases hq : P.info? t with
 | none => simp [hq] at h2
 | some i =>
  have hi : i.size = k := by simpa [hq] using h2
  simp [sizeOf, typeInfo, hq, hi]
theorem load_at (hs : Str P t k) (hc : cs.length = k) (h : ∀ j u, cs[j]? = some u → w.cell? ⟨g, o + j, none⟩ = some u) : (Instr.loadAt t (.pointer (some ⟨g, o, none⟩))).run P w = .ok (.agg cs.toArray) w := by
 have h1 := run_loadCells_list (P := P) (w := w) ⟨g, o, none⟩ cs (fun j v hv => by rw [addMk]; exact h j v hv)
 rw [hc] at h1
 simp [Instr.loadAt, loadVar, str_agg hs, str_size hs, h1, Instr.sureAddr]
theorem load_row (hs : Str P t k) (hg : w.heap[g]? = some (.cells cur.toArray e (0, 0))) (hc : cs.length = k) (h : ∀ j u, cs[j]? = some u → cur[o + j]? = some u) : (Instr.loadAt t (.pointer (some ⟨g, o, none⟩))).run P w = .ok (.agg cs.toArray) w :=
 load_at hs hc (fun j u hu => blk_cell hg (h j u hu))
theorem store_row (hs : Str P t k) (hg : w.heap[g]? = some (.cells cur.toArray e (0, 0))) (hc : vs.length = k) (hfit : o + k ≤ cur.length) (h1 : ∀ v ∈ vs, v.oneCell' = true) :
  (Instr.storeAt t (.pointer (some ⟨g, o, none⟩)) (.agg vs.toArray)).run P w = .ok () (w.setRow g (put cur o vs).toArray) := by
 have h := run_storeCells_at (P := P) g o e vs 0 cur.toArray w hg (by simpa [hc] using hfit) h1
 simp [Instr.storeAt, storeVar, Instr.sureAddr, str_size hs, Value.cells, hc]
 rw [h]
 simp [put]
theorem store_self (hs : Str P t k) (hg : w.heap[g]? = some (.cells cur.toArray e (0, 0))) (hc : cur.length = k) (h1 : ∀ v ∈ cur, v.oneCell' = true) :
  (Instr.storeAt t (.pointer (some ⟨g, 0, none⟩)) (.agg cur.toArray)).run P w = .ok () w := by
 rw [store_row hs hg hc (by omega) h1, put_self, setRow_self w g cur.toArray e (0, 0) hg]
variable {ops : Array Oper} {rest : List Oper} {op : Oper} {a : Act} {w' : World} {Q : Exit → Act → World → Prop}
/-- A load whose law is known, as one step of a walk. -/
theorem wpList_ld (hgd : op.guard = none) (t : TypeId) (x : Operand) (ho : op.op = .load t x) (xv v : Value) (hx : a.eval x = xv) (hr : (Instr.loadAt t xv).run P w = .ok v w)
  (h : wpList P ops Q rest (a.put op.dst v) w) : wpList P ops Q (op :: rest) a w :=
 wpList_plain hgd fun _ hK => by
  unfold Oper.wp execOp
  simp only [ho, hx, Sem.run_bind, Sem.run_pure, hr, Result.andThen_ok]
  exact hK _ _ h
theorem wpList_st (hgd : op.guard = none) (t : TypeId) (p x : Operand) (ho : op.op = .store t p x) (pv xv : Value) (hp : a.eval p = pv) (hx : a.eval x = xv) (hr : (Instr.storeAt t pv xv).run P w = .ok () w')
  (h : wpList P ops Q rest (a.put op.dst undef) w') : wpList P ops Q (op :: rest) a w :=
 wpList_plain hgd fun _ hK => by
  unfold Oper.wp execOp
  simp only [ho, hp, hx, Sem.run_bind, Sem.run_pure, hr, Result.andThen_ok]
  exact hK _ _ h
/-- A struct is stored into a box that is known whole. -/
theorem wpList_stR (hgd : op.guard = none) (t : TypeId) (p x : Operand) (ho : op.op = .store t p x) (k g o : Nat) (vs : List Value) (hp : a.eval p = .pointer (some ⟨g, o, none⟩)) (hx : a.eval x = .agg vs.toArray) (hs : Str P t k)
  (e : TypeId) (cur cur' : List Value) (hg : w.heap[g]? = some (.cells cur.toArray e (0, 0))) (hc : vs.length = k) (hfit : o + k ≤ cur.length) (h1 : ∀ v ∈ vs, v.oneCell' = true) (hcur : put cur o vs = cur')
  (h : ∀ w', w'.heap[g]? = some (.cells cur'.toArray e (0, 0)) → Mod (fun k => k = g) w w' → w'.heap.size = w.heap.size → wpList P ops Q rest (a.put op.dst undef) w') : wpList P ops Q (op :: rest) a w := by
 refine wpList_st hgd t p x ho _ _ hp hx (store_row hs hg hc hfit h1) (h _ ?_ ?_ ?_)
 ·
  rw [hcur]; exact setRow_heap w g _ _ e _ hg
 ·
  exact ⟨rfl, rfl, rfl, by simp, fun k hk hn => setRow_other w g k _ hn⟩
 ·
  simp
end
end Go.Proofs.YtmebipnljkopgaaGreatDoor
