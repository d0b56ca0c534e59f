/-
 Rows of '&&' and '||': once a part is decided, what is left of a region's operations is passed over at one step. No program is named here. Conditions: as each theorem names them.
-/
import Derived.Test.YtmebipnljkopgaaGreatDoorCopyW
namespace Go.Proofs.YtmebipnljkopgaaGreatDoor
set_option linter.unusedSimpArgs false
set_option linter.unusedVariables false
open Go.RowKit
/-- The slot's Boolean, if it is known. -/
def knows (K : List (Nat × Bool)) (s : Nat) : Option Bool := match K with
  | [] => none
  | (x, b) :: r => if x = s then some b else knows r s
def forgets (K : List (Nat × Bool)) (d : Nat) : List (Nat × Bool) := match K with
  | [] => []
  | (x, b) :: r => if x = d then forgets r d else (x, b) :: forgets r d
theorem knows_forgets (K : List (Nat × Bool)) (d s : Nat) {b : Bool} (h : knows (forgets K d) s = some b) : s ≠ d ∧ knows K s = some b := by
 induction K with
 | nil => cases h
 | cons x r ih =>
  obtain ⟨y, c⟩ := x
  unfold forgets at h
  by_cases hy : y = d
  · rw [if_pos hy] at h
    obtain ⟨h1, h2⟩ := ih h
    refine ⟨h1, ?_⟩
    unfold knows
    rw [if_neg (by omega)]; exact h2
  · rw [if_neg hy] at h
    unfold knows at h ⊢
    by_cases hs : y = s
    · rw [if_pos hs] at h ⊢
      exact ⟨by omega, h⟩
    · rw [if_neg hs] at h ⊢
      exact ih h
def opK (K : List (Nat × Bool)) : Operand → Option Bool
  | .tmp t => knows K t
  | .const (.bool b) => some b
  | _ => none
/-- What is known behind the operations, if each is passed over or is a move among what is known. -/
def tailK (ops : Array Oper) (n : Nat) : List Oper → List (Nat × Bool) → Option (List (Nat × Bool))
  | [], K => some K
  | o :: rest, K => match o.guard, o.dst with
    | some (j, want), some d => (match ((ops[j]?).bind (·.dst)).bind (knows K) with
      | some b => if b = want then none else tailK ops n rest (forgets K d)
      | none => none)
    | none, some d => if d < n then (match o.op with
      | .pick c x y => (match opK K c with
        | some b => (match opK K (if b then x else y) with
          | some u => tailK ops n rest ((d, u) :: forgets K d)
          | none => none)
        | none => none)
      | .move x => (match opK K x with
        | some u => tailK ops n rest ((d, u) :: forgets K d)
        | none => none)
      | .assign x => (match opK K x with
        | some u => tailK ops n rest ((d, u) :: forgets K d)
        | none => none)
      | _ => none) else none
    | _, _ => none
def KnowsIt (a : Act) (K : List (Nat × Bool)) : Prop := ∀ s b, knows K s = some b → a.tmps[s]? = some (.bool b)
theorem KnowsIt.put {a : Act} {K : List (Nat × Bool)} (h : KnowsIt a K) (d : Nat) (v : Value) : KnowsIt (a.put (some d) v) (forgets K d) := by
 intro s b hs
 obtain ⟨h1, h2⟩ := knows_forgets K d s hs
 show (a.tmps.setIfInBounds d v)[s]? = _
 rw [Array.getElem?_setIfInBounds, if_neg (by omega)]
 exact h s b h2
theorem KnowsIt.putB {a : Act} {K : List (Nat × Bool)} (h : KnowsIt a K) (d : Nat) (u : Bool) (hd : d < a.tmps.size) : KnowsIt (a.put (some d) (.bool u)) ((d, u) :: forgets K d) := by
 intro s b hs
 unfold knows at hs
 by_cases e : d = s
 · rw [if_pos e] at hs
   simp only [Option.some.injEq] at hs
   subst e; subst hs
   show (a.tmps.setIfInBounds d (.bool u))[d]? = _
   rw [Array.getElem?_setIfInBounds, if_pos rfl, if_pos hd]
 · rw [if_neg e] at hs
   exact h.put d _ s b hs
theorem KnowsIt.eval {a : Act} {K : List (Nat × Bool)} (h : KnowsIt a K) {x : Operand} {b : Bool} (hx : opK K x = some b) : a.eval x = .bool b := by
 unfold opK at hx
 split at hx
 · rename_i t
   have := h t b hx
   show a.tmps.getD t undef = _
   rw [Array.getD_eq_getD_getElem?, this]; rfl
 · simp only [Option.some.injEq] at hx; subst hx; rfl
 · cases hx
theorem put_size (a : Act) (d : Nat) (v : Value) : (a.put (some d) v).tmps.size = a.tmps.size := by simp [Act.put]
theorem wpList_tailK {P : Program} {ops : Array Oper} {Q : Exit → Act → World → Prop} {w : World} {n : Nat} {df : List Deferred} {K' : List (Nat × Bool)} (h : ∀ a', KnowsIt a' K' → a'.defers = df → Q .normal a' w) :
  ∀ (rest : List Oper) (K : List (Nat × Bool)) (a : Act), tailK ops n rest K = some K' → a.tmps.size = n → a.defers = df → KnowsIt a K → wpList P ops Q rest a w
  | [], K, a, hK, hn, hd, hs => by
    simp only [tailK, Option.some.injEq] at hK; subst hK
    exact wpList_nil (h a hs hd)
  | o :: rest, K, a, hK, hn, hd, hs => by
    unfold tailK at hK
    split at hK
    · rename_i j want d hg hdst
      split at hK
      · rename_i b hb
        split at hK
        · cases hK
        rename_i hbw
        have hw : Region.wanted o (yielded ops a.tmps) = false := by
         unfold Region.wanted
         rw [hg]
         simp only [yielded]
         rcases hj : (ops[j]?).bind (·.dst) with _ | s
         · rw [hj] at hb; cases hb
         rw [hj] at hb
         simp only [Option.bind_some] at hb ⊢
         rw [hs s b hb]
         simp only [beq_eq_false_iff_ne, ne_eq, Option.some.injEq]
         exact hbw
        refine wpList_step fun K2 hK2 => ?_
        rw [if_neg (by rw [hw]; exact Bool.false_ne_true)]
        refine hK2 _ _ (wpList_tailK h rest _ _ hK ?_ ?_ ?_)
        · rw [hdst, put_size]; exact hn
        · rw [hdst]; exact hd
        · rw [hdst]; exact hs.put d _
      · cases hK
    · rename_i d hg hdst
      split at hK
      · rename_i hdn
        have hda : d < a.tmps.size := by rw [hn]; exact hdn
        split at hK
        · rename_i c x y ho
          split at hK
          · rename_i b hb
            split at hK
            · rename_i u hu
              refine wpList_plain hg fun K2 hK2 => ?_
              have e1 := hs.eval hb
              have e2 := hs.eval hu
              unfold Oper.wp execOp
              have e3 : (if b = true then a.eval x else a.eval y) = .bool u := by rw [← e2]; cases b <;> rfl
              simp only [ho, e1, asBool, Sem.run_bind, Sem.run_pure, Result.andThen_ok, e3]
              refine hK2 _ _ (wpList_tailK h rest _ _ hK ?_ ?_ ?_)
              · rw [hdst, put_size]; exact hn
              · rw [hdst]; exact hd
              · rw [hdst]; exact hs.putB d u hda
            · cases hK
          · cases hK
        · rename_i x ho
          split at hK
          · rename_i u hu
            refine wpList_plain hg fun K2 hK2 => ?_
            have e2 := hs.eval hu
            unfold Oper.wp execOp
            simp only [ho, e2, Sem.run_bind, Sem.run_pure, Result.andThen_ok]
            refine hK2 _ _ (wpList_tailK h rest _ _ hK ?_ ?_ ?_)
            · rw [hdst, put_size]; exact hn
            · rw [hdst]; exact hd
            · rw [hdst]; exact hs.putB d u hda
          · cases hK
        · rename_i x ho
          split at hK
          · rename_i u hu
            refine wpList_plain hg fun K2 hK2 => ?_
            have e2 := hs.eval hu
            unfold Oper.wp execOp
            simp only [ho, e2, Sem.run_bind, Sem.run_pure, Result.andThen_ok]
            refine hK2 _ _ (wpList_tailK h rest _ _ hK ?_ ?_ ?_)
            · rw [hdst, put_size]; exact hn
            · rw [hdst]; exact hd
            · rw [hdst]; exact hs.putB d u hda
          · cases hK
        · cases hK
      · cases hK
    · cases hK
/-- Slot s holds b; behind the operations that are left slot r holds v. -/
theorem wpList_tail {P : Program} {ops : Array Oper} {Q : Exit → Act → World → Prop} {w : World} {rest : List Oper} {a : Act} (n s : Nat) (b : Bool) (r : Nat) (v : Bool) (hK : (tailK ops n rest [(s, b)]).map (knows · r) = some (some v))
  (hn : a.tmps.size = n) (hs : a.tmps[s]? = some (.bool b)) (h : ∀ a', a'.tmps[r]? = some (.bool v) → a'.defers = a.defers → Q .normal a' w) : wpList P ops Q rest a w := by
 rcases hT : tailK ops n rest [(s, b)] with _ | K'
 · rw [hT] at hK; cases hK
 rw [hT] at hK
 simp only [Option.map_some, Option.some.injEq] at hK
 refine wpList_tailK (df := a.defers) (fun a' hk hd => h a' (hk r v hK) hd) rest _ a hT hn rfl ?_
 intro s' b' hb'
 unfold knows at hb'
 split at hb'
 · rename_i e; simp only [Option.some.injEq] at hb'; subst e; subst hb'; exact hs
 · cases hb'
/-- Where the walk is to stop: slot s holds b. -/
structure Stop (p : Prop) : Prop where
  go : p
theorem stop_go {p : Prop} (h : p) : Stop p := ⟨h⟩
theorem wpList_stop {P : Program} {ops : Array Oper} {Q : Exit → Act → World → Prop} {w : World} {rest : List Oper} {a : Act} (s : Nat) (b : Bool) (hs : a.tmps[s]? = some (.bool b)) (h : Stop (wpList P ops Q rest a w)) : wpList P ops Q rest a w := h.go
theorem getD_some {ts : Array Value} {k : Nat} {v : Value} (h : ts[k]? = some v) : ts.getD k undef = v := by rw [Array.getD_eq_getD_getElem?, h]; rfl
end Go.Proofs.YtmebipnljkopgaaGreatDoor
