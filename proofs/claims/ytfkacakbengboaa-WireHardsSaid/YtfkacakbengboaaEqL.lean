/-
 Two lists, element by element. No program is named here. Conditions: none.
-/
import Derived.Test.YtfkacakbengboaaMem
namespace Go.Proofs.Ytfkacakbengboaa
/-- Two lists, element by element. -/
def eqL {α : Type} (p : α → α → Bool) : List α → List α → Bool
 | [], [] => true
 | a :: l, b :: m => p a b && eqL p l m
 | _, _ => false
theorem eqL_iff {α : Type} (p : α → α → Bool) (l : List α) : ∀ m : List α, eqL p l m = true ↔ l.length = m.length ∧ ∀ (i : Nat) (x y : α), l[i]? = some x → m[i]? = some y → p x y = true := by
 induction l with
 | nil => intro m; cases m <;> simp [eqL]
 | cons a l ih =>
  intro m
  cases m with
  | nil => simp [eqL]
  | cons b m =>
   simp only [eqL, Bool.and_eq_true, ih, List.length_cons, Nat.add_right_cancel_iff]
   constructor
   ·
    rintro ⟨h, h1, h2⟩
    refine ⟨h1, fun i x y hx hy => ?_⟩
    cases i with
    | zero => simp at hx hy; subst hx; subst hy; exact h
    | succ i => exact h2 i x y (by simpa using hx) (by simpa using hy)
   ·
    rintro ⟨h1, h2⟩
    exact ⟨h2 0 a b rfl rfl, h1, fun i x y hx hy => h2 (i + 1) x y (by simpa using hx) (by simpa using hy)⟩
theorem eqL_step {α : Type} {p : α → α → Bool} {l m : List α} {i : Nat} {x y : α} (h : ∀ j < i, ∀ x y, l[j]? = some x → m[j]? = some y → p x y = true) (hx : l[i]? = some x) (hy : m[i]? = some y) (e : p x y = true) :
  ∀ j < i + 1, ∀ x y, l[j]? = some x → m[j]? = some y → p x y = true := by
 intro j hj a b ha hb
 by_cases hji : j = i
 ·
  subst hji; rw [hx] at ha; rw [hy] at hb; cases ha; cases hb; exact e
 ·
  exact h j (by omega) a b ha hb
theorem eqL_no {α : Type} {p : α → α → Bool} {l m : List α} {i : Nat} {x y : α} (hx : l[i]? = some x) (hy : m[i]? = some y) (e : p x y = false) : eqL p l m = false := by
 rw [← Bool.not_eq_true, eqL_iff]; rintro ⟨_, h⟩; have := h i x y hx hy; rw [e] at this; cases this
theorem eqL_len {α : Type} {p : α → α → Bool} {l m : List α} (e : l.length ≠ m.length) : eqL p l m = false := by
 rw [← Bool.not_eq_true, eqL_iff]; exact fun h => e h.1
theorem eqL_yes {α : Type} {p : α → α → Bool} {l m : List α} {n : Nat} (h : ∀ j < n, ∀ x y, l[j]? = some x → m[j]? = some y → p x y = true) (e : l.length = n) (e' : m.length = n) : eqL p l m = true := by
 rw [eqL_iff]
 exact ⟨by omega, fun i x y hx hy => h i (by have := (List.getElem?_eq_some_iff.1 hx).1; omega) x y hx hy⟩
end Go.Proofs.Ytfkacakbengboaa
