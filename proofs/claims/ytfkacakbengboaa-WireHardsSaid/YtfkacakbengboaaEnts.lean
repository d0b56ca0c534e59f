/-
 Lists of entries in memory. No program is walked here. Conditions: as each theorem names them.
-/
import Derived.Test.YtfkacakbengboaaGSpec
import Derived.Test.YtfkacakbengboaaOpen
namespace Go.Proofs.Ytfkacakbengboaa

/-- A list of entries. -/
def Ents (w : World) (T : Nat → Prop) (v : Value) (l : List AEntry) : Prop := Sl w T 16 v l.length (l.flatMap AEntry.cells) ∧ ∀ x ∈ l, x.ok
theorem Ents.mod {w w' : World} {S T : Nat → Prop} {v : Value} {l : List AEntry} (h : Ents w T v l) (hm : Mod S w w') (hd : ∀ g, T g → ¬ S g) : Ents w' T v l := ⟨h.1.mod hm hd, h.2⟩
theorem Ents.at {w : World} {T : Nat → Prop} {A : Option Addr} {n c : Nat} {l : List AEntry} (h : Ents w T (.slice A n c) l) {i : Nat} (hi : i < n) :
  ∃ g off x, A = some ⟨g, off, none⟩ ∧ T g ∧ l[i]? = some x ∧ x.ok ∧ ∀ j u, x.cells[j]? = some u → w.cell? ⟨g, off + i * 16 + j, none⟩ = some u := by
 obtain ⟨⟨hl, A', c', e, hn, hc, hx⟩, hf⟩ := h
 injection e with e1 e2 e3; subst e1; subst e2; subst e3
 obtain ⟨g, off, rfl, hT, hcell⟩ := hx (by omega)
 have hget : l[i]? = some l[i] := List.getElem?_eq_getElem hi
 refine ⟨g, off, l[i], rfl, hT, hget, hf _ (List.getElem_mem hi), fun j u hu => ?_⟩
 have hj : j < 16 := (List.getElem?_eq_some_iff.1 hu).1
 rw [Nat.add_assoc]
 exact hcell _ u (by rw [flat_get (k := 16) (fun _ => rfl) l i j _ hget hj]; exact hu)

end Go.Proofs.Ytfkacakbengboaa
