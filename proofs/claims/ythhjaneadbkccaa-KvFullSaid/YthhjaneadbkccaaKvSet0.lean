/-
  Plain steps of setP, for the page's set. No program is walked here. Conditions: as each theorem names them.
-/
import Derived.Test.YthhjaneadbkccaaKvLaw
namespace Go.Proofs.Ythhjaneadbkccaa
theorem setP_drop {l : List APair} {i : Nat} {x : APair} (k : ByteArray) (v : AVal) (d : Bool) (h : l[i]? = some x) : setP k v d (l.drop i) =
    if !d && (ltT k x.key || eqT k x.key) then ⟨k, v⟩ :: (if eqT x.key k then setP k v true (l.drop (i + 1)) else x :: setP k v true (l.drop (i + 1)))
    else if eqT x.key k then setP k v d (l.drop (i + 1)) else x :: setP k v d (l.drop (i + 1)) := by
  obtain ⟨hi, rfl⟩ := List.getElem?_eq_some_iff.1 h
  rw [List.drop_eq_getElem_cons hi]
  rfl
end Go.Proofs.Ythhjaneadbkccaa
