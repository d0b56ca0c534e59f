/-
 A value that is read: what it is, and what is left. No program is walked here. Conditions: none.
-/
import Derived.Test.YtfkacakbengboaaGSpec
namespace Go.Proofs.Ytfkacakbengboaa

/-- A value read. -/
def RS.val (r : RS) : AVal × RS :=
 if r.int.1 = 1 then (⟨1, r.int.2.float.1, ⟨#[]⟩⟩, r.int.2.float.2)
 else if r.int.1 = 2 then (⟨2, 0, ⟨r.int.2.text.1.toArray⟩⟩, r.int.2.text.2)
 else (⟨r.int.1, 0, ⟨#[]⟩⟩, r.int.2)
/-- As the page reads it: a kind that is none is an error. -/
def RS.valP (r : RS) : AVal × RS := if r.int.1 = 0 ∨ r.int.1 = 1 ∨ r.int.1 = 2 then r.val else (⟨r.int.1, 0, ⟨#[]⟩⟩, r.int.2.fail 3)
end Go.Proofs.Ytfkacakbengboaa
