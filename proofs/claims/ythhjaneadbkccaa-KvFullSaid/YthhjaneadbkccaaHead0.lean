/-
  Small words on memory. No program is named here. Conditions: as each theorem names them.
-/
import Derived.Test.YthhjaneadbkccaaMem
namespace Go.Proofs.Ythhjaneadbkccaa
/-- Old cells read as before. -/
theorem bcell {W w1 : World} (hb : Ext W w1) : (∀ b o, b < W.heap.size → w1.cell? ⟨b, o, none⟩ = W.cell? ⟨b, o, none⟩) ∧ (∀ b o, b < W.heap.size → w1.frozen? ⟨b, o, none⟩ = W.frozen? ⟨b, o, none⟩) :=
  ⟨fun b o h => hb.below.cell (p := ⟨b, o, none⟩) h, fun b o h => hb.below.frozen (p := ⟨b, o, none⟩) h⟩
end Go.Proofs.Ythhjaneadbkccaa
