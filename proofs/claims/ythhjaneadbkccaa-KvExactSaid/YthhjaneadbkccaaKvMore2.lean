/-
  HeavyPairs, as a law calls it. Conditions: as each theorem names them.
-/
import Derived.Test.YthhjaneadbkccaaKvMore
namespace Go.Proofs.Ythhjaneadbkccaa
theorem hv_pairs2 (w : World) (T : Nat → Prop) (v : Value) (l : List APair) (h : Prs w T v l) :
    Calls Try.prog 23 #[v] w fun e w' => e = .returned (.bool (heavyPairs l)) ∧ Ext w w' :=
  (hv_pairs w T v l h).mono fun _ _ ⟨h1, h2⟩ => ⟨h1, by rw [← h2]; exact Mod.refl _ _⟩
end Go.Proofs.Ythhjaneadbkccaa
