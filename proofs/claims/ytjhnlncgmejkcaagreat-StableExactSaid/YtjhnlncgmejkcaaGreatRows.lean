/-
  No cell of these rows narrows 'for every input' (looked for: loops, veiled, ifaces, maps, wideKeys, modest, calm, conditions, laid).
  DERIVED. THE GIVEN ROWS OF THIS SEAT. 5 by the template 'for every input the law returns true; each argument reads behind the call as it read before'; 0 by the template 'total and deterministic' (their statements: YtjhnlncgmejkcaaGreatTotals.lean).
  GIVEN WITH THE SEED: the statements are not yours to turn. If you find one false, say at which input.
  Laid BY PROGRAM, IN A SANDBOX (cutbox-rows.mjs): the forced cells as the released guide's own fill.sh prints them over the translation d3a3b79105b23c80… (all of the seat's roots in one cut). By AI agents, Wed Nov 11 2026. No macro, syntax, notation, axiom, sorry.
-/
import Derived.Test.YtjhnlncgmejkcaaGreatChecked
import GoSem.Claim
import GoSem.ClaimJoined
import GoSem.ClaimMapViews
import Derived.JoinedTies
import Derived.KernelRfl
namespace Go.Proofs.YtjhnlncgmejkcaaGreat
/- THE CELL 'sum', in the pinned program and in every row, IS THE sha256 OF THE DUMP (.gsa) THAT YtjhnlncgmejkcaaGreatProg.lean LOADS. Nothing in Lean hashes anything: it is a label: what it is worth is what the hold of that sum in a sandbox is worth. -/
noncomputable def Tryz.pinned : Pinned := { name := "ytjhnlncgmejkcaagreat", sum := "d3a3b79105b23c808bb15cfeaabf42d3421355afb27ebb1093698e1cdfd8ec9d", checked := Tryz.checked }
namespace Rows
def none {H : Type} : Left H := { results := [], args := [] }

/-- 'skerrylaw11.StableTorn': WHATEVER THE INPUT: true; the input reads as it did. -/
def stableTornSpec : ChangeSpec := { name := "stableTorn", fn := fun _ => fun
  | [d1, d2, d3, d4] => { results := [.lit (.bool true)], args := [d1, d2, d3, d4] }
  | _ => none }
def stableTornRow : OpenClaim := { program := "ytjhnlncgmejkcaagreat", sum := "d3a3b79105b23c808bb15cfeaabf42d3421355afb27ebb1093698e1cdfd8ec9d", func := "skerry/skerrylaw11.StableTorn", spec := "stableTorn", inPlace := ["math.Float64frombits", "math.Float64bits"], unfollowed := true, recurses := true, apart := false }
def StableTornSaid : Prop := stableTornRow.holds Tryz.pinned (OpenSpec.ofChange stableTornSpec)

/-- ITS FALSE NEIGHBOUR: 'it returns false'. Refute it at one input. -/
def stableTornWrong : ChangeSpec := { name := "stableTorn", fn := fun _ => fun
  | [d1, d2, d3, d4] => { results := [.lit (.bool false)], args := [d1, d2, d3, d4] }
  | _ => none }
def StableTornWrongFalsely : Prop := stableTornRow.holds Tryz.pinned (OpenSpec.ofChange stableTornWrong)

/-- 'skerrylaw11.StableSmall': WHATEVER THE INPUT: true; the input reads as it did. -/
def stableSmallSpec : ChangeSpec := { name := "stableSmall", fn := fun _ => fun
  | [d1, d2, d3] => { results := [.lit (.bool true)], args := [d1, d2, d3] }
  | _ => none }
def stableSmallRow : OpenClaim := { program := "ytjhnlncgmejkcaagreat", sum := "d3a3b79105b23c808bb15cfeaabf42d3421355afb27ebb1093698e1cdfd8ec9d", func := "skerry/skerrylaw11.StableSmall", spec := "stableSmall", inPlace := ["math.Float64frombits", "math.Float64bits"], unfollowed := true, recurses := true, apart := false }
def StableSmallSaid : Prop := stableSmallRow.holds Tryz.pinned (OpenSpec.ofChange stableSmallSpec)

/-- ITS FALSE NEIGHBOUR: 'it returns false'. Refute it at one input. -/
def stableSmallWrong : ChangeSpec := { name := "stableSmall", fn := fun _ => fun
  | [d1, d2, d3] => { results := [.lit (.bool false)], args := [d1, d2, d3] }
  | _ => none }
def StableSmallWrongFalsely : Prop := stableSmallRow.holds Tryz.pinned (OpenSpec.ofChange stableSmallWrong)

/-- 'skerrylaw11.StableExact': WHATEVER THE INPUT: true; the input reads as it did. -/
def stableExactSpec : ChangeSpec := { name := "stableExact", fn := fun _ => fun
  | [d1, d2, d3] => { results := [.lit (.bool true)], args := [d1, d2, d3] }
  | _ => none }
def stableExactRow : OpenClaim := { program := "ytjhnlncgmejkcaagreat", sum := "d3a3b79105b23c808bb15cfeaabf42d3421355afb27ebb1093698e1cdfd8ec9d", func := "skerry/skerrylaw11.StableExact", spec := "stableExact", inPlace := ["math.Float64frombits", "math.Float64bits"], unfollowed := true, recurses := true, apart := false }
def StableExactSaid : Prop := stableExactRow.holds Tryz.pinned (OpenSpec.ofChange stableExactSpec)

/-- ITS FALSE NEIGHBOUR: 'it returns false'. Refute it at one input. -/
def stableExactWrong : ChangeSpec := { name := "stableExact", fn := fun _ => fun
  | [d1, d2, d3] => { results := [.lit (.bool false)], args := [d1, d2, d3] }
  | _ => none }
def StableExactWrongFalsely : Prop := stableExactRow.holds Tryz.pinned (OpenSpec.ofChange stableExactWrong)

/-- 'skerrylaw11.StableLasts': WHATEVER THE INPUT: true; the input reads as it did. -/
def stableLastsSpec : ChangeSpec := { name := "stableLasts", fn := fun _ => fun
  | [d1, d2] => { results := [.lit (.bool true)], args := [d1, d2] }
  | _ => none }
def stableLastsRow : OpenClaim := { program := "ytjhnlncgmejkcaagreat", sum := "d3a3b79105b23c808bb15cfeaabf42d3421355afb27ebb1093698e1cdfd8ec9d", func := "skerry/skerrylaw11.StableLasts", spec := "stableLasts", inPlace := ["math.Float64frombits", "math.Float64bits"], unfollowed := true, recurses := true, apart := false }
def StableLastsSaid : Prop := stableLastsRow.holds Tryz.pinned (OpenSpec.ofChange stableLastsSpec)

/-- ITS FALSE NEIGHBOUR: 'it returns false'. Refute it at one input. -/
def stableLastsWrong : ChangeSpec := { name := "stableLasts", fn := fun _ => fun
  | [d1, d2] => { results := [.lit (.bool false)], args := [d1, d2] }
  | _ => none }
def StableLastsWrongFalsely : Prop := stableLastsRow.holds Tryz.pinned (OpenSpec.ofChange stableLastsWrong)

/-- 'skerrylaw11.StableAgain': WHATEVER THE INPUT: true; the input reads as it did. -/
def stableAgainSpec : ChangeSpec := { name := "stableAgain", fn := fun _ => fun
  | [d1, d2, d3] => { results := [.lit (.bool true)], args := [d1, d2, d3] }
  | _ => none }
def stableAgainRow : OpenClaim := { program := "ytjhnlncgmejkcaagreat", sum := "d3a3b79105b23c808bb15cfeaabf42d3421355afb27ebb1093698e1cdfd8ec9d", func := "skerry/skerrylaw11.StableAgain", spec := "stableAgain", inPlace := ["math.Float64frombits", "math.Float64bits"], unfollowed := true, recurses := true, apart := false }
def StableAgainSaid : Prop := stableAgainRow.holds Tryz.pinned (OpenSpec.ofChange stableAgainSpec)

/-- ITS FALSE NEIGHBOUR: 'it returns false'. Refute it at one input. -/
def stableAgainWrong : ChangeSpec := { name := "stableAgain", fn := fun _ => fun
  | [d1, d2, d3] => { results := [.lit (.bool false)], args := [d1, d2, d3] }
  | _ => none }
def StableAgainWrongFalsely : Prop := stableAgainRow.holds Tryz.pinned (OpenSpec.ofChange stableAgainWrong)

/- THE SECOND FORM. 'bulk': how many values and letters a reading holds, each counted each time it is reached (what is shared counts as often as it is met; a slice's spare places count too). A statement '..UptoSaid' is the law's where the arguments, and the package variables that the reading takes, are together of bulk at most 1048576: NARROWER than '..Said'. Prove '..Said' where nothing that the law and all that it calls make is longer than what came in: it says more and counts as full. Else prove '..UptoSaid'. A law counts once. -/
mutual
def uptoBulk {H : Type} : DataW H → Nat
  | .lit (.string bytes) => bytes.length + 1
  | .lit _ => 1
  | .nil => 1
  | .ptr d => uptoBulk d + 1
  | .slice elems spare => uptoBulkAll elems + uptoBulkAll spare + 1
  | .agg parts => uptoBulkAll parts + 1
  | .iface _ d => uptoBulk d + 1
  | .map entries => uptoBulkEntries entries + 1
  | .held _ => 1
def uptoBulkAll {H : Type} : List (DataW H) → Nat
  | [] => 0
  | d :: r => uptoBulk d + uptoBulkAll r
def uptoBulkEntries {H : Type} : List (Lit × DataW H) → Nat
  | [] => 0
  | x :: r => uptoBulkEntry x + uptoBulkEntries r
def uptoBulkEntry {H : Type} : Lit × DataW H → Nat
  | (.string bytes, d) => bytes.length + uptoBulk d + 1
  | (_, d) => uptoBulk d + 1
 end
def uptoSmall : (H : Type) → List (DataW H) → Bool := fun _ ds => decide (uptoBulkAll ds ≤ 1048576)
def OpenSpec.upto (s : _root_.Go.ChangeSpec) : _root_.Go.OpenSpec := { _root_.Go.OpenSpec.ofChange s with cond := some uptoSmall }

/-- 'skerrylaw11.StableTorn', WHERE WHAT IT READS IS OF BULK AT MOST 1048576: true; the input reads as it did. -/
def stableTornUptoRow : OpenClaim := { program := "ytjhnlncgmejkcaagreat", sum := "d3a3b79105b23c808bb15cfeaabf42d3421355afb27ebb1093698e1cdfd8ec9d", func := "skerry/skerrylaw11.StableTorn", spec := "stableTorn", inPlace := ["math.Float64frombits", "math.Float64bits"], unfollowed := true, recurses := true, apart := false, narrowed := true }
def StableTornUptoSaid : Prop := stableTornUptoRow.holds Tryz.pinned (OpenSpec.upto stableTornSpec)

/-- 'skerrylaw11.StableSmall', WHERE WHAT IT READS IS OF BULK AT MOST 1048576: true; the input reads as it did. -/
def stableSmallUptoRow : OpenClaim := { program := "ytjhnlncgmejkcaagreat", sum := "d3a3b79105b23c808bb15cfeaabf42d3421355afb27ebb1093698e1cdfd8ec9d", func := "skerry/skerrylaw11.StableSmall", spec := "stableSmall", inPlace := ["math.Float64frombits", "math.Float64bits"], unfollowed := true, recurses := true, apart := false, narrowed := true }
def StableSmallUptoSaid : Prop := stableSmallUptoRow.holds Tryz.pinned (OpenSpec.upto stableSmallSpec)

/-- 'skerrylaw11.StableExact', WHERE WHAT IT READS IS OF BULK AT MOST 1048576: true; the input reads as it did. -/
def stableExactUptoRow : OpenClaim := { program := "ytjhnlncgmejkcaagreat", sum := "d3a3b79105b23c808bb15cfeaabf42d3421355afb27ebb1093698e1cdfd8ec9d", func := "skerry/skerrylaw11.StableExact", spec := "stableExact", inPlace := ["math.Float64frombits", "math.Float64bits"], unfollowed := true, recurses := true, apart := false, narrowed := true }
def StableExactUptoSaid : Prop := stableExactUptoRow.holds Tryz.pinned (OpenSpec.upto stableExactSpec)

/-- 'skerrylaw11.StableLasts', WHERE WHAT IT READS IS OF BULK AT MOST 1048576: true; the input reads as it did. -/
def stableLastsUptoRow : OpenClaim := { program := "ytjhnlncgmejkcaagreat", sum := "d3a3b79105b23c808bb15cfeaabf42d3421355afb27ebb1093698e1cdfd8ec9d", func := "skerry/skerrylaw11.StableLasts", spec := "stableLasts", inPlace := ["math.Float64frombits", "math.Float64bits"], unfollowed := true, recurses := true, apart := false, narrowed := true }
def StableLastsUptoSaid : Prop := stableLastsUptoRow.holds Tryz.pinned (OpenSpec.upto stableLastsSpec)

/-- 'skerrylaw11.StableAgain', WHERE WHAT IT READS IS OF BULK AT MOST 1048576: true; the input reads as it did. -/
def stableAgainUptoRow : OpenClaim := { program := "ytjhnlncgmejkcaagreat", sum := "d3a3b79105b23c808bb15cfeaabf42d3421355afb27ebb1093698e1cdfd8ec9d", func := "skerry/skerrylaw11.StableAgain", spec := "stableAgain", inPlace := ["math.Float64frombits", "math.Float64bits"], unfollowed := true, recurses := true, apart := false, narrowed := true }
def StableAgainUptoSaid : Prop := stableAgainUptoRow.holds Tryz.pinned (OpenSpec.upto stableAgainSpec)

end Rows
end Go.Proofs.YtjhnlncgmejkcaaGreat
