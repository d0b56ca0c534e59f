/-
  No cell of these rows narrows 'for every input' (looked for: loops, veiled, ifaces, maps, wideKeys, modest, calm, conditions, laid).
  DERIVED. THE GIVEN ROWS OF THIS SEAT. 7 by the template 'for every input the law returns true; each argument reads behind the call as it read before'; 0 by the template 'total and deterministic' (their statements: YtplpegjnmlabkaaTotals.lean).
  GIVEN WITH THE SEED: the statements are not yours to turn. If you find one false, say at which input.
  Laid BY PROGRAM, IN A SANDBOX (cutbox-rows.mjs): the forced cells as the released guide's own fill.sh prints them over the translation 988cf59a52c6eb29… (all of the seat's roots in one cut). By AI agents, Wed Nov 11 2026. No macro, syntax, notation, axiom, sorry.
-/
import Derived.Test.YtplpegjnmlabkaaChecked
import GoSem.Claim
import GoSem.ClaimJoined
import GoSem.ClaimMapViews
import Derived.JoinedTies
import Derived.KernelRfl
namespace Go.Proofs.Ytplpegjnmlabkaa
/- THE CELL 'sum', in the pinned program and in every row, IS THE sha256 OF THE DUMP (.gsa) THAT YtplpegjnmlabkaaProg.lean LOADS. Nothing in Lean hashes anything: it is a label: what it is worth is what the hold of that sum in a sandbox is worth. -/
noncomputable def Try.pinned : Pinned := { name := "ytplpegjnmlabkaa", sum := "988cf59a52c6eb29e93cbb60e40122ae1d4bbc96d1d619725e121280d7db99aa", checked := Try.checked }
namespace Rows
def none {H : Type} : Left H := { results := [], args := [] }

/-- 'skerrylaw07.SessExact': WHATEVER THE INPUT: true; the input reads as it did. -/
def sessExactSpec : ChangeSpec := { name := "sessExact", fn := fun _ => fun
  | [d1, d2, d3] => { results := [.lit (.bool true)], args := [d1, d2, d3] }
  | _ => none }
def sessExactRow : OpenClaim := { program := "ytplpegjnmlabkaa", sum := "988cf59a52c6eb29e93cbb60e40122ae1d4bbc96d1d619725e121280d7db99aa", func := "skerry/skerrylaw07.SessExact", spec := "sessExact", inPlace := ["math.Float64frombits", "math.Float64bits", "slices.overlaps[skerry/api.Pair]", "slices.overlaps[skerry/api.Sess]"], unfollowed := true, recurses := true, apart := false }
def SessExactSaid : Prop := sessExactRow.holds Try.pinned (OpenSpec.ofChange sessExactSpec)

/-- ITS FALSE NEIGHBOUR: 'it returns false'. Refute it at one input. -/
def sessExactWrong : ChangeSpec := { name := "sessExact", fn := fun _ => fun
  | [d1, d2, d3] => { results := [.lit (.bool false)], args := [d1, d2, d3] }
  | _ => none }
def SessExactWrongFalsely : Prop := sessExactRow.holds Try.pinned (OpenSpec.ofChange sessExactWrong)

/-- 'skerrylaw07.SessOnce': WHATEVER THE INPUT: true; the input reads as it did. -/
def sessOnceSpec : ChangeSpec := { name := "sessOnce", fn := fun _ => fun
  | [d1, d2, d3] => { results := [.lit (.bool true)], args := [d1, d2, d3] }
  | _ => none }
def sessOnceRow : OpenClaim := { program := "ytplpegjnmlabkaa", sum := "988cf59a52c6eb29e93cbb60e40122ae1d4bbc96d1d619725e121280d7db99aa", func := "skerry/skerrylaw07.SessOnce", spec := "sessOnce", inPlace := ["math.Float64bits", "math.Float64frombits", "slices.overlaps[skerry/api.Pair]", "slices.overlaps[skerry/api.Sess]"], unfollowed := true, recurses := true, apart := false }
def SessOnceSaid : Prop := sessOnceRow.holds Try.pinned (OpenSpec.ofChange sessOnceSpec)

/-- ITS FALSE NEIGHBOUR: 'it returns false'. Refute it at one input. -/
def sessOnceWrong : ChangeSpec := { name := "sessOnce", fn := fun _ => fun
  | [d1, d2, d3] => { results := [.lit (.bool false)], args := [d1, d2, d3] }
  | _ => none }
def SessOnceWrongFalsely : Prop := sessOnceRow.holds Try.pinned (OpenSpec.ofChange sessOnceWrong)

/-- 'skerrylaw07.SessClients': WHATEVER THE INPUT: true; the input reads as it did. -/
def sessClientsSpec : ChangeSpec := { name := "sessClients", fn := fun _ => fun
  | [d1, d2, d3] => { results := [.lit (.bool true)], args := [d1, d2, d3] }
  | _ => none }
def sessClientsRow : OpenClaim := { program := "ytplpegjnmlabkaa", sum := "988cf59a52c6eb29e93cbb60e40122ae1d4bbc96d1d619725e121280d7db99aa", func := "skerry/skerrylaw07.SessClients", spec := "sessClients", inPlace := ["math.Float64bits", "math.Float64frombits", "slices.overlaps[skerry/api.Pair]", "slices.overlaps[skerry/api.Sess]"], unfollowed := true, recurses := true, apart := false }
def SessClientsSaid : Prop := sessClientsRow.holds Try.pinned (OpenSpec.ofChange sessClientsSpec)

/-- ITS FALSE NEIGHBOUR: 'it returns false'. Refute it at one input. -/
def sessClientsWrong : ChangeSpec := { name := "sessClients", fn := fun _ => fun
  | [d1, d2, d3] => { results := [.lit (.bool false)], args := [d1, d2, d3] }
  | _ => none }
def SessClientsWrongFalsely : Prop := sessClientsRow.holds Try.pinned (OpenSpec.ofChange sessClientsWrong)

/-- 'skerrylaw07.SessRises': WHATEVER THE INPUT: true; the input reads as it did. -/
def sessRisesSpec : ChangeSpec := { name := "sessRises", fn := fun _ => fun
  | [d] => { results := [.lit (.bool true)], args := [d] }
  | _ => none }
def sessRisesRow : OpenClaim := { program := "ytplpegjnmlabkaa", sum := "988cf59a52c6eb29e93cbb60e40122ae1d4bbc96d1d619725e121280d7db99aa", func := "skerry/skerrylaw07.SessRises", spec := "sessRises", inPlace := ["math.Float64frombits", "math.Float64bits", "slices.overlaps[skerry/api.Pair]", "slices.overlaps[skerry/api.Sess]"], unfollowed := true, recurses := true, apart := false }
def SessRisesSaid : Prop := sessRisesRow.holds Try.pinned (OpenSpec.ofChange sessRisesSpec)

/-- ITS FALSE NEIGHBOUR: 'it returns false'. Refute it at one input. -/
def sessRisesWrong : ChangeSpec := { name := "sessRises", fn := fun _ => fun
  | [d] => { results := [.lit (.bool false)], args := [d] }
  | _ => none }
def SessRisesWrongFalsely : Prop := sessRisesRow.holds Try.pinned (OpenSpec.ofChange sessRisesWrong)

/-- 'skerrylaw07.SessBytes': WHATEVER THE INPUT: true; the input reads as it did. -/
def sessBytesSpec : ChangeSpec := { name := "sessBytes", fn := fun _ => fun
  | [d1, d2] => { results := [.lit (.bool true)], args := [d1, d2] }
  | _ => none }
def sessBytesRow : OpenClaim := { program := "ytplpegjnmlabkaa", sum := "988cf59a52c6eb29e93cbb60e40122ae1d4bbc96d1d619725e121280d7db99aa", func := "skerry/skerrylaw07.SessBytes", spec := "sessBytes", inPlace := ["math.Float64frombits", "math.Float64bits", "slices.overlaps[skerry/api.Pair]", "slices.overlaps[skerry/api.Sess]"], unfollowed := true, recurses := true, apart := false }
def SessBytesSaid : Prop := sessBytesRow.holds Try.pinned (OpenSpec.ofChange sessBytesSpec)

/-- ITS FALSE NEIGHBOUR: 'it returns false'. Refute it at one input. -/
def sessBytesWrong : ChangeSpec := { name := "sessBytes", fn := fun _ => fun
  | [d1, d2] => { results := [.lit (.bool false)], args := [d1, d2] }
  | _ => none }
def SessBytesWrongFalsely : Prop := sessBytesRow.holds Try.pinned (OpenSpec.ofChange sessBytesWrong)

/-- 'skerrylaw07.SessBack': WHATEVER THE INPUT: true; the input reads as it did. -/
def sessBackSpec : ChangeSpec := { name := "sessBack", fn := fun _ => fun
  | [d1, d2] => { results := [.lit (.bool true)], args := [d1, d2] }
  | _ => none }
def sessBackRow : OpenClaim := { program := "ytplpegjnmlabkaa", sum := "988cf59a52c6eb29e93cbb60e40122ae1d4bbc96d1d619725e121280d7db99aa", func := "skerry/skerrylaw07.SessBack", spec := "sessBack", inPlace := ["math.Float64bits", "math.Float64frombits", "slices.overlaps[skerry/api.Pair]", "slices.overlaps[skerry/api.Sess]"], unfollowed := true, recurses := true, apart := false }
def SessBackSaid : Prop := sessBackRow.holds Try.pinned (OpenSpec.ofChange sessBackSpec)

/-- ITS FALSE NEIGHBOUR: 'it returns false'. Refute it at one input. -/
def sessBackWrong : ChangeSpec := { name := "sessBack", fn := fun _ => fun
  | [d1, d2] => { results := [.lit (.bool false)], args := [d1, d2] }
  | _ => none }
def SessBackWrongFalsely : Prop := sessBackRow.holds Try.pinned (OpenSpec.ofChange sessBackWrong)

/-- 'skerrylaw07.SessCuts': WHATEVER THE INPUT: true; the input reads as it did. -/
def sessCutsSpec : ChangeSpec := { name := "sessCuts", fn := fun _ => fun
  | [d1, d2, d3, d4] => { results := [.lit (.bool true)], args := [d1, d2, d3, d4] }
  | _ => none }
def sessCutsRow : OpenClaim := { program := "ytplpegjnmlabkaa", sum := "988cf59a52c6eb29e93cbb60e40122ae1d4bbc96d1d619725e121280d7db99aa", func := "skerry/skerrylaw07.SessCuts", spec := "sessCuts", inPlace := ["math.Float64bits", "math.Float64frombits", "slices.overlaps[skerry/api.Pair]", "slices.overlaps[skerry/api.Sess]"], unfollowed := true, recurses := true, apart := false }
def SessCutsSaid : Prop := sessCutsRow.holds Try.pinned (OpenSpec.ofChange sessCutsSpec)

/-- ITS FALSE NEIGHBOUR: 'it returns false'. Refute it at one input. -/
def sessCutsWrong : ChangeSpec := { name := "sessCuts", fn := fun _ => fun
  | [d1, d2, d3, d4] => { results := [.lit (.bool false)], args := [d1, d2, d3, d4] }
  | _ => none }
def SessCutsWrongFalsely : Prop := sessCutsRow.holds Try.pinned (OpenSpec.ofChange sessCutsWrong)

/- THE SECOND FORM. 'bulk': how many values and letters a reading holds, each counted each time it is reached (what is shared counts as often as it is met; a slice's spare places count too). A statement '..UptoSaid' is the law's where the arguments, and the package variables that the reading takes, are together of bulk at most 1048576: NARROWER than '..Said'. Prove '..Said' where nothing that the law and all that it calls make is longer than what came in: it says more and counts as full. Else prove '..UptoSaid'. A law counts once. -/
mutual
def uptoBulk {H : Type} : DataW H → Nat
  | .lit (.string bytes) => bytes.length + 1
  | .lit _ => 1
  | .nil => 1
  | .ptr d => uptoBulk d + 1
  | .slice elems spare => uptoBulkAll elems + uptoBulkAll spare + 1
  | .agg parts => uptoBulkAll parts + 1
  | .iface _ d => uptoBulk d + 1
  | .map entries => uptoBulkEntries entries + 1
  | .held _ => 1
def uptoBulkAll {H : Type} : List (DataW H) → Nat
  | [] => 0
  | d :: r => uptoBulk d + uptoBulkAll r
def uptoBulkEntries {H : Type} : List (Lit × DataW H) → Nat
  | [] => 0
  | x :: r => uptoBulkEntry x + uptoBulkEntries r
def uptoBulkEntry {H : Type} : Lit × DataW H → Nat
  | (.string bytes, d) => bytes.length + uptoBulk d + 1
  | (_, d) => uptoBulk d + 1
 end
def uptoSmall : (H : Type) → List (DataW H) → Bool := fun _ ds => decide (uptoBulkAll ds ≤ 1048576)
def OpenSpec.upto (s : _root_.Go.ChangeSpec) : _root_.Go.OpenSpec := { _root_.Go.OpenSpec.ofChange s with cond := some uptoSmall }

/-- 'skerrylaw07.SessExact', WHERE WHAT IT READS IS OF BULK AT MOST 1048576: true; the input reads as it did. -/
def sessExactUptoRow : OpenClaim := { program := "ytplpegjnmlabkaa", sum := "988cf59a52c6eb29e93cbb60e40122ae1d4bbc96d1d619725e121280d7db99aa", func := "skerry/skerrylaw07.SessExact", spec := "sessExact", inPlace := ["math.Float64frombits", "math.Float64bits", "slices.overlaps[skerry/api.Pair]", "slices.overlaps[skerry/api.Sess]"], unfollowed := true, recurses := true, apart := false, narrowed := true }
def SessExactUptoSaid : Prop := sessExactUptoRow.holds Try.pinned (OpenSpec.upto sessExactSpec)

/-- 'skerrylaw07.SessOnce', WHERE WHAT IT READS IS OF BULK AT MOST 1048576: true; the input reads as it did. -/
def sessOnceUptoRow : OpenClaim := { program := "ytplpegjnmlabkaa", sum := "988cf59a52c6eb29e93cbb60e40122ae1d4bbc96d1d619725e121280d7db99aa", func := "skerry/skerrylaw07.SessOnce", spec := "sessOnce", inPlace := ["math.Float64bits", "math.Float64frombits", "slices.overlaps[skerry/api.Pair]", "slices.overlaps[skerry/api.Sess]"], unfollowed := true, recurses := true, apart := false, narrowed := true }
def SessOnceUptoSaid : Prop := sessOnceUptoRow.holds Try.pinned (OpenSpec.upto sessOnceSpec)

/-- 'skerrylaw07.SessClients', WHERE WHAT IT READS IS OF BULK AT MOST 1048576: true; the input reads as it did. -/
def sessClientsUptoRow : OpenClaim := { program := "ytplpegjnmlabkaa", sum := "988cf59a52c6eb29e93cbb60e40122ae1d4bbc96d1d619725e121280d7db99aa", func := "skerry/skerrylaw07.SessClients", spec := "sessClients", inPlace := ["math.Float64bits", "math.Float64frombits", "slices.overlaps[skerry/api.Pair]", "slices.overlaps[skerry/api.Sess]"], unfollowed := true, recurses := true, apart := false, narrowed := true }
def SessClientsUptoSaid : Prop := sessClientsUptoRow.holds Try.pinned (OpenSpec.upto sessClientsSpec)

/-- 'skerrylaw07.SessRises', WHERE WHAT IT READS IS OF BULK AT MOST 1048576: true; the input reads as it did. -/
def sessRisesUptoRow : OpenClaim := { program := "ytplpegjnmlabkaa", sum := "988cf59a52c6eb29e93cbb60e40122ae1d4bbc96d1d619725e121280d7db99aa", func := "skerry/skerrylaw07.SessRises", spec := "sessRises", inPlace := ["math.Float64frombits", "math.Float64bits", "slices.overlaps[skerry/api.Pair]", "slices.overlaps[skerry/api.Sess]"], unfollowed := true, recurses := true, apart := false, narrowed := true }
def SessRisesUptoSaid : Prop := sessRisesUptoRow.holds Try.pinned (OpenSpec.upto sessRisesSpec)

/-- 'skerrylaw07.SessBytes', WHERE WHAT IT READS IS OF BULK AT MOST 1048576: true; the input reads as it did. -/
def sessBytesUptoRow : OpenClaim := { program := "ytplpegjnmlabkaa", sum := "988cf59a52c6eb29e93cbb60e40122ae1d4bbc96d1d619725e121280d7db99aa", func := "skerry/skerrylaw07.SessBytes", spec := "sessBytes", inPlace := ["math.Float64frombits", "math.Float64bits", "slices.overlaps[skerry/api.Pair]", "slices.overlaps[skerry/api.Sess]"], unfollowed := true, recurses := true, apart := false, narrowed := true }
def SessBytesUptoSaid : Prop := sessBytesUptoRow.holds Try.pinned (OpenSpec.upto sessBytesSpec)

/-- 'skerrylaw07.SessBack', WHERE WHAT IT READS IS OF BULK AT MOST 1048576: true; the input reads as it did. -/
def sessBackUptoRow : OpenClaim := { program := "ytplpegjnmlabkaa", sum := "988cf59a52c6eb29e93cbb60e40122ae1d4bbc96d1d619725e121280d7db99aa", func := "skerry/skerrylaw07.SessBack", spec := "sessBack", inPlace := ["math.Float64bits", "math.Float64frombits", "slices.overlaps[skerry/api.Pair]", "slices.overlaps[skerry/api.Sess]"], unfollowed := true, recurses := true, apart := false, narrowed := true }
def SessBackUptoSaid : Prop := sessBackUptoRow.holds Try.pinned (OpenSpec.upto sessBackSpec)

/-- 'skerrylaw07.SessCuts', WHERE WHAT IT READS IS OF BULK AT MOST 1048576: true; the input reads as it did. -/
def sessCutsUptoRow : OpenClaim := { program := "ytplpegjnmlabkaa", sum := "988cf59a52c6eb29e93cbb60e40122ae1d4bbc96d1d619725e121280d7db99aa", func := "skerry/skerrylaw07.SessCuts", spec := "sessCuts", inPlace := ["math.Float64bits", "math.Float64frombits", "slices.overlaps[skerry/api.Pair]", "slices.overlaps[skerry/api.Sess]"], unfollowed := true, recurses := true, apart := false, narrowed := true }
def SessCutsUptoSaid : Prop := sessCutsUptoRow.holds Try.pinned (OpenSpec.upto sessCutsSpec)

end Rows
end Go.Proofs.Ytplpegjnmlabkaa
