/-
  No cell of these rows narrows 'for every input' (looked for: loops, veiled, ifaces, maps, wideKeys, modest, calm, conditions, laid).
  DERIVED. THE GIVEN ROWS OF THIS SEAT. 4 by the template 'for every input the law returns true; each argument reads behind the call as it read before'; 0 by the template 'total and deterministic' (their statements: YtbclnghbgoblcaaTotals.lean).
  GIVEN WITH THE SEED: the statements are not yours to turn. If you find one false, say at which input.
  Laid BY PROGRAM, IN A SANDBOX (cutbox-rows.mjs): the forced cells as the released guide's own fill.sh prints them over the translation 5a82e27b1c696c55… (all of the seat's roots in one cut). By AI agents, Wed Nov 11 2026. No macro, syntax, notation, axiom, sorry.
-/
import Derived.Test.YtbclnghbgoblcaaChecked
import GoSem.Claim
import GoSem.ClaimJoined
import GoSem.ClaimMapViews
import Derived.JoinedTies
import Derived.KernelRfl
namespace Go.Proofs.Ytbclnghbgoblcaa
/- THE CELL 'sum', in the pinned program and in every row, IS THE sha256 OF THE DUMP (.gsa) THAT YtbclnghbgoblcaaProg.lean LOADS. Nothing in Lean hashes anything: it is a label: what it is worth is what the hold of that sum in a sandbox is worth. -/
noncomputable def Try.pinned : Pinned := { name := "ytbclnghbgoblcaa", sum := "5a82e27b1c696c55cfe8821dcdc9b54d1157ae605181b22f5224060a0f8c7ecb", checked := Try.checked }
namespace Rows
def none {H : Type} : Left H := { results := [], args := [] }

/-- 'skerrylaw25.HistPlays': WHATEVER THE INPUT: true; the input reads as it did. -/
def histPlaysSpec : ChangeSpec := { name := "histPlays", fn := fun _ => fun
  | [d1, d2] => { results := [.lit (.bool true)], args := [d1, d2] }
  | _ => none }
def histPlaysRow : OpenClaim := { program := "ytbclnghbgoblcaa", sum := "5a82e27b1c696c55cfe8821dcdc9b54d1157ae605181b22f5224060a0f8c7ecb", func := "skerry/skerrylaw25.HistPlays", spec := "histPlays", inPlace := ["math.Float64bits", "math.Float64frombits", "slices.overlaps[skerry/api.Pair]", "slices.overlaps[skerry/api.Sess]"], unfollowed := true, recurses := true, apart := false }
def HistPlaysSaid : Prop := histPlaysRow.holds Try.pinned (OpenSpec.ofChange histPlaysSpec)

/-- ITS FALSE NEIGHBOUR: 'it returns false'. Refute it at one input. -/
def histPlaysWrong : ChangeSpec := { name := "histPlays", fn := fun _ => fun
  | [d1, d2] => { results := [.lit (.bool false)], args := [d1, d2] }
  | _ => none }
def HistPlaysWrongFalsely : Prop := histPlaysRow.holds Try.pinned (OpenSpec.ofChange histPlaysWrong)

/-- 'skerrylaw25.HistAlone': WHATEVER THE INPUT: true; the input reads as it did. -/
def histAloneSpec : ChangeSpec := { name := "histAlone", fn := fun _ => fun
  | [d1, d2, d3] => { results := [.lit (.bool true)], args := [d1, d2, d3] }
  | _ => none }
def histAloneRow : OpenClaim := { program := "ytbclnghbgoblcaa", sum := "5a82e27b1c696c55cfe8821dcdc9b54d1157ae605181b22f5224060a0f8c7ecb", func := "skerry/skerrylaw25.HistAlone", spec := "histAlone", inPlace := ["math.Float64bits", "math.Float64frombits", "slices.overlaps[skerry/api.Pair]", "slices.overlaps[skerry/api.Sess]"], unfollowed := true, recurses := true, apart := false }
def HistAloneSaid : Prop := histAloneRow.holds Try.pinned (OpenSpec.ofChange histAloneSpec)

/-- ITS FALSE NEIGHBOUR: 'it returns false'. Refute it at one input. -/
def histAloneWrong : ChangeSpec := { name := "histAlone", fn := fun _ => fun
  | [d1, d2, d3] => { results := [.lit (.bool false)], args := [d1, d2, d3] }
  | _ => none }
def HistAloneWrongFalsely : Prop := histAloneRow.holds Try.pinned (OpenSpec.ofChange histAloneWrong)

/-- 'skerrylaw25.HistLate': WHATEVER THE INPUT: true; the input reads as it did. -/
def histLateSpec : ChangeSpec := { name := "histLate", fn := fun _ => fun
  | [d1, d2] => { results := [.lit (.bool true)], args := [d1, d2] }
  | _ => none }
def histLateRow : OpenClaim := { program := "ytbclnghbgoblcaa", sum := "5a82e27b1c696c55cfe8821dcdc9b54d1157ae605181b22f5224060a0f8c7ecb", func := "skerry/skerrylaw25.HistLate", spec := "histLate", inPlace := ["math.Float64frombits", "math.Float64bits", "slices.overlaps[skerry/api.Pair]", "slices.overlaps[skerry/api.Sess]"], unfollowed := true, recurses := true, apart := false }
def HistLateSaid : Prop := histLateRow.holds Try.pinned (OpenSpec.ofChange histLateSpec)

/-- ITS FALSE NEIGHBOUR: 'it returns false'. Refute it at one input. -/
def histLateWrong : ChangeSpec := { name := "histLate", fn := fun _ => fun
  | [d1, d2] => { results := [.lit (.bool false)], args := [d1, d2] }
  | _ => none }
def HistLateWrongFalsely : Prop := histLateRow.holds Try.pinned (OpenSpec.ofChange histLateWrong)

/-- 'skerrylaw25.HistMore': WHATEVER THE INPUT: true; the input reads as it did. -/
def histMoreSpec : ChangeSpec := { name := "histMore", fn := fun _ => fun
  | [d1, d2, d3] => { results := [.lit (.bool true)], args := [d1, d2, d3] }
  | _ => none }
def histMoreRow : OpenClaim := { program := "ytbclnghbgoblcaa", sum := "5a82e27b1c696c55cfe8821dcdc9b54d1157ae605181b22f5224060a0f8c7ecb", func := "skerry/skerrylaw25.HistMore", spec := "histMore", inPlace := ["math.Float64frombits", "math.Float64bits", "slices.overlaps[skerry/api.Pair]", "slices.overlaps[skerry/api.Sess]"], unfollowed := true, recurses := true, apart := false }
def HistMoreSaid : Prop := histMoreRow.holds Try.pinned (OpenSpec.ofChange histMoreSpec)

/-- ITS FALSE NEIGHBOUR: 'it returns false'. Refute it at one input. -/
def histMoreWrong : ChangeSpec := { name := "histMore", fn := fun _ => fun
  | [d1, d2, d3] => { results := [.lit (.bool false)], args := [d1, d2, d3] }
  | _ => none }
def HistMoreWrongFalsely : Prop := histMoreRow.holds Try.pinned (OpenSpec.ofChange histMoreWrong)

/- THE SECOND FORM. 'bulk': how many values and letters a reading holds, each counted each time it is reached (what is shared counts as often as it is met; a slice's spare places count too). A statement '..UptoSaid' is the law's where the arguments, and the package variables that the reading takes, are together of bulk at most 1048576: NARROWER than '..Said'. Prove '..Said' where nothing that the law and all that it calls make is longer than what came in: it says more and counts as full. Else prove '..UptoSaid'. A law counts once. -/
mutual
def uptoBulk {H : Type} : DataW H → Nat
  | .lit (.string bytes) => bytes.length + 1
  | .lit _ => 1
  | .nil => 1
  | .ptr d => uptoBulk d + 1
  | .slice elems spare => uptoBulkAll elems + uptoBulkAll spare + 1
  | .agg parts => uptoBulkAll parts + 1
  | .iface _ d => uptoBulk d + 1
  | .map entries => uptoBulkEntries entries + 1
  | .held _ => 1
def uptoBulkAll {H : Type} : List (DataW H) → Nat
  | [] => 0
  | d :: r => uptoBulk d + uptoBulkAll r
def uptoBulkEntries {H : Type} : List (Lit × DataW H) → Nat
  | [] => 0
  | x :: r => uptoBulkEntry x + uptoBulkEntries r
def uptoBulkEntry {H : Type} : Lit × DataW H → Nat
  | (.string bytes, d) => bytes.length + uptoBulk d + 1
  | (_, d) => uptoBulk d + 1
 end
def uptoSmall : (H : Type) → List (DataW H) → Bool := fun _ ds => decide (uptoBulkAll ds ≤ 1048576)
def OpenSpec.upto (s : _root_.Go.ChangeSpec) : _root_.Go.OpenSpec := { _root_.Go.OpenSpec.ofChange s with cond := some uptoSmall }

/-- 'skerrylaw25.HistPlays', WHERE WHAT IT READS IS OF BULK AT MOST 1048576: true; the input reads as it did. -/
def histPlaysUptoRow : OpenClaim := { program := "ytbclnghbgoblcaa", sum := "5a82e27b1c696c55cfe8821dcdc9b54d1157ae605181b22f5224060a0f8c7ecb", func := "skerry/skerrylaw25.HistPlays", spec := "histPlays", inPlace := ["math.Float64bits", "math.Float64frombits", "slices.overlaps[skerry/api.Pair]", "slices.overlaps[skerry/api.Sess]"], unfollowed := true, recurses := true, apart := false, narrowed := true }
def HistPlaysUptoSaid : Prop := histPlaysUptoRow.holds Try.pinned (OpenSpec.upto histPlaysSpec)

/-- 'skerrylaw25.HistAlone', WHERE WHAT IT READS IS OF BULK AT MOST 1048576: true; the input reads as it did. -/
def histAloneUptoRow : OpenClaim := { program := "ytbclnghbgoblcaa", sum := "5a82e27b1c696c55cfe8821dcdc9b54d1157ae605181b22f5224060a0f8c7ecb", func := "skerry/skerrylaw25.HistAlone", spec := "histAlone", inPlace := ["math.Float64bits", "math.Float64frombits", "slices.overlaps[skerry/api.Pair]", "slices.overlaps[skerry/api.Sess]"], unfollowed := true, recurses := true, apart := false, narrowed := true }
def HistAloneUptoSaid : Prop := histAloneUptoRow.holds Try.pinned (OpenSpec.upto histAloneSpec)

/-- 'skerrylaw25.HistLate', WHERE WHAT IT READS IS OF BULK AT MOST 1048576: true; the input reads as it did. -/
def histLateUptoRow : OpenClaim := { program := "ytbclnghbgoblcaa", sum := "5a82e27b1c696c55cfe8821dcdc9b54d1157ae605181b22f5224060a0f8c7ecb", func := "skerry/skerrylaw25.HistLate", spec := "histLate", inPlace := ["math.Float64frombits", "math.Float64bits", "slices.overlaps[skerry/api.Pair]", "slices.overlaps[skerry/api.Sess]"], unfollowed := true, recurses := true, apart := false, narrowed := true }
def HistLateUptoSaid : Prop := histLateUptoRow.holds Try.pinned (OpenSpec.upto histLateSpec)

/-- 'skerrylaw25.HistMore', WHERE WHAT IT READS IS OF BULK AT MOST 1048576: true; the input reads as it did. -/
def histMoreUptoRow : OpenClaim := { program := "ytbclnghbgoblcaa", sum := "5a82e27b1c696c55cfe8821dcdc9b54d1157ae605181b22f5224060a0f8c7ecb", func := "skerry/skerrylaw25.HistMore", spec := "histMore", inPlace := ["math.Float64frombits", "math.Float64bits", "slices.overlaps[skerry/api.Pair]", "slices.overlaps[skerry/api.Sess]"], unfollowed := true, recurses := true, apart := false, narrowed := true }
def HistMoreUptoSaid : Prop := histMoreUptoRow.holds Try.pinned (OpenSpec.upto histMoreSpec)

end Rows
end Go.Proofs.Ytbclnghbgoblcaa
