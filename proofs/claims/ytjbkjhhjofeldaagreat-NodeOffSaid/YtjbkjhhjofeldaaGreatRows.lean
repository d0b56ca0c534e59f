/-
  NARROWER THAN 'FOR EVERY INPUT', by the rows' own cells (each row's printed sentence says how): NodeDone: loops · NodeOff: loops.
  DERIVED. THE GIVEN ROWS OF THIS SEAT. 5 by the template 'for every input the law returns true; each argument reads behind the call as it read before'; 0 by the template 'total and deterministic' (their statements: YtjbkjhhjofeldaaGreatTotals.lean).
  GIVEN WITH THE SEED: the statements are not yours to turn. If you find one false, say at which input.
  Laid BY PROGRAM, IN A SANDBOX (cutbox-rows.mjs): the forced cells as the released guide's own fill.sh prints them over the translation 03ac069c13eb867a… (all of the seat's roots in one cut). By AI agents, Wed Nov 11 2026. No macro, syntax, notation, axiom, sorry.
-/
import Derived.Test.YtjbkjhhjofeldaaGreatChecked
import GoSem.Claim
import GoSem.ClaimJoined
import GoSem.ClaimMapViews
import Derived.JoinedTies
import Derived.KernelRfl
namespace Go.Proofs.YtjbkjhhjofeldaaGreat
/- THE CELL 'sum', in the pinned program and in every row, IS THE sha256 OF THE DUMP (.gsa) THAT YtjbkjhhjofeldaaGreatProg.lean LOADS. Nothing in Lean hashes anything: it is a label: what it is worth is what the hold of that sum in a sandbox is worth. -/
noncomputable def Tryz.pinned : Pinned := { name := "ytjbkjhhjofeldaagreat", sum := "03ac069c13eb867aae4e3539069b0be55217240b3fd48c37f9f37b7bf91abff6", checked := Tryz.checked }
namespace Rows
def none {H : Type} : Left H := { results := [], args := [] }

/-- 'skerrylaw22.NodeAgain': WHATEVER THE INPUT: true; the input reads as it did. -/
def nodeAgainSpec : ChangeSpec := { name := "nodeAgain", fn := fun _ => fun
  | [d1, d2] => { results := [.lit (.bool true)], args := [d1, d2] }
  | _ => none }
def nodeAgainRow : OpenClaim := { program := "ytjbkjhhjofeldaagreat", sum := "03ac069c13eb867aae4e3539069b0be55217240b3fd48c37f9f37b7bf91abff6", func := "skerry/skerrylaw22.NodeAgain", spec := "nodeAgain", inPlace := ["math.Float64frombits", "math.Float64bits", "slices.overlaps[skerry/api.Pair]", "slices.overlaps[skerry/api.Sess]"], unfollowed := true, recurses := true, apart := false }
def NodeAgainSaid : Prop := nodeAgainRow.holds Tryz.pinned (OpenSpec.ofChange nodeAgainSpec)

/-- ITS FALSE NEIGHBOUR: 'it returns false'. Refute it at one input. -/
def nodeAgainWrong : ChangeSpec := { name := "nodeAgain", fn := fun _ => fun
  | [d1, d2] => { results := [.lit (.bool false)], args := [d1, d2] }
  | _ => none }
def NodeAgainWrongFalsely : Prop := nodeAgainRow.holds Tryz.pinned (OpenSpec.ofChange nodeAgainWrong)

/-- 'skerrylaw22.NodeFull': WHATEVER THE INPUT: true; the input reads as it did. -/
def nodeFullSpec : ChangeSpec := { name := "nodeFull", fn := fun _ => fun
  | [d1, d2] => { results := [.lit (.bool true)], args := [d1, d2] }
  | _ => none }
def nodeFullRow : OpenClaim := { program := "ytjbkjhhjofeldaagreat", sum := "03ac069c13eb867aae4e3539069b0be55217240b3fd48c37f9f37b7bf91abff6", func := "skerry/skerrylaw22.NodeFull", spec := "nodeFull", inPlace := ["math.Float64frombits", "math.Float64bits", "slices.overlaps[skerry/api.Pair]", "slices.overlaps[skerry/api.Sess]"], unfollowed := true, recurses := true, apart := false }
def NodeFullSaid : Prop := nodeFullRow.holds Tryz.pinned (OpenSpec.ofChange nodeFullSpec)

/-- ITS FALSE NEIGHBOUR: 'it returns false'. Refute it at one input. -/
def nodeFullWrong : ChangeSpec := { name := "nodeFull", fn := fun _ => fun
  | [d1, d2] => { results := [.lit (.bool false)], args := [d1, d2] }
  | _ => none }
def NodeFullWrongFalsely : Prop := nodeFullRow.holds Tryz.pinned (OpenSpec.ofChange nodeFullWrong)

/-- 'skerrylaw22.NodeLasts': WHATEVER THE INPUT: true; the input reads as it did. -/
def nodeLastsSpec : ChangeSpec := { name := "nodeLasts", fn := fun _ => fun
  | [d1, d2, d3] => { results := [.lit (.bool true)], args := [d1, d2, d3] }
  | _ => none }
def nodeLastsRow : OpenClaim := { program := "ytjbkjhhjofeldaagreat", sum := "03ac069c13eb867aae4e3539069b0be55217240b3fd48c37f9f37b7bf91abff6", func := "skerry/skerrylaw22.NodeLasts", spec := "nodeLasts", inPlace := ["math.Float64frombits", "math.Float64bits", "slices.overlaps[skerry/api.Pair]", "slices.overlaps[skerry/api.Sess]"], unfollowed := true, recurses := true, apart := false }
def NodeLastsSaid : Prop := nodeLastsRow.holds Tryz.pinned (OpenSpec.ofChange nodeLastsSpec)

/-- ITS FALSE NEIGHBOUR: 'it returns false'. Refute it at one input. -/
def nodeLastsWrong : ChangeSpec := { name := "nodeLasts", fn := fun _ => fun
  | [d1, d2, d3] => { results := [.lit (.bool false)], args := [d1, d2, d3] }
  | _ => none }
def NodeLastsWrongFalsely : Prop := nodeLastsRow.holds Tryz.pinned (OpenSpec.ofChange nodeLastsWrong)

/-- 'skerrylaw22.NodeDone': WHATEVER THE INPUT: true; the input reads as it did. -/
def nodeDoneSpec : ChangeSpec := { name := "nodeDone", fn := fun _ => fun
  | [d1, d2, d3] => { results := [.lit (.bool true)], args := [d1, d2, d3] }
  | _ => none }
def nodeDoneRow : OpenClaim := { program := "ytjbkjhhjofeldaagreat", sum := "03ac069c13eb867aae4e3539069b0be55217240b3fd48c37f9f37b7bf91abff6", func := "skerry/skerrylaw22.NodeDone", spec := "nodeDone", inPlace := ["math.Float64frombits", "math.Float64bits", "slices.overlaps[skerry/api.Pair]", "slices.overlaps[skerry/api.Sess]"], unfollowed := true, recurses := true, loops := true, apart := false }
def NodeDoneSaid : Prop := nodeDoneRow.holds Tryz.pinned (OpenSpec.ofChange nodeDoneSpec)

/-- ITS FALSE NEIGHBOUR: 'it returns false'. Refute it at one input. -/
def nodeDoneWrong : ChangeSpec := { name := "nodeDone", fn := fun _ => fun
  | [d1, d2, d3] => { results := [.lit (.bool false)], args := [d1, d2, d3] }
  | _ => none }
def NodeDoneWrongFalsely : Prop := nodeDoneRow.holds Tryz.pinned (OpenSpec.ofChange nodeDoneWrong)

/-- 'skerrylaw22.NodeOff': WHATEVER THE INPUT: true; the input reads as it did. -/
def nodeOffSpec : ChangeSpec := { name := "nodeOff", fn := fun _ => fun
  | [d1, d2, d3] => { results := [.lit (.bool true)], args := [d1, d2, d3] }
  | _ => none }
def nodeOffRow : OpenClaim := { program := "ytjbkjhhjofeldaagreat", sum := "03ac069c13eb867aae4e3539069b0be55217240b3fd48c37f9f37b7bf91abff6", func := "skerry/skerrylaw22.NodeOff", spec := "nodeOff", inPlace := ["math.Float64frombits", "math.Float64bits", "slices.overlaps[skerry/api.Pair]", "slices.overlaps[skerry/api.Sess]"], unfollowed := true, recurses := true, loops := true, apart := false }
def NodeOffSaid : Prop := nodeOffRow.holds Tryz.pinned (OpenSpec.ofChange nodeOffSpec)

/-- ITS FALSE NEIGHBOUR: 'it returns false'. Refute it at one input. -/
def nodeOffWrong : ChangeSpec := { name := "nodeOff", fn := fun _ => fun
  | [d1, d2, d3] => { results := [.lit (.bool false)], args := [d1, d2, d3] }
  | _ => none }
def NodeOffWrongFalsely : Prop := nodeOffRow.holds Tryz.pinned (OpenSpec.ofChange nodeOffWrong)

/- THE SECOND FORM. 'bulk': how many values and letters a reading holds, each counted each time it is reached (what is shared counts as often as it is met; a slice's spare places count too). A statement '..UptoSaid' is the law's where the arguments, and the package variables that the reading takes, are together of bulk at most 1048576: NARROWER than '..Said'. Prove '..Said' where nothing that the law and all that it calls make is longer than what came in: it says more and counts as full. Else prove '..UptoSaid'. A law counts once. -/
mutual
def uptoBulk {H : Type} : DataW H → Nat
  | .lit (.string bytes) => bytes.length + 1
  | .lit _ => 1
  | .nil => 1
  | .ptr d => uptoBulk d + 1
  | .slice elems spare => uptoBulkAll elems + uptoBulkAll spare + 1
  | .agg parts => uptoBulkAll parts + 1
  | .iface _ d => uptoBulk d + 1
  | .map entries => uptoBulkEntries entries + 1
  | .held _ => 1
def uptoBulkAll {H : Type} : List (DataW H) → Nat
  | [] => 0
  | d :: r => uptoBulk d + uptoBulkAll r
def uptoBulkEntries {H : Type} : List (Lit × DataW H) → Nat
  | [] => 0
  | x :: r => uptoBulkEntry x + uptoBulkEntries r
def uptoBulkEntry {H : Type} : Lit × DataW H → Nat
  | (.string bytes, d) => bytes.length + uptoBulk d + 1
  | (_, d) => uptoBulk d + 1
 end
def uptoSmall : (H : Type) → List (DataW H) → Bool := fun _ ds => decide (uptoBulkAll ds ≤ 1048576)
def OpenSpec.upto (s : _root_.Go.ChangeSpec) : _root_.Go.OpenSpec := { _root_.Go.OpenSpec.ofChange s with cond := some uptoSmall }

/-- 'skerrylaw22.NodeAgain', WHERE WHAT IT READS IS OF BULK AT MOST 1048576: true; the input reads as it did. -/
def nodeAgainUptoRow : OpenClaim := { program := "ytjbkjhhjofeldaagreat", sum := "03ac069c13eb867aae4e3539069b0be55217240b3fd48c37f9f37b7bf91abff6", func := "skerry/skerrylaw22.NodeAgain", spec := "nodeAgain", inPlace := ["math.Float64frombits", "math.Float64bits", "slices.overlaps[skerry/api.Pair]", "slices.overlaps[skerry/api.Sess]"], unfollowed := true, recurses := true, apart := false, narrowed := true }
def NodeAgainUptoSaid : Prop := nodeAgainUptoRow.holds Tryz.pinned (OpenSpec.upto nodeAgainSpec)

/-- 'skerrylaw22.NodeFull', WHERE WHAT IT READS IS OF BULK AT MOST 1048576: true; the input reads as it did. -/
def nodeFullUptoRow : OpenClaim := { program := "ytjbkjhhjofeldaagreat", sum := "03ac069c13eb867aae4e3539069b0be55217240b3fd48c37f9f37b7bf91abff6", func := "skerry/skerrylaw22.NodeFull", spec := "nodeFull", inPlace := ["math.Float64frombits", "math.Float64bits", "slices.overlaps[skerry/api.Pair]", "slices.overlaps[skerry/api.Sess]"], unfollowed := true, recurses := true, apart := false, narrowed := true }
def NodeFullUptoSaid : Prop := nodeFullUptoRow.holds Tryz.pinned (OpenSpec.upto nodeFullSpec)

/-- 'skerrylaw22.NodeLasts', WHERE WHAT IT READS IS OF BULK AT MOST 1048576: true; the input reads as it did. -/
def nodeLastsUptoRow : OpenClaim := { program := "ytjbkjhhjofeldaagreat", sum := "03ac069c13eb867aae4e3539069b0be55217240b3fd48c37f9f37b7bf91abff6", func := "skerry/skerrylaw22.NodeLasts", spec := "nodeLasts", inPlace := ["math.Float64frombits", "math.Float64bits", "slices.overlaps[skerry/api.Pair]", "slices.overlaps[skerry/api.Sess]"], unfollowed := true, recurses := true, apart := false, narrowed := true }
def NodeLastsUptoSaid : Prop := nodeLastsUptoRow.holds Tryz.pinned (OpenSpec.upto nodeLastsSpec)

/-- 'skerrylaw22.NodeDone', WHERE WHAT IT READS IS OF BULK AT MOST 1048576: true; the input reads as it did. -/
def nodeDoneUptoRow : OpenClaim := { program := "ytjbkjhhjofeldaagreat", sum := "03ac069c13eb867aae4e3539069b0be55217240b3fd48c37f9f37b7bf91abff6", func := "skerry/skerrylaw22.NodeDone", spec := "nodeDone", inPlace := ["math.Float64frombits", "math.Float64bits", "slices.overlaps[skerry/api.Pair]", "slices.overlaps[skerry/api.Sess]"], unfollowed := true, recurses := true, loops := true, apart := false, narrowed := true }
def NodeDoneUptoSaid : Prop := nodeDoneUptoRow.holds Tryz.pinned (OpenSpec.upto nodeDoneSpec)

/-- 'skerrylaw22.NodeOff', WHERE WHAT IT READS IS OF BULK AT MOST 1048576: true; the input reads as it did. -/
def nodeOffUptoRow : OpenClaim := { program := "ytjbkjhhjofeldaagreat", sum := "03ac069c13eb867aae4e3539069b0be55217240b3fd48c37f9f37b7bf91abff6", func := "skerry/skerrylaw22.NodeOff", spec := "nodeOff", inPlace := ["math.Float64frombits", "math.Float64bits", "slices.overlaps[skerry/api.Pair]", "slices.overlaps[skerry/api.Sess]"], unfollowed := true, recurses := true, loops := true, apart := false, narrowed := true }
def NodeOffUptoSaid : Prop := nodeOffUptoRow.holds Tryz.pinned (OpenSpec.upto nodeOffSpec)

end Rows
end Go.Proofs.YtjbkjhhjofeldaaGreat
