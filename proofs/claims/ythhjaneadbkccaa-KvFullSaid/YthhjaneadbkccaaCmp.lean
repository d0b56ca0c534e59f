/-
  Plain comparisons of plain data, as the verifier has them. No program is walked here. Conditions: none.
-/
import Derived.Test.YthhjaneadbkccaaApi
namespace Go.Proofs.Ythhjaneadbkccaa
/-- The same float: both NaN, or the same bits. -/
def sameF (a b : Nat) : Bool := isNaN a && isNaN b || a == b
/-- The same text? -/
def eqT (a b : ByteArray) : Bool := a.toList == b.toList
theorem eqT_iff (a b : ByteArray) : eqT a b = true ↔ a = b := by
  unfold eqT
  rw [beq_iff_eq, ByteArray.toList_eq, ByteArray.toList_eq]
  exact ⟨fun h => bsOf_inj h, fun h => by rw [h]⟩
def eqVal (a b : AVal) : Bool := a.kind == b.kind && sameF a.num b.num && eqT a.text b.text
def eqCmd (a b : ACmd) : Bool := a.kind == b.kind && eqT a.key b.key && eqVal a.old b.old && eqVal a.val b.val
def eqCall (a b : ACall) : Bool := a.client == b.client && a.seq == b.seq && eqCmd a.cmd b.cmd
def eqConf (a b : AConf) : Bool := a.full == b.full && a.wit == b.wit && a.learn == b.learn && a.learnWit == b.learnWit
def eqEntry (a b : AEntry) : Bool := a.term == b.term && a.kind == b.kind && eqCall a.call b.call && eqConf a.conf b.conf

end Go.Proofs.Ythhjaneadbkccaa
