/-
  Plain functions: what package wire writes. 'none': it throws ErrPack. The Bool: a text was too long. No program is walked here. Conditions: none.
-/
import Derived.Test.YthhjaneadbkccaaApi
namespace Go.Proofs.Ythhjaneadbkccaa

abbrev WO := Option (List UInt8 × Bool)
def WO.seq (a b : WO) : WO := match a, b with
  | some (x, l), some (y, m) => some (x ++ y, l || m)
  | _, _ => none
def wRaw (l : List UInt8) : WO := some (l, false)
def wMust (b : Bool) : WO := if b then some ([], false) else none
def wText (t : List UInt8) : WO := if 16384 < t.length then some ([], true) else some (encText t, false)
def encInts (l : List Int) : List UInt8 := l.flatMap encInt
/-- num.Same -/
def sameNum (a b : Nat) : Bool := canon a == canon b
def isEmptyT (s : ByteArray) : Bool := s.toList.isEmpty
theorem isEmptyT_iff (s : ByteArray) : isEmptyT s = true ↔ s = ⟨#[]⟩ := by
  have h : decide (s = ByteArray.empty) = s.toList.isEmpty := decide_eq_emptyBytes s
  unfold isEmptyT
  rw [← h, decide_eq_true_iff]
  exact Iff.rfl
def canonB (x : Nat) : Bool := canon x == x
def wValue (v : AVal) : WO :=
  (wRaw (encInt v.kind)).seq (
    if v.kind = 0 then wMust (sameNum v.num 0 && isEmptyT v.text)
    else if v.kind = 1 then (wMust (canonB v.num && isEmptyT v.text)).seq (wRaw (encFloat v.num))
    else if v.kind = 2 then (wMust (sameNum v.num 0)).seq (wText (bsOf v.text))
    else none)
def wCall (c : ACall) : WO := (((wRaw (encInts [c.client, c.seq, c.cmd.kind])).seq (wText (bsOf c.cmd.key))).seq (wValue c.cmd.old)).seq (wValue c.cmd.val)
def wConf (c : AConf) : WO := wRaw (encInts [c.full, c.wit, c.learn, c.learnWit])
def noneV (v : AVal) : Bool := v.kind == 0 && sameNum v.num 0 && isEmptyT v.text
def noCallB (c : ACall) : Bool := c.client == 0 && c.seq == 0 && c.cmd.kind == 0 && isEmptyT c.cmd.key && noneV c.cmd.old && noneV c.cmd.val
def confB (c : AConf) : Bool := c.full == 0 && c.wit == 0 && c.learn == 0 && c.learnWit == 0
def wEntry (x : AEntry) : WO :=
  ((((wRaw (encInts [x.term, x.kind])).seq (wMust (decide (0 ≤ x.kind ∧ x.kind ≤ 2)))).seq (wMust (x.kind == 1 || noCallB x.call))).seq (wMust (x.kind == 2 || confB x.conf))).seq
    (if x.kind = 1 then wCall x.call else if x.kind = 2 then wConf x.conf else wRaw [])
def wEntries : List AEntry → WO
  | [] => wRaw []
  | x :: l => (wEntry x).seq (wEntries l)
def wList (l : List AEntry) : WO := (wRaw (encInt l.length)).seq (wEntries l)
/-- What wire.written tells: bytes, or an error. -/
def told (o : WO) : List UInt8 × Int := match o with
  | none => ([], 3)
  | some (d, l) => if l || decide (16384 < d.length) then ([], 2) else (d, 0)
end Go.Proofs.Ythhjaneadbkccaa
