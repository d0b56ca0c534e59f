/-
 Plain functions: what package pack writes and reads, on lists of bytes. No program is named here. Conditions: none.
 The program's plain data (package api) as Lean structures, and their cells. No program is walked here. Conditions: none.
 Plain comparisons of plain data, as the verifier has them. No program is walked here. Conditions: none.
 Plain functions: what package wire writes. 'none': it throws ErrPack. The Bool: a text was too long. No program is walked here. Conditions: none.
 Plain functions: what the page says of values, pairs and commands. No program is walked here. Conditions: none.
 Plain laws of pairs and commands. No program is walked here. Conditions: as each theorem names them.
 Plain laws of commands on pairs (doP). No program is walked here. Conditions: as each theorem names them.
-/
import Derived.Test.YtmebipnljkopgaaGreatDoorMem
namespace Go.Proofs.YtmebipnljkopgaaGreatDoor

/-- A whole number as a natural one. -/
def zig (n : Int) : Nat := if n < 0 then (-(n + 1)).toNat * 2 + 1 else n.toNat * 2
/-- Seven bits a byte, the lowest first. -/
def uvF : Nat → Nat → List UInt8
 | 0, z => [UInt8.ofNat z]
 | f + 1, z => if z < 128 then [UInt8.ofNat z] else UInt8.ofNat (z % 128 + 128) :: uvF f (z / 128)
def encInt (n : Int) : List UInt8 := uvF 9 (zig n)
def encMark (b : Bool) : List UInt8 := if b then [1] else [0]
/-- n bytes of a number, the highest first. -/
def hib : Nat → Nat → List UInt8
 | 0, _ => []
 | k + 1, x => UInt8.ofNat (x / 256 ^ k % 256) :: hib k x
def isNaN (x : Nat) : Bool := FloatKind.f64.format.order x x != some Ordering.eq
def theNaN : Nat := 9221120237041090561
def canon (x : Nat) : Nat := if isNaN x then theNaN else x
def encFloat (x : Nat) : List UInt8 := hib 8 (canon x)
def encText (t : List UInt8) : List UInt8 := encInt t.length ++ t

/-- Reading a number. -/
def rdVar : Nat → Nat → List UInt8 → Option (Nat × List UInt8)
 | _, _, [] => none
 | k, z, c :: r =>
  if k = 9 ∧ 1 < c.toNat then none
  else if c.toNat < 128 then (if c.toNat = 0 ∧ 0 < k then none else some (z + c.toNat % 128 * 2 ^ (7 * k), r))
  else rdVar (k + 1) (z + c.toNat % 128 * 2 ^ (7 * k)) r
/-- The whole number of a natural one. -/
def zag (z : Nat) : Int := if z % 2 = 1 then -((z / 2 : Nat) : Int) - 1 else ((z / 2 : Nat) : Int)

/-- A reader: what is left, and the first error (0: none). -/
structure RS where
 left : List UInt8
 e : Int

def RS.fail (r : RS) (e : Int) : RS := if r.e = 0 then ⟨r.left, e⟩ else r
def RS.int (r : RS) : Int × RS :=
 if r.e ≠ 0 then (0, r) else
 match rdVar 0 0 r.left with
 | none => (0, ⟨r.left, 3⟩)
 | some (z, l) => (zag z, ⟨l, 0⟩)
def RS.mark (r : RS) : Bool × RS :=
 if r.e ≠ 0 then (false, r) else
 match r.left with
 | [] => (false, ⟨[], 3⟩)
 | c :: l => if 1 < c.toNat then (false, ⟨c :: l, 3⟩) else (c.toNat == 1, ⟨l, 0⟩)
def num8 (l : List UInt8) : Nat := l.foldl (fun x c => x * 256 + c.toNat) 0
def RS.float (r : RS) : Nat × RS :=
 if r.e ≠ 0 then (0, r) else
 if r.left.length < 8 then (0, ⟨r.left, 3⟩) else
 if canon (num8 (r.left.take 8)) ≠ num8 (r.left.take 8) then (0, ⟨r.left, 3⟩) else (num8 (r.left.take 8), ⟨r.left.drop 8, 0⟩)
def RS.text (r : RS) : List UInt8 × RS :=
 if r.int.2.e ≠ 0 then ([], r.int.2) else
 if 16384 < r.int.1 then ([], ⟨r.int.2.left, 2⟩) else
 if r.int.1 < 0 ∨ (r.int.2.left.length : Int) < r.int.1 then ([], ⟨r.int.2.left, 3⟩) else
 (r.int.2.left.take r.int.1.toNat, ⟨r.int.2.left.drop r.int.1.toNat, 0⟩)
def RS.leftN (r : RS) : Int := if r.e ≠ 0 then 0 else r.left.length
def RS.done (r : RS) : Int := if r.e = 0 ∧ 0 < r.left.length then 3 else r.e

end Go.Proofs.YtmebipnljkopgaaGreatDoor

namespace Go.Proofs.YtmebipnljkopgaaGreatDoor

structure AVal where
 kind : Int
 num : Nat
 text : ByteArray
structure ACmd where
 kind : Int
 key : ByteArray
 old : AVal
 val : AVal
structure ACall where
 client : Int
 seq : Int
 cmd : ACmd
structure AConf where
 full : Int
 wit : Int
 learn : Int
 learnWit : Int
structure AEntry where
 term : Int
 kind : Int
 call : ACall
 conf : AConf

abbrev AVal.cells (v : AVal) : List Value := [.int .i64 v.kind, .float .f64 v.num, .string v.text]
abbrev ACmd.cells (c : ACmd) : List Value := [.int .i64 c.kind, .string c.key, .int .i64 c.old.kind, .float .f64 c.old.num, .string c.old.text, .int .i64 c.val.kind, .float .f64 c.val.num, .string c.val.text]
abbrev ACall.cells (c : ACall) : List Value := [.int .i64 c.client, .int .i64 c.seq, .int .i64 c.cmd.kind, .string c.cmd.key, .int .i64 c.cmd.old.kind, .float .f64 c.cmd.old.num, .string c.cmd.old.text, .int .i64 c.cmd.val.kind, .float .f64 c.cmd.val.num, .string c.cmd.val.text]
abbrev AConf.cells (c : AConf) : List Value := [.int .i64 c.full, .int .i64 c.wit, .int .i64 c.learn, .int .i64 c.learnWit]
abbrev AEntry.cells (x : AEntry) : List Value := [.int .i64 x.term, .int .i64 x.kind, .int .i64 x.call.client, .int .i64 x.call.seq, .int .i64 x.call.cmd.kind, .string x.call.cmd.key, .int .i64 x.call.cmd.old.kind, .float .f64 x.call.cmd.old.num, .string x.call.cmd.old.text, .int .i64 x.call.cmd.val.kind, .float .f64 x.call.cmd.val.num, .string x.call.cmd.val.text, .int .i64 x.conf.full, .int .i64 x.conf.wit, .int .i64 x.conf.learn, .int .i64 x.conf.learnWit]

/-- An int of 64 bits. -/
def I64 (n : Int) : Prop := -9223372036854775808 ≤ n ∧ n ≤ 9223372036854775807
def AVal.ok (v : AVal) : Prop := I64 v.kind ∧ v.num < 18446744073709551616 ∧ v.text.size ≤ maxLen
def ACmd.ok (c : ACmd) : Prop := I64 c.kind ∧ c.key.size ≤ maxLen ∧ c.old.ok ∧ c.val.ok
def ACall.ok (c : ACall) : Prop := I64 c.client ∧ I64 c.seq ∧ c.cmd.ok
def AConf.ok (c : AConf) : Prop := I64 c.full ∧ I64 c.wit ∧ I64 c.learn ∧ I64 c.learnWit
def AEntry.ok (x : AEntry) : Prop := I64 x.term ∧ I64 x.kind ∧ x.call.ok ∧ x.conf.ok

/-- The bytes of a text. -/
abbrev bsOf (s : ByteArray) : List UInt8 := s.data.toList
theorem bsOf_inj {a b : ByteArray} (h : bsOf a = bsOf b) : a = b := by
 cases a; cases b; simp [bsOf] at h; simp [h]
def AVal.zero : AVal := ⟨0, 0, ⟨#[]⟩⟩
def ACmd.zero : ACmd := ⟨0, ⟨#[]⟩, AVal.zero, AVal.zero⟩
def ACall.zero : ACall := ⟨0, 0, ACmd.zero⟩
def AConf.zero : AConf := ⟨0, 0, 0, 0⟩
end Go.Proofs.YtmebipnljkopgaaGreatDoor

namespace Go.Proofs.YtmebipnljkopgaaGreatDoor
/-- The same float: both NaN, or the same bits. -/
def sameF (a b : Nat) : Bool := isNaN a && isNaN b || a == b
/-- The same text? -/
def eqT (a b : ByteArray) : Bool := a.toList == b.toList
theorem eqT_iff (a b : ByteArray) : eqT a b = true ↔ a = b := by
 unfold eqT
 rw [beq_iff_eq, ByteArray.toList_eq, ByteArray.toList_eq]
 exact ⟨fun h => bsOf_inj h, fun h => by rw [h]⟩
def eqVal (a b : AVal) : Bool := a.kind == b.kind && sameF a.num b.num && eqT a.text b.text
def eqCmd (a b : ACmd) : Bool := a.kind == b.kind && eqT a.key b.key && eqVal a.old b.old && eqVal a.val b.val
def eqCall (a b : ACall) : Bool := a.client == b.client && a.seq == b.seq && eqCmd a.cmd b.cmd
def eqConf (a b : AConf) : Bool := a.full == b.full && a.wit == b.wit && a.learn == b.learn && a.learnWit == b.learnWit
def eqEntry (a b : AEntry) : Bool := a.term == b.term && a.kind == b.kind && eqCall a.call b.call && eqConf a.conf b.conf

end Go.Proofs.YtmebipnljkopgaaGreatDoor

namespace Go.Proofs.YtmebipnljkopgaaGreatDoor

abbrev WO := Option (List UInt8 × Bool)
def WO.seq (a b : WO) : WO := match a, b with
 | some (x, l), some (y, m) => some (x ++ y, l || m)
 | _, _ => none
def wRaw (l : List UInt8) : WO := some (l, false)
def wMust (b : Bool) : WO := if b then some ([], false) else none
def wText (t : List UInt8) : WO := if 16384 < t.length then some ([], true) else some (encText t, false)
def encInts (l : List Int) : List UInt8 := l.flatMap encInt
/-- num.Same -/
def sameNum (a b : Nat) : Bool := canon a == canon b
def isEmptyT (s : ByteArray) : Bool := s.toList.isEmpty
theorem isEmptyT_iff (s : ByteArray) : isEmptyT s = true ↔ s = ⟨#[]⟩ := by
 have h : decide (s = ByteArray.empty) = s.toList.isEmpty := decide_eq_emptyBytes s
 unfold isEmptyT
 rw [← h, decide_eq_true_iff]
 exact Iff.rfl
def canonB (x : Nat) : Bool := canon x == x
def wValue (v : AVal) : WO :=
 (wRaw (encInt v.kind)).seq (
  if v.kind = 0 then wMust (sameNum v.num 0 && isEmptyT v.text)
  else if v.kind = 1 then (wMust (canonB v.num && isEmptyT v.text)).seq (wRaw (encFloat v.num))
  else if v.kind = 2 then (wMust (sameNum v.num 0)).seq (wText (bsOf v.text))
  else none)
def wCall (c : ACall) : WO := (((wRaw (encInts [c.client, c.seq, c.cmd.kind])).seq (wText (bsOf c.cmd.key))).seq (wValue c.cmd.old)).seq (wValue c.cmd.val)
/-- The bytes of a value. -/
def encV (v : AVal) : List UInt8 := encInt v.kind ++ (if v.kind = 1 then encFloat v.num else if v.kind = 2 then encText (bsOf v.text) else [])
def wConf (c : AConf) : WO := wRaw (encInts [c.full, c.wit, c.learn, c.learnWit])
def noneV (v : AVal) : Bool := v.kind == 0 && sameNum v.num 0 && isEmptyT v.text
def noCallB (c : ACall) : Bool := c.client == 0 && c.seq == 0 && c.cmd.kind == 0 && isEmptyT c.cmd.key && noneV c.cmd.old && noneV c.cmd.val
def confB (c : AConf) : Bool := c.full == 0 && c.wit == 0 && c.learn == 0 && c.learnWit == 0
def wEntry (x : AEntry) : WO :=
 ((((wRaw (encInts [x.term, x.kind])).seq (wMust (decide (0 ≤ x.kind ∧ x.kind ≤ 2)))).seq (wMust (x.kind == 1 || noCallB x.call))).seq (wMust (x.kind == 2 || confB x.conf))).seq
   (if x.kind = 1 then wCall x.call else if x.kind = 2 then wConf x.conf else wRaw [])
def wEntries : List AEntry → WO
 | [] => wRaw []
 | x :: l => (wEntry x).seq (wEntries l)
def wList (l : List AEntry) : WO := (wRaw (encInt l.length)).seq (wEntries l)
/-- What wire.written tells: bytes, or an error. -/
def told (o : WO) : List UInt8 × Int := match o with
 | none => ([], 3)
 | some (d, l) => if l || decide (16384 < d.length) then ([], 2) else (d, 0)
end Go.Proofs.YtmebipnljkopgaaGreatDoor

namespace Go.Proofs.YtmebipnljkopgaaGreatDoor

structure APair where
 key : ByteArray
 val : AVal
structure AReply where
 code : Int
 val : AVal
abbrev APair.cells (p : APair) : List Value := [.string p.key, .int .i64 p.val.kind, .float .f64 p.val.num, .string p.val.text]
abbrev AReply.cells (r : AReply) : List Value := [.int .i64 r.code, .int .i64 r.val.kind, .float .f64 r.val.num, .string r.val.text]
def APair.ok (p : APair) : Prop := p.key.size ≤ maxLen ∧ p.val.ok
def AReply.ok (r : AReply) : Prop := I64 r.code ∧ r.val.ok

/-- Texts in order. -/
def ltT (a b : ByteArray) : Bool := Op.bytesLess a.toList b.toList
theorem less_iff (x : List UInt8) : ∀ y : List UInt8, Op.bytesLess x y = true ↔ x < y := by
 induction x with
 | nil => intro y; cases y <;> simp [Op.bytesLess]
 | cons a x ih =>
  intro y
  cases y with
  | nil => simp [Op.bytesLess]
  | cons b y => rw [Op.bytesLess, List.cons_lt_cons_iff, ← ih y]; simp
theorem ltT_iff (a b : ByteArray) : ltT a b = true ↔ bsOf a < bsOf b := by
 unfold ltT
 rw [less_iff, ByteArray.toList_eq, ByteArray.toList_eq]
theorem ltT_irrefl (a : ByteArray) : ltT a a = false := by
 rw [← Bool.not_eq_true, ltT_iff]; exact List.lt_irrefl _
theorem ltT_trans {a b c : ByteArray} (h : ltT a b = true) (h' : ltT b c = true) : ltT a c = true := by
 rw [ltT_iff] at *; exact List.lt_trans h h'
theorem ltT_asymm {a b : ByteArray} (h : ltT a b = true) : ltT b a = false := by
 rw [← Bool.not_eq_true]; intro h'; have := ltT_trans h h'; rw [ltT_irrefl] at this; cases this
theorem ltT_or {a b : ByteArray} (h : ltT a b = false) (h' : eqT a b = false) : ltT b a = true := by
 rw [← Bool.not_eq_true, ltT_iff] at h
 rw [← Bool.not_eq_true, eqT_iff] at h'
 rw [ltT_iff]
 rcases Decidable.em (bsOf b < bsOf a) with h2 | h2
 ·
  exact h2
 ·
  exact absurd (bsOf_inj (List.le_antisymm (List.not_lt.1 h2) (List.not_lt.1 h))) h'

/-- Of a value. -/
def chk (v : AVal) : Int :=
 if v.kind < 0 ∨ 2 < v.kind then 15
 else if v.kind = 2 ∧ 32 < v.text.size then 2
 else if (v.kind ≠ 2 ∧ isEmptyT v.text = false) ∨ (v.kind ≠ 1 ∧ v.num ≠ 0) then 8
 else if isNaN v.num = true ∧ v.num ≠ theNaN then 8 else 0
def rightKeyB (k : ByteArray) : Bool := decide (1 ≤ k.size) && decide (k.size ≤ 8)
def pairOk (p : APair) : Bool := rightKeyB p.key && p.val.kind != 0 && chk p.val == 0
def sortedB : List APair → Bool
 | [] => true
 | [_] => true
 | a :: b :: l => ltT a.key b.key && sortedB (b :: l)
/-- Right pairs. -/
def pairsB (l : List APair) : Bool := decide (l.length ≤ 32) && l.all pairOk && sortedB l
def zeroV (v : AVal) : Bool := v.kind == 0 && chk v == 0
/-- What its kind asks of a command's value. -/
def okV (c : ACmd) : Bool :=
 if c.kind = 1 ∨ c.kind = 3 then zeroV c.val else if c.kind = 2 then c.val.kind != 0 else if c.kind = 5 ∨ c.kind = 6 then c.val.kind == 1 else true
def cmdE (c : ACmd) : Int :=
 if c.kind < 1 ∨ 6 < c.kind then 15 else if 8 < c.key.size then 2
 else if c.key.size < 1 ∨ (c.kind ≠ 4 ∧ zeroV c.old = false) ∨ chk c.old ≠ 0 ∨ chk c.val ≠ 0 then 8
 else if okV c then 0 else 8
def getP : List APair → ByteArray → AVal
 | [], _ => AVal.zero
 | p :: l, k => if eqT p.key k then p.val else getP l k
/-- A key has a value; d: it is done (or is to go). -/
def setP (k : ByteArray) (v : AVal) : Bool → List APair → List APair
 | d, [] => if d then [] else [⟨k, v⟩]
 | d, p :: l =>
  if !d && (ltT k p.key || eqT k p.key) then ⟨k, v⟩ :: (if eqT p.key k then setP k v true l else p :: setP k v true l)
  else if eqT p.key k then setP k v d l else p :: setP k v d l
/-- Floats. -/
def addF (a b : Nat) : Nat := match FloatKind.f64.format.add a b with
 | some r => canon r
 | none => theNaN
/-- A number that rises with the order. -/
def rank (x : Nat) : Nat := if canon x / 9223372036854775808 = 1 then 18446744073709551615 - canon x else canon x + 9223372036854775808
def lessF (a b : Nat) : Bool := decide (rank a < rank b)
def maxF (a b : Nat) : Nat := if isNaN a || isNaN b then theNaN else if lessF a b then b else a
def joinV (add : Bool) (a b : AVal) : AVal × Int :=
 if chk a ≠ 0 then (AVal.zero, chk a) else if chk b ≠ 0 then (AVal.zero, chk b)
 else if a.kind = 0 then (b, 0) else if a.kind ≠ 1 ∨ b.kind ≠ 1 then (AVal.zero, 8)
 else (⟨1, if add then addF a.num b.num else maxF a.num b.num, ⟨#[]⟩⟩, 0)
/-- What a command makes of what a key has: another code than 0: it is refused. The values: what is there then, what is told. -/
def stepV (v : AVal) (c : ACmd) : Int × AVal × AVal :=
 if c.kind = 2 then (0, c.val, v)
 else if c.kind = 3 then (0, AVal.zero, v)
 else if c.kind = 4 then (if eqVal v c.old then (0, c.val, v) else (9, v, v))
 else (match joinV (c.kind == 5) v c.val with | (x, e) => if e = 0 then (0, x, x) else (e, AVal.zero, AVal.zero))
/-- A command on pairs. -/
def doP (l : List APair) (c : ACmd) : List APair × AReply :=
 if cmdE c ≠ 0 then (l, ⟨cmdE c, AVal.zero⟩)
 else if pairsB l = false then (l, ⟨6, AVal.zero⟩)
 else if c.kind = 1 then (l, ⟨0, getP l c.key⟩)
 else match stepV (getP l c.key) c with
  | (e, x, t) => if e ≠ 0 then (l, ⟨e, t⟩) else if 32 < (setP c.key x (x.kind == 0) l).length then (l, ⟨5, AVal.zero⟩) else (setP c.key x (x.kind == 0) l, ⟨0, t⟩)
end Go.Proofs.YtmebipnljkopgaaGreatDoor

namespace Go.Proofs.YtmebipnljkopgaaGreatDoor

/-- In order. -/
abbrev Srt (l : List APair) : Prop := l.Pairwise fun a b => ltT a.key b.key = true
theorem eqT_refl (a : ByteArray) : eqT a a = true := (eqT_iff a a).2 rfl
theorem eqT_comm (a b : ByteArray) : eqT a b = eqT b a := by
 rw [Bool.eq_iff_iff, eqT_iff, eqT_iff]; exact eq_comm
theorem eqT_lt {a b : ByteArray} (h : ltT a b = true) : eqT a b = false := by
 rw [← Bool.not_eq_true, eqT_iff]; rintro rfl; rw [ltT_irrefl] at h; cases h
theorem eqT_gt {a b : ByteArray} (h : ltT b a = true) : eqT a b = false := by rw [eqT_comm]; exact eqT_lt h
theorem sortedB_iff : ∀ l : List APair, sortedB l = true ↔ Srt l
 | [] => by simp [sortedB]
 | [a] => by simp [sortedB]
 | a :: b :: l => by
  rw [sortedB, Bool.and_eq_true, sortedB_iff (b :: l), show Srt (a :: b :: l) ↔ _ from List.pairwise_cons]
  constructor
  ·
   rintro ⟨h1, h2⟩
   refine ⟨fun c hc => ?_, h2⟩
   rcases List.mem_cons.1 hc with rfl | hc
   ·
    exact h1
   ·
    exact ltT_trans h1 ((List.pairwise_cons.1 h2).1 c hc)
  ·
   rintro ⟨h1, h2⟩
   exact ⟨h1 b (by simp), h2⟩
theorem pairsB_iff (l : List APair) : pairsB l = true ↔ l.length ≤ 32 ∧ (∀ p ∈ l, pairOk p = true) ∧ Srt l := by
 unfold pairsB
 rw [Bool.and_eq_true, Bool.and_eq_true, decide_eq_true_iff, List.all_eq_true, sortedB_iff]
 exact ⟨fun h => ⟨h.1.1, h.1.2, h.2⟩, fun h => ⟨⟨h.1, h.2.1⟩, h.2.2⟩⟩

/-- What goes. -/
theorem setP_true (k : ByteArray) (v : AVal) (l : List APair) : setP k v true l = l.filter fun p => !eqT p.key k := by
 induction l with
 | nil => simp [setP]
 | cons p l ih =>
  rw [setP]
  simp only [Bool.not_true, Bool.false_and, Bool.false_eq_true, if_false, ih]
  by_cases h : eqT p.key k = true
  ·
   simp [h]
  ·
   simp [h]
theorem getP_cons (p : APair) (l : List APair) (k : ByteArray) : getP (p :: l) k = if eqT p.key k then p.val else getP l k := rfl
theorem getP_setP_ne {k k' : ByteArray} (h : eqT k k' = false) (v : AVal) (d : Bool) (l : List APair) : getP (setP k v d l) k' = getP l k' := by
 induction l generalizing d with
 | nil => cases d <;> simp [setP, getP, h]
 | cons p l ih =>
  rw [setP, getP_cons]
  by_cases hp : eqT p.key k = true
  ·
   have e := (eqT_iff _ _).1 hp
   simp only [hp, if_true]
   split
   ·
    rw [getP_cons, h, ih, e, h]; rfl
   ·
    rw [ih, e, h]; rfl
  ·
   simp only [hp, if_false, Bool.false_eq_true]
   split
   ·
    rw [getP_cons, h, getP_cons, ih]; rfl
   ·
    rw [getP_cons, ih]
theorem getP_setP_true (k : ByteArray) (v : AVal) (l : List APair) : getP (setP k v true l) k = AVal.zero := by
 rw [setP_true]
 induction l with
 | nil => rfl
 | cons p l ih =>
  by_cases h : eqT p.key k = true
  ·
   simp [h, ih]
  ·
   simp [h, getP_cons, ih]
theorem getP_setP (k : ByteArray) (v : AVal) (l : List APair) : getP (setP k v false l) k = v := by
 induction l with
 | nil => simp [setP, getP, eqT_refl]
 | cons p l ih =>
  rw [setP]
  by_cases h : (ltT k p.key || eqT k p.key) = true
  ·
   simp [h, getP_cons, eqT_refl]
  ·
   simp only [h, Bool.not_false, Bool.true_and, Bool.false_eq_true, if_false]
   rw [Bool.not_eq_true, Bool.or_eq_false_iff] at h
   have : eqT p.key k = false := by rw [eqT_comm]; exact h.2
   simp [this, getP_cons, ih]
/-- In a list in order. -/
theorem setP_false {l : List APair} (hs : Srt l) (k : ByteArray) (v : AVal) : setP k v false l = (l.filter fun p => ltT p.key k) ++ ⟨k, v⟩ :: (l.filter fun p => ltT k p.key) := by
 induction l with
 | nil => simp [setP]
 | cons p l ih =>
  have hs' := List.pairwise_cons.1 hs
  rw [setP]
  rcases h1 : ltT k p.key with _ | _
  ·
   rcases h2 : eqT k p.key with _ | _
   ·
    have h3 := ltT_or h1 h2
    have h4 : eqT p.key k = false := by rw [eqT_comm]; exact h2
    simp [h1, h3, h4, ih hs'.2]
   ·
    have e := (eqT_iff _ _).1 h2
    have h4 : eqT p.key k = true := by rw [eqT_comm]; exact h2
    have h5 : ltT p.key k = false := by rw [← e]; exact ltT_irrefl k
    have h6 : ∀ q ∈ l, ltT k q.key = true := fun q hq => by rw [e]; exact hs'.1 q hq
    have f1 : l.filter (fun q => ltT q.key k) = [] := List.filter_eq_nil_iff.2 fun q hq => by simp [ltT_asymm (h6 q hq)]
    have f2 : l.filter (fun q => ltT k q.key) = l := List.filter_eq_self.2 h6
    have f3 : l.filter (fun q => !eqT q.key k) = l := List.filter_eq_self.2 fun q hq => by simp [eqT_gt (h6 q hq)]
    simp [h1, h4, h5, f1, f2, setP_true, f3]
  ·
   have h6 : ∀ q ∈ l, ltT k q.key = true := fun q hq => ltT_trans h1 (hs'.1 q hq)
   have f1 : l.filter (fun q => ltT q.key k) = [] := List.filter_eq_nil_iff.2 fun q hq => by simp [ltT_asymm (h6 q hq)]
   have f2 : l.filter (fun q => ltT k q.key) = l := List.filter_eq_self.2 h6
   have f3 : l.filter (fun q => !eqT q.key k) = l := List.filter_eq_self.2 fun q hq => by simp [eqT_gt (h6 q hq)]
   simp [h1, ltT_asymm h1, eqT_gt h1, f1, f2, setP_true, f3]
theorem srt_setP {l : List APair} (hs : Srt l) (k : ByteArray) (v : AVal) (d : Bool) : Srt (setP k v d l) := by
 cases d
 ·
  rw [setP_false hs]
  refine List.pairwise_append.2 ⟨hs.filter _, List.pairwise_cons.2 ⟨fun q hq => (List.mem_filter.1 hq).2, hs.filter _⟩, fun a ha b hb => ?_⟩
  have h1 := (List.mem_filter.1 ha).2
  rcases List.mem_cons.1 hb with rfl | hb
  ·
   exact h1
  ·
   exact ltT_trans h1 (List.mem_filter.1 hb).2
 ·
  rw [setP_true]; exact hs.filter _
theorem mem_setP {k : ByteArray} {v : AVal} {d : Bool} {l : List APair} {p : APair} (hs : Srt l) (h : p ∈ setP k v d l) : p ∈ l ∨ (d = false ∧ p = ⟨k, v⟩) := by
 cases d
 ·
  rw [setP_false hs] at h
  rcases List.mem_append.1 h with h | h
  ·
   exact .inl (List.mem_filter.1 h).1
  ·
   rcases List.mem_cons.1 h with h | h
   ·
    exact .inr ⟨rfl, h⟩
   ·
    exact .inl (List.mem_filter.1 h).1
 ·
  rw [setP_true] at h; exact .inl (List.mem_filter.1 h).1
/-- How many pairs there are then. -/
theorem filter3 (l : List APair) (k : ByteArray) : (l.filter fun p => ltT p.key k).length + (l.filter fun p => ltT k p.key).length + (l.filter fun p => eqT p.key k).length = l.length := by
 induction l with
 | nil => rfl
 | cons p l ih =>
  rcases h1 : ltT p.key k with _ | _
  ·
   rcases h2 : eqT p.key k with _ | _
   ·
    have h3 := ltT_or h1 h2
    simp [h1, h2, h3]; omega
   ·
    have e := (eqT_iff _ _).1 h2
    have h3 : ltT k p.key = false := by rw [e]; exact ltT_irrefl k
    simp [h1, h2, h3]; omega
  ·
   simp [h1, ltT_asymm h1, eqT_lt h1]; omega
theorem len_setP_false {l : List APair} (hs : Srt l) (k : ByteArray) (v : AVal) : (setP k v false l).length + (l.filter fun p => eqT p.key k).length = l.length + 1 := by
 rw [setP_false hs, List.length_append, List.length_cons]
 have := filter3 l k
 omega
theorem len_setP_true (k : ByteArray) (v : AVal) (l : List APair) : (setP k v true l).length + (l.filter fun p => eqT p.key k).length = l.length := by
 rw [setP_true]
 induction l with
 | nil => rfl
 | cons p l ih =>
  rcases h : eqT p.key k with _ | _ <;> simp [h] <;> omega
theorem one_key {l : List APair} (hs : Srt l) (k : ByteArray) : (l.filter fun p => eqT p.key k).length ≤ 1 := by
 have h := hs.filter fun p => eqT p.key k
 rcases hq : l.filter (fun p => eqT p.key k) with _ | ⟨a, _ | ⟨b, m⟩⟩
 ·
  rw [hq]; simp
 ·
  rw [hq]; simp
 ·
  exfalso
  rw [hq] at h
  have ha : eqT a.key k = true := (List.mem_filter.1 (show a ∈ l.filter (fun p => eqT p.key k) by rw [hq]; simp)).2
  have hb : eqT b.key k = true := (List.mem_filter.1 (show b ∈ l.filter (fun p => eqT p.key k) by rw [hq]; simp)).2
  have := (List.pairwise_cons.1 h).1 b (by simp)
  rw [(eqT_iff _ _).1 ha, (eqT_iff _ _).1 hb, ltT_irrefl] at this
  cases this
/-- Is it there? -/
theorem getP_none {l : List APair} {k : ByteArray} (h : ∀ p ∈ l, eqT p.key k = false) : getP l k = AVal.zero := by
 induction l with
 | nil => rfl
 | cons p l ih => rw [getP_cons, h p (by simp)]; exact ih fun q hq => h q (by simp [hq])
theorem getP_mem {l : List APair} (hs : Srt l) {p : APair} (hp : p ∈ l) : getP l p.key = p.val := by
 induction l with
 | nil => cases hp
 | cons q l ih =>
  have hs' := List.pairwise_cons.1 hs
  rw [getP_cons]
  rcases List.mem_cons.1 hp with rfl | hp
  ·
   simp [eqT_refl]
  ·
   rw [eqT_lt (hs'.1 p hp)]; exact ih hs'.2 hp
theorem getP_some {l : List APair} {k : ByteArray} (h : (getP l k).kind ≠ 0) : ∃ p ∈ l, p.key = k ∧ p.val = getP l k := by
 induction l with
 | nil => exact absurd rfl h
 | cons q l ih =>
  rw [getP_cons] at h ⊢
  by_cases hq : eqT q.key k = true
  ·
   rw [if_pos hq] at h ⊢
   exact ⟨q, by simp, (eqT_iff _ _).1 hq, rfl⟩
  ·
   rw [if_neg hq] at h ⊢
   obtain ⟨p, hp, h1⟩ := ih h
   exact ⟨p, by simp [hp], h1⟩
/-- Right pairs that have the same at each key are the same. -/
theorem pairs_ext : ∀ {l m : List APair}, Srt l → Srt m → (∀ p ∈ l, p.val.kind ≠ 0) → (∀ p ∈ m, p.val.kind ≠ 0) → (∀ k, getP l k = getP m k) → l = m
 | [], [], _, _, _, _, _ => rfl
 | [], q :: m, _, _, _, hm, h => by
  have := h q.key
  rw [getP_cons, eqT_refl, if_pos rfl] at this
  exact absurd (by rw [← this]; rfl) (hm q (by simp))
 | p :: l, [], _, _, hl, _, h => by
  have := h p.key
  rw [getP_cons, eqT_refl, if_pos rfl] at this
  exact absurd (by rw [this]; rfl) (hl p (by simp))
 | p :: l, q :: m, hs, ht, hl, hm, h => by
  have hs' := List.pairwise_cons.1 hs
  have ht' := List.pairwise_cons.1 ht
  have hp := h p.key
  have hq := h q.key
  have e : p.key = q.key := by
   rcases h1 : ltT p.key q.key with _ | _
   ·
    rcases h2 : eqT p.key q.key with _ | _
    ·
     have h3 := ltT_or h1 h2
     rw [getP_none (l := p :: l) (fun r hr => by
      rcases List.mem_cons.1 hr with rfl | hr
      ·
       exact h2
      ·
       exact eqT_gt (ltT_trans h3 (hs'.1 r hr)))] at hq
     rw [getP_cons, eqT_refl, if_pos rfl] at hq
     exact absurd (by rw [← hq]; rfl) (hm q (by simp))
    ·
     exact (eqT_iff _ _).1 h2
   ·
    rw [getP_none (l := q :: m) (fun r hr => by
      rcases List.mem_cons.1 hr with rfl | hr
      ·
       exact eqT_gt h1
      ·
       exact eqT_gt (ltT_trans h1 (ht'.1 r hr)))] at hp
    rw [getP_cons, eqT_refl, if_pos rfl] at hp
    exact absurd (by rw [hp]; rfl) (hl p (by simp))
  have ev : p.val = q.val := by
   rw [getP_cons, getP_cons, eqT_refl, if_pos rfl, e, eqT_refl, if_pos rfl] at hp
   exact hp
  have epq : p = q := by cases p; cases q; simp_all
  subst epq
  congr 1
  refine pairs_ext hs'.2 ht'.2 (fun r hr => hl r (by simp [hr])) (fun r hr => hm r (by simp [hr])) fun k => ?_
  rcases hk : eqT p.key k with _ | _
  ·
   have := h k
   rwa [getP_cons, getP_cons, hk, if_neg (by simp), if_neg (by simp)] at this
  ·
   have := (eqT_iff _ _).1 hk
   subst this
   rw [getP_none fun r hr => eqT_gt (hs'.1 r hr), getP_none fun r hr => eqT_gt (ht'.1 r hr)]
end Go.Proofs.YtmebipnljkopgaaGreatDoor

namespace Go.Proofs.YtmebipnljkopgaaGreatDoor

theorem canon_nan_eq {x : Nat} (h : isNaN (canon x) = true) : canon x = theNaN := by
 unfold canon at h ⊢
 split
 ·
  rfl
 ·
  rename_i hx; rw [if_neg hx] at h; exact absurd h hx
theorem addF_nan {a b : Nat} (h : isNaN (addF a b) = true) : addF a b = theNaN := by
 unfold addF at h ⊢
 split
 ·
  rename_i r hr
  rw [hr] at h
  exact canon_nan_eq h
 ·
  rfl
theorem maxF_nan {a b : Nat} (h : isNaN (maxF a b) = true) : maxF a b = theNaN := by
 unfold maxF at h ⊢
 split
 ·
  rfl
 ·
  rename_i hx
  rw [if_neg hx] at h
  rw [Bool.or_eq_true, not_or] at hx
  split at h
  ·
   exact absurd h hx.2
  ·
   exact absurd h hx.1
theorem empty_isEmpty : isEmptyT ⟨#[]⟩ = true := (isEmptyT_iff _).2 rfl
theorem chk_num {x : Nat} (h : isNaN x = true → x = theNaN) : chk ⟨1, x, ⟨#[]⟩⟩ = 0 := by
 unfold chk
 simp [empty_isEmpty]
 exact h
theorem chk_zero : chk AVal.zero = 0 := by
 have : isNaN 0 = false := by kernel_rfl
 simp [chk, AVal.zero, empty_isEmpty, this]
theorem chk_kind0 {v : AVal} (h : chk v = 0) (hk : v.kind = 0) : v = AVal.zero := by
 unfold chk at h
 rw [if_neg (by omega), if_neg (by omega)] at h
 split at h
 ·
  cases h
 ·
  rename_i hn
  rw [not_or] at hn
  have h1 : isEmptyT v.text = true := by
   rcases h2 : isEmptyT v.text with _ | _
   ·
    exact absurd ⟨by omega, h2⟩ hn.1
   ·
    rfl
  have h2 : v.num = 0 := Classical.byContradiction fun h3 => hn.2 ⟨by omega, h3⟩
  cases v
  simp only at hk h1 h2
  rw [isEmptyT_iff] at h1
  subst hk h1 h2
  rfl
theorem join_ok {add : Bool} {a b x : AVal} (hb : chk b = 0) (h : joinV add a b = (x, 0)) : chk x = 0 ∧ (a.kind = 0 → x = b) ∧ (b.kind = 1 → x.kind = 1) := by
 unfold joinV at h
 split at h
 ·
  rename_i h1; simp only [Prod.mk.injEq] at h; exact absurd h.2 h1
 split at h
 ·
  rename_i h1; simp only [Prod.mk.injEq] at h; exact absurd h.2 h1
 split at h
 ·
  simp only [Prod.mk.injEq, and_true] at h; subst h; exact ⟨hb, fun _ => rfl, fun h => h⟩
 rename_i h0
 split at h
 ·
  simp at h
 ·
  simp only [Prod.mk.injEq, and_true] at h
  subst h
  refine ⟨chk_num ?_, fun h => absurd h h0, fun _ => rfl⟩
  cases add
  ·
   exact maxF_nan
  ·
   exact addF_nan

/-- What a right command has. -/
theorem cmd_ok {c : ACmd} (h : cmdE c = 0) : (1 ≤ c.kind ∧ c.kind ≤ 6) ∧ (1 ≤ c.key.size ∧ c.key.size ≤ 8) ∧ chk c.old = 0 ∧ chk c.val = 0 ∧ (c.kind ≠ 4 → zeroV c.old = true) ∧ okV c = true := by
 unfold cmdE at h
 split at h
 ·
  cases h
 split at h
 ·
  cases h
 split at h
 ·
  cases h
 split at h
 ·
  rename_i h1 h2 h3 h4
  rw [not_or, not_or, not_or] at h3
  refine ⟨by omega, by omega, Classical.byContradiction h3.2.2.1, Classical.byContradiction h3.2.2.2, fun hk => ?_, h4⟩
  rcases hz : zeroV c.old with _ | _
  ·
   exact absurd ⟨hk, hz⟩ h3.2.1
  ·
   rfl
 ·
  cases h
/-- A command that is done. -/
theorem do_ok {l : List APair} {c : ACmd} (h : (doP l c).2.code = 0) : cmdE c = 0 ∧ pairsB l = true ∧
  ((c.kind = 1 ∧ doP l c = (l, ⟨0, getP l c.key⟩)) ∨
   (c.kind ≠ 1 ∧ ∃ x t, stepV (getP l c.key) c = (0, x, t) ∧ (setP c.key x (x.kind == 0) l).length ≤ 32 ∧ doP l c = (setP c.key x (x.kind == 0) l, ⟨0, t⟩))) := by
 unfold doP at h ⊢
 by_cases h1 : cmdE c = 0
 case neg => rw [if_pos h1] at h; exact absurd h h1
 rw [if_neg (by simpa using h1)] at h ⊢
 rcases h2 : pairsB l with _ | _
 ·
  rw [h2, if_pos rfl] at h; cases h
 rw [h2, if_neg (by simp)] at h
 rw [if_neg (by simp)]
 refine ⟨h1, rfl, ?_⟩
 by_cases h3 : c.kind = 1
 ·
  rw [if_pos h3]; exact .inl ⟨h3, rfl⟩
 rw [if_neg h3] at h ⊢
 refine .inr ⟨h3, ?_⟩
 rcases hs : stepV (getP l c.key) c with ⟨e, x, t⟩
 rw [hs] at h
 simp only at h ⊢
 by_cases h4 : e = 0
 case neg => rw [if_pos h4] at h; exact absurd h h4
 rw [if_neg (by simpa using h4)] at h ⊢
 by_cases h5 : 32 < (setP c.key x (x.kind == 0) l).length
 ·
  rw [if_pos h5] at h; cases h
 ·
  rw [if_neg h5]
  exact ⟨x, t, by rw [h4], by omega, rfl⟩
/-- One that is refused. -/
theorem do_no {l : List APair} {c : ACmd} (h : (doP l c).2.code ≠ 0) : (doP l c).1 = l ∧ ((doP l c).2.code ≠ 9 → (doP l c).2.val = AVal.zero) := by
 unfold doP at h ⊢
 by_cases h1 : cmdE c = 0
 case neg => rw [if_pos h1]; exact ⟨rfl, fun _ => rfl⟩
 rw [if_neg (by simpa using h1)] at h ⊢
 rcases h2 : pairsB l with _ | _
 ·
  rw [if_pos rfl]; exact ⟨rfl, fun _ => rfl⟩
 rw [h2, if_neg (by simp)] at h
 rw [if_neg (by simp)]
 by_cases h3 : c.kind = 1
 ·
  rw [if_pos h3] at h; exact absurd rfl h
 rw [if_neg h3] at h ⊢
 rcases hs : stepV (getP l c.key) c with ⟨e, x, t⟩
 rw [hs] at h
 simp only at h ⊢
 by_cases h4 : e = 0
 ·
  rw [if_neg (by simpa using h4)] at h ⊢
  split
  ·
   exact ⟨rfl, fun _ => rfl⟩
  ·
   rename_i h5; rw [if_neg h5] at h; exact absurd rfl h
 ·
  rw [if_pos h4]
  refine ⟨rfl, fun h9 => ?_⟩
  unfold stepV at hs
  split at hs
  ·
   simp at hs; exact absurd hs.1.symm h4
  split at hs
  ·
   simp at hs; exact absurd hs.1.symm h4
  split at hs
  ·
   split at hs
   ·
    simp at hs; exact absurd hs.1.symm h4
   ·
    simp only [Prod.mk.injEq] at hs; exact absurd hs.1.symm h9
  ·
   split at hs
   split at hs
   ·
    simp at hs; exact absurd hs.1.symm h4
   ·
    simp only [Prod.mk.injEq] at hs; exact hs.2.2.symm
theorem step_ok {v x t : AVal} {c : ACmd} (hc : cmdE c = 0) (h : stepV v c = (0, x, t)) : chk x = 0 := by
 obtain ⟨_, _, _, hv, _, _⟩ := cmd_ok hc
 unfold stepV at h
 split at h
 ·
  simp only [Prod.mk.injEq, true_and] at h; rw [← h.1]; exact hv
 split at h
 ·
  simp only [Prod.mk.injEq, true_and] at h; rw [← h.1]; exact chk_zero
 split at h
 ·
  split at h
  ·
   simp only [Prod.mk.injEq, true_and] at h; rw [← h.1]; exact hv
  ·
   simp at h
 ·
  split at h
  rename_i y e hj
  split at h
  ·
   rename_i he
   simp only [Prod.mk.injEq, true_and] at h
   subst he
   rw [← h.1]
   exact (join_ok hv hj).1
  ·
   rename_i he
   simp only [Prod.mk.injEq] at h
   exact absurd h.1 he
/-- Right pairs stay right. -/
theorem right_set {l : List APair} {k : ByteArray} {x : AVal} (hl : pairsB l = true) (hk : 1 ≤ k.size ∧ k.size ≤ 8) (hx : chk x = 0) (hn : (setP k x (x.kind == 0) l).length ≤ 32) : pairsB (setP k x (x.kind == 0) l) = true := by
 obtain ⟨_, h2, h3⟩ := (pairsB_iff l).1 hl
 refine (pairsB_iff _).2 ⟨hn, fun p hp => ?_, srt_setP h3 _ _ _⟩
 rcases mem_setP h3 hp with h | ⟨h, rfl⟩
 ·
  exact h2 p h
 ·
  unfold pairOk rightKeyB
  have : x.kind ≠ 0 := by simpa using h
  simp [hk.1, hk.2, hx, this]
theorem do_right {l : List APair} (c : ACmd) (hl : pairsB l = true) : pairsB (doP l c).1 = true := by
 by_cases h : (doP l c).2.code = 0
 ·
  obtain ⟨hc, _, h | ⟨_, x, t, hs, hn, h⟩⟩ := do_ok h
  ·
   rw [h.2]; exact hl
  ·
   rw [h]
   exact right_set hl (cmd_ok hc).2.1 (step_ok hc hs) hn
 ·
  rw [(do_no h).1]; exact hl
theorem eqVal_refl (v : AVal) : eqVal v v = true := by simp [eqVal, sameF, eqT_refl]
theorem do_others {l : List APair} {c : ACmd} {key : ByteArray} (h : eqT key c.key = false) : getP (doP l c).1 key = getP l key := by
 by_cases hc : (doP l c).2.code = 0
 ·
  obtain ⟨_, _, h' | ⟨_, x, t, _, _, h'⟩⟩ := do_ok hc
  ·
   rw [h'.2]
  ·
   rw [h']
   exact getP_setP_ne (by rw [eqT_comm]; exact h) _ _ _
 ·
  rw [(do_no hc).1]

theorem getP_set {l : List APair} {k : ByteArray} {x : AVal} (hx : chk x = 0) : getP (setP k x (x.kind == 0) l) k = x := by
 by_cases h : x.kind = 0
 ·
  have e := chk_kind0 hx h
  rw [e]
  exact getP_setP_true _ _ _
 ·
  have : (x.kind == 0) = false := by simpa using h
  rw [this]
  exact getP_setP _ _ _
/-- What a key of right pairs has is right. -/
theorem chk_get {l : List APair} (hl : pairsB l = true) (k : ByteArray) : chk (getP l k) = 0 := by
 by_cases h : (getP l k).kind = 0
 ·
  by_cases h' : ∃ p ∈ l, eqT p.key k = true
  ·
   obtain ⟨p, hp, e⟩ := h'
   obtain ⟨_, h2, h3⟩ := (pairsB_iff l).1 hl
   have := getP_mem h3 hp
   rw [(eqT_iff _ _).1 e] at this
   rw [this]
   have := h2 p hp
   unfold pairOk at this
   simp only [Bool.and_eq_true, beq_iff_eq] at this
   exact this.2
  ·
   rw [getP_none fun p hp => by
    rcases e : eqT p.key k with _ | _
    ·
     rfl
    ·
     exact absurd ⟨p, hp, e⟩ h']
   exact chk_zero
 ·
  obtain ⟨p, hp, _, e⟩ := getP_some h
  obtain ⟨_, h2, _⟩ := (pairsB_iff l).1 hl
  rw [← e]
  have := h2 p hp
  unfold pairOk at this
  simp only [Bool.and_eq_true, beq_iff_eq] at this
  exact this.2
theorem chk_kinds {v : AVal} (h : chk v = 0) : 0 ≤ v.kind ∧ v.kind ≤ 2 := by
 unfold chk at h
 split at h
 ·
  cases h
 ·
  omega
/-- A command on right pairs, room or not. -/
theorem do_eq {l : List APair} {c : ACmd} (hc : cmdE c = 0) (hl : pairsB l = true) (h1 : c.kind ≠ 1) : doP l c = (match stepV (getP l c.key) c with
  | (e, x, t) => if e ≠ 0 then (l, ⟨e, t⟩) else if 32 < (setP c.key x (x.kind == 0) l).length then (l, ⟨5, AVal.zero⟩) else (setP c.key x (x.kind == 0) l, ⟨0, t⟩)) := by
 unfold doP
 rw [if_neg (by simpa using hc), hl, if_neg (by simp), if_neg h1]
theorem zeroV_zero : zeroV AVal.zero = true := by unfold zeroV; rw [chk_zero]; rfl
/-- A key is asked for. -/
theorem do_get {l : List APair} {k : ByteArray} (hl : pairsB l = true) (hk : 1 ≤ k.size ∧ k.size ≤ 8) : doP l ⟨1, k, AVal.zero, AVal.zero⟩ = (l, ⟨0, getP l k⟩) := by
 have hc : cmdE ⟨1, k, AVal.zero, AVal.zero⟩ = 0 := by
  have h1 : ¬ 8 < k.size := by omega
  have h2 : ¬ k.size < 1 := by omega
  simp [cmdE, okV, zeroV_zero, chk_zero, h1, h2]
 unfold doP
 rw [if_neg (by simpa using hc), hl, if_neg (by simp), if_pos rfl]
theorem len_set_le {l : List APair} (hs : Srt l) (k : ByteArray) (x : AVal) : (setP k x (x.kind == 0) l).length ≤ l.length + 1 := by
 rcases h : (x.kind == 0) with _ | _
 ·
  have := len_setP_false hs k x; omega
 ·
  have := len_setP_true k x l; omega
/-- A key goes. -/
theorem do_del {l : List APair} {k : ByteArray} (hl : pairsB l = true) (hk : 1 ≤ k.size ∧ k.size ≤ 8) : doP l ⟨3, k, AVal.zero, AVal.zero⟩ = (setP k AVal.zero true l, ⟨0, getP l k⟩) := by
 have hc : cmdE ⟨3, k, AVal.zero, AVal.zero⟩ = 0 := by
  have h1 : ¬ 8 < k.size := by omega
  have h2 : ¬ k.size < 1 := by omega
  simp [cmdE, okV, zeroV_zero, chk_zero, h1, h2]
 rw [do_eq hc hl (by simp)]
 have h1 := len_setP_true k AVal.zero l
 have h2 := ((pairsB_iff l).1 hl).1
 have e : ((AVal.zero).kind == 0) = true := rfl
 have h3 : ¬ 32 < (setP k AVal.zero true l).length := by omega
 have hst : stepV (getP l k) ⟨3, k, AVal.zero, AVal.zero⟩ = (0, AVal.zero, getP l k) := by simp [stepV]
 simp only
 rw [hst]
 simp only
 rw [e, if_neg (by simp), if_neg h3]
theorem right_set_true {l : List APair} {k : ByteArray} (hl : pairsB l = true) (v : AVal) : pairsB (setP k v true l) = true := by
 obtain ⟨h1, h2, h3⟩ := (pairsB_iff l).1 hl
 have := len_setP_true k v l
 refine (pairsB_iff _).2 ⟨by omega, fun p hp => ?_, srt_setP h3 _ _ _⟩
 rcases mem_setP h3 hp with h | ⟨h, _⟩
 ·
  exact h2 p h
 ·
  cases h
theorem do_puts {p : List APair} {k : ByteArray} {v : AVal} (hp : pairsB p = true) (h : (doP p ⟨2, k, AVal.zero, v⟩).2.code = 0) :
  (doP p ⟨2, k, AVal.zero, v⟩).2.val = getP p k ∧ (1 ≤ k.size ∧ k.size ≤ 8) ∧ pairsB (doP p ⟨2, k, AVal.zero, v⟩).1 = true ∧ getP (doP p ⟨2, k, AVal.zero, v⟩).1 k = v ∧
   ((doP p ⟨2, k, AVal.zero, v⟩).1.filter fun q => eqT q.key k).length = 1 := by
 have hr := do_right ⟨2, k, AVal.zero, v⟩ hp
 obtain ⟨hc, _, h' | ⟨_, x, t, hs, hn, h'⟩⟩ := do_ok h
 ·
  exact absurd h'.1 (by simp)
 ·
  obtain ⟨_, hk, _, hv, _, ho⟩ := cmd_ok hc
  have hst : stepV (getP p k) ⟨2, k, AVal.zero, v⟩ = (0, v, getP p k) := by simp [stepV]
  simp only at hs
  rw [hst] at hs
  simp only [Prod.mk.injEq, true_and] at hs
  obtain ⟨rfl, rfl⟩ := hs
  have hv0 : v.kind ≠ 0 := by
   unfold okV at ho
   simpa using ho
  rw [h'] at hr ⊢
  simp only at hr ⊢
  refine ⟨trivial, hk, hr, getP_set hv, ?_⟩
  have h1 := one_key ((pairsB_iff _).1 hr).2.2 k
  have e : (v.kind == 0) = false := by simpa using hv0
  rw [e] at h1 ⊢
  have hm : (⟨k, v⟩ : APair) ∈ (setP k v false p).filter fun q => eqT q.key k := by
   refine List.mem_filter.2 ⟨?_, eqT_refl k⟩
   rw [setP_false ((pairsB_iff p).1 hp).2.2]
   simp
  have := List.length_pos_of_mem hm
  omega
/-- Two that want the same. -/
theorem do_cas {p : List APair} {k : ByteArray} {a : AVal} (h : (doP p ⟨4, k, getP p k, a⟩).2.code = 0) :
  (doP p ⟨4, k, getP p k, a⟩).2.val = getP p k ∧ getP (doP p ⟨4, k, getP p k, a⟩).1 k = a := by
 obtain ⟨hc, _, h' | ⟨_, x, t, hs, hn, h'⟩⟩ := do_ok h
 ·
  exact absurd h'.1 (by simp)
 ·
  obtain ⟨_, hk, _, hv, _, ho⟩ := cmd_ok hc
  have hst : stepV (getP p k) ⟨4, k, getP p k, a⟩ = (0, a, getP p k) := by simp [stepV, eqVal_refl]
  simp only at hs
  rw [hst] at hs
  simp only [Prod.mk.injEq, true_and] at hs
  obtain ⟨rfl, rfl⟩ := hs
  rw [h']
  exact ⟨rfl, getP_set hv⟩
theorem cmd_codes (c : ACmd) : cmdE c = 0 ∨ cmdE c = 15 ∨ cmdE c = 2 ∨ cmdE c = 8 := by
 unfold cmdE
 split
 ·
  simp
 split
 ·
  simp
 split
 ·
  simp
 split <;> simp
theorem do_cas2 {q : List APair} {k : ByteArray} {a v b : AVal} (hq : pairsB q = true) (ha : getP q k = a) :
  ((doP q ⟨4, k, v, b⟩).2.code = 9 → eqVal a v = false ∧ (doP q ⟨4, k, v, b⟩).1 = q ∧ (doP q ⟨4, k, v, b⟩).2.val = a) ∧
  ((doP q ⟨4, k, v, b⟩).2.code = 0 → eqVal a v = true) := by
 subst ha
 rcases cmd_codes ⟨4, k, v, b⟩ with hc | hc
 ·
  rw [do_eq hc hq (by simp)]
  have hst : stepV (getP q k) ⟨4, k, v, b⟩ = if eqVal (getP q k) v then (0, b, getP q k) else (9, getP q k, getP q k) := by simp [stepV]
  simp only
  rw [hst]
  rcases he : eqVal (getP q k) v with _ | _
  ·
   simp
  ·
   simp only [if_true]
   constructor
   ·
    intro h
    exfalso
    revert h
    simp only [ne_eq, not_true_eq_false, if_false]
    split <;> simp
   ·
    simp
 ·
  have h0 : cmdE ⟨4, k, v, b⟩ ≠ 0 := by rcases hc with h | h | h <;> rw [h] <;> decide
  have e : doP q ⟨4, k, v, b⟩ = (q, ⟨cmdE ⟨4, k, v, b⟩, AVal.zero⟩) := by unfold doP; rw [if_pos h0]
  rw [e]
  simp only
  refine ⟨fun h => ?_, fun h => absurd h h0⟩
  rcases hc with h' | h' | h' <;> rw [h'] at h <;> cases h
/-- Numbers that are added, or held against one another. -/
def want1 (add : Bool) (want v : AVal) : AVal := if want.kind = 0 then v else (joinV add want v).1
theorem do_adds {p : List APair} {k : ByteArray} {x : Nat} {add : Bool} (hp : pairsB p = true) :
  ((doP p ⟨if add then 5 else 6, k, AVal.zero, ⟨1, x, ⟨#[]⟩⟩⟩).2.code = 0 → (doP p ⟨if add then 5 else 6, k, AVal.zero, ⟨1, x, ⟨#[]⟩⟩⟩).2.val = want1 add (getP p k) ⟨1, x, ⟨#[]⟩⟩ ∧ getP (doP p ⟨if add then 5 else 6, k, AVal.zero, ⟨1, x, ⟨#[]⟩⟩⟩).1 k = want1 add (getP p k) ⟨1, x, ⟨#[]⟩⟩) ∧
  ((doP p ⟨if add then 5 else 6, k, AVal.zero, ⟨1, x, ⟨#[]⟩⟩⟩).2.code = 8 → (getP p k).kind ≠ 2 → chk ⟨1, x, ⟨#[]⟩⟩ = 0 → k.size = 0) := by
 obtain ⟨kd, hkd⟩ : ∃ kd : Int, (if add then 5 else 6 : Int) = kd := ⟨_, rfl⟩
 have hk56 : kd = 5 ∨ kd = 6 := by cases add <;> simp at hkd <;> omega
 have hadd : (kd == 5) = add := by cases add <;> simp at hkd <;> subst hkd <;> rfl
 rw [hkd]
 have hst : stepV (getP p k) ⟨kd, k, AVal.zero, ⟨1, x, ⟨#[]⟩⟩⟩ = (match joinV add (getP p k) ⟨1, x, ⟨#[]⟩⟩ with | (y, e) => if e = 0 then (0, y, y) else (e, AVal.zero, AVal.zero)) := by
  unfold stepV
  rw [if_neg (by simp only; omega), if_neg (by simp only; omega), if_neg (by simp only; omega), hadd]
 have hcg := chk_get hp k
 constructor
 ·
  intro h
  obtain ⟨hc, _, h' | ⟨_, y, t, hs, hn, h'⟩⟩ := do_ok h
  ·
   have := h'.1; simp only at this; omega
  ·
   simp only at hs
   rw [hst] at hs
   rcases hj : joinV add (getP p k) ⟨1, x, ⟨#[]⟩⟩ with ⟨z, e⟩
   rw [hj] at hs
   simp only at hs
   by_cases he : e = 0
   ·
    rw [if_pos he] at hs
    simp only [Prod.mk.injEq, true_and] at hs
    obtain ⟨rfl, rfl⟩ := hs
    subst he
    have hv := (cmd_ok hc).2.2.2.1
    obtain ⟨j1, j2, _⟩ := join_ok hv hj
    rw [h']
    have hw : want1 add (getP p k) ⟨1, x, ⟨#[]⟩⟩ = z := by
     unfold want1
     split
     ·
      rename_i h0; exact (j2 h0).symm
     ·
      rw [hj]
    rw [hw]
    exact ⟨rfl, getP_set j1⟩
   ·
    rw [if_neg he] at hs
    simp only [Prod.mk.injEq] at hs
    exact absurd hs.1 he
 ·
  intro h h2 hv
  apply Classical.byContradiction
  intro hk0
  by_cases h8 : 8 < k.size
  ·
   have hc : cmdE ⟨kd, k, AVal.zero, ⟨1, x, ⟨#[]⟩⟩⟩ = 2 := by
    unfold cmdE
    rw [if_neg (by simp only; omega), if_pos h8]
   have e : doP p ⟨kd, k, AVal.zero, ⟨1, x, ⟨#[]⟩⟩⟩ = (p, ⟨2, AVal.zero⟩) := by unfold doP; rw [if_pos (by rw [hc]; decide), hc]
   rw [e] at h
   cases h
  ·
   have hc : cmdE ⟨kd, k, AVal.zero, ⟨1, x, ⟨#[]⟩⟩⟩ = 0 := by
    unfold cmdE
    rw [if_neg (by simp only; omega), if_neg h8, if_neg (by
     simp only [zeroV_zero, chk_zero, hv]
     rintro (h | h | h | h)
     ·
      omega
     ·
      simp at h
     ·
      exact h rfl
     ·
      exact h rfl), if_pos (by unfold okV; rw [if_neg (by simp only; omega), if_neg (by simp only; omega), if_pos hk56]; rfl)]
   rw [do_eq hc hp (by simp only; omega)] at h
   simp only at h
   rw [hst] at h
   have hkk := chk_kinds hcg
   have hj : ∃ z, joinV add (getP p k) ⟨1, x, ⟨#[]⟩⟩ = (z, 0) := by
    unfold joinV
    rw [if_neg (by simpa using hcg), if_neg (by simpa using hv)]
    split
    ·
     exact ⟨_, rfl⟩
    ·
     rw [if_neg (by simp only; omega)]; exact ⟨_, rfl⟩
   obtain ⟨z, hj⟩ := hj
   rw [hj] at h
   simp only [if_true, ne_eq, not_true_eq_false, if_false] at h
   split at h <;> cases h
/-- A new key is put. -/
theorem do_new {p : List APair} {k : ByteArray} {v : AVal} (hp : pairsB p = true) (hk : 1 ≤ k.size ∧ k.size ≤ 8) (hv : chk v = 0) (hv0 : v.kind ≠ 0) : doP p ⟨2, k, AVal.zero, v⟩ = if 32 < (setP k v false p).length then (p, ⟨5, AVal.zero⟩) else (setP k v false p, ⟨0, getP p k⟩) := by
 have hc : cmdE ⟨2, k, AVal.zero, v⟩ = 0 := by
  have h1 : ¬ 8 < k.size := by omega
  have h2 : ¬ k.size < 1 := by omega
  simp [cmdE, okV, zeroV_zero, chk_zero, h1, h2, hv, hv0]
 rw [do_eq hc hp (by simp)]
 have e : (v.kind == 0) = false := by simpa using hv0
 simp [stepV, e]
/-- What stands at a key then; where there is room. -/
def nextV (v : AVal) (c : ACmd) : AVal := if cmdE c ≠ 0 then v else if c.kind = 1 then v else match stepV v c with | (e, x, _) => if e ≠ 0 then v else x
def replyV (v : AVal) (c : ACmd) : AReply := if cmdE c ≠ 0 then ⟨cmdE c, AVal.zero⟩ else if c.kind = 1 then ⟨0, v⟩ else match stepV v c with | (e, _, t) => if e ≠ 0 then ⟨e, t⟩ else ⟨0, t⟩
theorem do_room {l : List APair} (c : ACmd) (hl : pairsB l = true) (hr : l.length ≤ 31) : (doP l c).2 = replyV (getP l c.key) c ∧ getP (doP l c).1 c.key = nextV (getP l c.key) c ∧ (doP l c).1.length ≤ l.length + 1 := by
 by_cases hc : cmdE c = 0
 case neg =>
  have e : doP l c = (l, ⟨cmdE c, AVal.zero⟩) := by unfold doP; rw [if_pos hc]
  rw [e]
  unfold replyV nextV
  rw [if_pos hc, if_pos hc]
  exact ⟨rfl, rfl, by simp⟩
 by_cases h1 : c.kind = 1
 ·
  have e : doP l c = (l, ⟨0, getP l c.key⟩) := by unfold doP; rw [if_neg (by simpa using hc), hl, if_neg (by simp), if_pos h1]
  rw [e]
  unfold replyV nextV
  rw [if_neg (by simpa using hc), if_pos h1, if_neg (by simpa using hc), if_pos h1]
  exact ⟨rfl, rfl, by simp⟩
 rw [do_eq hc hl h1]
 unfold replyV nextV
 rw [if_neg (by simpa using hc), if_neg h1, if_neg (by simpa using hc), if_neg h1]
 rcases hs : stepV (getP l c.key) c with ⟨e, x, t⟩
 simp only
 by_cases he : e = 0
 ·
  subst he
  have hle := len_set_le ((pairsB_iff l).1 hl).2.2 c.key x
  have h32 : ¬ 32 < (setP c.key x (x.kind == 0) l).length := by omega
  simp only [ne_eq, not_true_eq_false, if_false, h32]
  exact ⟨trivial, getP_set (step_ok hc hs), hle⟩
 ·
  simp [he]
/-- Commands on unlike keys, in any order. -/
theorem do_parts {p : List APair} {a b : ACmd} (hp : pairsB p = true) (hr : p.length ≤ 30) (hk : eqT a.key b.key = false) :
  (doP (doP p a).1 b).1 = (doP (doP p b).1 a).1 ∧ (doP p a).2 = (doP (doP p b).1 a).2 ∧ (doP (doP p a).1 b).2 = (doP p b).2 := by
 have hk' : eqT b.key a.key = false := by rw [eqT_comm]; exact hk
 obtain ⟨a1, a2, a3⟩ := do_room a hp (by omega)
 obtain ⟨b1, b2, b3⟩ := do_room b hp (by omega)
 have ra := do_right a hp
 have rb := do_right b hp
 obtain ⟨ab1, ab2, _⟩ := do_room b ra (by omega)
 obtain ⟨ba1, ba2, _⟩ := do_room a rb (by omega)
 rw [do_others hk'] at ab1 ab2
 rw [do_others hk] at ba1 ba2
 refine ⟨?_, by rw [a1, ba1], by rw [ab1, b1]⟩
 have r1 := (pairsB_iff _).1 (do_right b ra)
 have r2 := (pairsB_iff _).1 (do_right a rb)
 have hkind : ∀ {l : List APair}, (∀ q ∈ l, pairOk q = true) → ∀ q ∈ l, q.val.kind ≠ 0 := fun h q hq => by
  have := h q hq
  unfold pairOk at this
  simp only [Bool.and_eq_true, bne_iff_ne] at this
  exact this.1.2
 refine pairs_ext r1.2.2 r2.2.2 (hkind r1.2.1) (hkind r2.2.1) fun k => ?_
 by_cases ka : eqT k a.key = true
 ·
  have e := (eqT_iff _ _).1 ka
  subst e
  rw [do_others hk, a2, ba2]
 ·
  by_cases kb : eqT k b.key = true
  ·
   have e := (eqT_iff _ _).1 kb
   subst e
   rw [ab2, do_others hk', b2]
  ·
   rw [do_others (by simpa using kb), do_others (by simpa using ka), do_others (by simpa using ka), do_others (by simpa using kb)]
end Go.Proofs.YtmebipnljkopgaaGreatDoor
