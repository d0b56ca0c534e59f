/-
  Plain functions: what the page says of values, pairs and commands. No program is walked here. Conditions: none.
-/
import Derived.Test.YthhjaneadbkccaaWireSpec
import Derived.Test.YthhjaneadbkccaaCmp
namespace Go.Proofs.Ythhjaneadbkccaa

structure APair where
  key : ByteArray
  val : AVal
structure AReply where
  code : Int
  val : AVal
abbrev APair.cells (p : APair) : List Value := [.string p.key, .int .i64 p.val.kind, .float .f64 p.val.num, .string p.val.text]
abbrev AReply.cells (r : AReply) : List Value := [.int .i64 r.code, .int .i64 r.val.kind, .float .f64 r.val.num, .string r.val.text]
def APair.ok (p : APair) : Prop := p.key.size ≤ maxLen ∧ p.val.ok
def AReply.ok (r : AReply) : Prop := I64 r.code ∧ r.val.ok

/-- Texts in order. -/
def ltT (a b : ByteArray) : Bool := Op.bytesLess a.toList b.toList
theorem less_iff (x : List UInt8) : ∀ y : List UInt8, Op.bytesLess x y = true ↔ x < y := by
  induction x with
  | nil => intro y; cases y <;> simp [Op.bytesLess]
  | cons a x ih =>
    intro y
    cases y with
    | nil => simp [Op.bytesLess]
    | cons b y => rw [Op.bytesLess, List.cons_lt_cons_iff, ← ih y]; simp
theorem ltT_iff (a b : ByteArray) : ltT a b = true ↔ bsOf a < bsOf b := by
  unfold ltT
  rw [less_iff, ByteArray.toList_eq, ByteArray.toList_eq]
theorem ltT_irrefl (a : ByteArray) : ltT a a = false := by
  rw [← Bool.not_eq_true, ltT_iff]; exact List.lt_irrefl _
theorem ltT_trans {a b c : ByteArray} (h : ltT a b = true) (h' : ltT b c = true) : ltT a c = true := by
  rw [ltT_iff] at *; exact List.lt_trans h h'
theorem ltT_asymm {a b : ByteArray} (h : ltT a b = true) : ltT b a = false := by
  rw [← Bool.not_eq_true]; intro h'; have := ltT_trans h h'; rw [ltT_irrefl] at this; cases this
theorem ltT_or {a b : ByteArray} (h : ltT a b = false) (h' : eqT a b = false) : ltT b a = true := by
  rw [← Bool.not_eq_true, ltT_iff] at h
  rw [← Bool.not_eq_true, eqT_iff] at h'
  rw [ltT_iff]
  rcases Decidable.em (bsOf b < bsOf a) with h2 | h2
  · exact h2
  · exact absurd (bsOf_inj (List.le_antisymm (List.not_lt.1 h2) (List.not_lt.1 h))) h'

/-- Of a value. -/
def chk (v : AVal) : Int :=
  if v.kind < 0 ∨ 2 < v.kind then 15
  else if v.kind = 2 ∧ 32 < v.text.size then 2
  else if (v.kind ≠ 2 ∧ isEmptyT v.text = false) ∨ (v.kind ≠ 1 ∧ v.num ≠ 0) then 8
  else if isNaN v.num = true ∧ v.num ≠ theNaN then 8 else 0
def rightKeyB (k : ByteArray) : Bool := decide (1 ≤ k.size) && decide (k.size ≤ 8)
def pairOk (p : APair) : Bool := rightKeyB p.key && p.val.kind != 0 && chk p.val == 0
def sortedB : List APair → Bool
  | [] => true
  | [_] => true
  | a :: b :: l => ltT a.key b.key && sortedB (b :: l)
/-- Right pairs. -/
def pairsB (l : List APair) : Bool := decide (l.length ≤ 32) && l.all pairOk && sortedB l
def zeroV (v : AVal) : Bool := v.kind == 0 && chk v == 0
/-- What its kind asks of a command's value. -/
def okV (c : ACmd) : Bool :=
  if c.kind = 1 ∨ c.kind = 3 then zeroV c.val else if c.kind = 2 then c.val.kind != 0 else if c.kind = 5 ∨ c.kind = 6 then c.val.kind == 1 else true
def cmdE (c : ACmd) : Int :=
  if c.kind < 1 ∨ 6 < c.kind then 15 else if 8 < c.key.size then 2
  else if c.key.size < 1 ∨ (c.kind ≠ 4 ∧ zeroV c.old = false) ∨ chk c.old ≠ 0 ∨ chk c.val ≠ 0 then 8
  else if okV c then 0 else 8
def getP : List APair → ByteArray → AVal
  | [], _ => AVal.zero
  | p :: l, k => if eqT p.key k then p.val else getP l k
/-- A key has a value; d: it is done (or is to go). -/
def setP (k : ByteArray) (v : AVal) : Bool → List APair → List APair
  | d, [] => if d then [] else [⟨k, v⟩]
  | d, p :: l =>
    if !d && (ltT k p.key || eqT k p.key) then ⟨k, v⟩ :: (if eqT p.key k then setP k v true l else p :: setP k v true l)
    else if eqT p.key k then setP k v d l else p :: setP k v d l
/-- Floats. -/
def addF (a b : Nat) : Nat := match FloatKind.f64.format.add a b with
  | some r => canon r
  | none => theNaN
/-- A number that rises with the order. -/
def rank (x : Nat) : Nat := if canon x / 9223372036854775808 = 1 then 18446744073709551615 - canon x else canon x + 9223372036854775808
def lessF (a b : Nat) : Bool := decide (rank a < rank b)
def maxF (a b : Nat) : Nat := if isNaN a || isNaN b then theNaN else if lessF a b then b else a
def joinV (add : Bool) (a b : AVal) : AVal × Int :=
  if chk a ≠ 0 then (AVal.zero, chk a) else if chk b ≠ 0 then (AVal.zero, chk b)
  else if a.kind = 0 then (b, 0) else if a.kind ≠ 1 ∨ b.kind ≠ 1 then (AVal.zero, 8)
  else (⟨1, if add then addF a.num b.num else maxF a.num b.num, ⟨#[]⟩⟩, 0)
/-- What a command makes of what a key has: another code than 0: it is refused. The values: what is there then, what is told. -/
def stepV (v : AVal) (c : ACmd) : Int × AVal × AVal :=
  if c.kind = 2 then (0, c.val, v)
  else if c.kind = 3 then (0, AVal.zero, v)
  else if c.kind = 4 then (if eqVal v c.old then (0, c.val, v) else (9, v, v))
  else (match joinV (c.kind == 5) v c.val with | (x, e) => if e = 0 then (0, x, x) else (e, AVal.zero, AVal.zero))
/-- A command on pairs. -/
def doP (l : List APair) (c : ACmd) : List APair × AReply :=
  if cmdE c ≠ 0 then (l, ⟨cmdE c, AVal.zero⟩)
  else if pairsB l = false then (l, ⟨6, AVal.zero⟩)
  else if c.kind = 1 then (l, ⟨0, getP l c.key⟩)
  else match stepV (getP l c.key) c with
    | (e, x, t) => if e ≠ 0 then (l, ⟨e, t⟩) else if 32 < (setP c.key x (x.kind == 0) l).length then (l, ⟨5, AVal.zero⟩) else (setP c.key x (x.kind == 0) l, ⟨0, t⟩)
end Go.Proofs.Ythhjaneadbkccaa
