/-
  Plain functions: what package pack writes and reads, on lists of bytes. No program is named here. Conditions: none.
-/
import Derived.Test.YtjhnlncgmejkcaaGreatMem
namespace Go.Proofs.YtjhnlncgmejkcaaGreat
def zig (n : Int) : Nat := if n < 0 then (-(n + 1)).toNat * 2 + 1 else n.toNat * 2
def uvF : Nat → Nat → List UInt8
 | 0, z => [UInt8.ofNat z]
 | f + 1, z => if z < 128 then [UInt8.ofNat z] else UInt8.ofNat (z % 128 + 128) :: uvF f (z / 128)
def zS (n : Int) : List UInt8 := uvF 9 (zig n)
def hib : Nat → Nat → List UInt8
 | 0, _ => []
 | k + 1, x => UInt8.ofNat (x / 256 ^ k % 256) :: hib k x
def zaG (x : Nat) : Bool := FloatKind.f64.format.order x x != some Ordering.eq
def zaQ : Nat := 9221120237041090561
def yU (x : Nat) : Nat := if zaG x then zaQ else x
def yT (x : Nat) : List UInt8 := hib 8 (yU x)
def yH (t : List UInt8) : List UInt8 := zS t.length ++ t
def zaY : Nat → Nat → List UInt8 → Option (Nat × List UInt8)
 | _, _, [] => none
 | k, z, c :: r =>
  if k = 9 ∧ 1 < c.toNat then none
  else if c.toNat < 128 then (if c.toNat = 0 ∧ 0 < k then none else some (z + c.toNat % 128 * 2 ^ (7 * k), r))
  else zaY (k + 1) (z + c.toNat % 128 * 2 ^ (7 * k)) r
def zag (z : Nat) : Int := if z % 2 = 1 then -((z / 2 : Nat) : Int) - 1 else ((z / 2 : Nat) : Int)
structure RS where
 left : List UInt8
 e : Int
def RS.fail (r : RS) (e : Int) : RS := if r.e = 0 then ⟨r.left, e⟩ else r
def RS.int (r : RS) : Int × RS :=
 if r.e ≠ 0 then (0, r) else
 match zaY 0 0 r.left with
 | none => (0, ⟨r.left, 3⟩)
 | some (z, l) => (zag z, ⟨l, 0⟩)
def zaZ (l : List UInt8) : Nat := l.foldl (fun x c => x * 256 + c.toNat) 0
def RS.float (r : RS) : Nat × RS :=
 if r.e ≠ 0 then (0, r) else
 if r.left.length < 8 then (0, ⟨r.left, 3⟩) else
 if yU (zaZ (r.left.take 8)) ≠ zaZ (r.left.take 8) then (0, ⟨r.left, 3⟩) else (zaZ (r.left.take 8), ⟨r.left.drop 8, 0⟩)
def RS.text (r : RS) : List UInt8 × RS :=
 if r.int.2.e ≠ 0 then ([], r.int.2) else
 if 16384 < r.int.1 then ([], ⟨r.int.2.left, 2⟩) else
 if r.int.1 < 0 ∨ (r.int.2.left.length : Int) < r.int.1 then ([], ⟨r.int.2.left, 3⟩) else
 (r.int.2.left.take r.int.1.toNat, ⟨r.int.2.left.drop r.int.1.toNat, 0⟩)
def RS.leftN (r : RS) : Int := if r.e ≠ 0 then 0 else r.left.length
def RS.done (r : RS) : Int := if r.e = 0 ∧ 0 < r.left.length then 3 else r.e
structure jY where
 kind : Int
 num : Nat
 text : ByteArray
structure zeG where
 kind : Int
 key : ByteArray
 old : jY
 val : jY
structure yK where
 client : Int
 seq : Int
 cmd : zeG
structure yF where
 full : Int
 wit : Int
 learn : Int
 learnWit : Int
structure zI where
 term : Int
 kind : Int
 call : yK
 conf : yF
abbrev jY.cells (v : jY) : List Value := [.int .i64 v.kind, .float .f64 v.num, .string v.text]
abbrev zeG.cells (c : zeG) : List Value := [.int .i64 c.kind, .string c.key, .int .i64 c.old.kind, .float .f64 c.old.num, .string c.old.text, .int .i64 c.val.kind, .float .f64 c.val.num, .string c.val.text]
abbrev yK.cells (c : yK) : List Value := [.int .i64 c.client, .int .i64 c.seq, .int .i64 c.cmd.kind, .string c.cmd.key, .int .i64 c.cmd.old.kind, .float .f64 c.cmd.old.num, .string c.cmd.old.text, .int .i64 c.cmd.val.kind, .float .f64 c.cmd.val.num, .string c.cmd.val.text]
abbrev yF.cells (c : yF) : List Value := [.int .i64 c.full, .int .i64 c.wit, .int .i64 c.learn, .int .i64 c.learnWit]
abbrev zI.cells (x : zI) : List Value := [.int .i64 x.term, .int .i64 x.kind, .int .i64 x.call.client, .int .i64 x.call.seq, .int .i64 x.call.cmd.kind, .string x.call.cmd.key, .int .i64 x.call.cmd.old.kind, .float .f64 x.call.cmd.old.num, .string x.call.cmd.old.text, .int .i64 x.call.cmd.val.kind, .float .f64 x.call.cmd.val.num, .string x.call.cmd.val.text, .int .i64 x.conf.full, .int .i64 x.conf.wit, .int .i64 x.conf.learn, .int .i64 x.conf.learnWit]
def I64 (n : Int) : Prop := -9223372036854775808 ≤ n ∧ n ≤ 9223372036854775807
def jY.ok (v : jY) : Prop := I64 v.kind ∧ v.num < 18446744073709551616 ∧ v.text.size ≤ maxLen
def zeG.ok (c : zeG) : Prop := I64 c.kind ∧ c.key.size ≤ maxLen ∧ c.old.ok ∧ c.val.ok
def yK.ok (c : yK) : Prop := I64 c.client ∧ I64 c.seq ∧ c.cmd.ok
def yF.ok (c : yF) : Prop := I64 c.full ∧ I64 c.wit ∧ I64 c.learn ∧ I64 c.learnWit
def zI.ok (x : zI) : Prop := I64 x.term ∧ I64 x.kind ∧ x.call.ok ∧ x.conf.ok
abbrev zaF (s : ByteArray) : List UInt8 := s.data.toList
theorem bsOf_inj {a b : ByteArray} (h : zaF a = zaF b) : a = b := by
 cases a; cases b; simp [zaF] at h; simp [h]
def jY.zero : jY := ⟨0, 0, ⟨#[]⟩⟩
def zeG.zero : zeG := ⟨0, ⟨#[]⟩, jY.zero, jY.zero⟩
def yK.zero : yK := ⟨0, 0, zeG.zero⟩
def yF.zero : yF := ⟨0, 0, 0, 0⟩
def zgS (a b : Nat) : Bool := zaG a && zaG b || a == b
def eqT (a b : ByteArray) : Bool := a.toList == b.toList
theorem zdA (a b : ByteArray) : eqT a b = true ↔ a = b := by
 unfold eqT
 rw [beq_iff_eq, ByteArray.toList_eq, ByteArray.toList_eq]
 exact ⟨fun h => bsOf_inj h, fun h => by rw [h]⟩
def zdB (a b : jY) : Bool := a.kind == b.kind && zgS a.num b.num && eqT a.text b.text
def zgT (a b : zeG) : Bool := a.kind == b.kind && eqT a.key b.key && zdB a.old b.old && zdB a.val b.val
def jJ (a b : yK) : Bool := a.client == b.client && a.seq == b.seq && zgT a.cmd b.cmd
def xI (a b : yF) : Bool := a.full == b.full && a.wit == b.wit && a.learn == b.learn && a.learnWit == b.learnWit
def xZ (a b : zI) : Bool := a.term == b.term && a.kind == b.kind && jJ a.call b.call && xI a.conf b.conf
abbrev WO := Option (List UInt8 × Bool)
def WO.seq (a b : WO) : WO := match a, b with
 | some (x, l), some (y, m) => some (x ++ y, l || m)
 | _, _ => none
def zcH (l : List UInt8) : WO := some (l, false)
def qF (b : Bool) : WO := if b then some ([], false) else none
def zbT (t : List UInt8) : WO := if 16384 < t.length then some ([], true) else some (yH t, false)
def zQ (l : List Int) : List UInt8 := l.flatMap zS
def xC (a b : Nat) : Bool := yU a == yU b
def zX (s : ByteArray) : Bool := s.toList.isEmpty
theorem zbM (s : ByteArray) : zX s = true ↔ s = ⟨#[]⟩ := by
 have h : decide (s = ByteArray.empty) = s.toList.isEmpty := decide_eq_emptyBytes s
 unfold zX
 rw [← h, decide_eq_true_iff]
 exact Iff.rfl
def za4 (x : Nat) : Bool := yU x == x
def qB (v : jY) : WO :=
 (zcH (zS v.kind)).seq (
  if v.kind = 0 then qF (xC v.num 0 && zX v.text)
  else if v.kind = 1 then (qF (za4 v.num && zX v.text)).seq (zcH (yT v.num))
  else if v.kind = 2 then (qF (xC v.num 0)).seq (zbT (zaF v.text))
  else none)
def zhM (c : yK) : WO := (((zcH (zQ [c.client, c.seq, c.cmd.kind])).seq (zbT (zaF c.cmd.key))).seq (qB c.cmd.old)).seq (qB c.cmd.val)
def zcY (v : jY) : List UInt8 := zS v.kind ++ (if v.kind = 1 then yT v.num else if v.kind = 2 then yH (zaF v.text) else [])
def zgU (c : yF) : WO := zcH (zQ [c.full, c.wit, c.learn, c.learnWit])
def zdC (v : jY) : Bool := v.kind == 0 && xC v.num 0 && zX v.text
def yV (c : yK) : Bool := c.client == 0 && c.seq == 0 && c.cmd.kind == 0 && zX c.cmd.key && zdC c.cmd.old && zdC c.cmd.val
def zcI (c : yF) : Bool := c.full == 0 && c.wit == 0 && c.learn == 0 && c.learnWit == 0
def jR (x : zI) : WO :=
 ((((zcH (zQ [x.term, x.kind])).seq (qF (decide (0 ≤ x.kind ∧ x.kind ≤ 2)))).seq (qF (x.kind == 1 || yV x.call))).seq (qF (x.kind == 2 || zcI x.conf))).seq
   (if x.kind = 1 then zhM x.call else if x.kind = 2 then zgU x.conf else zcH [])
def xM : List zI → WO
 | [] => zcH []
 | x :: l => (jR x).seq (xM l)
def zhN (l : List zI) : WO := (zcH (zS l.length)).seq (xM l)
def ziL (o : WO) : List UInt8 × Int := match o with
 | none => ([], 3)
 | some (d, l) => if l || decide (16384 < d.length) then ([], 2) else (d, 0)
structure ziM where
 key : ByteArray
 val : jY
structure AReply where
 code : Int
 val : jY
def ltT (a b : ByteArray) : Bool := Op.bytesLess a.toList b.toList
def chk (v : jY) : Int :=
 if v.kind < 0 ∨ 2 < v.kind then 15
 else if v.kind = 2 ∧ 32 < v.text.size then 2
 else if (v.kind ≠ 2 ∧ zX v.text = false) ∨ (v.kind ≠ 1 ∧ v.num ≠ 0) then 8
 else if zaG v.num = true ∧ v.num ≠ zaQ then 8 else 0
def zbF (k : ByteArray) : Bool := decide (1 ≤ k.size) && decide (k.size ≤ 8)
def pairOk (p : ziM) : Bool := zbF p.key && p.val.kind != 0 && chk p.val == 0
def znT : List ziM → Bool
 | [] => true
 | [_] => true
 | a :: b :: l => ltT a.key b.key && znT (b :: l)
def pairsB (l : List ziM) : Bool := decide (l.length ≤ 32) && l.all pairOk && znT l
def zaO (v : jY) : Bool := v.kind == 0 && chk v == 0
def okV (c : zeG) : Bool :=
 if c.kind = 1 ∨ c.kind = 3 then zaO c.val else if c.kind = 2 then c.val.kind != 0 else if c.kind = 5 ∨ c.kind = 6 then c.val.kind == 1 else true
def zhO (c : zeG) : Int :=
 if c.kind < 1 ∨ 6 < c.kind then 15 else if 8 < c.key.size then 2
 else if c.key.size < 1 ∨ (c.kind ≠ 4 ∧ zaO c.old = false) ∨ chk c.old ≠ 0 ∨ chk c.val ≠ 0 then 8
 else if okV c then 0 else 8
def getP : List ziM → ByteArray → jY
 | [], _ => jY.zero
 | p :: l, k => if eqT p.key k then p.val else getP l k
def setP (k : ByteArray) (v : jY) : Bool → List ziM → List ziM
 | d, [] => if d then [] else [⟨k, v⟩]
 | d, p :: l =>
  if !d && (ltT k p.key || eqT k p.key) then ⟨k, v⟩ :: (if eqT p.key k then setP k v true l else p :: setP k v true l)
  else if eqT p.key k then setP k v d l else p :: setP k v d l
def addF (a b : Nat) : Nat := match FloatKind.f64.format.add a b with
 | some r => yU r
 | none => zaQ
def rank (x : Nat) : Nat := if yU x / 9223372036854775808 = 1 then 18446744073709551615 - yU x else yU x + 9223372036854775808
def lessF (a b : Nat) : Bool := decide (rank a < rank b)
def maxF (a b : Nat) : Nat := if zaG a || zaG b then zaQ else if lessF a b then b else a
def joinV (add : Bool) (a b : jY) : jY × Int :=
 if chk a ≠ 0 then (jY.zero, chk a) else if chk b ≠ 0 then (jY.zero, chk b)
 else if a.kind = 0 then (b, 0) else if a.kind ≠ 1 ∨ b.kind ≠ 1 then (jY.zero, 8)
 else (⟨1, if add then addF a.num b.num else maxF a.num b.num, ⟨#[]⟩⟩, 0)
def stepV (v : jY) (c : zeG) : Int × jY × jY :=
 if c.kind = 2 then (0, c.val, v)
 else if c.kind = 3 then (0, jY.zero, v)
 else if c.kind = 4 then (if zdB v c.old then (0, c.val, v) else (9, v, v))
 else (match joinV (c.kind == 5) v c.val with | (x, e) => if e = 0 then (0, x, x) else (e, jY.zero, jY.zero))
def doP (l : List ziM) (c : zeG) : List ziM × AReply :=
 if zhO c ≠ 0 then (l, ⟨zhO c, jY.zero⟩)
 else if pairsB l = false then (l, ⟨6, jY.zero⟩)
 else if c.kind = 1 then (l, ⟨0, getP l c.key⟩)
 else match stepV (getP l c.key) c with
  | (e, x, t) => if e ≠ 0 then (l, ⟨e, t⟩) else if 32 < (setP c.key x (x.kind == 0) l).length then (l, ⟨5, jY.zero⟩) else (setP c.key x (x.kind == 0) l, ⟨0, t⟩)
end Go.Proofs.YtjhnlncgmejkcaaGreat
