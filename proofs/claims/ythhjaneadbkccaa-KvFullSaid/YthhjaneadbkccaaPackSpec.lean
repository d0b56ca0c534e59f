/-
  Plain functions: what package pack writes and reads, on lists of bytes. No program is named here. Conditions: none.
-/
import Derived.Test.YthhjaneadbkccaaMem
namespace Go.Proofs.Ythhjaneadbkccaa

/-- A whole number as a natural one. -/
def zig (n : Int) : Nat := if n < 0 then (-(n + 1)).toNat * 2 + 1 else n.toNat * 2
/-- Seven bits a byte, the lowest first. -/
def uvF : Nat → Nat → List UInt8
  | 0, z => [UInt8.ofNat z]
  | f + 1, z => if z < 128 then [UInt8.ofNat z] else UInt8.ofNat (z % 128 + 128) :: uvF f (z / 128)
def encInt (n : Int) : List UInt8 := uvF 9 (zig n)
def encMark (b : Bool) : List UInt8 := if b then [1] else [0]
/-- n bytes of a number, the highest first. -/
def hib : Nat → Nat → List UInt8
  | 0, _ => []
  | k + 1, x => UInt8.ofNat (x / 256 ^ k % 256) :: hib k x
def isNaN (x : Nat) : Bool := FloatKind.f64.format.order x x != some Ordering.eq
def theNaN : Nat := 9221120237041090561
def canon (x : Nat) : Nat := if isNaN x then theNaN else x
def encFloat (x : Nat) : List UInt8 := hib 8 (canon x)
def encText (t : List UInt8) : List UInt8 := encInt t.length ++ t

/-- Reading a number. -/
def rdVar : Nat → Nat → List UInt8 → Option (Nat × List UInt8)
  | _, _, [] => none
  | k, z, c :: r =>
    if k = 9 ∧ 1 < c.toNat then none
    else if c.toNat < 128 then (if c.toNat = 0 ∧ 0 < k then none else some (z + c.toNat % 128 * 2 ^ (7 * k), r))
    else rdVar (k + 1) (z + c.toNat % 128 * 2 ^ (7 * k)) r
/-- The whole number of a natural one. -/
def zag (z : Nat) : Int := if z % 2 = 1 then -((z / 2 : Nat) : Int) - 1 else ((z / 2 : Nat) : Int)

/-- A reader: what is left, and the first error (0: none). -/
structure RS where
  left : List UInt8
  e : Int

def RS.fail (r : RS) (e : Int) : RS := if r.e = 0 then ⟨r.left, e⟩ else r
def RS.int (r : RS) : Int × RS :=
  if r.e ≠ 0 then (0, r) else
  match rdVar 0 0 r.left with
  | none => (0, ⟨r.left, 3⟩)
  | some (z, l) => (zag z, ⟨l, 0⟩)
def RS.mark (r : RS) : Bool × RS :=
  if r.e ≠ 0 then (false, r) else
  match r.left with
  | [] => (false, ⟨[], 3⟩)
  | c :: l => if 1 < c.toNat then (false, ⟨c :: l, 3⟩) else (c.toNat == 1, ⟨l, 0⟩)
def num8 (l : List UInt8) : Nat := l.foldl (fun x c => x * 256 + c.toNat) 0
def RS.float (r : RS) : Nat × RS :=
  if r.e ≠ 0 then (0, r) else
  if r.left.length < 8 then (0, ⟨r.left, 3⟩) else
  if canon (num8 (r.left.take 8)) ≠ num8 (r.left.take 8) then (0, ⟨r.left, 3⟩) else (num8 (r.left.take 8), ⟨r.left.drop 8, 0⟩)
def RS.text (r : RS) : List UInt8 × RS :=
  if r.int.2.e ≠ 0 then ([], r.int.2) else
  if 16384 < r.int.1 then ([], ⟨r.int.2.left, 2⟩) else
  if r.int.1 < 0 ∨ (r.int.2.left.length : Int) < r.int.1 then ([], ⟨r.int.2.left, 3⟩) else
  (r.int.2.left.take r.int.1.toNat, ⟨r.int.2.left.drop r.int.1.toNat, 0⟩)
def RS.leftN (r : RS) : Int := if r.e ≠ 0 then 0 else r.left.length
def RS.done (r : RS) : Int := if r.e = 0 ∧ 0 < r.left.length then 3 else r.e

end Go.Proofs.Ythhjaneadbkccaa
