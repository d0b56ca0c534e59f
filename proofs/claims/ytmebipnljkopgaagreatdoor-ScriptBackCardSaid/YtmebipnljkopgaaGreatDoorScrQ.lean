/-
 Plain side of layer 27 (script), second part: bytes of digits, floats and values as words, the act of a line. No program is named here. Conditions: none.
-/
import Derived.Test.YtmebipnljkopgaaGreatDoorScrP
namespace Go.Proofs.YtmebipnljkopgaaGreatDoor
open Go.RowKit
set_option linter.unusedVariables false
set_option linter.unusedSimpArgs false

def hexV (c : UInt8) : Option Nat := if 48 ≤ c.toNat ∧ c.toNat ≤ 57 then some (c.toNat - 48) else if 97 ≤ c.toNat ∧ c.toNat ≤ 102 then some (c.toNat - 87) else none
theorem hexV_lt {c : UInt8} {n : Nat} (h : hexV c = some n) : n < 16 := by
 unfold hexV at h
 split at h
 · simp only [Option.some.injEq] at h; omega
 split at h
 · simp only [Option.some.injEq] at h; omega
 cases h
def unhexL : List UInt8 → Option (List UInt8)
  | [] => some []
  | [_] => none
  | a :: b :: r => match hexV a, hexV b, unhexL r with
    | some x, some y, some t => some (UInt8.ofNat (16 * x + y) :: t)
    | _, _, _ => none
theorem unhexL_odd : ∀ l : List UInt8, l.length % 2 ≠ 0 → unhexL l = none
  | [], h => by simp at h
  | [_], _ => rfl
  | a :: b :: r, h => by
    have := unhexL_odd r (by simp only [List.length_cons] at h; omega)
    unfold unhexL; rw [this]
    split <;> simp_all
theorem unhexL_len : ∀ (l t : List UInt8), unhexL l = some t → l.length = 2 * t.length
  | [], t, h => by simp only [unhexL, Option.some.injEq] at h; simp [← h]
  | [_], t, h => by simp [unhexL] at h
  | a :: b :: r, t, h => by
    unfold unhexL at h
    split at h
    · rename_i x y t' hx hy ht
      simp only [Option.some.injEq] at h
      have := unhexL_len r t' ht
      rw [← h]; simp only [List.length_cons]; omega
    cases h
def digC (n : Nat) : UInt8 := UInt8.ofNat (if n < 10 then 48 + n else 87 + n)
theorem hexV_digC : ∀ n : Fin 16, hexV (digC n.val) = some n.val := by decide +kernel
theorem digC_hexV_fin : ∀ c : Fin 256, ∀ n : Fin 16, hexV (UInt8.ofNat c.val) = some n.val → digC n.val = UInt8.ofNat c.val := by decide +kernel
theorem digC_hexV {c : UInt8} {n : Nat} (h : hexV c = some n) : digC n = c := by
 have hc : c.toNat < 256 := c.toNat_lt
 have e : UInt8.ofNat c.toNat = c := by simp
 have := digC_hexV_fin ⟨c.toNat, hc⟩ ⟨n, hexV_lt h⟩ (by simpa [e] using h)
 simpa [e] using this
/-- The number of digits of sixteen. -/
def hexF (n : Nat) : List UInt8 → Option Nat
  | [] => some n
  | c :: r => match hexV c with
    | some d => hexF (16 * n + d) r
    | none => none
/-- k digits of sixteen. -/
def hexK : Nat → Nat → List UInt8
  | 0, _ => []
  | k + 1, n => hexK k (n / 16) ++ [digC (n % 16)]
theorem hexK_len : ∀ k n, (hexK k n).length = k
  | 0, _ => rfl
  | k + 1, n => by simp [hexK, hexK_len k]
theorem hexF_app : ∀ (a b : List UInt8) (n : Nat), hexF n (a ++ b) = match hexF n a with
    | some m => hexF m b
    | none => none
  | [], b, n => by simp [hexF]
  | c :: r, b, n => by
    simp only [List.cons_append, hexF]
    rcases hexV c with _ | d
    · rfl
    exact hexF_app r b _
theorem hexF_hexK : ∀ (k n : Nat), n < 16 ^ k → hexF 0 (hexK k n) = some n
  | 0, n, h => by simp at h; subst h; rfl
  | k + 1, n, h => by
    have h2 := hexF_hexK k (n / 16) (Nat.div_lt_of_lt_mul (by rw [Nat.mul_comm]; simpa [Nat.pow_succ] using h))
    have h3 := hexV_digC ⟨n % 16, by omega⟩
    simp only at h3
    rw [hexK, hexF_app, h2]
    simp only [hexF, h3]
    congr 1; omega
theorem hexF_lt : ∀ (l : List UInt8) (n m : Nat), hexF n l = some m → m < (n + 1) * 16 ^ l.length
  | [], n, m, h => by simp only [hexF, Option.some.injEq] at h; simp; omega
  | c :: r, n, m, h => by
    unfold hexF at h
    split at h
    · rename_i d hd
      have h1 := hexF_lt r _ m h
      have h2 := hexV_lt hd
      have h3 : (16 * n + d + 1) * 16 ^ r.length ≤ (16 * (n + 1)) * 16 ^ r.length := Nat.mul_le_mul_right _ (by omega)
      rw [List.length_cons, Nat.pow_succ]
      calc m < _ := h1
        _ ≤ _ := h3
        _ = _ := by rw [Nat.mul_comm (16 ^ r.length) 16, ← Nat.mul_assoc, Nat.mul_comm 16 (n + 1)]
    cases h
/-- A float's sixteen digits, and the float of a word. -/
def textF (x : Nat) : List UInt8 := hexK 16 (canon x)
def parseF (s : ByteArray) : Option Nat := if s.size = 16 then (match hexF 0 (bsOf s) with
    | some n => if textF n = bsOf s then some n else none
    | none => none) else none
theorem canon_lt {x : Nat} (h : x < 18446744073709551616) : canon x < 18446744073709551616 := by
 unfold canon; split
 · decide
 exact h
theorem parseF_of {x : Nat} {s : ByteArray} (hx : x < 18446744073709551616) (h : textF x = bsOf s) : s.size = 16 ∧ hexF 0 (bsOf s) = some (canon x) := by
 have hl : (bsOf s).length = 16 := by rw [← h, textF, hexK_len]
 refine ⟨hl, ?_⟩
 rw [← h]
 exact hexF_hexK 16 _ (by have := canon_lt hx; simpa using this)
theorem parseF_lt {s : ByteArray} {n : Nat} (h : parseF s = some n) : n < 18446744073709551616 := by
 unfold parseF at h
 split at h
 · rename_i hs
   split at h
   · rename_i m hm
     split at h
     · have := hexF_lt _ 0 m hm
       rw [show (bsOf s).length = 16 from hs] at this
       simp only [Option.some.injEq] at h
       simp at this; omega
     cases h
   cases h
 cases h
def keyP (w : ByteArray) : Option ByteArray := match bsOf w with
  | [] => none
  | c :: r => if c = 107 then (unhexL r).map bA else none
def valP (w : ByteArray) : Option AVal := if bsOf w = [45] then some AVal.zero else match bsOf w with
  | [] => none
  | c :: r => if c = 110 then (parseF (bA r)).map fun x => ⟨1, x, ⟨#[]⟩⟩
    else if c = 116 then (match unhexL r with
      | some t => if t.length ≤ 32 then some ⟨2, 0, bA t⟩ else none
      | none => none)
    else none
def rawP (w : ByteArray) : Option (List UInt8) := if bsOf w = [45] then some [] else match unhexL (bsOf w) with
  | some b => if b = [] then none else some b
  | none => none
def kindP (l : List UInt8) : Int := if l = [116, 105, 99, 107] then 1 else if l = [100, 101, 108, 105, 118, 101, 114] then 2 else if l = [100, 114, 111, 112] then 3 else if l = [116, 119, 105, 99, 101] then 4 else if l = [109, 111, 118, 101] then 5 else if l = [114, 97, 119] then 6 else if l = [99, 114, 97, 115, 104] then 7 else if l = [116, 114, 105, 112] then 8 else if l = [115, 116, 97, 114, 116] then 9 else if l = [97, 103, 97, 105, 110] then 11 else if l = [112, 108, 97, 110] then 12 else if l = [99, 104, 97, 110, 103, 101] then 13 else if l = [114, 111, 117, 110, 100] then 14 else 0
def opP (l : List UInt8) : Int := if l = [] then 0 else if l = [103, 101, 116] then 1 else if l = [112, 117, 116] then 2 else if l = [100, 101, 108] then 3 else if l = [99, 97, 115] then 4 else if l = [97, 100, 100] then 5 else if l = [109, 97, 120] then 6 else -1

structure AAct where
  kind : Int
  node : Int
  client : Int
  n : Int
  m : Int
  cmd : ACmd
  conf : AConf
  bytes : List UInt8
def AAct.zero : AAct := ⟨0, 0, 0, 0, 0, ACmd.zero, AConf.zero, []⟩
abbrev AAct.cells (a : AAct) (v : Value) : List Value := [.int .i64 a.kind, .int .i64 a.node, .int .i64 a.client, .int .i64 a.n, .int .i64 a.m, .int .i64 a.cmd.kind, .string a.cmd.key, .int .i64 a.cmd.old.kind, .float .f64 a.cmd.old.num, .string a.cmd.old.text, .int .i64 a.cmd.val.kind, .float .f64 a.cmd.val.num, .string a.cmd.val.text, .int .i64 a.conf.full, .int .i64 a.conf.wit, .int .i64 a.conf.learn, .int .i64 a.conf.learnWit, v]
def AAct.setO (a : AAct) (o : Nat) (x : Int) : AAct := match o with
  | 1 => { a with node := x }
  | 2 => { a with client := x }
  | 3 => { a with n := x }
  | 4 => { a with m := x }
  | 13 => { a with conf := { a.conf with full := x } }
  | 14 => { a with conf := { a.conf with wit := x } }
  | 15 => { a with conf := { a.conf with learn := x } }
  | 16 => { a with conf := { a.conf with learnWit := x } }
  | _ => a
/-- Which places a kind's numbers go to. -/
def placesP (k : Int) : List Nat := if k = 1 ∨ k = 9 ∨ k = 12 then [1] else if k = 2 ∨ k = 3 ∨ k = 4 ∨ k = 14 then [3] else if k = 5 then [3, 4] else if k = 7 then [1, 3] else if k = 8 then [1, 3, 4] else if k = 11 then [2, 1] else if k = 13 then [1, 13, 14, 15, 16] else []
def setAll (a : AAct) : List Nat → List Int → AAct
  | o :: os, x :: xs => setAll (a.setO o x) os xs
  | _, _ => a
def numsP : List ByteArray → Option (List Int)
  | [] => some []
  | w :: r => match numW w, numsP r with
    | some n, some l => some (n :: l)
    | _, _ => none
def otherP (k : Int) (ws : List ByteArray) : Option AAct :=
  if k = 6 then (match ws with
    | [w] => (rawP w).map fun b => { AAct.zero with kind := k, bytes := b }
    | _ => none)
  else match numsP ws with
    | some l => if l.length = (placesP k).length then some (setAll { AAct.zero with kind := k } (placesP k) l) else none
    | none => none
def valsP (op : Int) : Nat := if op = 1 ∨ op = 3 then 0 else if op = 4 then 2 else 1
def callP (op : Int) (ws : List ByteArray) : Option AAct := match ws with
  | c :: i :: k :: vs => match numW c, numW i, keyP k with
    | some c, some i, some k => (match vs.mapM valP, valsP op with
      | some [], 0 => some { AAct.zero with kind := 10, client := c, node := i, cmd := ⟨op, k, AVal.zero, AVal.zero⟩ }
      | some [v], 1 => some { AAct.zero with kind := 10, client := c, node := i, cmd := ⟨op, k, AVal.zero, v⟩ }
      | some [o, v], 2 => some { AAct.zero with kind := 10, client := c, node := i, cmd := ⟨op, k, o, v⟩ }
      | _, _ => none)
    | _, _, _ => none
  | _ => none
def readP (line : ByteArray) : Option AAct := match wordsB line with
  | [] => none
  | w :: ws => if 0 < kindP (bsOf w) then otherP (kindP (bsOf w)) ws else if 0 < opP (bsOf w) then callP (opP (bsOf w)) ws else none

/-! What the program's reader does, word by word. -/
abbrev RSt := List ByteArray × Bool
def wordS : RSt → ByteArray × RSt
  | ([], _) => (⟨#[]⟩, ([], true))
  | (x :: r, b) => (x, (r, b))
def intS (s : RSt) : Int × RSt := match numW (wordS s).1 with
  | some n => (n, (wordS s).2)
  | none => (0, ((wordS s).2.1, true))
def keyS (s : RSt) : ByteArray × RSt := match keyP (wordS s).1 with
  | some k => (k, (wordS s).2)
  | none => (⟨#[]⟩, ((wordS s).2.1, true))
def valS (s : RSt) : AVal × RSt := match valP (wordS s).1 with
  | some v => (v, (wordS s).2)
  | none => (AVal.zero, ((wordS s).2.1, true))
/-- The flag and the rest alone: what was read wrongly is never looked at. -/
def rawS (s : RSt) : RSt := match rawP (wordS s).1 with
  | some v => (wordS s).2
  | none => ((wordS s).2.1, true)
def intoS : List Nat → AAct → RSt → AAct × RSt
  | [], a, s => (a, s)
  | o :: os, a, s => intoS os (a.setO o (intS s).1) (intS s).2
theorem wordS_true (l : List ByteArray) : (wordS (l, true)).2.2 = true := by cases l <;> rfl
theorem intS_true (l : List ByteArray) : (intS (l, true)).2.2 = true := by
 unfold intS; split
 · exact wordS_true l
 rfl
theorem intoS_true : ∀ (os : List Nat) (a : AAct) (s : RSt), s.2 = true → (intoS os a s).2.2 = true
  | [], a, s, h => h
  | o :: os, a, (l, b), h => by
    simp only at h; subst h
    exact intoS_true os _ _ (intS_true l)
theorem numW_nil : numW ⟨#[]⟩ = none := rfl
theorem valP_nil : valP ⟨#[]⟩ = none := rfl
theorem keyP_nil : keyP ⟨#[]⟩ = none := rfl
theorem rawP_nil : rawP ⟨#[]⟩ = none := rfl
def endS (a : AAct) (s : RSt) : Option AAct := if s.2 = true ∨ s.1 ≠ [] then none else some a
theorem endS_true (a : AAct) (s : RSt) (h : s.2 = true) : endS a s = none := by unfold endS; rw [if_pos (.inl h)]
theorem intoS_end : ∀ (os : List Nat) (a : AAct) (ws : List ByteArray), endS (intoS os a (ws, false)).1 (intoS os a (ws, false)).2 = match numsP ws with
    | some l => if l.length = os.length then some (setAll a os l) else none
    | none => none
  | [], a, ws => by
    cases ws with
    | nil => simp [intoS, endS, numsP, setAll]
    | cons w r =>
     have e : endS (intoS [] a (w :: r, false)).1 (intoS [] a (w :: r, false)).2 = none := by
      show (if false = true ∨ w :: r ≠ [] then none else some a) = none
      simp
     rw [e]
     simp only [numsP]
     split
     · rename_i l hl
       split at hl
       · simp only [Option.some.injEq] at hl; subst hl; simp
       cases hl
     rfl
  | o :: os, a, [] => by
    have e : (intoS (o :: os) a ([], false)).2.2 = true := by
     simp only [intoS]; exact intoS_true _ _ _ (by simp [intS, wordS, numW_nil])
    rw [endS_true _ _ e]
    simp [numsP]
  | o :: os, a, w :: r => by
    simp only [intoS, numsP]
    rcases hw : numW w with _ | n
    · have e : (intS (w :: r, false)).2.2 = true := by simp [intS, wordS, hw]
      rw [endS_true _ _ (intoS_true _ _ _ e)]
    have e : intS (w :: r, false) = (n, (r, false)) := by simp [intS, wordS, hw]
    rw [e, intoS_end os _ r]
    rcases numsP r with _ | l
    · rfl
    simp [setAll]
end Go.Proofs.YtmebipnljkopgaaGreatDoor
