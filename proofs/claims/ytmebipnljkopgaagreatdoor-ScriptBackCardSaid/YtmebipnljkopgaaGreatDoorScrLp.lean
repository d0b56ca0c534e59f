/-
 Plain side of layer 27 (script), third part: the line of an act. No program is named here. Conditions: none.
-/
import Derived.Test.YtmebipnljkopgaaGreatDoorScrO
import Derived.Lib.Join
namespace Go.Proofs.YtmebipnljkopgaaGreatDoor
set_option linter.unusedSimpArgs false
set_option linter.unusedVariables false
open Go.RowKit
/-- Two floats are the same: both ways to ask. -/
theorem sameNum_sameF (a b : Nat) : sameNum a b = sameF a b := by
 unfold sameNum sameF canon
 by_cases ha : isNaN a = true <;> by_cases hb : isNaN b = true
 · simp [ha, hb]
 · rw [if_pos ha, if_neg hb, ha]
   have : isNaN theNaN = true := by decide +kernel
   have h1 : theNaN ≠ b := fun e => hb (e ▸ this)
   have h2 : a ≠ b := fun e => hb (e ▸ ha)
   simp [hb, beq_eq_false_iff_ne.2 h1, beq_eq_false_iff_ne.2 h2]
 · rw [if_neg ha, if_pos hb, hb]
   have : isNaN theNaN = true := by decide +kernel
   have h1 : a ≠ theNaN := fun e => ha (e ▸ this)
   have h2 : a ≠ b := fun e => ha (e ▸ hb)
   simp [ha, beq_eq_false_iff_ne.2 h1, beq_eq_false_iff_ne.2 h2]
 · rw [if_neg ha, if_neg hb]; simp [ha]
def eqAct (a b : AAct) : Bool := a.kind == b.kind && a.node == b.node && a.client == b.client && a.n == b.n && a.m == b.m && eqCmd a.cmd b.cmd && eqConf a.conf b.conf && a.bytes == b.bytes
/-- Words with blanks between. -/
def joinL : List (List UInt8) → List UInt8
  | [] => []
  | [w] => w
  | w :: r => w ++ 32 :: joinL r
theorem join_cons (w x : List UInt8) (r : List (List UInt8)) : joinL (w :: x :: r) = w ++ 32 :: joinL (x :: r) := rfl
theorem words_join : ∀ ws : List (List UInt8), ws ≠ [] → (∀ w ∈ ws, (32 : UInt8) ∉ w) → wordsL (joinL ws) = ws
  | [], h, _ => absurd rfl h
  | [w], _, h => wordsL_none w (h w (by simp))
  | w :: x :: r, _, h => by
    rw [join_cons, wordsL_at _ _ (h w (by simp)), words_join (x :: r) (by simp) (fun y hy => h y (List.mem_cons_of_mem _ hy))]
theorem join_words : ∀ l : List UInt8, joinL (wordsL l) = l
  | [] => rfl
  | c :: r => by
    have ih := join_words r
    unfold wordsL
    by_cases hc : c = 32
    · rw [if_pos hc]
      rcases h : wordsL r with _ | ⟨x, t⟩
      · exact absurd h (wordsL_ne r)
      rw [h] at ih
      rw [join_cons, ih, hc]; rfl
    · rw [if_neg hc]
      rcases h : wordsL r with _ | ⟨x, t⟩
      · exact absurd h (wordsL_ne r)
      rw [h] at ih
      simp only
      rcases t with _ | ⟨y, t⟩
      · rw [← ih]; rfl
      · rw [join_cons] at ih ⊢; rw [← ih]; rfl
theorem lib_join : ∀ l : List (List UInt8), Lib.join l [32] = joinL l
  | [] => rfl
  | [w] => Lib.join_one w [32]
  | w :: x :: r => by
    have ih := lib_join (x :: r)
    rw [Lib.join_cons] at ih
    rw [Lib.join_cons, join_cons, ← ih]
    simp [Lib.joinTail]
/-- Digits of sixteen of bytes. -/
def hexB : List UInt8 → List UInt8
  | [] => []
  | c :: r => digC (c.toNat / 16) :: digC (c.toNat % 16) :: hexB r
theorem hexB_app (a b : List UInt8) : hexB (a ++ b) = hexB a ++ hexB b := by
 induction a with
 | nil => rfl
 | cons c r ih => simp [hexB, ih]
theorem hexB_len (l : List UInt8) : (hexB l).length = 2 * l.length := by
 induction l with
 | nil => rfl
 | cons c r ih => simp [hexB, ih]; omega
theorem unhex_hex (l : List UInt8) : unhexL (hexB l) = some l := by
 induction l with
 | nil => rfl
 | cons c r ih =>
  have h1 := hexV_digC ⟨c.toNat / 16, by have := c.toNat_lt; omega⟩
  have h2 := hexV_digC ⟨c.toNat % 16, by omega⟩
  simp only at h1 h2
  unfold hexB
  rw [unhexL.eq_3, h1, h2, ih]
  simp only
  rw [show 16 * (c.toNat / 16) + c.toNat % 16 = c.toNat by omega]
  simp
theorem hex_unhex : ∀ (l t : List UInt8), unhexL l = some t → hexB t = l
  | [], t, h => by simp only [unhexL, Option.some.injEq] at h; subst h; rfl
  | [_], t, h => by simp [unhexL] at h
  | a :: b :: r, t, h => by
    rw [unhexL.eq_3] at h
    rcases ha : hexV a with _ | x
    · rw [ha] at h; cases h
    rcases hb : hexV b with _ | y
    · rw [ha, hb] at h; cases h
    rcases hr : unhexL r with _ | t'
    · rw [ha, hb, hr] at h; cases h
    rw [ha, hb, hr] at h
    simp only [Option.some.injEq] at h
    subst h
    have hx := hexV_lt ha
    have hy := hexV_lt hb
    have e : (UInt8.ofNat (16 * x + y)).toNat = 16 * x + y := by simp; omega
    unfold hexB
    rw [e, show (16 * x + y) / 16 = x by omega, show (16 * x + y) % 16 = y by omega, digC_hexV ha, digC_hexV hb, hex_unhex r t' hr]
theorem digC_ne32 : ∀ n : Fin 16, digC n.val ≠ 32 := by decide +kernel
theorem hexB_ne32 (l : List UInt8) : (32 : UInt8) ∉ hexB l := by
 induction l with
 | nil => simp [hexB]
 | cons c r ih =>
  have h1 := digC_ne32 ⟨c.toNat / 16, by have := c.toNat_lt; omega⟩
  have h2 := digC_ne32 ⟨c.toNat % 16, by omega⟩
  simp only at h1 h2
  simp [hexB, ih, Ne.symm h1, Ne.symm h2]
theorem hexK_ne32 : ∀ k n, (32 : UInt8) ∉ hexK k n
  | 0, _ => by simp [hexK]
  | k + 1, n => by
    have h2 := digC_ne32 ⟨n % 16, by omega⟩
    simp only at h2
    simp [hexK, hexK_ne32 k, Ne.symm h2]
/-- A right value as a word. -/
def textV (v : AVal) : List UInt8 := if v.kind = 1 then 110 :: textF v.num else if v.kind = 2 then 116 :: hexB (bsOf v.text) else [45]
def valW (v : AVal) : List UInt8 := if chk v = 0 then textV v else [63]
def opW (op : Int) : List UInt8 := if op = 1 then [103, 101, 116] else if op = 2 then [112, 117, 116] else if op = 3 then [100, 101, 108] else if op = 4 then [99, 97, 115] else if op = 5 then [97, 100, 100] else [109, 97, 120]
def callW (a : AAct) : List (List UInt8) := if a.cmd.kind < 1 ∨ 6 < a.cmd.kind then [] else
  [opW a.cmd.kind, Lib.itoa a.client, Lib.itoa a.node, 107 :: hexB (bsOf a.cmd.key)] ++ (if a.cmd.kind = 4 then [valW a.cmd.old] else []) ++ (if a.cmd.kind ≠ 1 ∧ a.cmd.kind ≠ 3 then [valW a.cmd.val] else [])
def rawW (b : List UInt8) : List UInt8 := if b = [] then [45] else hexB b
def wordsA (a : AAct) : List (List UInt8) :=
  if a.kind = 1 then [[116, 105, 99, 107], Lib.itoa a.node] else if a.kind = 2 then [[100, 101, 108, 105, 118, 101, 114], Lib.itoa a.n] else if a.kind = 3 then [[100, 114, 111, 112], Lib.itoa a.n]
  else if a.kind = 4 then [[116, 119, 105, 99, 101], Lib.itoa a.n] else if a.kind = 5 then [[109, 111, 118, 101], Lib.itoa a.n, Lib.itoa a.m] else if a.kind = 6 then [[114, 97, 119], rawW a.bytes]
  else if a.kind = 7 then [[99, 114, 97, 115, 104], Lib.itoa a.node, Lib.itoa a.n] else if a.kind = 8 then [[116, 114, 105, 112], Lib.itoa a.node, Lib.itoa a.n, Lib.itoa a.m] else if a.kind = 9 then [[115, 116, 97, 114, 116], Lib.itoa a.node]
  else if a.kind = 10 then callW a else if a.kind = 11 then [[97, 103, 97, 105, 110], Lib.itoa a.client, Lib.itoa a.node] else if a.kind = 12 then [[112, 108, 97, 110], Lib.itoa a.node]
  else if a.kind = 13 then [[99, 104, 97, 110, 103, 101], Lib.itoa a.node, Lib.itoa a.conf.full, Lib.itoa a.conf.wit, Lib.itoa a.conf.learn, Lib.itoa a.conf.learnWit] else if a.kind = 14 then [[114, 111, 117, 110, 100], Lib.itoa a.n] else []
/-- The line of an act, if it has one. -/
def lineP (a : AAct) : Option ByteArray := match readP (bA (joinL (wordsA a))) with
  | some b => if eqAct b a = true then some (bA (joinL (wordsA a))) else none
  | none => none
end Go.Proofs.YtmebipnljkopgaaGreatDoor
