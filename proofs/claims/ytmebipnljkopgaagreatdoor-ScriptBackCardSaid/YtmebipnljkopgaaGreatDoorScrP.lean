/-
 Plain side of layer 27 (script): words, numbers, bytes of digits, values, the act of a line; what the program's reader and the page's one compute is the same. No program is named here. Conditions: none.
-/
import Derived.Test.YtmebipnljkopgaaGreatDoorGSpec
import Derived.Lib.AtoiAllCases
import Derived.Lib.ItoaMem
import Derived.Lib.ItoaLen
import Derived.Lib.SplitLaws
import Derived.Lib.CountLaws
namespace Go.Proofs.YtmebipnljkopgaaGreatDoor
open Go.RowKit
set_option linter.unusedVariables false
set_option linter.unusedSimpArgs false

/-! Words. -/
def wordsL : List UInt8 → List (List UInt8)
  | [] => [[]]
  | c :: r => if c = 32 then [] :: wordsL r else
    match wordsL r with
    | [] => [[c]]
    | x :: t => (c :: x) :: t
theorem wordsL_ne (l : List UInt8) : wordsL l ≠ [] := by
 cases l with
 | nil => simp [wordsL]
 | cons c r =>
  unfold wordsL; split
  · simp
  split <;> simp
theorem wordsL_none : ∀ l : List UInt8, (32 : UInt8) ∉ l → wordsL l = [l]
  | [], _ => rfl
  | c :: r, h => by
    have hc : c ≠ 32 := fun e => h (by simp [e])
    have hr : (32 : UInt8) ∉ r := fun e => h (by simp [e])
    unfold wordsL; rw [if_neg hc, wordsL_none r hr]
theorem wordsL_at : ∀ (a b : List UInt8), (32 : UInt8) ∉ a → wordsL (a ++ 32 :: b) = a :: wordsL b
  | [], b, _ => by simp [wordsL]
  | c :: r, b, h => by
    have hc : c ≠ 32 := fun e => h (by simp [e])
    have hr : (32 : UInt8) ∉ r := fun e => h (by simp [e])
    rw [List.cons_append, wordsL, if_neg hc, wordsL_at r b hr]
abbrev bA (l : List UInt8) : ByteArray := ⟨l.toArray⟩
theorem bA_bs (l : List UInt8) : bsOf (bA l) = l := by simp [bsOf, bA]
theorem bs_bA (s : ByteArray) : bA (bsOf s) = s := bsOf_inj (bA_bs _)
def wordsB (s : ByteArray) : List ByteArray := (wordsL (bsOf s)).map bA

theorem index_at (a b : List UInt8) (h : (32 : UInt8) ∉ a) : Lib.index (a ++ 32 :: b) [32] = a.length := by
 induction a with
 | nil => simp [Lib.index]
 | cons c r ih =>
  have hc : c ≠ 32 := fun e => h (by simp [e])
  have hr : (32 : UInt8) ∉ r := fun e => h (by simp [e])
  simp [Lib.index, ih hr, hc, Ne.symm hc]
theorem index_no (a : List UInt8) (h : (32 : UInt8) ∉ a) : Lib.index a [32] = -1 := by
 induction a with
 | nil => simp [Lib.index]
 | cons c r ih =>
  have hc : c ≠ 32 := fun e => h (by simp [e])
  have hr : (32 : UInt8) ∉ r := fun e => h (by simp [e])
  simp [Lib.index, ih hr, hc, Ne.symm hc]
theorem first32 (l : List UInt8) (h : (32 : UInt8) ∈ l) : ∃ a b, l = a ++ 32 :: b ∧ (32 : UInt8) ∉ a := by
 induction l with
 | nil => simp at h
 | cons c r ih =>
  by_cases hc : c = 32
  · exact ⟨[], r, by simp [hc], by simp⟩
  have hr : (32 : UInt8) ∈ r := by
   rcases List.mem_cons.1 h with e | e
   · exact absurd e.symm hc
   · exact e
  obtain ⟨a, b, rfl, ha⟩ := ih hr
  exact ⟨c :: a, b, rfl, by simp [Ne.symm hc, ha]⟩
theorem splitK_words (k : Nat) : ∀ l : List UInt8, l.count 32 = k → Lib.splitK [32] 0 k l = wordsL l := by
 induction k with
 | zero =>
  intro l hl
  rw [wordsL_none l (by simpa using List.count_eq_zero.1 hl)]
  rfl
 | succ k ih =>
  intro l hl
  have hm : (32 : UInt8) ∈ l := List.count_pos_iff.1 (by omega)
  obtain ⟨a, b, rfl, ha⟩ := first32 l hm
  have hb : b.count 32 = k := by
   rw [List.count_append, List.count_cons_self, List.count_eq_zero.2 ha] at hl
   omega
  unfold Lib.splitK
  rw [index_at a b ha, wordsL_at a b ha, if_neg (by simp)]
  simp only [Int.toNat_natCast, Nat.add_zero, List.take_left', List.length_cons, List.length_nil]
  rw [← ih b hb]
  congr 2
  simp
theorem split_words (s : ByteArray) : Lib.splitB (bA [32]) 0 (Lib.countB s (bA [32])) s = wordsB s := by
 have h := Lib.splitB_data (bA [32]) 0 (Lib.countB s (bA [32])) s
 have hc : Lib.countB s (bA [32]) = s.data.toList.count 32 := (Lib.count_one 32 s.data.toList)
 have e : (bA [32]).data.toList = [32] := rfl
 rw [e, splitK_words _ _ hc.symm] at h
 unfold wordsB
 rw [show wordsL (bsOf s) = _ from h.symm, List.map_map]
 exact (List.map_id'' (fun x => bs_bA x) _).symm
theorem wordsB_ne (s : ByteArray) : wordsB s ≠ [] := by simp [wordsB, wordsL_ne]
theorem countB_words (s : ByteArray) : Lib.countB s (bA [32]) + 1 = (wordsB s).length := by
 rw [← split_words, Lib.splitB_all (bA [32]) (by decide) 0 _ s rfl]

/-! Numbers. -/
def numW (w : ByteArray) : Option Int := match Lib.atoiAll (bsOf w) with
  | .ok n => if Lib.itoa n = bsOf w then some n else none
  | _ => none
def wholeG (n : Int) : List UInt8 → Option Int
  | [] => some n
  | c :: r => if (c.toNat : Int) - 48 < 0 ∨ 9 < (c.toNat : Int) - 48 ∨ n < Int.tdiv (-9223372036854775808 + ((c.toNat : Int) - 48)) 10 then none else wholeG (10 * n - ((c.toNat : Int) - 48)) r
def wholeL (l : List UInt8) : Option Int :=
  if l.head? = some 45 then (if l.drop 1 = [] then none else wholeG 0 (l.drop 1))
  else if l = [] then none else match wholeG 0 l with
    | none => none
    | some n => if n = -9223372036854775808 then none else some (-n)
def numPg (w : ByteArray) : Option Int := if 20 < w.size then none else match wholeL (bsOf w) with
  | some n => if Lib.itoa n = bsOf w then some n else none
  | none => none

theorem digit_nat (u : Nat) (h : u < 10) : (UInt8.ofNat (48 + u)).toNat = 48 + u := by simp; omega
theorem decDigits_ne (u : Nat) : Lib.decDigits u ≠ [] := by
 rw [Lib.decDigits]; split <;> simp
theorem decDigits_head (u : Nat) : ∀ c r, Lib.decDigits u = c :: r → 48 ≤ c.toNat ∧ c.toNat ≤ 57 := by
 induction u using Nat.strongRecOn with
 | ind u ih =>
  intro c r h
  rw [Lib.decDigits] at h
  split at h
  · rename_i hu
    have := digit_nat u hu
    simp only [List.cons.injEq] at h
    rw [← h.1]; omega
  rename_i hu
  rcases hd : Lib.decDigits (u / 10) with _ | ⟨d, t⟩
  · exact absurd hd (decDigits_ne _)
  rw [hd, List.cons_append, List.cons.injEq] at h
  rw [← h.1]
  exact ih (u / 10) (by omega) d t hd
theorem parse_dec (u : Nat) (hu : u < 18446744073709551616) (r : List UInt8) : Lib.parseUint10 0 (Lib.decDigits u ++ r) = Lib.parseUint10 u r := by
 induction u using Nat.strongRecOn generalizing r with
 | ind u ih =>
  rw [Lib.decDigits]
  split
  · rename_i h
    have e := digit_nat u h
    simp only [List.singleton_append, Lib.parseUint10, e]
    rw [if_pos (by omega), if_neg (by omega), if_neg (by omega)]
    congr 1; omega
  rename_i h
  have e := digit_nat (u % 10) (by omega)
  rw [List.append_assoc, List.singleton_append, ih (u / 10) (by omega) (by omega)]
  simp only [Lib.parseUint10, e]
  rw [if_pos (by omega), if_neg (by omega), if_neg (by omega)]
  congr 1; omega
theorem whole_dec (u : Nat) (hu : u ≤ 9223372036854775808) (r : List UInt8) : wholeG 0 (Lib.decDigits u ++ r) = wholeG (-(u : Int)) r := by
 induction u using Nat.strongRecOn generalizing r with
 | ind u ih =>
  rw [Lib.decDigits]
  split
  · rename_i h
    have e := digit_nat u h
    have ht : Int.tdiv (-9223372036854775808 + (u : Int)) 10 ≤ 0 := by
     rw [show (-9223372036854775808 + (u : Int)) = -(((9223372036854775808 - u : Nat) : Int)) by omega, Int.neg_tdiv]
     have := Int.tdiv_nonneg (a := ((9223372036854775808 - u : Nat) : Int)) (b := 10) (by omega) (by omega)
     omega
    simp only [List.singleton_append, wholeG, e]
    rw [show ((48 + u : Nat) : Int) - 48 = u by omega, if_neg (by omega)]
    congr 1; omega
  rename_i h
  have e := digit_nat (u % 10) (by omega)
  rw [List.append_assoc, List.singleton_append, ih (u / 10) (by omega) (by omega)]
  have ht : Int.tdiv (-9223372036854775808 + ((u % 10 : Nat) : Int)) 10 ≤ -((u / 10 : Nat) : Int) := by
   rw [show (-9223372036854775808 + ((u % 10 : Nat) : Int)) = -(((9223372036854775808 - u % 10 : Nat) : Int)) by omega, Int.neg_tdiv]
   rw [Int.tdiv_eq_ediv_of_nonneg (by omega)]
   omega
  simp only [wholeG, e]
  rw [show ((48 + u % 10 : Nat) : Int) - 48 = (u % 10 : Nat) by omega, if_neg (by omega)]
  congr 1; omega
theorem atoi_itoa (n : Int) (h0 : -9223372036854775808 ≤ n) (h1 : n ≤ 9223372036854775807) : Lib.atoiAll (Lib.itoa n) = .ok n := by
 by_cases hn : n < 0
 · obtain ⟨u, rfl⟩ : ∃ u : Nat, n = -(u : Int) := ⟨n.natAbs, by omega⟩
   rw [Lib.itoa_neg u (by omega), Lib.atoiAll_minus]
   have h := parse_dec u (by omega) []
   rw [List.append_nil] at h
   unfold Lib.parseMag
   rw [if_neg (decDigits_ne u), h]
   simp only [Lib.parseUint10, Lib.signed]
   rw [if_neg (by omega)]
 obtain ⟨u, rfl⟩ : ∃ u : Nat, n = u := ⟨n.toNat, by omega⟩
 rw [Lib.itoa_nonneg]
 rcases hd : Lib.decDigits u with _ | ⟨c, r⟩
 · exact absurd hd (decDigits_ne u)
 have hh := decDigits_head u c r hd
 rw [Lib.atoiAll_plain c r (by omega) (by omega), ← hd]
 have h := parse_dec u (by omega) []
 rw [List.append_nil] at h
 unfold Lib.parseMag
 rw [if_neg (decDigits_ne u), h]
 simp only [Lib.parseUint10, Lib.signless]
 rw [if_neg (by omega)]
theorem whole_itoa (n : Int) (h0 : -9223372036854775808 ≤ n) (h1 : n ≤ 9223372036854775807) : wholeL (Lib.itoa n) = some n := by
 by_cases hn : n < 0
 · obtain ⟨u, rfl⟩ : ∃ u : Nat, n = -(u : Int) := ⟨n.natAbs, by omega⟩
   rw [Lib.itoa_neg u (by omega)]
   have h := whole_dec u (by omega) []
   rw [List.append_nil] at h
   unfold wholeL
   rw [List.head?_cons, if_pos rfl, List.drop_one, List.tail_cons, if_neg (decDigits_ne u), h]
   rfl
 obtain ⟨u, rfl⟩ : ∃ u : Nat, n = u := ⟨n.toNat, by omega⟩
 rw [Lib.itoa_nonneg]
 have hh : ¬ (Lib.decDigits u).head? = some 45 := by
  intro e
  rcases hd : Lib.decDigits u with _ | ⟨c, r⟩
  · exact absurd hd (decDigits_ne u)
  have hh := decDigits_head u c r hd
  rw [hd, List.head?_cons, Option.some.injEq] at e
  rw [e] at hh; revert hh; decide
 have h := whole_dec u (by omega) []
 rw [List.append_nil] at h
 unfold wholeL
 rw [if_neg hh, if_neg (decDigits_ne u), h]
 simp only [wholeG]
 rw [if_neg (by omega)]
 simp
theorem itoa_le20 (n : Int) (h0 : -9223372036854775808 ≤ n) (h1 : n ≤ 9223372036854775807) : (Lib.itoa n).length ≤ 20 := by
 have hd : ∀ u : Nat, u ≤ 9223372036854775808 → Lib.nDigits u ≤ 19 := by
  intro u hu
  rcases Nat.eq_zero_or_pos u with rfl | hp
  · rw [Lib.nDigits_small (by omega)]; omega
  by_cases hk : 1000000000000000000 ≤ u
  · have := Lib.nDigits_unique 18 u (by simpa using hk) (by simp; omega)
    omega
  rw [← Lib.decDigits_length]
  have hx : ∀ (k v : Nat), v < 10 ^ (k + 1) → Lib.nDigits v ≤ k + 1 := by
   intro k
   induction k with
   | zero => intro v hv; rw [Lib.nDigits_small (by simpa using hv)]; omega
   | succ k ih =>
    intro v hv
    by_cases h10 : v < 10
    · rw [Lib.nDigits_small h10]; omega
    rw [Lib.nDigits_big h10]
    have := ih (v / 10) (Nat.div_lt_of_lt_mul (by rw [Nat.mul_comm]; simpa [Nat.pow_succ] using hv))
    omega
  rw [Lib.decDigits_length]
  have := hx 17 u (by simp; omega)
  omega
 by_cases hn : n < 0
 · obtain ⟨u, rfl⟩ : ∃ u : Nat, n = -(u : Int) := ⟨n.natAbs, by omega⟩
   rw [Lib.itoa_neg u (by omega), List.length_cons, Lib.decDigits_length]
   have := hd u (by omega)
   omega
 obtain ⟨u, rfl⟩ : ∃ u : Nat, n = u := ⟨n.toNat, by omega⟩
 rw [Lib.itoa_nonneg, Lib.decDigits_length]
 have := hd u (by omega)
 omega
theorem wholeG_low : ∀ (l : List UInt8) (n m : Int), -9223372036854775808 ≤ n → n ≤ 0 → wholeG n l = some m → -9223372036854775808 ≤ m ∧ m ≤ 0
  | [], n, m, h0, h1, h => by simp only [wholeG, Option.some.injEq] at h; omega
  | c :: r, n, m, h0, h1, h => by
    unfold wholeG at h
    split at h
    · cases h
    rename_i hc
    have hd : 0 ≤ (c.toNat : Int) - 48 ∧ (c.toNat : Int) - 48 ≤ 9 ∧ Int.tdiv (-9223372036854775808 + ((c.toNat : Int) - 48)) 10 ≤ n := by omega
    obtain ⟨d, hdd⟩ : ∃ d : Nat, (c.toNat : Int) - 48 = d := ⟨((c.toNat : Int) - 48).toNat, by omega⟩
    rw [hdd] at hd h
    have ht : -((9223372036854775808 - d : Nat) : Int) ≤ 10 * n := by
     have h2 := hd.2.2
     rw [show (-9223372036854775808 + (d : Int)) = -(((9223372036854775808 - d : Nat) : Int)) by omega, Int.neg_tdiv, Int.tdiv_eq_ediv_of_nonneg (by omega)] at h2
     omega
    exact wholeG_low r _ m (by omega) (by omega) h
theorem wholeL_i64 {l : List UInt8} {n : Int} (h : wholeL l = some n) : -9223372036854775808 ≤ n ∧ n ≤ 9223372036854775807 := by
 unfold wholeL at h
 split at h
 · split at h
   · cases h
   have := wholeG_low _ 0 n (by omega) (by omega) h
   omega
 split at h
 · cases h
 split at h
 · cases h
 rename_i m hm
 have := wholeG_low _ 0 m (by omega) (by omega) hm
 split at h
 · cases h
 simp only [Option.some.injEq] at h
 omega
theorem numPg_eq (w : ByteArray) : numPg w = numW w := by
 have key : ∀ n, -9223372036854775808 ≤ n → n ≤ 9223372036854775807 → Lib.itoa n = bsOf w → numPg w = some n ∧ numW w = some n := by
  intro n h0 h1 h
  have hl := itoa_le20 n h0 h1
  rw [h] at hl
  have hs : w.size = (bsOf w).length := rfl
  constructor
  · unfold numPg
    rw [if_neg (by omega), ← h, whole_itoa n h0 h1]
    simp
  unfold numW
  rw [← h, atoi_itoa n h0 h1]
  simp
 rcases h : numW w with _ | n
 · rcases h' : numPg w with _ | n
   · rfl
   have h2 := h'
   unfold numPg at h'
   split at h'
   · cases h'
   split at h'
   · rename_i m hm
     split at h'
     · rename_i hi
       have hb := wholeL_i64 hm
       rw [(key m hb.1 hb.2 hi).2] at h; cases h
     cases h'
   cases h'
 unfold numW at h
 split at h
 · rename_i m hm
   split at h
   · rename_i hi
     have hb := Lib.atoiAll_bounds hm
     rw [(key m hb.1 hb.2 hi).1]; exact h
   cases h
 cases h
end Go.Proofs.YtmebipnljkopgaaGreatDoor
