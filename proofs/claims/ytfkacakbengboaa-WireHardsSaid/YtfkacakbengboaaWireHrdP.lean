/-
 Plain functions: hard states that are read, as the page (layer 10) reads them, and as package wire does. No program is walked here. Conditions: as each theorem names them.
-/
import Derived.Test.YtfkacakbengboaaWireRdP
import Derived.Test.YtfkacakbengboaaPackR
namespace Go.Proofs.Ytfkacakbengboaa
set_option linter.unusedSimpArgs false

/-- A hard state, its lists as lists. -/
structure AHard where
 term : Int
 vote : Int
 base : Int
 baseTerm : Int
 conf : AConf
 snap : List UInt8
 log : List AEntry
def AHard.zero : AHard := ⟨0, 0, 0, 0, AConf.zero, [], []⟩

/-- Entries as the page reads them: it stops at an error. -/
def rdEs : Nat → RS → List AEntry × RS
 | 0, r => ([], r)
 | n + 1, r => if r.e ≠ 0 then ([], r) else (r.entP.1 :: (rdEs n r.entP.2).1, (rdEs n r.entP.2).2)
/-- Entries as package wire reads them: it throws, or reads them all. -/
def wEs : Nat → RS → Option (List AEntry × RS)
 | 0, r => some ([], r)
 | n + 1, r => if r.entT then none else match wEs n r.entP.2 with
  | none => none
  | some (l, s) => some (r.entP.1 :: l, s)
/-- The page's readList. -/
def RS.listP (r : RS) (most : Int) : List AEntry × RS :=
 let q := r.int
 let s := if q.1 < 0 ∨ most < q.1 then q.2.fail 3 else q.2
 rdEs q.1.toNat s
/-- wire's entries. -/
def RS.listW (r : RS) (most : Int) : Option (List AEntry × RS) := if 0 ≤ r.int.1 ∧ r.int.1 ≤ most then wEs r.int.1.toNat r.int.2 else none
def RS.hd4 (r : RS) : RS := r.int.2.int.2.int.2.int.2
def RS.hardP (r : RS) (n : Int) : AHard × RS :=
 let a := r.int; let b := a.2.int; let c := b.2.int; let d := c.2.int; let f := d.2.confP; let t := f.2.text; let l := t.2.listP n
 (⟨a.1, b.1, c.1, d.1, f.1, t.1, l.1⟩, l.2)
def RS.hardW (r : RS) : Option (AHard × RS) :=
 let a := r.int; let b := a.2.int; let c := b.2.int; let d := c.2.int; let f := d.2.confP; let t := f.2.text
 match t.2.listW t.2.leftN with
 | none => none
 | some l => some (⟨a.1, b.1, c.1, d.1, f.1, t.1, l.1⟩, l.2)
def readHardP (b : List UInt8) : Option AHard := if (RS.hardP ⟨b, 0⟩ b.length).2.done = 0 ∧ b.length ≤ 16384 then some (RS.hardP ⟨b, 0⟩ b.length).1 else none
def wReadHard (b : List UInt8) : Option AHard := if 16384 < b.length then none else match RS.hardW ⟨b, 0⟩ with
 | none => none
 | some (h, r) => if r.done ≠ 0 then none else some h

/-- An error stays. -/
theorem confP_st {r : RS} (h : r.e ≠ 0) : r.confP.2 = r := by
 unfold RS.confP
 simp only [int_st h]
theorem entP_st {r : RS} (h : r.e ≠ 0) : r.entP.2 = r := by
 unfold RS.entP
 simp only [int_st h]
 rfl
theorem entT_st {r : RS} (h : r.e ≠ 0) : r.entT = false := by
 unfold RS.entT
 rw [int_st h]
 simp only [int_st h]
 rfl
theorem wEs_st : ∀ (n : Nat) {r : RS}, r.e ≠ 0 → ∃ l, wEs n r = some (l, r)
 | 0, r, _ => ⟨[], rfl⟩
 | n + 1, r, h => by
  obtain ⟨l, hl⟩ := wEs_st n h
  refine ⟨r.entP.1 :: l, ?_⟩
  rw [wEs, entT_st h, entP_st h, hl]
  rfl
theorem rdEs_st (n : Nat) {r : RS} (h : r.e ≠ 0) : rdEs n r = ([], r) := by
 cases n with
 | zero => rfl
 | succ n => rw [rdEs, if_pos h]
theorem rdEs_step (n : Nat) {r : RS} (h : r.e = 0) : rdEs (n + 1) r = (r.entP.1 :: (rdEs n r.entP.2).1, (rdEs n r.entP.2).2) := by
 rw [rdEs, if_neg (by simpa using h)]
/-- What is read without an error is the same; where one of the two has an error, or throws, the other has one, too. -/
theorem es_eq : ∀ (n : Nat) (r : RS), (∃ l s, wEs n r = some (l, s) ∧ s.e = 0 ∧ rdEs n r = (l, s)) ∨ ((wEs n r = none ∨ ∃ l s, wEs n r = some (l, s) ∧ s.e ≠ 0) ∧ (rdEs n r).2.e ≠ 0)
 | 0, r => by
  by_cases h : r.e = 0
  ·
   exact .inl ⟨[], r, rfl, h, rfl⟩
  ·
   exact .inr ⟨.inr ⟨[], r, rfl, h⟩, h⟩
 | n + 1, r => by
  by_cases h : r.e = 0
  ·
   rw [rdEs_step n h, wEs]
   rcases ht : r.entT with _ | _
   ·
    rw [if_neg (by simp)]
    rcases es_eq n r.entP.2 with ⟨l, s, h1, h2, h3⟩ | ⟨h1, h2⟩
    ·
     exact .inl ⟨r.entP.1 :: l, s, by rw [h1], h2, by rw [h3]⟩
    ·
     refine .inr ⟨?_, h2⟩
     rcases h1 with h1 | ⟨l, s, h1, h3⟩
     ·
      exact .inl (by rw [h1])
     ·
      exact .inr ⟨r.entP.1 :: l, s, by rw [h1], h3⟩
   ·
    rw [if_pos rfl]
    refine .inr ⟨.inl rfl, ?_⟩
    have := entT_e ht
    rw [rdEs_st n this]
    exact this
  ·
   refine .inr ⟨.inr ?_, ?_⟩
   ·
    obtain ⟨l, hl⟩ := wEs_st (n + 1) h
    exact ⟨l, r, hl, h⟩
   ·
    rw [rdEs_st _ h]
    exact h
/-- An int that is read without an error takes a byte. -/
theorem int_ok {r : RS} (h : r.int.2.e = 0) : r.e = 0 ∧ r.int.2.left.length < r.left.length := by
 by_cases he : r.e = 0
 ·
  refine ⟨he, ?_⟩
  unfold RS.int at h ⊢
  rw [if_neg (by simpa using he)] at h ⊢
  rcases hv : rdVar 0 0 r.left with _ | ⟨z, l⟩
  ·
   rw [hv] at h
   simp at h
  ·
   exact (rdVar_lt _ 0 0 z l (by omega) (by decide) hv).2
 ·
  rw [int_st he] at h
  exact absurd h he
theorem text_ok {r : RS} (h : r.text.2.e = 0) : r.e = 0 ∧ r.text.2.left.length < r.left.length := by
 rw [text_eq] at h ⊢
 split at h
 ·
  rename_i h1; exact absurd h h1
 ·
  rename_i h1
  have h1 : r.int.2.e = 0 := by simpa using h1
  obtain ⟨h2, h3⟩ := int_ok h1
  refine ⟨h2, ?_⟩
  split at h
  ·
   simp at h
  split at h
  ·
   simp at h
  ·
   rename_i h4 h5
   rw [if_neg (by simpa using h1), if_neg h4, if_neg h5]
   simp only [List.length_drop]
   omega
theorem float_ok {r : RS} (h : r.float.2.e = 0) : r.e = 0 ∧ r.float.2.left.length ≤ r.left.length := by
 unfold RS.float at h ⊢
 split at h
 ·
  rename_i h1; exact absurd h h1
 ·
  rename_i h1
  refine ⟨by simpa using h1, ?_⟩
  rw [if_neg h1]
  split at h
  ·
   simp at h
  split at h
  ·
   simp at h
  ·
   rename_i h2 h3
   rw [if_neg h2, if_neg h3]
   simp
theorem fail_le (r : RS) : (r.fail 3).left = r.left := by unfold RS.fail; split <;> rfl
theorem valP_ok {r : RS} (h : r.valP.2.e = 0) : r.e = 0 ∧ r.valP.2.left.length < r.left.length := by
 unfold RS.valP RS.val at h ⊢
 split at h
 ·
  rename_i h0
  rw [if_pos h0]
  split at h
  ·
   rename_i h1
   rw [if_pos h1]
   obtain ⟨h2, h3⟩ := float_ok h
   obtain ⟨h4, h5⟩ := int_ok h2
   exact ⟨h4, by simp only; omega⟩
  ·
   rename_i h1
   rw [if_neg h1]
   split at h
   ·
    rename_i h2
    rw [if_pos h2]
    obtain ⟨h3, h4⟩ := text_ok h
    obtain ⟨h5, h6⟩ := int_ok h3
    exact ⟨h5, by simp only; omega⟩
   ·
    rename_i h2
    rw [if_neg h2]
    exact int_ok h
 ·
  exact absurd h (fail_e _)
theorem callP_ok {r : RS} (h : r.callP.2.e = 0) : r.e = 0 ∧ r.callP.2.left.length < r.left.length := by
 unfold RS.callP at h ⊢
 simp only at h ⊢
 obtain ⟨h1, l1⟩ := valP_ok h
 obtain ⟨h2, l2⟩ := valP_ok h1
 obtain ⟨h3, l3⟩ := text_ok h2
 obtain ⟨h4, l4⟩ := int_ok h3
 obtain ⟨h5, l5⟩ := int_ok h4
 obtain ⟨h6, l6⟩ := int_ok h5
 exact ⟨h6, by omega⟩
theorem confP_ok {r : RS} (h : r.confP.2.e = 0) : r.e = 0 ∧ r.confP.2.left.length < r.left.length := by
 unfold RS.confP at h ⊢
 simp only at h ⊢
 obtain ⟨h3, l3⟩ := int_ok h
 obtain ⟨h4, l4⟩ := int_ok h3
 obtain ⟨h5, l5⟩ := int_ok h4
 obtain ⟨h6, l6⟩ := int_ok h5
 exact ⟨h6, by omega⟩
theorem entP_ok {r : RS} (h : r.entP.2.e = 0) : r.e = 0 ∧ r.entP.2.left.length < r.left.length := by
 unfold RS.entP at h ⊢
 simp only at h ⊢
 have hlast : ∀ s : RS, s = r.int.2.int.2 → s.e = 0 → r.e = 0 ∧ s.left.length < r.left.length := by
  rintro s rfl h
  obtain ⟨h5, l5⟩ := int_ok h
  obtain ⟨h6, l6⟩ := int_ok h5
  exact ⟨h6, by omega⟩
 split at h
 ·
  rename_i h0
  rw [if_pos h0]
  exact hlast _ rfl h
 ·
  rename_i h0
  rw [if_neg h0]
  split at h
  ·
   rename_i h1
   rw [if_pos h1]
   obtain ⟨h2, l2⟩ := callP_ok h
   obtain ⟨h3, l3⟩ := hlast _ rfl h2
   exact ⟨h3, by simp only; omega⟩
  ·
   rename_i h1
   rw [if_neg h1]
   split at h
   ·
    rename_i h2
    rw [if_pos h2]
    obtain ⟨h3, l3⟩ := confP_ok h
    obtain ⟨h4, l4⟩ := hlast _ rfl h3
    exact ⟨h4, by simp only; omega⟩
   ·
    exact absurd h (fail_e _)
/-- So many entries take as many bytes. -/
theorem rdEs_ok : ∀ (n : Nat) (r : RS), (rdEs n r).2.e = 0 → r.e = 0 ∧ n ≤ r.left.length
 | 0, r, h => ⟨h, Nat.zero_le _⟩
 | n + 1, r, h => by
  by_cases he : r.e = 0
  ·
   rw [rdEs_step n he] at h
   obtain ⟨h1, h2⟩ := rdEs_ok n r.entP.2 h
   obtain ⟨h3, h4⟩ := entP_ok h1
   exact ⟨h3, by omega⟩
  ·
   rw [rdEs_st _ he] at h
   exact absurd h he
/-- The lists are the same, or each has an error. -/
theorem list_eq (r : RS) (n : Int) (hn : (r.left.length : Int) ≤ n) : (∃ l s, r.listW r.leftN = some (l, s) ∧ s.e = 0 ∧ r.listP n = (l, s)) ∨ ((r.listW r.leftN = none ∨ ∃ l s, r.listW r.leftN = some (l, s) ∧ s.e ≠ 0) ∧ (r.listP n).2.e ≠ 0) := by
 unfold RS.listW RS.listP
 simp only
 by_cases he : r.e = 0
 ·
  have hl : r.leftN = r.left.length := by unfold RS.leftN; rw [if_neg (by simpa using he)]
  have hk := int_left_le r
  rw [hl]
  by_cases h0 : 0 ≤ r.int.1 ∧ r.int.1 ≤ (r.left.length : Int)
  ·
   rw [if_pos h0, if_neg (by omega)]
   exact es_eq _ _
  ·
   rw [if_neg h0]
   refine .inr ⟨.inl rfl, ?_⟩
   split
   ·
    rw [rdEs_st _ (fail_e _)]
    exact fail_e _
   ·
    rename_i h1
    intro h2
    have := (rdEs_ok _ _ h2).2
    omega
 ·
  have hl : r.leftN = 0 := by unfold RS.leftN; rw [if_pos he]
  rw [hl, int_st he]
  rw [if_pos (by simp)]
  refine .inr ⟨.inr ⟨[], r, rfl, he⟩, ?_⟩
  have hf : (r.fail 3) = r := by unfold RS.fail; rw [if_neg he]
  split
  ·
   rw [hf]; exact he
  ·
   exact he
theorem text_left_le (r : RS) : r.text.2.left.length ≤ r.left.length := by
 have h := int_left_le r
 rw [text_eq]
 split
 ·
  exact h
 split
 ·
  exact h
 split
 ·
  exact h
 ·
  simp only [List.length_drop]; omega
theorem confP_left_le (r : RS) : r.confP.2.left.length ≤ r.left.length := by
 unfold RS.confP
 simp only
 have h1 := int_left_le r
 have h2 := int_left_le r.int.2
 have h3 := int_left_le r.int.2.int.2
 have h4 := int_left_le r.int.2.int.2.int.2
 omega
/-- The hard state of any bytes is the page's. -/
theorem read_hard (b : List UInt8) : wReadHard b = readHardP b := by
 unfold wReadHard readHardP
 by_cases hl : 16384 < b.length
 ·
  rw [if_pos hl, if_neg (by omega)]
 rw [if_neg hl]
 unfold RS.hardW RS.hardP
 simp only
 obtain ⟨r, hr⟩ : ∃ r, (RS.int ⟨b, 0⟩).2.int.2.int.2.int.2.confP.2.text.2 = r := ⟨_, rfl⟩
 have hle : r.left.length ≤ b.length := by
  rw [← hr]
  have h1 := int_left_le ⟨b, 0⟩
  have h2 := int_left_le (RS.int ⟨b, 0⟩).2
  have h3 := int_left_le (RS.int ⟨b, 0⟩).2.int.2
  have h4 := int_left_le (RS.int ⟨b, 0⟩).2.int.2.int.2
  have h5 := confP_left_le (RS.int ⟨b, 0⟩).2.int.2.int.2.int.2
  have h6 := text_left_le (RS.int ⟨b, 0⟩).2.int.2.int.2.int.2.confP.2
  simp only at h1
  omega
 rw [hr]
 rcases list_eq r b.length (by omega) with ⟨l, s, h1, h2, h3⟩ | ⟨h1, h2⟩
 ·
  rw [h1, h3]
  simp only
  by_cases hd : s.done = 0
  ·
   rw [if_neg (by simpa using hd), if_pos ⟨hd, by omega⟩]
  ·
   rw [if_pos hd, if_neg (fun h => hd h.1)]
 ·
  rw [if_neg (fun h => ?_)]
  ·
   rcases h1 with h1 | ⟨l, s, h1, h3⟩
   ·
    rw [h1]
   ·
    rw [h1]
    simp only
    rw [if_pos]
    unfold RS.done
    split
    ·
     simp
    ·
     exact h3
  ·
   obtain ⟨hd, _⟩ := h
   unfold RS.done at hd
   split at hd
   ·
    cases hd
   ·
    exact h2 hd
end Go.Proofs.Ytfkacakbengboaa
