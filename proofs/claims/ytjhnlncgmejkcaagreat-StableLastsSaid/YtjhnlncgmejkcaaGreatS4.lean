/-
 Plain functions: hard states that are read, as the page (layer 10) reads them, and as package wire does. No program is walked here. Conditions: as each theorem names them.
 Plain functions: what a right hard state is (layers 8, 9), and that what is written of its entries, and of it, is read again. No program is walked here. Conditions: as each theorem names them.
-/
import Derived.Test.YtjhnlncgmejkcaaGreatS3
import Derived.Test.YtjhnlncgmejkcaaGreatPackR
import Derived.Test.YtjhnlncgmejkcaaGreatGSpec
namespace Go.Proofs.YtjhnlncgmejkcaaGreat
set_option linter.unusedSimpArgs false

/-- A hard state, its lists as lists. -/
structure AHard where
 term : Int
 vote : Int
 base : Int
 baseTerm : Int
 conf : AConf
 snap : List UInt8
 log : List AEntry
def AHard.zero : AHard := ⟨0, 0, 0, 0, AConf.zero, [], []⟩

/-- Entries as the page reads them: it stops at an error. -/
def rdEs : Nat → RS → List AEntry × RS
 | 0, r => ([], r)
 | n + 1, r => if r.e ≠ 0 then ([], r) else (r.entP.1 :: (rdEs n r.entP.2).1, (rdEs n r.entP.2).2)
/-- Entries as package wire reads them: it throws, or reads them all. -/
def wEs : Nat → RS → Option (List AEntry × RS)
 | 0, r => some ([], r)
 | n + 1, r => if r.entT then none else match wEs n r.entP.2 with
  | none => none
  | some (l, s) => some (r.entP.1 :: l, s)
/-- The page's readList. -/
def RS.listP (r : RS) (most : Int) : List AEntry × RS :=
 let q := r.int
 let s := if q.1 < 0 ∨ most < q.1 then q.2.fail 3 else q.2
 rdEs q.1.toNat s
/-- wire's entries. -/
def RS.listW (r : RS) (most : Int) : Option (List AEntry × RS) := if 0 ≤ r.int.1 ∧ r.int.1 ≤ most then wEs r.int.1.toNat r.int.2 else none
def RS.hd4 (r : RS) : RS := r.int.2.int.2.int.2.int.2
def RS.hardP (r : RS) (n : Int) : AHard × RS :=
 let a := r.int; let b := a.2.int; let c := b.2.int; let d := c.2.int; let f := d.2.confP; let t := f.2.text; let l := t.2.listP n
 (⟨a.1, b.1, c.1, d.1, f.1, t.1, l.1⟩, l.2)
def RS.hardW (r : RS) : Option (AHard × RS) :=
 let a := r.int; let b := a.2.int; let c := b.2.int; let d := c.2.int; let f := d.2.confP; let t := f.2.text
 match t.2.listW t.2.leftN with
 | none => none
 | some l => some (⟨a.1, b.1, c.1, d.1, f.1, t.1, l.1⟩, l.2)
def readHardP (b : List UInt8) : Option AHard := if (RS.hardP ⟨b, 0⟩ b.length).2.done = 0 ∧ b.length ≤ 16384 then some (RS.hardP ⟨b, 0⟩ b.length).1 else none
def wReadHard (b : List UInt8) : Option AHard := if 16384 < b.length then none else match RS.hardW ⟨b, 0⟩ with
 | none => none
 | some (h, r) => if r.done ≠ 0 then none else some h

/-- An error stays. -/
theorem confP_st {r : RS} (h : r.e ≠ 0) : r.confP.2 = r := by
 unfold RS.confP
 simp only [int_st h]
theorem entP_st {r : RS} (h : r.e ≠ 0) : r.entP.2 = r := by
 unfold RS.entP
 simp only [int_st h]
 rfl
theorem entT_st {r : RS} (h : r.e ≠ 0) : r.entT = false := by
 unfold RS.entT
 rw [int_st h]
 simp only [int_st h]
 rfl
theorem wEs_st : ∀ (n : Nat) {r : RS}, r.e ≠ 0 → ∃ l, wEs n r = some (l, r)
 | 0, r, _ => ⟨[], rfl⟩
 | n + 1, r, h => by
  obtain ⟨l, hl⟩ := wEs_st n h
  refine ⟨r.entP.1 :: l, ?_⟩
  rw [wEs, entT_st h, entP_st h, hl]
  rfl
theorem rdEs_st (n : Nat) {r : RS} (h : r.e ≠ 0) : rdEs n r = ([], r) := by
 cases n with
 | zero => rfl
 | succ n => rw [rdEs, if_pos h]
theorem rdEs_step (n : Nat) {r : RS} (h : r.e = 0) : rdEs (n + 1) r = (r.entP.1 :: (rdEs n r.entP.2).1, (rdEs n r.entP.2).2) := by
 rw [rdEs, if_neg (by simpa using h)]
/-- What is read without an error is the same; where one of the two has an error, or throws, the other has one, too. -/
theorem es_eq : ∀ (n : Nat) (r : RS), (∃ l s, wEs n r = some (l, s) ∧ s.e = 0 ∧ rdEs n r = (l, s)) ∨ ((wEs n r = none ∨ ∃ l s, wEs n r = some (l, s) ∧ s.e ≠ 0) ∧ (rdEs n r).2.e ≠ 0)
 | 0, r => by
  by_cases h : r.e = 0
  ·
   exact .inl ⟨[], r, rfl, h, rfl⟩
  ·
   exact .inr ⟨.inr ⟨[], r, rfl, h⟩, h⟩
 | n + 1, r => by
  by_cases h : r.e = 0
  ·
   rw [rdEs_step n h, wEs]
   rcases ht : r.entT with _ | _
   ·
    rw [if_neg (by simp)]
    rcases es_eq n r.entP.2 with ⟨l, s, h1, h2, h3⟩ | ⟨h1, h2⟩
    ·
     exact .inl ⟨r.entP.1 :: l, s, by rw [h1], h2, by rw [h3]⟩
    ·
     refine .inr ⟨?_, h2⟩
     rcases h1 with h1 | ⟨l, s, h1, h3⟩
     ·
      exact .inl (by rw [h1])
     ·
      exact .inr ⟨r.entP.1 :: l, s, by rw [h1], h3⟩
   ·
    rw [if_pos rfl]
    refine .inr ⟨.inl rfl, ?_⟩
    have := entT_e ht
    rw [rdEs_st n this]
    exact this
  ·
   refine .inr ⟨.inr ?_, ?_⟩
   ·
    obtain ⟨l, hl⟩ := wEs_st (n + 1) h
    exact ⟨l, r, hl, h⟩
   ·
    rw [rdEs_st _ h]
    exact h
/-- An int that is read without an error takes a byte. -/
theorem int_ok {r : RS} (h : r.int.2.e = 0) : r.e = 0 ∧ r.int.2.left.length < r.left.length := by
 by_cases he : r.e = 0
 ·
  refine ⟨he, ?_⟩
  unfold RS.int at h ⊢
  rw [if_neg (by simpa using he)] at h ⊢
  rcases hv : rdVar 0 0 r.left with _ | ⟨z, l⟩
  ·
   rw [hv] at h
   simp at h
  ·
   exact (rdVar_lt _ 0 0 z l (by omega) (by decide) hv).2
 ·
  rw [int_st he] at h
  exact absurd h he
theorem text_ok {r : RS} (h : r.text.2.e = 0) : r.e = 0 ∧ r.text.2.left.length < r.left.length := by
 rw [text_eq] at h ⊢
 split at h
 ·
  rename_i h1; exact absurd h h1
 ·
  rename_i h1
  have h1 : r.int.2.e = 0 := by simpa using h1
  obtain ⟨h2, h3⟩ := int_ok h1
  refine ⟨h2, ?_⟩
  split at h
  ·
   simp at h
  split at h
  ·
   simp at h
  ·
   rename_i h4 h5
   rw [if_neg (by simpa using h1), if_neg h4, if_neg h5]
   simp only [List.length_drop]
   omega
theorem float_ok {r : RS} (h : r.float.2.e = 0) : r.e = 0 ∧ r.float.2.left.length ≤ r.left.length := by
 unfold RS.float at h ⊢
 split at h
 ·
  rename_i h1; exact absurd h h1
 ·
  rename_i h1
  refine ⟨by simpa using h1, ?_⟩
  rw [if_neg h1]
  split at h
  ·
   simp at h
  split at h
  ·
   simp at h
  ·
   rename_i h2 h3
   rw [if_neg h2, if_neg h3]
   simp
theorem fail_le (r : RS) : (r.fail 3).left = r.left := by unfold RS.fail; split <;> rfl
theorem valP_ok {r : RS} (h : r.valP.2.e = 0) : r.e = 0 ∧ r.valP.2.left.length < r.left.length := by
 unfold RS.valP RS.val at h ⊢
 split at h
 ·
  rename_i h0
  rw [if_pos h0]
  split at h
  ·
   rename_i h1
   rw [if_pos h1]
   obtain ⟨h2, h3⟩ := float_ok h
   obtain ⟨h4, h5⟩ := int_ok h2
   exact ⟨h4, by simp only; omega⟩
  ·
   rename_i h1
   rw [if_neg h1]
   split at h
   ·
    rename_i h2
    rw [if_pos h2]
    obtain ⟨h3, h4⟩ := text_ok h
    obtain ⟨h5, h6⟩ := int_ok h3
    exact ⟨h5, by simp only; omega⟩
   ·
    rename_i h2
    rw [if_neg h2]
    exact int_ok h
 ·
  exact absurd h (fail_e _)
theorem callP_ok {r : RS} (h : r.callP.2.e = 0) : r.e = 0 ∧ r.callP.2.left.length < r.left.length := by
 unfold RS.callP at h ⊢
 simp only at h ⊢
 obtain ⟨h1, l1⟩ := valP_ok h
 obtain ⟨h2, l2⟩ := valP_ok h1
 obtain ⟨h3, l3⟩ := text_ok h2
 obtain ⟨h4, l4⟩ := int_ok h3
 obtain ⟨h5, l5⟩ := int_ok h4
 obtain ⟨h6, l6⟩ := int_ok h5
 exact ⟨h6, by omega⟩
theorem confP_ok {r : RS} (h : r.confP.2.e = 0) : r.e = 0 ∧ r.confP.2.left.length < r.left.length := by
 unfold RS.confP at h ⊢
 simp only at h ⊢
 obtain ⟨h3, l3⟩ := int_ok h
 obtain ⟨h4, l4⟩ := int_ok h3
 obtain ⟨h5, l5⟩ := int_ok h4
 obtain ⟨h6, l6⟩ := int_ok h5
 exact ⟨h6, by omega⟩
theorem entP_ok {r : RS} (h : r.entP.2.e = 0) : r.e = 0 ∧ r.entP.2.left.length < r.left.length := by
 unfold RS.entP at h ⊢
 simp only at h ⊢
 have hlast : ∀ s : RS, s = r.int.2.int.2 → s.e = 0 → r.e = 0 ∧ s.left.length < r.left.length := by
  rintro s rfl h
  obtain ⟨h5, l5⟩ := int_ok h
  obtain ⟨h6, l6⟩ := int_ok h5
  exact ⟨h6, by omega⟩
 split at h
 ·
  rename_i h0
  rw [if_pos h0]
  exact hlast _ rfl h
 ·
  rename_i h0
  rw [if_neg h0]
  split at h
  ·
   rename_i h1
   rw [if_pos h1]
   obtain ⟨h2, l2⟩ := callP_ok h
   obtain ⟨h3, l3⟩ := hlast _ rfl h2
   exact ⟨h3, by simp only; omega⟩
  ·
   rename_i h1
   rw [if_neg h1]
   split at h
   ·
    rename_i h2
    rw [if_pos h2]
    obtain ⟨h3, l3⟩ := confP_ok h
    obtain ⟨h4, l4⟩ := hlast _ rfl h3
    exact ⟨h4, by simp only; omega⟩
   ·
    exact absurd h (fail_e _)
/-- So many entries take as many bytes. -/
theorem rdEs_ok : ∀ (n : Nat) (r : RS), (rdEs n r).2.e = 0 → r.e = 0 ∧ n ≤ r.left.length
 | 0, r, h => ⟨h, Nat.zero_le _⟩
 | n + 1, r, h => by
  by_cases he : r.e = 0
  ·
   rw [rdEs_step n he] at h
   obtain ⟨h1, h2⟩ := rdEs_ok n r.entP.2 h
   obtain ⟨h3, h4⟩ := entP_ok h1
   exact ⟨h3, by omega⟩
  ·
   rw [rdEs_st _ he] at h
   exact absurd h he
/-- The lists are the same, or each has an error. -/
theorem list_eq (r : RS) (n : Int) (hn : (r.left.length : Int) ≤ n) : (∃ l s, r.listW r.leftN = some (l, s) ∧ s.e = 0 ∧ r.listP n = (l, s)) ∨ ((r.listW r.leftN = none ∨ ∃ l s, r.listW r.leftN = some (l, s) ∧ s.e ≠ 0) ∧ (r.listP n).2.e ≠ 0) := by
 unfold RS.listW RS.listP
 simp only
 by_cases he : r.e = 0
 ·
  have hl : r.leftN = r.left.length := by unfold RS.leftN; rw [if_neg (by simpa using he)]
  have hk := int_left_le r
  rw [hl]
  by_cases h0 : 0 ≤ r.int.1 ∧ r.int.1 ≤ (r.left.length : Int)
  ·
   rw [if_pos h0, if_neg (by omega)]
   exact es_eq _ _
  ·
   rw [if_neg h0]
   refine .inr ⟨.inl rfl, ?_⟩
   split
   ·
    rw [rdEs_st _ (fail_e _)]
    exact fail_e _
   ·
    rename_i h1
    intro h2
    have := (rdEs_ok _ _ h2).2
    omega
 ·
  have hl : r.leftN = 0 := by unfold RS.leftN; rw [if_pos he]
  rw [hl, int_st he]
  rw [if_pos (by simp)]
  refine .inr ⟨.inr ⟨[], r, rfl, he⟩, ?_⟩
  have hf : (r.fail 3) = r := by unfold RS.fail; rw [if_neg he]
  split
  ·
   rw [hf]; exact he
  ·
   exact he
theorem text_left_le (r : RS) : r.text.2.left.length ≤ r.left.length := by
 have h := int_left_le r
 rw [text_eq]
 split
 ·
  exact h
 split
 ·
  exact h
 split
 ·
  exact h
 ·
  simp only [List.length_drop]; omega
theorem confP_left_le (r : RS) : r.confP.2.left.length ≤ r.left.length := by
 unfold RS.confP
 simp only
 have h1 := int_left_le r
 have h2 := int_left_le r.int.2
 have h3 := int_left_le r.int.2.int.2
 have h4 := int_left_le r.int.2.int.2.int.2
 omega
/-- The hard state of any bytes is the page's. -/
theorem read_hard (b : List UInt8) : wReadHard b = readHardP b := by
 unfold wReadHard readHardP
 by_cases hl : 16384 < b.length
 ·
  rw [if_pos hl, if_neg (by omega)]
 rw [if_neg hl]
 unfold RS.hardW RS.hardP
 simp only
 obtain ⟨r, hr⟩ : ∃ r, (RS.int ⟨b, 0⟩).2.int.2.int.2.int.2.confP.2.text.2 = r := ⟨_, rfl⟩
 have hle : r.left.length ≤ b.length := by
  rw [← hr]
  have h1 := int_left_le ⟨b, 0⟩
  have h2 := int_left_le (RS.int ⟨b, 0⟩).2
  have h3 := int_left_le (RS.int ⟨b, 0⟩).2.int.2
  have h4 := int_left_le (RS.int ⟨b, 0⟩).2.int.2.int.2
  have h5 := confP_left_le (RS.int ⟨b, 0⟩).2.int.2.int.2.int.2
  have h6 := text_left_le (RS.int ⟨b, 0⟩).2.int.2.int.2.int.2.confP.2
  simp only at h1
  omega
 rw [hr]
 rcases list_eq r b.length (by omega) with ⟨l, s, h1, h2, h3⟩ | ⟨h1, h2⟩
 ·
  rw [h1, h3]
  simp only
  by_cases hd : s.done = 0
  ·
   rw [if_neg (by simpa using hd), if_pos ⟨hd, by omega⟩]
  ·
   rw [if_pos hd, if_neg (fun h => hd h.1)]
 ·
  rw [if_neg (fun h => ?_)]
  ·
   rcases h1 with h1 | ⟨l, s, h1, h3⟩
   ·
    rw [h1]
   ·
    rw [h1]
    simp only
    rw [if_pos]
    unfold RS.done
    split
    ·
     simp
    ·
     exact h3
  ·
   obtain ⟨hd, _⟩ := h
   unfold RS.done at hd
   split at hd
   ·
    cases hd
   ·
    exact h2 hd
end Go.Proofs.YtjhnlncgmejkcaaGreat
namespace Go.Proofs.YtjhnlncgmejkcaaGreat
set_option linter.unusedSimpArgs false

/-- What sess.Right tells of a call. -/
def numB (client seq : Int) : Bool := decide (1 ≤ client) && decide (client ≤ 4) && decide (1 ≤ seq) && decide (seq ≤ 1099511627776)
def callE (c : ACall) : Int := if numB c.client c.seq = false then 1 else cmdE c.cmd
def bit7 (n : Int) : Bool := decide (0 ≤ n) && decide (n ≤ 127)
/-- A right configuration. -/
def confOk (c : AConf) : Bool := bit7 c.full && bit7 c.wit && bit7 c.learn && bit7 c.learnWit && (c.full.toNat &&& c.wit.toNat == 0) && ((c.full.toNat ||| c.wit.toNat) &&& c.learn.toNat == 0) && ((c.full.toNat ||| c.wit.toNat ||| c.learn.toNat) &&& c.learnWit.toNat == 0) && c.full != 0
/-- A right entry, its term aside. -/
def rightE (x : AEntry) : Bool :=
 if x.kind = 0 then noCallB x.call && confB x.conf else if x.kind = 1 then callE x.call == 0 && confB x.conf else if x.kind = 2 then noCallB x.call && confOk x.conf else false
def rowB (term : Int) : Int → List AEntry → Bool
 | _, [] => true
 | last, x :: l => decide (last ≤ x.term) && decide (x.term ≤ term) && rightE x && rowB term x.term l
/-- A right hard state. -/
def checkH (h : AHard) : Bool :=
 decide (0 ≤ h.term) && decide (h.term ≤ 1099511627776) && decide (-1 ≤ h.vote) && decide (h.vote ≤ 6) && decide (0 ≤ h.base) && decide (h.base ≤ 1099511627776) && decide (0 ≤ h.baseTerm) && decide (h.baseTerm ≤ h.term) && ((h.baseTerm == 0) == (h.base == 0)) && confOk h.conf && decide (h.snap.length ≤ 16384) && (h.base != 0 || decide (h.snap.length = 0)) && rowB h.term (max h.baseTerm 1) h.log
structure Right (h : AHard) : Prop where
 t0 : 0 ≤ h.term
 t1 : h.term ≤ 1099511627776
 v0 : -1 ≤ h.vote
 v1 : h.vote ≤ 6
 b0 : 0 ≤ h.base
 b1 : h.base ≤ 1099511627776
 bt0 : 0 ≤ h.baseTerm
 bt1 : h.baseTerm ≤ h.term
 bb : (h.baseTerm == 0) = (h.base == 0)
 c : confOk h.conf = true
 s : h.snap.length ≤ 16384
 bs : h.base ≠ 0 ∨ h.snap.length = 0
 r : rowB h.term (max h.baseTerm 1) h.log = true
theorem checkH_iff (h : AHard) : checkH h = true ↔ Right h := by
 unfold checkH
 simp only [Bool.and_eq_true, decide_eq_true_eq, beq_iff_eq, Bool.or_eq_true, bne_iff_ne]
 constructor
 ·
  rintro ⟨⟨⟨⟨⟨⟨⟨⟨⟨⟨⟨⟨h1, h2⟩, h3⟩, h4⟩, h5⟩, h6⟩, h7⟩, h8⟩, h9⟩, h10⟩, h11⟩, h12⟩, h13⟩
  exact ⟨h1, h2, h3, h4, h5, h6, h7, h8, h9, h10, h11, h12, h13⟩
 ·
  rintro ⟨h1, h2, h3, h4, h5, h6, h7, h8, h9, h10, h11, h12, h13⟩
  exact ⟨⟨⟨⟨⟨⟨⟨⟨⟨⟨⟨⟨h1, h2⟩, h3⟩, h4⟩, h5⟩, h6⟩, h7⟩, h8⟩, h9⟩, h10⟩, h11⟩, h12⟩, h13⟩

/-! What is written of entries is read again. -/
theorem emptyT {t : ByteArray} (h : isEmptyT t = true) : t = ⟨#[]⟩ := (isEmptyT_iff _).1 h
theorem valB_form {v : AVal} (h : valB v = true) : v = ⟨0, 0, ⟨#[]⟩⟩ ∨ (∃ x, v = ⟨1, x, ⟨#[]⟩⟩ ∧ canon x = x) ∨ ∃ t, v = ⟨2, 0, t⟩ := by
 obtain ⟨k, x, t⟩ := v
 unfold valB at h
 simp only [Bool.and_eq_true, Bool.not_eq_true', Bool.or_eq_false_iff, decide_eq_false_iff_not, Bool.or_eq_true, beq_iff_eq, bne_iff_ne, Bool.and_eq_false_iff, ne_eq] at h
 obtain ⟨⟨⟨h1, h2⟩, h3⟩, h4⟩ := h
 have hk : k = 0 ∨ k = 1 ∨ k = 2 := by omega
 have ht : k ≠ 2 → t = ⟨#[]⟩ := fun hk => by
  rcases h3 with h3 | h3
  ·
   simp [hk] at h3
  ·
   simp only [Bool.not_eq_false'] at h3
   exact emptyT h3
 rcases hk with rfl | rfl | rfl
 ·
  rcases h4 with h4 | h4
  ·
   omega
  ·
   rw [ht (by omega), h4.2]; exact .inl rfl
 ·
  rcases h4 with h4 | h4
  ·
   rw [ht (by omega)]; exact .inr (.inl ⟨x, rfl, h4.2.symm⟩)
  ·
   exact absurd rfl h4.1
 ·
  rcases h4 with h4 | h4
  ·
   omega
  ·
   rw [h4.2]; exact .inr (.inr ⟨t, rfl⟩)
theorem bs_text (t : ByteArray) : (⟨(bsOf t).toArray⟩ : ByteArray) = t := by
 cases t
 simp [bsOf]
theorem i64_0 : I64 0 := by unfold I64; omega
theorem valP_enc {v : AVal} (h : valB v = true) (hok : v.ok) (ht : v.text.size ≤ 16384) (rest : List UInt8) : RS.valP ⟨encV v ++ rest, 0⟩ = (v, ⟨rest, 0⟩) ∧ RS.valT ⟨encV v ++ rest, 0⟩ = false := by
 rcases valB_form h with rfl | ⟨x, rfl, hx⟩ | ⟨t, rfl⟩
 ·
  unfold RS.valP RS.val RS.valT encV
  rw [if_neg (show ¬ (0 : Int) = 1 by omega), if_neg (show ¬ (0 : Int) = 2 by omega), List.append_nil, int_enc 0 rest (by omega) (by omega)]
  simp
 ·
  unfold RS.valP RS.val RS.valT encV
  rw [if_pos rfl, List.append_assoc, int_enc 1 _ (by omega) (by omega)]
  simp only [if_true]
  rw [float_enc x rest hok.2.1, hx]
  simp
 ·
  unfold RS.valP RS.val RS.valT encV
  rw [if_neg (show ¬ (2 : Int) = 1 by omega), if_pos rfl, List.append_assoc, int_enc 2 _ (by omega) (by omega)]
  rw [if_neg (show ¬ (2 : Int) = 1 by omega), if_pos rfl]
  simp only
  rw [text_enc (bsOf t) rest (by have : (bsOf t).length = t.size := rfl; simp only at ht; omega)]
  simp [bs_text]
/-- An entry that may be written, its texts short. -/
def fitE (x : AEntry) : Prop := x.ok ∧ entB x = true ∧ x.call.cmd.key.size ≤ 16384 ∧ x.call.cmd.old.text.size ≤ 16384 ∧ x.call.cmd.val.text.size ≤ 16384
theorem callP_enc {c : ACall} (ho : c.ok) (hv : valB c.cmd.old = true) (hw : valB c.cmd.val = true) (hk : c.cmd.key.size ≤ 16384) (h1 : c.cmd.old.text.size ≤ 16384) (h2 : c.cmd.val.text.size ≤ 16384) (rest : List UInt8) :
  RS.callP ⟨encC c ++ rest, 0⟩ = (c, ⟨rest, 0⟩) ∧ RS.callT ⟨encC c ++ rest, 0⟩ = false := by
 obtain ⟨cl, sq, ⟨ck, key, old, val⟩⟩ := c
 obtain ⟨o1, o2, o3, o4, o5, o6⟩ := ho
 simp only at *
 have e : encC ⟨cl, sq, ⟨ck, key, old, val⟩⟩ ++ rest = encInt cl ++ (encInt sq ++ (encInt ck ++ (encText (bsOf key) ++ (encV old ++ (encV val ++ rest))))) := by
  unfold encC encInts
  simp
 have k1 := int_enc cl (encInt sq ++ (encInt ck ++ (encText (bsOf key) ++ (encV old ++ (encV val ++ rest))))) o1.1 o1.2
 have k2 := int_enc sq (encInt ck ++ (encText (bsOf key) ++ (encV old ++ (encV val ++ rest)))) o2.1 o2.2
 have k3 := int_enc ck (encText (bsOf key) ++ (encV old ++ (encV val ++ rest))) o3.1 o3.2
 have k4 := text_enc (bsOf key) (encV old ++ (encV val ++ rest)) (by have : (bsOf key).length = key.size := rfl; omega)
 have k5 := valP_enc hv o5 h1 (encV val ++ rest)
 have k6 := valP_enc hw o6 h2 rest
 rw [e]
 unfold RS.callP RS.callT
 simp only [k1, k2, k3, k4, k5.1, k5.2, k6.1, k6.2, bs_text]
 exact ⟨trivial, rfl⟩
theorem confP_enc {c : AConf} (ho : c.ok) (rest : List UInt8) : RS.confP ⟨encF c ++ rest, 0⟩ = (c, ⟨rest, 0⟩) := by
 obtain ⟨a, b, d, f⟩ := c
 obtain ⟨o1, o2, o3, o4⟩ := ho
 simp only at *
 have e : encF ⟨a, b, d, f⟩ ++ rest = encInt a ++ (encInt b ++ (encInt d ++ (encInt f ++ rest))) := by
  unfold encF encInts
  simp
 rw [e]
 unfold RS.confP
 simp only [int_enc a _ o1.1 o1.2, int_enc b _ o2.1 o2.2, int_enc d _ o3.1 o3.2, int_enc f _ o4.1 o4.2]
theorem eqV0 {v : AVal} (h : eqVal v AVal.zero = true) : v = AVal.zero := by
 obtain ⟨k, x, t⟩ := v
 unfold eqVal sameF at h
 have h0 : isNaN AVal.zero.num = false := by decide +kernel
 rw [h0, Bool.and_false, Bool.false_or] at h
 simp only [Bool.and_eq_true, beq_iff_eq, eqT_iff] at h
 obtain ⟨⟨rfl, rfl⟩, rfl⟩ := h
 rfl
theorem eqC0 {c : ACall} (h : eqCall c ACall.zero = true) : c = ACall.zero := by
 obtain ⟨cl, sq, ⟨ck, key, old, val⟩⟩ := c
 unfold eqCall eqCmd at h
 simp only [Bool.and_eq_true, beq_iff_eq, eqT_iff] at h
 obtain ⟨⟨rfl, rfl⟩, ⟨⟨rfl, rfl⟩, h1⟩, h2⟩ := h
 have h1 := eqV0 h1
 have h2 := eqV0 h2
 subst h1; subst h2
 rfl
theorem eqF0 {c : AConf} (h : eqConf c AConf.zero = true) : c = AConf.zero := by
 obtain ⟨a, b, d, f⟩ := c
 unfold eqConf at h
 simp only [Bool.and_eq_true, beq_iff_eq] at h
 obtain ⟨⟨⟨rfl, rfl⟩, rfl⟩, rfl⟩ := h
 rfl
theorem entB_form {x : AEntry} (h : entB x = true) : (x.kind = 0 ∧ x.call = ACall.zero ∧ x.conf = AConf.zero) ∨ (x.kind = 1 ∧ x.conf = AConf.zero ∧ valB x.call.cmd.old = true ∧ valB x.call.cmd.val = true) ∨ (x.kind = 2 ∧ x.call = ACall.zero) := by
 unfold entB at h
 simp only [Bool.and_eq_true, Bool.not_eq_true', Bool.or_eq_false_iff, decide_eq_false_iff_not, Bool.or_eq_true, bne_iff_ne, Bool.and_eq_false_iff, ne_eq, Bool.not_eq_false'] at h
 obtain ⟨⟨⟨⟨h1, h2⟩, h3⟩, h4⟩, h5⟩ := h
 have hk : x.kind = 0 ∨ x.kind = 1 ∨ x.kind = 2 := by omega
 have hc : x.kind ≠ 1 → x.call = ACall.zero := fun hk => by
  rcases h3 with h3 | h3
  ·
   simp [hk] at h3
  ·
   exact eqC0 h3
 have hf : x.kind ≠ 2 → x.conf = AConf.zero := fun hk => by
  rcases h4 with h4 | h4
  ·
   simp [hk] at h4
  ·
   exact eqF0 h4
 rcases hk with hk | hk | hk
 ·
  exact .inl ⟨hk, hc (by omega), hf (by omega)⟩
 ·
  refine .inr (.inl ⟨hk, hf (by omega), ?_⟩)
  rcases h5 with h5 | h5
  ·
   exact absurd hk h5
  ·
   exact h5
 ·
  exact .inr (.inr ⟨hk, hc (by omega)⟩)
theorem entP_enc {x : AEntry} (h : fitE x) (rest : List UInt8) : RS.entP ⟨encE x ++ rest, 0⟩ = (x, ⟨rest, 0⟩) ∧ RS.entT ⟨encE x ++ rest, 0⟩ = false := by
 obtain ⟨ho, hb, hk, h1, h2⟩ := h
 obtain ⟨t, k, c, f⟩ := x
 obtain ⟨o1, o2, o3, o4⟩ := ho
 simp only at *
 rcases entB_form hb with ⟨rfl, rfl, rfl⟩ | ⟨rfl, rfl, hv, hw⟩ | ⟨rfl, rfl⟩
 ·
  have e : encE ⟨t, 0, ACall.zero, AConf.zero⟩ ++ rest = encInt t ++ (encInt 0 ++ rest) := by unfold encE encInts; simp
  rw [e]
  unfold RS.entP RS.entT
  simp only [int_enc t _ o1.1 o1.2, int_enc 0 _ o2.1 o2.2]
  exact ⟨rfl, rfl⟩
 ·
  have e : encE ⟨t, 1, c, AConf.zero⟩ ++ rest = encInt t ++ (encInt 1 ++ (encC c ++ rest)) := by unfold encE encInts; simp
  have hc := callP_enc o3 hv hw hk h1 h2 rest
  rw [e]
  unfold RS.entP RS.entT
  simp only [int_enc t _ o1.1 o1.2, int_enc 1 _ o2.1 o2.2, hc.1, hc.2]
  exact ⟨rfl, rfl⟩
 ·
  have e : encE ⟨t, 2, ACall.zero, f⟩ ++ rest = encInt t ++ (encInt 2 ++ (encF f ++ rest)) := by unfold encE encInts; simp
  rw [e]
  unfold RS.entP RS.entT
  simp only [int_enc t _ o1.1 o1.2, int_enc 2 _ o2.1 o2.2, confP_enc o4 rest]
  exact ⟨rfl, rfl⟩
/-- An entry that was written is read again. -/
theorem ent_back {x : AEntry} (h : fitE x) (hl : (encE x).length ≤ 16384) : wReadEnt (encE x) = some x := by
 have he := entP_enc h []
 rw [List.append_nil] at he
 unfold wReadEnt
 rw [if_neg (by omega), he.1, he.2]
 simp [RS.done]
theorem encE_pos (x : AEntry) : 0 < (encE x).length := by
 unfold encE encInts
 have := uvF_pos 9 (zig x.term)
 simp only [List.flatMap_cons, List.length_append]
 unfold encInt
 omega
theorem wEs_enc : ∀ (l : List AEntry) (_ : ∀ x ∈ l, fitE x) (rest : List UInt8), wEs l.length ⟨l.flatMap encE ++ rest, 0⟩ = some (l, ⟨rest, 0⟩)
 | [], _, _ => rfl
 | x :: l, h, rest => by
  have he := entP_enc (h x (by simp)) (l.flatMap encE ++ rest)
  rw [List.length_cons, wEs, List.flatMap_cons, List.append_assoc, he.1, he.2]
  simp only [wEs_enc l (fun y hy => h y (by simp [hy])) rest]
  rfl
theorem flatE_ge (l : List AEntry) : l.length ≤ (l.flatMap encE).length := by
 induction l with
 | nil => simp
 | cons x l ih =>
  have := encE_pos x
  simp only [List.flatMap_cons, List.length_append, List.length_cons]
  omega
def AHard.enc (h : AHard) : List UInt8 := encH h.term h.vote h.base h.baseTerm h.conf h.snap h.log
theorem hardW_enc {h : AHard} (h1 : I64 h.term) (h2 : I64 h.vote) (h3 : I64 h.base) (h4 : I64 h.baseTerm) (hc : h.conf.ok) (hs : h.snap.length ≤ 16384) (hl : ∀ x ∈ h.log, fitE x) (hll : h.log.length ≤ 1000000) (rest : List UInt8) :
  RS.hardW ⟨h.enc ++ rest, 0⟩ = some (h, ⟨rest, 0⟩) := by
 obtain ⟨t, v, b, bt, c, s, l⟩ := h
 simp only at *
 have e : AHard.enc ⟨t, v, b, bt, c, s, l⟩ ++ rest = encInt t ++ (encInt v ++ (encInt b ++ (encInt bt ++ (encF c ++ (encText s ++ (encInt l.length ++ (l.flatMap encE ++ rest))))))) := by
  unfold AHard.enc encH encInts encEs
  simp
 have hn := int_enc (l.length : Int) (l.flatMap encE ++ rest) (by omega) (by omega)
 have hg := flatE_ge l
 rw [e]
 unfold RS.hardW
 simp only [int_enc t _ h1.1 h1.2, int_enc v _ h2.1 h2.2, int_enc b _ h3.1 h3.2, int_enc bt _ h4.1 h4.2, confP_enc hc, text_enc s _ hs]
 have hL : RS.leftN ⟨encInt (l.length : Int) ++ (l.flatMap encE ++ rest), 0⟩ = ((encInt (l.length : Int) ++ (l.flatMap encE ++ rest)).length : Int) := by unfold RS.leftN; simp
 have hW : RS.listW ⟨encInt (l.length : Int) ++ (l.flatMap encE ++ rest), 0⟩ (RS.leftN ⟨encInt (l.length : Int) ++ (l.flatMap encE ++ rest), 0⟩) = some (l, ⟨rest, 0⟩) := by
  unfold RS.listW
  rw [hL, hn]
  simp only [Int.toNat_natCast]
  rw [if_pos (by refine ⟨by omega, ?_⟩; simp only [List.length_append]; omega), wEs_enc l hl rest]
 rw [hW]
/-- A hard state that was written is read again. -/
theorem hard_back {h : AHard} (h1 : I64 h.term) (h2 : I64 h.vote) (h3 : I64 h.base) (h4 : I64 h.baseTerm) (hc : h.conf.ok) (hl : ∀ x ∈ h.log, fitE x) (hb : h.enc.length ≤ 16384) : wReadHard h.enc = some h := by
 have hg := flatE_ge h.log
 have hlen : h.log.length ≤ h.enc.length ∧ h.snap.length ≤ h.enc.length := by
  unfold AHard.enc encH encEs encText
  simp only [List.length_append]
  omega
 have he := hardW_enc h1 h2 h3 h4 hc (by omega) hl (by omega) []
 rw [List.append_nil] at he
 unfold wReadHard
 rw [if_neg (by omega), he]
 simp [RS.done]
end Go.Proofs.YtjhnlncgmejkcaaGreat
