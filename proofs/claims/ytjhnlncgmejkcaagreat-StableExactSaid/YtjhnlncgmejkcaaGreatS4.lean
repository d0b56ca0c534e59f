/-
  Plain functions: hard states that are read, as the page (layer 10) reads them, and as package wire does. No program is walked here. Conditions: as each theorem
-/
import Derived.Test.YtjhnlncgmejkcaaGreatS3
import Derived.Test.YtjhnlncgmejkcaaGreatPackR
import Derived.Test.YtjhnlncgmejkcaaGreatGSpec
namespace Go.Proofs.YtjhnlncgmejkcaaGreat
set_option linter.unusedSimpArgs false
structure zC where
 term : Int
 vote : Int
 base : Int
 baseTerm : Int
 conf : yF
 snap : List UInt8
 log : List zI
def zC.zero : zC := ⟨0, 0, 0, 0, yF.zero, [], []⟩
def zcB : Nat → RS → List zI × RS
 | 0, r => ([], r)
 | n + 1, r => if r.e ≠ 0 then ([], r) else (r.entP.1 :: (zcB n r.entP.2).1, (zcB n r.entP.2).2)
def wEs : Nat → RS → Option (List zI × RS)
 | 0, r => some ([], r)
 | n + 1, r => if r.entT then none else match wEs n r.entP.2 with
  | none => none
  | some (l, s) => some (r.entP.1 :: l, s)
def RS.listP (r : RS) (most : Int) : List zI × RS :=
 let q := r.int
 let s := if q.1 < 0 ∨ most < q.1 then q.2.fail 3 else q.2
 zcB q.1.toNat s
def RS.listW (r : RS) (most : Int) : Option (List zI × RS) := if 0 ≤ r.int.1 ∧ r.int.1 ≤ most then wEs r.int.1.toNat r.int.2 else none
def RS.hardP (r : RS) (n : Int) : zC × RS :=
 let a := r.int; let b := a.2.int; let c := b.2.int; let d := c.2.int; let f := d.2.confP; let t := f.2.text; let l := t.2.listP n
 (⟨a.1, b.1, c.1, d.1, f.1, t.1, l.1⟩, l.2)
def RS.hardW (r : RS) : Option (zC × RS) :=
 let a := r.int; let b := a.2.int; let c := b.2.int; let d := c.2.int; let f := d.2.confP; let t := f.2.text
 match t.2.listW t.2.leftN with
 | none => none
 | some l => some (⟨a.1, b.1, c.1, d.1, f.1, t.1, l.1⟩, l.2)
def jS (b : List UInt8) : Option zC := if (RS.hardP ⟨b, 0⟩ b.length).2.done = 0 ∧ b.length ≤ 16384 then some (RS.hardP ⟨b, 0⟩ b.length).1 else none
def yR (b : List UInt8) : Option zC := if 16384 < b.length then none else match RS.hardW ⟨b, 0⟩ with
 | none => none
 | some (h, r) => if r.done ≠ 0 then none else some h
theorem entP_st {r : RS} (h : r.e ≠ 0) : r.entP.2 = r := by
 unfold RS.entP
 simp only [zg5 h]
 rfl
theorem entT_st {r : RS} (h : r.e ≠ 0) : r.entT = false := by
 unfold RS.entT
 rw [zg5 h]
 simp only [zg5 h]
 rfl
theorem wEs_st : ∀ (n : Nat) {r : RS}, r.e ≠ 0 → ∃ l, wEs n r = some (l, r)
 | 0, r, _ => ⟨[], rfl⟩
 | n + 1, r, h => by
  obtain ⟨l, hl⟩ := wEs_st n h
  refine ⟨r.entP.1 :: l, ?_⟩
  rw [wEs, entT_st h, entP_st h, hl]
  rfl
theorem zdE (n : Nat) {r : RS} (h : r.e ≠ 0) : zcB n r = ([], r) := by
 cases n with
 | zero => rfl
 | succ n => rw [zcB, if_pos h]
theorem zcL (n : Nat) {r : RS} (h : r.e = 0) : zcB (n + 1) r = (r.entP.1 :: (zcB n r.entP.2).1, (zcB n r.entP.2).2) := by
 rw [zcB, if_neg (by simpa using h)]
theorem es_eq : ∀ (n : Nat) (r : RS), (∃ l s, wEs n r = some (l, s) ∧ s.e = 0 ∧ zcB n r = (l, s)) ∨ ((wEs n r = none ∨ ∃ l s, wEs n r = some (l, s) ∧ s.e ≠ 0) ∧ (zcB n r).2.e ≠ 0)
 | 0, r => by
  by_cases h : r.e = 0
  · exact .inl ⟨[], r, rfl, h, rfl⟩
  exact .inr ⟨.inr ⟨[], r, rfl, h⟩, h⟩
 | n + 1, r => by
  by_cases h : r.e = 0
  ·
   rw [zcL n h, wEs]
   rcases ht : r.entT with _ | _
   ·
    rw [if_neg (by simp)]
    rcases es_eq n r.entP.2 with ⟨l, s, h1, h2, h3⟩ | ⟨h1, h2⟩
    · exact .inl ⟨r.entP.1 :: l, s, by rw [h1], h2, by rw [h3]⟩
    refine .inr ⟨?_, h2⟩
    rcases h1 with h1 | ⟨l, s, h1, h3⟩
    · exact .inl (by rw [h1])
    exact .inr ⟨r.entP.1 :: l, s, by rw [h1], h3⟩
   rw [if_pos rfl]
   refine .inr ⟨.inl rfl, ?_⟩
   have := entT_e ht
   rw [zdE n this]
   exact this
  refine .inr ⟨.inr ?_, ?_⟩
  · obtain ⟨l, hl⟩ := wEs_st (n + 1) h
    exact ⟨l, r, hl, h⟩
  rw [zdE _ h]
  exact h
theorem zbH {r : RS} (h : r.int.2.e = 0) : r.e = 0 ∧ r.int.2.left.length < r.left.length := by
 by_cases he : r.e = 0
 ·
  refine ⟨he, ?_⟩
  unfold RS.int at h ⊢
  rw [if_neg (by simpa using he)] at h ⊢
  rcases hv : zaY 0 0 r.left with _ | ⟨z, l⟩
  · rw [hv] at h
    simp at h
  exact (ze7 _ 0 0 z l (by omega) (by decide) hv).2
 rw [zg5 he] at h
 exact absurd h he
theorem zoF {r : RS} (h : r.text.2.e = 0) : r.e = 0 ∧ r.text.2.left.length < r.left.length := by
 rw [zeH] at h ⊢
 split at h
 · rename_i h1; exact absurd h h1
 rename_i h1
 have h1 : r.int.2.e = 0 := by simpa using h1
 obtain ⟨h2, h3⟩ := zbH h1
 refine ⟨h2, ?_⟩
 split at h
 · simp at h
 split at h
 · simp at h
 rename_i h4 h5
 rw [if_neg (by simpa using h1), if_neg h4, if_neg h5]
 simp only [List.length_drop]
 omega
theorem float_ok {r : RS} (h : r.float.2.e = 0) : r.e = 0 ∧ r.float.2.left.length ≤ r.left.length := by
 unfold RS.float at h ⊢
 split at h
 · rename_i h1; exact absurd h h1
 rename_i h1
 refine ⟨by simpa using h1, ?_⟩
 rw [if_neg h1]
 split at h
 · simp at h
 split at h
 · simp at h
 rename_i h2 h3
 rw [if_neg h2, if_neg h3]
 simp
theorem zoG {r : RS} (h : r.valP.2.e = 0) : r.e = 0 ∧ r.valP.2.left.length < r.left.length := by
 unfold RS.valP RS.val at h ⊢
 split at h
 ·
  rename_i h0
  rw [if_pos h0]
  split at h
  ·
   rename_i h1
   rw [if_pos h1]
   obtain ⟨h2, h3⟩ := float_ok h
   obtain ⟨h4, h5⟩ := zbH h2
   exact ⟨h4, by simp only; omega⟩
  rename_i h1
  rw [if_neg h1]
  split at h
  ·
   rename_i h2
   rw [if_pos h2]
   obtain ⟨h3, h4⟩ := zoF h
   obtain ⟨h5, h6⟩ := zbH h3
   exact ⟨h5, by simp only; omega⟩
  rename_i h2
  rw [if_neg h2]
  exact zbH h
 exact absurd h (zfO _)
theorem zlH {r : RS} (h : r.callP.2.e = 0) : r.e = 0 ∧ r.callP.2.left.length < r.left.length := by
 unfold RS.callP at h ⊢
 simp only at h ⊢
 obtain ⟨h1, l1⟩ := zoG h
 obtain ⟨h2, l2⟩ := zoG h1
 obtain ⟨h3, l3⟩ := zoF h2
 obtain ⟨h4, l4⟩ := zbH h3
 obtain ⟨h5, l5⟩ := zbH h4
 obtain ⟨h6, l6⟩ := zbH h5
 exact ⟨h6, by omega⟩
theorem zlI {r : RS} (h : r.confP.2.e = 0) : r.e = 0 ∧ r.confP.2.left.length < r.left.length := by
 unfold RS.confP at h ⊢
 simp only at h ⊢
 obtain ⟨h3, l3⟩ := zbH h
 obtain ⟨h4, l4⟩ := zbH h3
 obtain ⟨h5, l5⟩ := zbH h4
 obtain ⟨h6, l6⟩ := zbH h5
 exact ⟨h6, by omega⟩
theorem zkD {r : RS} (h : r.entP.2.e = 0) : r.e = 0 ∧ r.entP.2.left.length < r.left.length := by
 unfold RS.entP at h ⊢
 simp only at h ⊢
 have hlast : ∀ s : RS, s = r.int.2.int.2 → s.e = 0 → r.e = 0 ∧ s.left.length < r.left.length := by
  rintro s rfl h
  obtain ⟨h5, l5⟩ := zbH h
  obtain ⟨h6, l6⟩ := zbH h5
  exact ⟨h6, by omega⟩
 split at h
 ·
  rename_i h0
  rw [if_pos h0]
  exact hlast _ rfl h
 rename_i h0
 rw [if_neg h0]
 split at h
 ·
  rename_i h1
  rw [if_pos h1]
  obtain ⟨h2, l2⟩ := zlH h
  obtain ⟨h3, l3⟩ := hlast _ rfl h2
  exact ⟨h3, by simp only; omega⟩
 rename_i h1
 rw [if_neg h1]
 split at h
 ·
  rename_i h2
  rw [if_pos h2]
  obtain ⟨h3, l3⟩ := zlI h
  obtain ⟨h4, l4⟩ := hlast _ rfl h3
  exact ⟨h4, by simp only; omega⟩
 exact absurd h (zfO _)
theorem zoH : ∀ (n : Nat) (r : RS), (zcB n r).2.e = 0 → r.e = 0 ∧ n ≤ r.left.length
 | 0, r, h => ⟨h, Nat.zero_le _⟩
 | n + 1, r, h => by
  by_cases he : r.e = 0
  ·
   rw [zcL n he] at h
   obtain ⟨h1, h2⟩ := zoH n r.entP.2 h
   obtain ⟨h3, h4⟩ := zkD h1
   exact ⟨h3, by omega⟩
  rw [zdE _ he] at h
  exact absurd h he
theorem list_eq (r : RS) (n : Int) (hn : (r.left.length : Int) ≤ n) : (∃ l s, r.listW r.leftN = some (l, s) ∧ s.e = 0 ∧ r.listP n = (l, s)) ∨ ((r.listW r.leftN = none ∨ ∃ l s, r.listW r.leftN = some (l, s) ∧ s.e ≠ 0) ∧ (r.listP n).2.e ≠ 0) := by
 unfold RS.listW RS.listP
 simp only
 by_cases he : r.e = 0
 ·
  have hl : r.leftN = r.left.length := by unfold RS.leftN; rw [if_neg (by simpa using he)]
  have hk := yJ r
  rw [hl]
  by_cases h0 : 0 ≤ r.int.1 ∧ r.int.1 ≤ (r.left.length : Int)
  · rw [if_pos h0, if_neg (by omega)]
    exact es_eq _ _
  rw [if_neg h0]
  refine .inr ⟨.inl rfl, ?_⟩
  split
  · rw [zdE _ (zfO _)]
    exact zfO _
  rename_i h1
  intro h2
  have := (zoH _ _ h2).2
  omega
 have hl : r.leftN = 0 := by unfold RS.leftN; rw [if_pos he]
 rw [hl, zg5 he]
 rw [if_pos (by simp)]
 refine .inr ⟨.inr ⟨[], r, rfl, he⟩, ?_⟩
 have hf : (r.fail 3) = r := by unfold RS.fail; rw [if_neg he]
 split
 · rw [hf]; exact he
 exact he
theorem zbN (r : RS) : r.text.2.left.length ≤ r.left.length := by
 have h := yJ r
 rw [zeH]
 split
 · exact h
 split
 · exact h
 split
 · exact h
 simp only [List.length_drop]; omega
theorem za5 (r : RS) : r.confP.2.left.length ≤ r.left.length := by
 unfold RS.confP
 simp only
 have h1 := yJ r
 have h2 := yJ r.int.2
 have h3 := yJ r.int.2.int.2
 have h4 := yJ r.int.2.int.2.int.2
 omega
theorem zfP (b : List UInt8) : yR b = jS b := by
 unfold yR jS
 by_cases hl : 16384 < b.length
 · rw [if_pos hl, if_neg (by omega)]
 rw [if_neg hl]
 unfold RS.hardW RS.hardP
 simp only
 obtain ⟨r, hr⟩ : ∃ r, (RS.int ⟨b, 0⟩).2.int.2.int.2.int.2.confP.2.text.2 = r := ⟨_, rfl⟩
 have hle : r.left.length ≤ b.length := by
  rw [← hr]
  have h1 := yJ ⟨b, 0⟩
  have h2 := yJ (RS.int ⟨b, 0⟩).2
  have h3 := yJ (RS.int ⟨b, 0⟩).2.int.2
  have h4 := yJ (RS.int ⟨b, 0⟩).2.int.2.int.2
  have h5 := za5 (RS.int ⟨b, 0⟩).2.int.2.int.2.int.2
  have h6 := zbN (RS.int ⟨b, 0⟩).2.int.2.int.2.int.2.confP.2
  simp only at h1
  omega
 rw [hr]
 rcases list_eq r b.length (by omega) with ⟨l, s, h1, h2, h3⟩ | ⟨h1, h2⟩
 ·
  rw [h1, h3]
  simp only
  by_cases hd : s.done = 0
  · rw [if_neg (by simpa using hd), if_pos ⟨hd, by omega⟩]
  rw [if_pos hd, if_neg (fun h => hd h.1)]
 rw [if_neg (fun h => ?_)]
 ·
  rcases h1 with h1 | ⟨l, s, h1, h3⟩
  · rw [h1]
  rw [h1]
  simp only
  rw [if_pos]
  unfold RS.done
  split
  · simp
  exact h3
 obtain ⟨hd, _⟩ := h
 unfold RS.done at hd
 split at hd
 · cases hd
 exact h2 hd
def zoI (client seq : Int) : Bool := decide (1 ≤ client) && decide (client ≤ 4) && decide (1 ≤ seq) && decide (seq ≤ 1099511627776)
def zeL (c : yK) : Int := if zoI c.client c.seq = false then 1 else zhO c.cmd
def zgQ (n : Int) : Bool := decide (0 ≤ n) && decide (n ≤ 127)
def jK (c : yF) : Bool := zgQ c.full && zgQ c.wit && zgQ c.learn && zgQ c.learnWit && (c.full.toNat &&& c.wit.toNat == 0) && ((c.full.toNat ||| c.wit.toNat) &&& c.learn.toNat == 0) && ((c.full.toNat ||| c.wit.toNat ||| c.learn.toNat) &&& c.learnWit.toNat == 0) && c.full != 0
def xB (x : zI) : Bool :=
 if x.kind = 0 then yV x.call && zcI x.conf else if x.kind = 1 then zeL x.call == 0 && zcI x.conf else if x.kind = 2 then yV x.call && jK x.conf else false
def zdK (term : Int) : Int → List zI → Bool
 | _, [] => true
 | last, x :: l => decide (last ≤ x.term) && decide (x.term ≤ term) && xB x && zdK term x.term l
def yG (h : zC) : Bool :=
 decide (0 ≤ h.term) && decide (h.term ≤ 1099511627776) && decide (-1 ≤ h.vote) && decide (h.vote ≤ 6) && decide (0 ≤ h.base) && decide (h.base ≤ 1099511627776) && decide (0 ≤ h.baseTerm) && decide (h.baseTerm ≤ h.term) && ((h.baseTerm == 0) == (h.base == 0)) && jK h.conf && decide (h.snap.length ≤ 16384) && (h.base != 0 || decide (h.snap.length = 0)) && zdK h.term (max h.baseTerm 1) h.log
structure Right (h : zC) : Prop where
 t0 : 0 ≤ h.term
 t1 : h.term ≤ 1099511627776
 v0 : -1 ≤ h.vote
 v1 : h.vote ≤ 6
 b0 : 0 ≤ h.base
 b1 : h.base ≤ 1099511627776
 bt0 : 0 ≤ h.baseTerm
 bt1 : h.baseTerm ≤ h.term
 bb : (h.baseTerm == 0) = (h.base == 0)
 c : jK h.conf = true
 s : h.snap.length ≤ 16384
 bs : h.base ≠ 0 ∨ h.snap.length = 0
 r : zdK h.term (max h.baseTerm 1) h.log = true
theorem yI (h : zC) : yG h = true ↔ Right h := by
 unfold yG
 simp only [Bool.and_eq_true, decide_eq_true_eq, beq_iff_eq, Bool.or_eq_true, bne_iff_ne]
 constructor
 · rintro ⟨⟨⟨⟨⟨⟨⟨⟨⟨⟨⟨⟨h1, h2⟩, h3⟩, h4⟩, h5⟩, h6⟩, h7⟩, h8⟩, h9⟩, h10⟩, h11⟩, h12⟩, h13⟩
   exact ⟨h1, h2, h3, h4, h5, h6, h7, h8, h9, h10, h11, h12, h13⟩
 rintro ⟨h1, h2, h3, h4, h5, h6, h7, h8, h9, h10, h11, h12, h13⟩
 exact ⟨⟨⟨⟨⟨⟨⟨⟨⟨⟨⟨⟨h1, h2⟩, h3⟩, h4⟩, h5⟩, h6⟩, h7⟩, h8⟩, h9⟩, h10⟩, h11⟩, h12⟩, h13⟩
theorem emptyT {t : ByteArray} (h : zX t = true) : t = ⟨#[]⟩ := (zbM _).1 h
theorem zfQ {v : jY} (h : zb4 v = true) : v = ⟨0, 0, ⟨#[]⟩⟩ ∨ (∃ x, v = ⟨1, x, ⟨#[]⟩⟩ ∧ yU x = x) ∨ ∃ t, v = ⟨2, 0, t⟩ := by
 obtain ⟨k, x, t⟩ := v
 unfold zb4 at h
 simp only [Bool.and_eq_true, Bool.not_eq_true', Bool.or_eq_false_iff, decide_eq_false_iff_not, Bool.or_eq_true, beq_iff_eq, bne_iff_ne, Bool.and_eq_false_iff, ne_eq] at h
 obtain ⟨⟨⟨h1, h2⟩, h3⟩, h4⟩ := h
 have hk : k = 0 ∨ k = 1 ∨ k = 2 := by omega
 have ht : k ≠ 2 → t = ⟨#[]⟩ := fun hk => by
  rcases h3 with h3 | h3
  · simp [hk] at h3
  simp only [Bool.not_eq_false'] at h3
  exact emptyT h3
 rcases hk with rfl | rfl | rfl
 ·
  rcases h4 with h4 | h4
  · omega
  rw [ht (by omega), h4.2]; exact .inl rfl
 ·
  rcases h4 with h4 | h4
  · rw [ht (by omega)]; exact .inr (.inl ⟨x, rfl, h4.2.symm⟩)
  exact absurd rfl h4.1
 rcases h4 with h4 | h4
 · omega
 rw [h4.2]; exact .inr (.inr ⟨t, rfl⟩)
theorem zoJ (t : ByteArray) : (⟨(zaF t).toArray⟩ : ByteArray) = t := by
 cases t
 simp [zaF]
theorem zlJ {v : jY} (h : zb4 v = true) (hok : v.ok) (ht : v.text.size ≤ 16384) (rest : List UInt8) : RS.valP ⟨zcY v ++ rest, 0⟩ = (v, ⟨rest, 0⟩) ∧ RS.valT ⟨zcY v ++ rest, 0⟩ = false := by
 rcases zfQ h with rfl | ⟨x, rfl, hx⟩ | ⟨t, rfl⟩
 ·
  unfold RS.valP RS.val RS.valT zcY
  rw [if_neg (show ¬ (0 : Int) = 1 by omega), if_neg (show ¬ (0 : Int) = 2 by omega), List.append_nil, xH 0 rest (by omega) (by omega)]
  simp
 ·
  unfold RS.valP RS.val RS.valT zcY
  rw [if_pos rfl, List.append_assoc, xH 1 _ (by omega) (by omega)]
  simp only [if_true]
  rw [zoA x rest hok.2.1, hx]
  simp
 unfold RS.valP RS.val RS.valT zcY
 rw [if_neg (show ¬ (2 : Int) = 1 by omega), if_pos rfl, List.append_assoc, xH 2 _ (by omega) (by omega)]
 rw [if_neg (show ¬ (2 : Int) = 1 by omega), if_pos rfl]
 simp only
 rw [zhV (zaF t) rest (by have : (zaF t).length = t.size := rfl; simp only at ht; omega)]
 simp [zoJ]
def fitE (x : zI) : Prop := x.ok ∧ zcK x = true ∧ x.call.cmd.key.size ≤ 16384 ∧ x.call.cmd.old.text.size ≤ 16384 ∧ x.call.cmd.val.text.size ≤ 16384
theorem zoK {c : yK} (ho : c.ok) (hv : zb4 c.cmd.old = true) (hw : zb4 c.cmd.val = true) (hk : c.cmd.key.size ≤ 16384) (h1 : c.cmd.old.text.size ≤ 16384) (h2 : c.cmd.val.text.size ≤ 16384) (rest : List UInt8) :
  RS.callP ⟨zlF c ++ rest, 0⟩ = (c, ⟨rest, 0⟩) ∧ RS.callT ⟨zlF c ++ rest, 0⟩ = false := by
 obtain ⟨cl, sq, ⟨ck, key, old, val⟩⟩ := c
 obtain ⟨o1, o2, o3, o4, o5, o6⟩ := ho
 simp only at *
 have e : zlF ⟨cl, sq, ⟨ck, key, old, val⟩⟩ ++ rest = zS cl ++ (zS sq ++ (zS ck ++ (yH (zaF key) ++ (zcY old ++ (zcY val ++ rest))))) := by
  unfold zlF zQ
  simp
 have k1 := xH cl (zS sq ++ (zS ck ++ (yH (zaF key) ++ (zcY old ++ (zcY val ++ rest))))) o1.1 o1.2
 have k2 := xH sq (zS ck ++ (yH (zaF key) ++ (zcY old ++ (zcY val ++ rest)))) o2.1 o2.2
 have k3 := xH ck (yH (zaF key) ++ (zcY old ++ (zcY val ++ rest))) o3.1 o3.2
 have k4 := zhV (zaF key) (zcY old ++ (zcY val ++ rest)) (by have : (zaF key).length = key.size := rfl; omega)
 have k5 := zlJ hv o5 h1 (zcY val ++ rest)
 have k6 := zlJ hw o6 h2 rest
 rw [e]
 unfold RS.callP RS.callT
 simp only [k1, k2, k3, k4, k5.1, k5.2, k6.1, k6.2, zoJ]
 exact ⟨trivial, rfl⟩
theorem ziV {c : yF} (ho : c.ok) (rest : List UInt8) : RS.confP ⟨zhY c ++ rest, 0⟩ = (c, ⟨rest, 0⟩) := by
 obtain ⟨a, b, d, f⟩ := c
 obtain ⟨o1, o2, o3, o4⟩ := ho
 simp only at *
 have e : zhY ⟨a, b, d, f⟩ ++ rest = zS a ++ (zS b ++ (zS d ++ (zS f ++ rest))) := by
  unfold zhY zQ
  simp
 rw [e]
 unfold RS.confP
 simp only [xH a _ o1.1 o1.2, xH b _ o2.1 o2.2, xH d _ o3.1 o3.2, xH f _ o4.1 o4.2]
theorem eqV0 {v : jY} (h : zdB v jY.zero = true) : v = jY.zero := by
 obtain ⟨k, x, t⟩ := v
 unfold zdB zgS at h
 have h0 : zaG jY.zero.num = false := by decide +kernel
 rw [h0, Bool.and_false, Bool.false_or] at h
 simp only [Bool.and_eq_true, beq_iff_eq, zdA] at h
 obtain ⟨⟨rfl, rfl⟩, rfl⟩ := h
 rfl
theorem eqC0 {c : yK} (h : jJ c yK.zero = true) : c = yK.zero := by
 obtain ⟨cl, sq, ⟨ck, key, old, val⟩⟩ := c
 unfold jJ zgT at h
 simp only [Bool.and_eq_true, beq_iff_eq, zdA] at h
 obtain ⟨⟨rfl, rfl⟩, ⟨⟨rfl, rfl⟩, h1⟩, h2⟩ := h
 have h1 := eqV0 h1
 have h2 := eqV0 h2
 subst h1; subst h2
 rfl
theorem eqF0 {c : yF} (h : xI c yF.zero = true) : c = yF.zero := by
 obtain ⟨a, b, d, f⟩ := c
 unfold xI at h
 simp only [Bool.and_eq_true, beq_iff_eq] at h
 obtain ⟨⟨⟨rfl, rfl⟩, rfl⟩, rfl⟩ := h
 rfl
theorem zoL {x : zI} (h : zcK x = true) : (x.kind = 0 ∧ x.call = yK.zero ∧ x.conf = yF.zero) ∨ (x.kind = 1 ∧ x.conf = yF.zero ∧ zb4 x.call.cmd.old = true ∧ zb4 x.call.cmd.val = true) ∨ (x.kind = 2 ∧ x.call = yK.zero) := by
 unfold zcK at h
 simp only [Bool.and_eq_true, Bool.not_eq_true', Bool.or_eq_false_iff, decide_eq_false_iff_not, Bool.or_eq_true, bne_iff_ne, Bool.and_eq_false_iff, ne_eq, Bool.not_eq_false'] at h
 obtain ⟨⟨⟨⟨h1, h2⟩, h3⟩, h4⟩, h5⟩ := h
 have hk : x.kind = 0 ∨ x.kind = 1 ∨ x.kind = 2 := by omega
 have hc : x.kind ≠ 1 → x.call = yK.zero := fun hk => by
  rcases h3 with h3 | h3
  · simp [hk] at h3
  exact eqC0 h3
 have hf : x.kind ≠ 2 → x.conf = yF.zero := fun hk => by
  rcases h4 with h4 | h4
  · simp [hk] at h4
  exact eqF0 h4
 rcases hk with hk | hk | hk
 · exact .inl ⟨hk, hc (by omega), hf (by omega)⟩
 ·
  refine .inr (.inl ⟨hk, hf (by omega), ?_⟩)
  rcases h5 with h5 | h5
  · exact absurd hk h5
  exact h5
 exact .inr (.inr ⟨hk, hc (by omega)⟩)
theorem zfB {x : zI} (h : fitE x) (rest : List UInt8) : RS.entP ⟨xT x ++ rest, 0⟩ = (x, ⟨rest, 0⟩) ∧ RS.entT ⟨xT x ++ rest, 0⟩ = false := by
 obtain ⟨ho, hb, hk, h1, h2⟩ := h
 obtain ⟨t, k, c, f⟩ := x
 obtain ⟨o1, o2, o3, o4⟩ := ho
 simp only at *
 rcases zoL hb with ⟨rfl, rfl, rfl⟩ | ⟨rfl, rfl, hv, hw⟩ | ⟨rfl, rfl⟩
 ·
  have e : xT ⟨t, 0, yK.zero, yF.zero⟩ ++ rest = zS t ++ (zS 0 ++ rest) := by unfold xT zQ; simp
  rw [e]
  unfold RS.entP RS.entT
  simp only [xH t _ o1.1 o1.2, xH 0 _ o2.1 o2.2]
  exact ⟨rfl, rfl⟩
 ·
  have e : xT ⟨t, 1, c, yF.zero⟩ ++ rest = zS t ++ (zS 1 ++ (zlF c ++ rest)) := by unfold xT zQ; simp
  have hc := zoK o3 hv hw hk h1 h2 rest
  rw [e]
  unfold RS.entP RS.entT
  simp only [xH t _ o1.1 o1.2, xH 1 _ o2.1 o2.2, hc.1, hc.2]
  exact ⟨rfl, rfl⟩
 have e : xT ⟨t, 2, yK.zero, f⟩ ++ rest = zS t ++ (zS 2 ++ (zhY f ++ rest)) := by unfold xT zQ; simp
 rw [e]
 unfold RS.entP RS.entT
 simp only [xH t _ o1.1 o1.2, xH 2 _ o2.1 o2.2, ziV o4 rest]
 exact ⟨rfl, rfl⟩
theorem ent_back {x : zI} (h : fitE x) (hl : (xT x).length ≤ 16384) : xU (xT x) = some x := by
 have he := zfB h []
 rw [List.append_nil] at he
 unfold xU
 rw [if_neg (by omega), he.1, he.2]
 simp [RS.done]
theorem encE_pos (x : zI) : 0 < (xT x).length := by
 unfold xT zQ
 have := zfJ 9 (zig x.term)
 simp only [List.flatMap_cons, List.length_append]
 unfold zS
 omega
theorem zoM : ∀ (l : List zI) (_ : ∀ x ∈ l, fitE x) (rest : List UInt8), wEs l.length ⟨l.flatMap xT ++ rest, 0⟩ = some (l, ⟨rest, 0⟩)
 | [], _, _ => rfl
 | x :: l, h, rest => by
  have he := zfB (h x (by simp)) (l.flatMap xT ++ rest)
  rw [List.length_cons, wEs, List.flatMap_cons, List.append_assoc, he.1, he.2]
  simp only [zoM l (fun y hy => h y (by simp [hy])) rest]
  rfl
theorem zlK (l : List zI) : l.length ≤ (l.flatMap xT).length := by
 induction l with
 | nil => simp
 | cons x l ih =>
  have := encE_pos x
  simp only [List.flatMap_cons, List.length_append, List.length_cons]
  omega
def zC.enc (h : zC) : List UInt8 := encH h.term h.vote h.base h.baseTerm h.conf h.snap h.log
theorem zoN {h : zC} (h1 : I64 h.term) (h2 : I64 h.vote) (h3 : I64 h.base) (h4 : I64 h.baseTerm) (hc : h.conf.ok) (hs : h.snap.length ≤ 16384) (hl : ∀ x ∈ h.log, fitE x) (hll : h.log.length ≤ 1000000) (rest : List UInt8) :
  RS.hardW ⟨h.enc ++ rest, 0⟩ = some (h, ⟨rest, 0⟩) := by
 obtain ⟨t, v, b, bt, c, s, l⟩ := h
 simp only at *
 have e : zC.enc ⟨t, v, b, bt, c, s, l⟩ ++ rest = zS t ++ (zS v ++ (zS b ++ (zS bt ++ (zhY c ++ (yH s ++ (zS l.length ++ (l.flatMap xT ++ rest))))))) := by
  unfold zC.enc encH zQ zdO
  simp
 have hn := xH (l.length : Int) (l.flatMap xT ++ rest) (by omega) (by omega)
 have hg := zlK l
 rw [e]
 unfold RS.hardW
 simp only [xH t _ h1.1 h1.2, xH v _ h2.1 h2.2, xH b _ h3.1 h3.2, xH bt _ h4.1 h4.2, ziV hc, zhV s _ hs]
 have hL : RS.leftN ⟨zS (l.length : Int) ++ (l.flatMap xT ++ rest), 0⟩ = ((zS (l.length : Int) ++ (l.flatMap xT ++ rest)).length : Int) := by unfold RS.leftN; simp
 have hW : RS.listW ⟨zS (l.length : Int) ++ (l.flatMap xT ++ rest), 0⟩ (RS.leftN ⟨zS (l.length : Int) ++ (l.flatMap xT ++ rest), 0⟩) = some (l, ⟨rest, 0⟩) := by
  unfold RS.listW
  rw [hL, hn]
  simp only [Int.toNat_natCast]
  rw [if_pos (by refine ⟨by omega, ?_⟩; simp only [List.length_append]; omega), zoM l hl rest]
 rw [hW]
theorem zoO {h : zC} (h1 : I64 h.term) (h2 : I64 h.vote) (h3 : I64 h.base) (h4 : I64 h.baseTerm) (hc : h.conf.ok) (hl : ∀ x ∈ h.log, fitE x) (hb : h.enc.length ≤ 16384) : yR h.enc = some h := by
 have hg := zlK h.log
 have hlen : h.log.length ≤ h.enc.length ∧ h.snap.length ≤ h.enc.length := by
  unfold zC.enc encH zdO yH
  simp only [List.length_append]
  omega
 have he := zoN h1 h2 h3 h4 hc (by omega) hl (by omega) []
 rw [List.append_nil] at he
 unfold yR
 rw [if_neg (by omega), he]
 simp [RS.done]
end Go.Proofs.YtjhnlncgmejkcaaGreat
