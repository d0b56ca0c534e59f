/-
 Plain functions: entries that are read, as the page (layer 10) reads them; where package wire throws, an error is kept there. No program is walked here. Conditions: as each theorem names them.
-/
import Derived.Test.YtfkacakbengboaaValP
import Derived.Test.YtfkacakbengboaaGSpec
namespace Go.Proofs.Ytfkacakbengboaa
set_option linter.unusedSimpArgs false

def RS.callP (r : RS) : ACall × RS :=
 let a := r.int; let b := a.2.int; let k := b.2.int; let t := k.2.text; let o := t.2.valP; let v := o.2.valP
 (⟨a.1, b.1, ⟨k.1, ⟨t.1.toArray⟩, o.1, v.1⟩⟩, v.2)
def RS.confP (r : RS) : AConf × RS :=
 let a := r.int; let b := a.2.int; let c := b.2.int; let d := c.2.int
 (⟨a.1, b.1, c.1, d.1⟩, d.2)
def RS.entP (r : RS) : AEntry × RS :=
 let a := r.int; let k := a.2.int
 if k.1 = 0 then (⟨a.1, k.1, ACall.zero, AConf.zero⟩, k.2)
 else if k.1 = 1 then (⟨a.1, k.1, k.2.callP.1, AConf.zero⟩, k.2.callP.2)
 else if k.1 = 2 then (⟨a.1, k.1, ACall.zero, k.2.confP.1⟩, k.2.confP.2)
 else (⟨a.1, k.1, ACall.zero, AConf.zero⟩, k.2.fail 3)
/-- What the page tells of bytes: the entry, if there is one. -/
def readEntP (b : List UInt8) : Option AEntry := if (RS.entP ⟨b, 0⟩).2.done = 0 ∧ b.length ≤ 16384 then some (RS.entP ⟨b, 0⟩).1 else none
/-- Where package wire throws. -/
def RS.valT (r : RS) : Bool := !(r.int.1 == 0 || r.int.1 == 1 || r.int.1 == 2)
def RS.callT (r : RS) : Bool := r.int.2.int.2.int.2.text.2.valT || r.int.2.int.2.int.2.text.2.valP.2.valT
def RS.entT (r : RS) : Bool := !(r.int.2.int.1 == 0 || r.int.2.int.1 == 1 || r.int.2.int.1 == 2) || (r.int.2.int.1 == 1 && r.int.2.int.2.callT)
/-- What package wire reads of bytes. -/
def wReadEnt (b : List UInt8) : Option AEntry := if 16384 < b.length then none else if RS.entT ⟨b, 0⟩ then none else if (RS.entP ⟨b, 0⟩).2.done ≠ 0 then none else some (RS.entP ⟨b, 0⟩).1
theorem fail_e (r : RS) : (r.fail 3).e ≠ 0 := by
 unfold RS.fail
 split
 ·
  simp
 ·
  rename_i h; exact h
theorem int_st {r : RS} (h : r.e ≠ 0) : r.int = (0, r) := by unfold RS.int; rw [if_pos h]
theorem text_st {r : RS} (h : r.e ≠ 0) : r.text = ([], r) := by
 unfold RS.text
 rw [int_st h, if_pos h]
theorem valP_st {r : RS} (h : r.e ≠ 0) : r.valP.2 = r := by
 unfold RS.valP RS.val
 rw [int_st h]
 simp
theorem valT_st {r : RS} (h : r.e ≠ 0) : r.valT = false := by
 unfold RS.valT
 rw [int_st h]
 rfl
theorem valT_e {r : RS} (h : r.valT = true) : r.valP.2.e ≠ 0 := by
 unfold RS.valT at h
 simp only [Bool.not_eq_true', Bool.or_eq_false_iff, beq_eq_false_iff_ne] at h
 unfold RS.valP
 rw [if_neg (by rintro (e | e | e); { exact h.1.1 e }; { exact h.1.2 e }; { exact h.2 e })]
 exact fail_e _
theorem callT_e {r : RS} (h : r.callT = true) : r.callP.2.e ≠ 0 := by
 unfold RS.callT at h
 unfold RS.callP
 simp only
 rw [Bool.or_eq_true] at h
 rcases h with h | h
 ·
  have := valT_e h
  rw [valP_st this]
  exact this
 ·
  exact valT_e h
theorem entT_e {r : RS} (h : r.entT = true) : r.entP.2.e ≠ 0 := by
 unfold RS.entT at h
 unfold RS.entP
 simp only
 rw [Bool.or_eq_true] at h
 rcases h with h | h
 ·
  simp only [Bool.not_eq_true', Bool.or_eq_false_iff, beq_eq_false_iff_ne] at h
  rw [if_neg h.1.1, if_neg h.1.2, if_neg h.2]
  exact fail_e _
 ·
  rw [Bool.and_eq_true, beq_iff_eq] at h
  rw [if_neg (by omega), if_pos h.1]
  exact callT_e h.2
/-- The entry of any bytes is the page's. -/
theorem read_ent (b : List UInt8) : wReadEnt b = readEntP b := by
 unfold wReadEnt readEntP
 by_cases hl : 16384 < b.length
 ·
  rw [if_pos hl, if_neg (by omega)]
 rw [if_neg hl]
 rcases ht : RS.entT ⟨b, 0⟩ with _ | _
 ·
  rw [if_neg (by simp)]
  by_cases hd : (RS.entP ⟨b, 0⟩).2.done = 0
  ·
   rw [if_neg (by simpa using hd), if_pos ⟨hd, by omega⟩]
  ·
   rw [if_pos hd, if_neg (fun h => hd h.1)]
 ·
  rw [if_pos rfl, if_neg ?_]
  rintro ⟨hd, _⟩
  have := entT_e ht
  unfold RS.done at hd
  split at hd
  ·
   cases hd
  ·
   exact this hd
end Go.Proofs.Ytfkacakbengboaa
