/-
 Lengths of what is written; a text made bytes, bytes made a text; a reader's own blocks. Conditions: as each theorem names them.
-/
import Derived.Test.YtfkacakbengboaaPackR
import Derived.Test.YtfkacakbengboaaGSpec
import Derived.Lib.ConvBytes
import Derived.Laws.IdiomStrings
namespace Go.Proofs.Ytfkacakbengboaa
set_option linter.unusedSimpArgs false
open Go.RowKit

theorem encText_len' (t : List UInt8) : (encText t).length ≤ 10 + t.length := by have := encInt_len t.length; simp [encText]; omega
theorem hib_len' : ∀ k x, (hib k x).length = k := by
 intro k x
 induction k with
 | zero => rfl
 | succ k ih => simp [hib, ih]
theorem encV_len (v : AVal) : (encV v).length ≤ 30 + v.text.size := by
 have h1 := encInt_len v.kind
 have h2 := encText_len' (bsOf v.text)
 have h3 : (encFloat v.num).length = 8 := hib_len' 8 _
 have h4 : (bsOf v.text).length = v.text.size := rfl
 unfold encV
 rw [List.length_append]
 split
 ·
  omega
 ·
  split
  ·
   omega
  ·
   simp; omega

theorem flat_snoc {α : Type} {f : α → List UInt8} {l : List α} {i : Nat} {x : α} (h : l[i]? = some x) : (l.take (i + 1)).flatMap f = (l.take i).flatMap f ++ f x := by
 obtain ⟨hi, rfl⟩ := List.getElem?_eq_some_iff.1 h
 rw [List.take_succ_eq_append_getElem hi, List.flatMap_append]
 simp
theorem flatB_len {α : Type} {f : α → List UInt8} {l : List α} {k : Nat} (h : ∀ x ∈ l, (f x).length ≤ k) : (l.flatMap f).length ≤ l.length * k := by
 induction l with
 | nil => simp
 | cons a l ih =>
  have h1 := h a (by simp)
  have h2 := ih (fun x hx => h x (by simp [hx]))
  rw [List.flatMap_cons, List.length_append, List.length_cons, Nat.succ_mul]
  omega
theorem take_len {α : Type} {f : α → List UInt8} {l : List α} {k : Nat} (i : Nat) (h : ∀ x ∈ l, (f x).length ≤ k) : ((l.take i).flatMap f).length ≤ l.length * k := by
 have h1 := flatB_len (f := f) (l := l.take i) (k := k) (fun x hx => h x (List.mem_of_mem_take hx))
 have h2 : (l.take i).length ≤ l.length := by rw [List.length_take]; omega
 exact Nat.le_trans h1 (Nat.mul_le_mul_right _ h2)
theorem conv_sb (s : ByteArray) (w : World) : (convert 9 25 (.string s)).run Try.prog w = .ok (.slice (some ⟨w.heap.size, 0, none⟩) s.size (grownCap w s.size 0 5)) (Lib.bytesWorld w 5 s) :=
 Lib.run_convert_string_bytes w _ _ _ s Try.underlying9 Try.underlying25 Try.underlying5
theorem bw_ext (w : World) (e : TypeId) (s : ByteArray) : Ext w (Lib.bytesWorld w e s) :=
 ⟨rfl, rfl, rfl, by rw [Lib.bytesWorld_size]; omega, fun k hk _ => Lib.bytesWorld_at_old w e s k hk⟩
theorem bw_byt (w : World) (e : TypeId) (s : ByteArray) (hs : s.size ≤ maxLen) : Byt (Lib.bytesWorld w e s) (fun g => w.heap.size ≤ g) (.slice (some ⟨w.heap.size, 0, none⟩) s.size (grownCap w s.size 0 e)) (bsOf s) := by
 have hl : (bsOf s).length = s.size := rfl
 refine ⟨by simp, _, _, by rw [hl], by rw [hl]; exact grownCap_ge w _ _ _, grownCap_le_maxLen w _ _ _ hs, fun _ => ⟨_, 0, rfl, Nat.le_refl _, fun j u hu => ?_⟩⟩
 have hj : j < s.size := by have := (List.getElem?_eq_some_iff.1 hu).1; simpa using this
 rw [Nat.zero_add, Lib.bytesWorld_cell w e s j hj, ← hu]
 have hjl : j < s.data.toList.length := by simpa using hj
 rw [List.getElem?_map, List.getElem?_eq_getElem hjl, Option.map_some, List.getD, List.getElem?_eq_getElem hjl]
 rfl
theorem conv_bs {w : World} {T : Nat → Prop} {v : Value} {l : List UInt8} (h : Byt w T v l) : (convert 25 9 v).run Try.prog w = .ok (.string ⟨l.toArray⟩) w := by
 obtain ⟨_, A, c, rfl, hn, hc, hx⟩ := h
 rcases A with _ | a
 ·
  have hl : l = [] := by
   rcases l with _ | ⟨x, l⟩
   ·
    rfl
   ·
    obtain ⟨g, off, e, _⟩ := hx (by simp)
    cases e
  subst hl
  rw [run_convert_bytes_string w _ _ _ none _ c Try.underlying25 Try.underlying5 Try.underlying9]
  simp [Conv.bytesToString]
  rfl
 ·
  refine run_convert_bytes_back w _ _ _ a c l Try.underlying25 Try.underlying5 Try.underlying9 (fun j hj => ?_)
  obtain ⟨g, off, e, _, hcell⟩ := hx (by omega)
  injection e with e
  subst e
  have h9 := hcell j (.int .u8 (l[j].toNat : Int)) (by simp [hj, B])
  simp only [Addr.add]
  split
  ·
   rename_i h0
   subst h0
   simpa using h9
  ·
   simpa using h9
/-- A reader's blocks are there. -/
theorem Rd.fin {w : World} {S : Nat → Prop} {b : Nat} {r : RS} (h : Rd w S b r) : Rd w (fun k => S k ∧ k < w.heap.size) b r := by
 obtain ⟨v, t, hb, ⟨hl, A, c, e, hn, hc, hx⟩, hS⟩ := h
 refine ⟨v, t, hb, ⟨hl, A, c, e, hn, hc, fun h0 => ?_⟩, hS, (Array.getElem?_eq_some_iff.1 hb).1⟩
 obtain ⟨g, off, hA, hT, hcell⟩ := hx h0
 refine ⟨g, off, hA, ⟨⟨hT.1, ?_⟩, hT.2⟩, hcell⟩
 obtain ⟨u, hu⟩ : ∃ u, (r.left.map B)[0]? = some u := by
  rw [List.getElem?_eq_getElem (by simpa using h0)]
  exact ⟨_, rfl⟩
 exact World.block_lt_of_cell? _ _ (hcell 0 u hu)
end Go.Proofs.Ytfkacakbengboaa
