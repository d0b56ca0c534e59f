/-
 From the reading of an argument (the form's own) to the words of the other texts. No program is named here. Conditions: as each theorem names them.
-/
import Derived.Test.YtmebipnljkopgaaGreatDoorMem
import Derived.ProofKit
import Derived.OpenShut
import Derived.ShutString
import Derived.ChangeOld
import Derived.Deep.Slices
import Derived.Deep.Fields
namespace Go.Proofs.YtmebipnljkopgaaGreatDoor
open Go.RowKit Go.ChangeShapes Go.WideShapes Go.Deep

section
variable {H : Type} {enc : TypeId × Value → H} {P : Program} {w : World} {base : Nat} {spare : Nat → Bool} {held : Bool} {fuel : Nat} {t : TypeId} {cs : List Value} {x : DataW H × List MemPlace}

theorem trod_float {k : FloatKind} (ht : P.underlying t = some (.float k)) (h : DataW.trod enc P w base spare held fuel t cs = some x) : ∃ b, cs = [.float k b] ∧ (Lit.float k b).wf = true := by
 cases fuel with
 | zero => simp [DataW.trod] at h
 | succ n =>
  unfold DataW.trod at h
  rw [ht] at h
  split at h <;> simp_all

theorem trod_i64 (ht : P.underlying t = some (.int .i64)) (h : DataW.trod enc P w base spare held fuel t cs = some x) :
  ∃ n : Int, cs = [.int .i64 n] ∧ -9223372036854775808 ≤ n ∧ n ≤ 9223372036854775807 := by
 obtain ⟨n, hc, _, hw⟩ := DataW.trod_int ht h
 have : _ := bounds_i64 hw
 exact ⟨n, hc, this⟩
theorem trod_u8 (ht : P.underlying t = some (.int .u8)) (h : DataW.trod enc P w base spare held fuel t cs = some x) : ∃ n : UInt8, cs = [B n] := by
 obtain ⟨n, hc, _, hw⟩ := DataW.trod_int ht h
 have : _ := bounds_u8 hw
 refine ⟨UInt8.ofNat n.toNat, ?_⟩
 rw [hc]
 unfold B
 simp
 omega
theorem trod_f64 (ht : P.underlying t = some (.float .f64)) (h : DataW.trod enc P w base spare held fuel t cs = some x) : ∃ b : Nat, cs = [.float .f64 b] ∧ b < 18446744073709551616 := by
 obtain ⟨b, hc, hw⟩ := trod_float ht h
 refine ⟨b, hc, ?_⟩
 simpa [Lit.wf] using hw
theorem trod_bool' (ht : P.underlying t = some .bool) (h : DataW.trod enc P w base spare held fuel t cs = some x) : ∃ b : Bool, cs = [.bool b] := by
 obtain ⟨b, hc, _⟩ := DataW.trod_bool ht h
 exact ⟨b, hc⟩

theorem flat_len {α : Type} {c : α → List Value} {k : Nat} (hc : ∀ a, (c a).length = k) : ∀ l : List α, (l.flatMap c).length = l.length * k
 | [] => by simp
 | a :: l => by rw [List.flatMap_cons, List.length_append, hc, flat_len hc l, List.length_cons, Nat.succ_mul, Nat.add_comm]
theorem flat_get {α : Type} {c : α → List Value} {k : Nat} (hc : ∀ a, (c a).length = k) : ∀ (l : List α) (i j : Nat) (a : α), l[i]? = some a → j < k → (l.flatMap c)[i * k + j]? = (c a)[j]?
 | [], i, j, a, h, _ => by simp at h
 | b :: l, 0, j, a, h, hj => by
  simp at h; subst h
  rw [List.flatMap_cons, Nat.zero_mul, Nat.zero_add, List.getElem?_append_left (by rw [hc]; exact hj)]
 | b :: l, i + 1, j, a, h, hj => by
  have e : (i + 1) * k + j = k + (i * k + j) := by rw [Nat.succ_mul]; omega
  rw [List.flatMap_cons, List.getElem?_append_right (by rw [hc]; omega), hc, e, Nat.add_sub_cancel_left]
  exact flat_get hc l i j a (by simpa using h) hj

/-- A slice, whatever its elements are made of. -/
theorem open_sl {α : Type} (c : α → List Value) (ok : α → Prop) (k : Nat) (hck : ∀ a, (c a).length = k) (hk : 0 < k) {e : TypeId} (ht : P.underlying t = some (.slice e)) (hC : P.cellsOf e = k)
  (hel : ∀ n cs' y, DataW.trod enc P w base spare held n e cs' = some y → ∃ a, cs' = c a ∧ ok a)
  (h : DataW.trod enc P w base spare held fuel t cs = some x) :
  ∃ (v : Value) (l : List α), cs = [v] ∧ Sl w (fun g => g < w.heap.size) k v l.length (l.flatMap c) ∧ ∀ a ∈ l, ok a := by
 rcases open_slice ht h with ⟨h0, _⟩ | ⟨a, len, cap, m, n, D, Pl, hcs, hb, hl, hm, hmm, hx, hi⟩
 ·
  exact ⟨_, [], h0, Sl.nil _ _ _, by simp⟩
 ·
  rw [hC] at hi
  have hlm : len ≤ m := by rw [hmm]; split <;> omega
  have hch : ∀ i : Fin len, ∃ b : α, ok b ∧ w.cells? base (a.add (i.1 * k)) k = some (c b) := by
   intro i
   obtain ⟨cs', h1, h2⟩ := hi i.1 (by omega)
   obtain ⟨b, rfl, hb⟩ := hel _ _ _ h2
   exact ⟨b, hb, h1⟩
  refine ⟨_, List.ofFn fun i : Fin len => Classical.choose (hch i), hcs, ⟨flat_len hck _, some a, cap, by rw [List.length_ofFn], by rw [List.length_ofFn]; exact hl, hm, fun h0 => ?_⟩, ?_⟩
  ·
   rw [List.length_ofFn] at h0
   have hcell : ∀ i (hi : i < len) j, j < k → w.cell? (a.add (i * k + j)) = (c (Classical.choose (hch ⟨i, hi⟩)))[j]? := by
    intro i hi j hj
    have := (World.cells?_some (Classical.choose_spec (hch ⟨i, hi⟩)).2).2.2 j hj
    rw [Go.Deep.add_add] at this
    exact this
   obtain ⟨u, hu⟩ : ∃ u, w.cell? (a.add (0 * k + 0)) = some u := ⟨_, (hcell 0 h0 0 hk).trans (List.getElem?_eq_getElem (by rw [hck]; exact hk))⟩
   have ha : a.add (0 * k + 0) = a := by simp [Addr.add]
   rw [ha] at hu
   have hspot : a.spot = none := by
    rcases hs : a.spot with _ | q
    ·
     rfl
    ·
     exfalso
     simp only [World.cell?, hs, Option.isSome_some, if_true] at hu
     split at hu <;> simp at hu
   obtain ⟨g, off, sp⟩ := a
   simp only at hspot
   subst hspot
   refine ⟨g, off, rfl, World.block_lt_of_cell? w _ hu, fun j u hj => ?_⟩
   have hjl : j < len * k := by
    have := (List.getElem?_eq_some_iff.1 hj).1
    rw [flat_len hck, List.length_ofFn] at this
    exact this
   have hq : j / k < len := Nat.div_lt_of_lt_mul (by rw [Nat.mul_comm]; exact hjl)
   have hr : j % k < k := Nat.mod_lt _ hk
   have hjj : j = j / k * k + j % k := by rw [Nat.mul_comm]; exact (Nat.div_add_mod j k).symm
   have h1 := hcell (j / k) hq (j % k) hr
   rw [← hjj, addMk] at h1
   rw [h1, ← hj]
   conv => rhs; rw [hjj]
   rw [flat_get hck _ (j / k) (j % k) (Classical.choose (hch ⟨j / k, hq⟩)) (by rw [List.getElem?_ofFn, dif_pos hq]) hr]
  ·
   intro b hb
   rw [List.mem_ofFn] at hb
   obtain ⟨i, rfl⟩ := hb
   exact (Classical.choose_spec (hch i)).1

theorem flatMap_single {α β : Type} (f : α → β) (l : List α) : (l.flatMap fun a => [f a]) = l.map f := by
 induction l with
 | nil => rfl
 | cons a l ih => simp [ih]

theorem open_bytes {e : TypeId} (ht : P.underlying t = some (.slice e)) (he : P.underlying e = some (.int .u8)) (hC : P.cellsOf e = 1) (h : DataW.trod enc P w base spare held fuel t cs = some x) :
  ∃ (v : Value) (l : List UInt8), cs = [v] ∧ Byt w (fun g => g < w.heap.size) v l := by
 obtain ⟨v, l, h1, h2, _⟩ := open_sl (fun b : UInt8 => [B b]) (fun _ => True) 1 (fun _ => rfl) (by omega) ht hC (fun n cs' y hy => by
  obtain ⟨b, hb⟩ := trod_u8 he hy
  exact ⟨b, hb, trivial⟩) h
 exact ⟨v, l, h1, by rw [flatMap_single] at h2; exact h2⟩
theorem open_i64s {e : TypeId} (ht : P.underlying t = some (.slice e)) (he : P.underlying e = some (.int .i64)) (hC : P.cellsOf e = 1) (h : DataW.trod enc P w base spare held fuel t cs = some x) :
  ∃ (v : Value) (l : List Int), cs = [v] ∧ Sl w (fun g => g < w.heap.size) 1 v l.length (l.map (Value.int .i64)) ∧ ∀ n ∈ l, -9223372036854775808 ≤ n ∧ n ≤ 9223372036854775807 := by
 obtain ⟨v, l, h1, h2, h3⟩ := open_sl (fun b : Int => [Value.int .i64 b]) (fun n => -9223372036854775808 ≤ n ∧ n ≤ 9223372036854775807) 1 (fun _ => rfl) (by omega) ht hC (fun n cs' y hy => by
  obtain ⟨b, hb, h⟩ := trod_i64 he hy
  exact ⟨b, hb, h⟩) h
 exact ⟨v, l, h1, by rw [flatMap_single] at h2; exact h2, h3⟩
end

/-- One argument's value, out of its reading. -/
theorem val_of {H : Type} {enc : TypeId × Value → H} {P : Program} {w : World} {base b0 : Nat} {spare : Nat → Bool} {held : Bool} {r : Reach} {t e : TypeId} {v : Value} {d : DataW H} {p : List MemPlace} (ht : P.underlying t = some (.slice e))
  (hv : Value.okWide P w r b0 t v) (h : DataW.Trod enc P w base spare held t v d p) : ∃ fuel, DataW.trod enc P w base spare held fuel t [v] = some (d, p) := by
 obtain ⟨a, len, cap, rfl⟩ := okWide_slice ht hv
 obtain ⟨fuel, hf⟩ := h
 exact ⟨fuel, by simpa [Value.cells] using hf⟩
end Go.Proofs.YtmebipnljkopgaaGreatDoor
