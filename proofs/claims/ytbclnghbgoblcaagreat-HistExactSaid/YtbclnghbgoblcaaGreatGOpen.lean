/-
 From the reading of an argument (the form's own) to the words of the other texts. No program is named here. Conditions: as each theorem names them.
 Lists of pairs in memory. No program is walked here. Conditions: as each theorem names them.
 Two lists, element by element. No program is named here. Conditions: none.
 One operation of a region that draws its order is taken first; the slot that it writes is named. No program is named here. Conditions: none.
-/
import Derived.Test.YtbclnghbgoblcaaGreatMem
import Derived.ProofKit
import Derived.OpenShut
import Derived.ShutString
import Derived.ChangeOld
import Derived.Deep.Slices
import Derived.Deep.Fields
import Derived.Test.YtbclnghbgoblcaaGreatGSpec
import Derived.Deep.RegionHeld3
namespace Go.Proofs.YtbclnghbgoblcaaGreat
open Go.RowKit Go.ChangeShapes Go.WideShapes Go.Deep

section
variable {H : Type} {enc : TypeId × Value → H} {P : Program} {w : World} {base : Nat} {spare : Nat → Bool} {held : Bool} {fuel : Nat} {t : TypeId} {cs : List Value} {x : DataW H × List MemPlace}

theorem trod_float {k : FloatKind} (ht : P.underlying t = some (.float k)) (h : DataW.trod enc P w base spare held fuel t cs = some x) : ∃ b, cs = [.float k b] ∧ (Lit.float k b).wf = true := by
 cases fuel with
 | zero => simp [DataW.trod] at h
 | succ n =>
  unfold DataW.trod at h
  rw [ht] at h
  split at h <;> simp_all

theorem trod_i64 (ht : P.underlying t = some (.int .i64)) (h : DataW.trod enc P w base spare held fuel t cs = some x) :
  ∃ n : Int, cs = [.int .i64 n] ∧ -9223372036854775808 ≤ n ∧ n ≤ 9223372036854775807 := by
 obtain ⟨n, hc, _, hw⟩ := DataW.trod_int ht h
 have : _ := bounds_i64 hw
 exact ⟨n, hc, this⟩
theorem trod_u8 (ht : P.underlying t = some (.int .u8)) (h : DataW.trod enc P w base spare held fuel t cs = some x) : ∃ n : UInt8, cs = [B n] := by
 obtain ⟨n, hc, _, hw⟩ := DataW.trod_int ht h
 have : _ := bounds_u8 hw
 refine ⟨UInt8.ofNat n.toNat, ?_⟩
 rw [hc]
 unfold B
 simp
 omega
theorem trod_f64 (ht : P.underlying t = some (.float .f64)) (h : DataW.trod enc P w base spare held fuel t cs = some x) : ∃ b : Nat, cs = [.float .f64 b] ∧ b < 18446744073709551616 := by
 obtain ⟨b, hc, hw⟩ := trod_float ht h
 refine ⟨b, hc, ?_⟩
 simpa [Lit.wf] using hw
theorem trod_bool' (ht : P.underlying t = some .bool) (h : DataW.trod enc P w base spare held fuel t cs = some x) : ∃ b : Bool, cs = [.bool b] := by
 obtain ⟨b, hc, _⟩ := DataW.trod_bool ht h
 exact ⟨b, hc⟩

theorem flat_len {α : Type} {c : α → List Value} {k : Nat} (hc : ∀ a, (c a).length = k) : ∀ l : List α, (l.flatMap c).length = l.length * k
 | [] => by simp
 | a :: l => by rw [List.flatMap_cons, List.length_append, hc, flat_len hc l, List.length_cons, Nat.succ_mul, Nat.add_comm]
theorem flat_get {α : Type} {c : α → List Value} {k : Nat} (hc : ∀ a, (c a).length = k) : ∀ (l : List α) (i j : Nat) (a : α), l[i]? = some a → j < k → (l.flatMap c)[i * k + j]? = (c a)[j]?
 | [], i, j, a, h, _ => by simp at h
 | b :: l, 0, j, a, h, hj => by
  simp at h; subst h
  rw [List.flatMap_cons, Nat.zero_mul, Nat.zero_add, List.getElem?_append_left (by rw [hc]; exact hj)]
 | b :: l, i + 1, j, a, h, hj => by
  have e : (i + 1) * k + j = k + (i * k + j) := by rw [Nat.succ_mul]; omega
  rw [List.flatMap_cons, List.getElem?_append_right (by rw [hc]; omega), hc, e, Nat.add_sub_cancel_left]
  exact flat_get hc l i j a (by simpa using h) hj

/-- A slice, whatever its elements are made of. -/
theorem open_sl {α : Type} (c : α → List Value) (ok : α → Prop) (k : Nat) (hck : ∀ a, (c a).length = k) (hk : 0 < k) {e : TypeId} (ht : P.underlying t = some (.slice e)) (hC : P.cellsOf e = k)
  (hel : ∀ n cs' y, DataW.trod enc P w base spare held n e cs' = some y → ∃ a, cs' = c a ∧ ok a)
  (h : DataW.trod enc P w base spare held fuel t cs = some x) :
  ∃ (v : Value) (l : List α), cs = [v] ∧ Sl w (fun g => g < w.heap.size) k v l.length (l.flatMap c) ∧ ∀ a ∈ l, ok a := by
 rcases open_slice ht h with ⟨h0, _⟩ | ⟨a, len, cap, m, n, D, Pl, hcs, hb, hl, hm, hmm, hx, hi⟩
 ·
  exact ⟨_, [], h0, Sl.nil _ _ _, by simp⟩
 ·
  rw [hC] at hi
  have hlm : len ≤ m := by rw [hmm]; split <;> omega
  have hch : ∀ i : Fin len, ∃ b : α, ok b ∧ w.cells? base (a.add (i.1 * k)) k = some (c b) := by
   intro i
   obtain ⟨cs', h1, h2⟩ := hi i.1 (by omega)
   obtain ⟨b, rfl, hb⟩ := hel _ _ _ h2
   exact ⟨b, hb, h1⟩
  refine ⟨_, List.ofFn fun i : Fin len => Classical.choose (hch i), hcs, ⟨flat_len hck _, some a, cap, by rw [List.length_ofFn], by rw [List.length_ofFn]; exact hl, hm, fun h0 => ?_⟩, ?_⟩
  ·
   rw [List.length_ofFn] at h0
   have hcell : ∀ i (hi : i < len) j, j < k → w.cell? (a.add (i * k + j)) = (c (Classical.choose (hch ⟨i, hi⟩)))[j]? := by
    intro i hi j hj
    have := (World.cells?_some (Classical.choose_spec (hch ⟨i, hi⟩)).2).2.2 j hj
    rw [Go.Deep.add_add] at this
    exact this
   obtain ⟨u, hu⟩ : ∃ u, w.cell? (a.add (0 * k + 0)) = some u := ⟨_, (hcell 0 h0 0 hk).trans (List.getElem?_eq_getElem (by rw [hck]; exact hk))⟩
   have ha : a.add (0 * k + 0) = a := by simp [Addr.add]
   rw [ha] at hu
   have hspot : a.spot = none := by
    rcases hs : a.spot with _ | q
    ·
     rfl
    ·
     exfalso
     simp only [World.cell?, hs, Option.isSome_some, if_true] at hu
     split at hu <;> simp at hu
   obtain ⟨g, off, sp⟩ := a
   simp only at hspot
   subst hspot
   refine ⟨g, off, rfl, World.block_lt_of_cell? w _ hu, fun j u hj => ?_⟩
   have hjl : j < len * k := by
    have := (List.getElem?_eq_some_iff.1 hj).1
    rw [flat_len hck, List.length_ofFn] at this
    exact this
   have hq : j / k < len := Nat.div_lt_of_lt_mul (by rw [Nat.mul_comm]; exact hjl)
   have hr : j % k < k := Nat.mod_lt _ hk
   have hjj : j = j / k * k + j % k := by rw [Nat.mul_comm]; exact (Nat.div_add_mod j k).symm
   have h1 := hcell (j / k) hq (j % k) hr
   rw [← hjj, addMk] at h1
   rw [h1, ← hj]
   conv => rhs; rw [hjj]
   rw [flat_get hck _ (j / k) (j % k) (Classical.choose (hch ⟨j / k, hq⟩)) (by rw [List.getElem?_ofFn, dif_pos hq]) hr]
  ·
   intro b hb
   rw [List.mem_ofFn] at hb
   obtain ⟨i, rfl⟩ := hb
   exact (Classical.choose_spec (hch i)).1

theorem flatMap_single {α β : Type} (f : α → β) (l : List α) : (l.flatMap fun a => [f a]) = l.map f := by
 induction l with
 | nil => rfl
 | cons a l ih => simp [ih]

theorem open_bytes {e : TypeId} (ht : P.underlying t = some (.slice e)) (he : P.underlying e = some (.int .u8)) (hC : P.cellsOf e = 1) (h : DataW.trod enc P w base spare held fuel t cs = some x) :
  ∃ (v : Value) (l : List UInt8), cs = [v] ∧ Byt w (fun g => g < w.heap.size) v l := by
 obtain ⟨v, l, h1, h2, _⟩ := open_sl (fun b : UInt8 => [B b]) (fun _ => True) 1 (fun _ => rfl) (by omega) ht hC (fun n cs' y hy => by
  obtain ⟨b, hb⟩ := trod_u8 he hy
  exact ⟨b, hb, trivial⟩) h
 exact ⟨v, l, h1, by rw [flatMap_single] at h2; exact h2⟩
theorem open_i64s {e : TypeId} (ht : P.underlying t = some (.slice e)) (he : P.underlying e = some (.int .i64)) (hC : P.cellsOf e = 1) (h : DataW.trod enc P w base spare held fuel t cs = some x) :
  ∃ (v : Value) (l : List Int), cs = [v] ∧ Sl w (fun g => g < w.heap.size) 1 v l.length (l.map (Value.int .i64)) ∧ ∀ n ∈ l, -9223372036854775808 ≤ n ∧ n ≤ 9223372036854775807 := by
 obtain ⟨v, l, h1, h2, h3⟩ := open_sl (fun b : Int => [Value.int .i64 b]) (fun n => -9223372036854775808 ≤ n ∧ n ≤ 9223372036854775807) 1 (fun _ => rfl) (by omega) ht hC (fun n cs' y hy => by
  obtain ⟨b, hb, h⟩ := trod_i64 he hy
  exact ⟨b, hb, h⟩) h
 exact ⟨v, l, h1, by rw [flatMap_single] at h2; exact h2, h3⟩
end

/-- One argument's value, out of its reading. -/
theorem val_of {H : Type} {enc : TypeId × Value → H} {P : Program} {w : World} {base b0 : Nat} {spare : Nat → Bool} {held : Bool} {r : Reach} {t e : TypeId} {v : Value} {d : DataW H} {p : List MemPlace} (ht : P.underlying t = some (.slice e))
  (hv : Value.okWide P w r b0 t v) (h : DataW.Trod enc P w base spare held t v d p) : ∃ fuel, DataW.trod enc P w base spare held fuel t [v] = some (d, p) := by
 obtain ⟨a, len, cap, rfl⟩ := okWide_slice ht hv
 obtain ⟨fuel, hf⟩ := h
 exact ⟨fuel, by simpa [Value.cells] using hf⟩
end Go.Proofs.YtbclnghbgoblcaaGreat

namespace Go.Proofs.YtbclnghbgoblcaaGreat

/-- A list of pairs. -/
def Prs (w : World) (T : Nat → Prop) (v : Value) (l : List APair) : Prop := Sl w T 4 v l.length (l.flatMap APair.cells) ∧ ∀ x ∈ l, x.ok
theorem Prs.mod {w w' : World} {S T : Nat → Prop} {v : Value} {l : List APair} (h : Prs w T v l) (hm : Mod S w w') (hd : ∀ g, T g → ¬ S g) : Prs w' T v l := ⟨h.1.mod hm hd, h.2⟩
theorem Prs.ext {w w' : World} {T : Nat → Prop} {v : Value} {l : List APair} (h : Prs w T v l) (hm : Ext w w') : Prs w' T v l := h.mod hm (fun _ _ => id)
theorem Prs.at {w : World} {T : Nat → Prop} {A : Option Addr} {n c : Nat} {l : List APair} (h : Prs w T (.slice A n c) l) {i : Nat} (hi : i < n) :
  ∃ g off x, A = some ⟨g, off, none⟩ ∧ T g ∧ l[i]? = some x ∧ x.ok ∧ ∀ j u, x.cells[j]? = some u → w.cell? ⟨g, off + i * 4 + j, none⟩ = some u := by
 obtain ⟨⟨hl, A', c', e, hn, hc, hx⟩, hf⟩ := h
 injection e with e1 e2 e3; subst e1; subst e2; subst e3
 obtain ⟨g, off, rfl, hT, hcell⟩ := hx (by omega)
 have hget : l[i]? = some l[i] := List.getElem?_eq_getElem hi
 refine ⟨g, off, l[i], rfl, hT, hget, hf _ (List.getElem_mem hi), fun j u hu => ?_⟩
 have hj : j < 4 := (List.getElem?_eq_some_iff.1 hu).1
 rw [Nat.add_assoc]
 exact hcell _ u (by rw [flat_get (k := 4) (fun _ => rfl) l i j _ hget hj]; exact hu)
theorem Prs.len {w : World} {T : Nat → Prop} {A : Option Addr} {n c : Nat} {l : List APair} (h : Prs w T (.slice A n c) l) : l.length = n ∧ n ≤ maxLen := by
 have hl := h.1.le
 obtain ⟨⟨_, _, _, e, _⟩, _⟩ := h
 injection e with _ e _
 exact ⟨e.symm, by omega⟩
theorem Prs.form {w : World} {T : Nat → Prop} {v : Value} {l : List APair} (h : Prs w T v l) : ∃ A c, v = .slice A l.length c := by
 obtain ⟨⟨_, A, c, e, _⟩, _⟩ := h
 exact ⟨A, c, e⟩
/-- Pairs of one's own. -/
def NewP (w w' : World) (v : Value) (l : List APair) : Prop := w'.ownsRow 0 94 4 v l.length (l.flatMap APair.cells) ∧ (∀ x ∈ l, x.ok) ∧ ∀ g, v.ownBlock = some g → w.heap.size ≤ g
theorem NewP.prs {w w' : World} {v : Value} {l : List APair} (h : NewP w w' v l) : Prs w' (fun g => v.ownBlock = some g) v l := ⟨Sl.of_own h.1 (fun _ h => h), h.2.1⟩
/-- Two lists of pairs, one by one. -/
def eqPair (a b : APair) : Bool := eqT a.key b.key && eqVal a.val b.val
end Go.Proofs.YtbclnghbgoblcaaGreat

namespace Go.Proofs.YtbclnghbgoblcaaGreat
/-- Two lists, element by element. -/
def eqL {α : Type} (p : α → α → Bool) : List α → List α → Bool
 | [], [] => true
 | a :: l, b :: m => p a b && eqL p l m
 | _, _ => false
theorem eqL_iff {α : Type} (p : α → α → Bool) (l : List α) : ∀ m : List α, eqL p l m = true ↔ l.length = m.length ∧ ∀ (i : Nat) (x y : α), l[i]? = some x → m[i]? = some y → p x y = true := by
 induction l with
 | nil => intro m; cases m <;> simp [eqL]
 | cons a l ih =>
  intro m
  cases m with
  | nil => simp [eqL]
  | cons b m =>
   simp only [eqL, Bool.and_eq_true, ih, List.length_cons, Nat.add_right_cancel_iff]
   constructor
   ·
    rintro ⟨h, h1, h2⟩
    refine ⟨h1, fun i x y hx hy => ?_⟩
    cases i with
    | zero => simp at hx hy; subst hx; subst hy; exact h
    | succ i => exact h2 i x y (by simpa using hx) (by simpa using hy)
   ·
    rintro ⟨h1, h2⟩
    exact ⟨h2 0 a b rfl rfl, h1, fun i x y hx hy => h2 (i + 1) x y (by simpa using hx) (by simpa using hy)⟩
theorem eqL_step {α : Type} {p : α → α → Bool} {l m : List α} {i : Nat} {x y : α} (h : ∀ j < i, ∀ x y, l[j]? = some x → m[j]? = some y → p x y = true) (hx : l[i]? = some x) (hy : m[i]? = some y) (e : p x y = true) :
  ∀ j < i + 1, ∀ x y, l[j]? = some x → m[j]? = some y → p x y = true := by
 intro j hj a b ha hb
 by_cases hji : j = i
 ·
  subst hji; rw [hx] at ha; rw [hy] at hb; cases ha; cases hb; exact e
 ·
  exact h j (by omega) a b ha hb
theorem eqL_no {α : Type} {p : α → α → Bool} {l m : List α} {i : Nat} {x y : α} (hx : l[i]? = some x) (hy : m[i]? = some y) (e : p x y = false) : eqL p l m = false := by
 rw [← Bool.not_eq_true, eqL_iff]; rintro ⟨_, h⟩; have := h i x y hx hy; rw [e] at this; cases this
theorem eqL_len {α : Type} {p : α → α → Bool} {l m : List α} (e : l.length ≠ m.length) : eqL p l m = false := by
 rw [← Bool.not_eq_true, eqL_iff]; exact fun h => e h.1
theorem eqL_yes {α : Type} {p : α → α → Bool} {l m : List α} {n : Nat} (h : ∀ j < n, ∀ x y, l[j]? = some x → m[j]? = some y → p x y = true) (e : l.length = n) (e' : m.length = n) : eqL p l m = true := by
 rw [eqL_iff]
 exact ⟨by omega, fun i x y hx hy => h i (by have := (List.getElem?_eq_some_iff.1 hx).1; omega) x y hx hy⟩
end Go.Proofs.YtbclnghbgoblcaaGreat

namespace Go.Proofs.YtbclnghbgoblcaaGreat
theorem takeH {P : Program} {ops : Array Oper} {Q : Exit → Act → World → Prop} {md : Region.Mode} {S : World → Prop} {i : Nat} {oi : Oper} {v : Value} {fuel : Nat} {listed : Array Bool} {a : Act} {w : World} (d : Option Tmp)
  (hi : ops[i]? = some oi) (hd : oi.dst = d) (hs : Region.noSelect ops = true) (hf : Region.free md ops listed i = true) (hr : (Region.ready md ops listed).contains i = true)
  (hQ : ∀ c a w, Q (.panic c) (a.put d v) w → Q (.panic c) a w) (hy : YieldsIf P ops S oi v a) (hS : S w)
  (h : wpAnyH P md ops Q S fuel (listed.setIfInBounds i true) (a.put d v) w) : wpAnyH P md ops Q S (fuel + 1) listed a w := by
 subst hd
 exact wpAnyH_take hi hs hf hr hQ hy hS h
theorem tkH {P : Program} {ops : Array Oper} {Q : Exit → Act → World → Prop} {md : Region.Mode} {S : World → Prop} {oi : Oper} {fuel : Nat} {listed : Array Bool} {a : Act} {w : World} (i : Nat) (d : Option Tmp)
  (hi : ops[i]? = some oi) (hd : oi.dst = d) (v : Value) (hS : S w) (hy : ∀ w, S w → (execOp a.eval oi).run P w = .ok (.value v) w)
  (h : wpAnyH P md ops Q S fuel (listed.setIfInBounds i true) (a.put d v) w)
  (hs : Region.noSelect ops = true := by kernel_rfl) (hf : Region.free md ops listed i = true := by kernel_rfl) (hr : (Region.ready md ops listed).contains i = true := by kernel_rfl)
  (hw : Region.wanted oi (yielded ops a.tmps) = true := by kernel_rfl) (hQ : ∀ c a w, Q (.panic c) (a.put d v) w → Q (.panic c) a w := by exact fun _ _ _ h => h) : wpAnyH P md ops Q S (fuel + 1) listed a w :=
 takeH d hi hd hs hf hr hQ (.inl ⟨hw, hy⟩) hS h
theorem tuH {P : Program} {ops : Array Oper} {Q : Exit → Act → World → Prop} {md : Region.Mode} {S : World → Prop} {oi : Oper} {fuel : Nat} {listed : Array Bool} {a : Act} {w : World} (i : Nat) (d : Option Tmp)
  (hi : ops[i]? = some oi) (hd : oi.dst = d) (hS : S w) (h : wpAnyH P md ops Q S fuel (listed.setIfInBounds i true) (a.put d undef) w)
  (hs : Region.noSelect ops = true := by kernel_rfl) (hf : Region.free md ops listed i = true := by kernel_rfl) (hr : (Region.ready md ops listed).contains i = true := by kernel_rfl)
  (hw : Region.wanted oi (yielded ops a.tmps) = false := by kernel_rfl) (hQ : ∀ c a w, Q (.panic c) (a.put d undef) w → Q (.panic c) a w := by exact fun _ _ _ h => h) : wpAnyH P md ops Q S (fuel + 1) listed a w :=
 takeH d hi hd hs hf hr hQ (.inr ⟨hw, rfl⟩) hS h
theorem tkE {P : Program} {ops : Array Oper} {Q : Exit → Act → World → Prop} {md : Region.Mode} {oi : Oper} {fuel : Nat} {listed : Array Bool} {a : Act} {W w : World} (i : Nat) (d : Option Tmp)
  (hi : ops[i]? = some oi) (hd : oi.dst = d) (v : Value) (hS : Ext W w) (hy : ∀ w, (∀ b o, b < W.heap.size → w.cell? ⟨b, o, none⟩ = W.cell? ⟨b, o, none⟩) → (∀ b o, b < W.heap.size → w.frozen? ⟨b, o, none⟩ = W.frozen? ⟨b, o, none⟩) → (execOp a.eval oi).run P w = .ok (.value v) w)
  (h : wpAnyH P md ops Q (fun W' => Ext W W') fuel (listed.setIfInBounds i true) (a.put d v) w)
  (hs : Region.noSelect ops = true := by kernel_rfl) (hf : Region.free md ops listed i = true := by kernel_rfl) (hr : (Region.ready md ops listed).contains i = true := by kernel_rfl)
  (hw : Region.wanted oi (yielded ops a.tmps) = true := by kernel_rfl) (hQ : ∀ c a w, Q (.panic c) (a.put d v) w → Q (.panic c) a w := by exact fun _ _ _ h => h) : wpAnyH P md ops Q (fun W' => Ext W W') (fuel + 1) listed a w :=
 takeH d hi hd hs hf hr hQ (.inl ⟨hw, fun w' hE => hy w' (fun b o h => hE.below.cell (p := ⟨b, o, none⟩) h) (fun b o h => hE.below.frozen (p := ⟨b, o, none⟩) h)⟩) hS h
theorem pL : (∀ t ds (d : Tmp) v, Act.put ⟨t, ds⟩ (some d) v = ⟨t.setIfInBounds d v, ds⟩) ∧ (∀ (a : Act) v, a.put none v = a) ∧ (∀ (l : List Value) i v, l.toArray.setIfInBounds i v = (l.set i v).toArray) ∧
  (∀ (x y : Value) l, (x :: l).set 0 y = y :: l) ∧ (∀ (x y : Value) l n, (x :: l).set (n + 1) y = x :: l.set n y) :=
 ⟨fun _ _ _ _ => rfl, fun _ _ => rfl, fun _ _ _ => by simp, fun _ _ _ => rfl, fun _ _ _ _ => rfl⟩
end Go.Proofs.YtbclnghbgoblcaaGreat
