/-
  Plain laws for kv.put: a list in order parts at a key. No program is walked here. Conditions: as each theorem names them.
-/
import Derived.Test.YthhjaneadbkccaaKvLaw
namespace Go.Proofs.Ythhjaneadbkccaa
theorem split3 {l : List APair} (hs : Srt l) (k : ByteArray) : l = (l.filter fun p => ltT p.key k) ++ ((l.filter fun p => eqT p.key k) ++ l.filter fun p => ltT k p.key) := by
  induction l with
  | nil => rfl
  | cons q l ih =>
    have hs' := List.pairwise_cons.1 hs
    rcases h1 : ltT q.key k with _ | _
    · have hgt : ∀ p ∈ l, ltT k p.key = true := fun p hp => by
        rcases h2 : eqT q.key k with _ | _
        · exact ltT_trans (ltT_or h1 h2) (hs'.1 p hp)
        · rw [← (eqT_iff _ _).1 h2]; exact hs'.1 p hp
      have f1 : l.filter (fun p => ltT p.key k) = [] := List.filter_eq_nil_iff.2 fun p hp => by simp [ltT_asymm (hgt p hp)]
      have f2 : l.filter (fun p => ltT k p.key) = l := List.filter_eq_self.2 hgt
      have f3 : l.filter (fun p => eqT p.key k) = [] := List.filter_eq_nil_iff.2 fun p hp => by simp [eqT_gt (hgt p hp)]
      rcases h2 : eqT q.key k with _ | _
      · simp [h1, h2, ltT_or h1 h2, f1, f2, f3]
      · have e := (eqT_iff _ _).1 h2
        have h3 : ltT k q.key = false := by rw [e]; exact ltT_irrefl k
        simp [h1, h2, h3, f1, f2, f3]
    · have h2 := eqT_lt h1
      have h3 := ltT_asymm h1
      have := ih hs'.2
      simp only [List.filter_cons, h1, h2, h3, if_true, Bool.false_eq_true, if_false, List.cons_append]
      rw [← this]
/-- Where a key stands, or would stand. -/
structure Parts (l : List APair) (k : ByteArray) (a m b : List APair) : Prop where
  eq : l = a ++ (m ++ b)
  lo : ∀ p ∈ a, ltT p.key k = true
  mi : ∀ p ∈ m, eqT p.key k = true
  hi : ∀ p ∈ b, ltT k p.key = true
  one : m.length ≤ 1
theorem parts {l : List APair} (hs : Srt l) (k : ByteArray) : ∃ a m b, Parts l k a m b ∧ (∀ v, setP k v false l = a ++ ⟨k, v⟩ :: b) ∧ (∀ v, setP k v true l = a ++ b) := by
  refine ⟨_, _, _, ⟨split3 hs k, fun p hp => (List.mem_filter.1 hp).2, fun p hp => (List.mem_filter.1 hp).2, fun p hp => (List.mem_filter.1 hp).2, one_key hs k⟩, fun v => setP_false hs k v, fun v => ?_⟩
  rw [setP_true]
  conv => lhs; rw [split3 hs k]
  rw [List.filter_append, List.filter_append]
  have f1 : (l.filter fun p => ltT p.key k).filter (fun p => !eqT p.key k) = l.filter fun p => ltT p.key k := List.filter_eq_self.2 fun p hp => by simp [eqT_lt (List.mem_filter.1 hp).2]
  have f2 : (l.filter fun p => eqT p.key k).filter (fun p => !eqT p.key k) = [] := List.filter_eq_nil_iff.2 fun p hp => by simp [(List.mem_filter.1 hp).2]
  have f3 : (l.filter fun p => ltT k p.key).filter (fun p => !eqT p.key k) = l.filter fun p => ltT k p.key := List.filter_eq_self.2 fun p hp => by simp [eqT_gt (List.mem_filter.1 hp).2]
  rw [f1, f2, f3, List.nil_append]
theorem Parts.lt {l : List APair} {k : ByteArray} {a m b : List APair} (h : Parts l k a m b) : ∀ (i : Nat) x, l[i]? = some x → ltT x.key k = decide (i < a.length) := by
  intro i x hx
  rw [h.eq] at hx
  by_cases hi : i < a.length
  · rw [List.getElem?_append_left hi] at hx
    rw [h.lo x (List.mem_of_getElem? hx)]
    simp [hi]
  · rw [List.getElem?_append_right (by omega)] at hx
    have : ltT x.key k = false := by
      rcases List.mem_append.1 (List.mem_of_getElem? hx) with hm | hm
      · rw [(eqT_iff _ _).1 (h.mi x hm)]; exact ltT_irrefl k
      · exact ltT_asymm (h.hi x hm)
    rw [this]
    simp [hi]
theorem Parts.is_yes {l : List APair} {k : ByteArray} {a b : List APair} {y : APair} (h : Parts l k a [y] b) : true = true ↔ ∃ x, l[a.length]? = some x ∧ eqT x.key k = true :=
  ⟨fun _ => ⟨y, by rw [h.eq]; simp, h.mi y (by simp)⟩, fun _ => rfl⟩
theorem Parts.is_no {l : List APair} {k : ByteArray} {a b : List APair} (h : Parts l k a [] b) : false = true ↔ ∃ x, l[a.length]? = some x ∧ eqT x.key k = true := by
  refine ⟨(fun h => by cases h), fun ⟨x, hx, he⟩ => ?_⟩
  rw [h.eq, List.getElem?_append_right (by omega)] at hx
  have := h.hi x (by simpa using List.mem_of_getElem? hx)
  rw [eqT_gt this] at he
  cases he
theorem Parts.two {l : List APair} {k : ByteArray} {a m b : List APair} (h : Parts l k a m b) : m = [] ∨ ∃ y, m = [y] ∧ y.key = k := by
  have h1 := h.one
  have h2 := h.mi
  rcases m with _ | ⟨y, _ | ⟨z, m⟩⟩
  · exact .inl rfl
  · exact .inr ⟨y, rfl, (eqT_iff _ _).1 (h2 y (by simp))⟩
  · simp at h1
end Go.Proofs.Ythhjaneadbkccaa
