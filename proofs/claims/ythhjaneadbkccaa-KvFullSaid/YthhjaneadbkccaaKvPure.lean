/-
  Plain laws of pairs and commands. No program is walked here. Conditions: as each theorem names them.
-/
import Derived.Test.YthhjaneadbkccaaKvSpec
namespace Go.Proofs.Ythhjaneadbkccaa

/-- In order. -/
abbrev Srt (l : List APair) : Prop := l.Pairwise fun a b => ltT a.key b.key = true
theorem eqT_refl (a : ByteArray) : eqT a a = true := (eqT_iff a a).2 rfl
theorem eqT_comm (a b : ByteArray) : eqT a b = eqT b a := by
  rw [Bool.eq_iff_iff, eqT_iff, eqT_iff]; exact eq_comm
theorem eqT_lt {a b : ByteArray} (h : ltT a b = true) : eqT a b = false := by
  rw [← Bool.not_eq_true, eqT_iff]; rintro rfl; rw [ltT_irrefl] at h; cases h
theorem eqT_gt {a b : ByteArray} (h : ltT b a = true) : eqT a b = false := by rw [eqT_comm]; exact eqT_lt h
theorem sortedB_iff : ∀ l : List APair, sortedB l = true ↔ Srt l
  | [] => by simp [sortedB]
  | [a] => by simp [sortedB]
  | a :: b :: l => by
    rw [sortedB, Bool.and_eq_true, sortedB_iff (b :: l), show Srt (a :: b :: l) ↔ _ from List.pairwise_cons]
    constructor
    · rintro ⟨h1, h2⟩
      refine ⟨fun c hc => ?_, h2⟩
      rcases List.mem_cons.1 hc with rfl | hc
      · exact h1
      · exact ltT_trans h1 ((List.pairwise_cons.1 h2).1 c hc)
    · rintro ⟨h1, h2⟩
      exact ⟨h1 b (by simp), h2⟩
theorem pairsB_iff (l : List APair) : pairsB l = true ↔ l.length ≤ 32 ∧ (∀ p ∈ l, pairOk p = true) ∧ Srt l := by
  unfold pairsB
  rw [Bool.and_eq_true, Bool.and_eq_true, decide_eq_true_iff, List.all_eq_true, sortedB_iff]
  exact ⟨fun h => ⟨h.1.1, h.1.2, h.2⟩, fun h => ⟨⟨h.1, h.2.1⟩, h.2.2⟩⟩

/-- What goes. -/
theorem setP_true (k : ByteArray) (v : AVal) (l : List APair) : setP k v true l = l.filter fun p => !eqT p.key k := by
  induction l with
  | nil => simp [setP]
  | cons p l ih =>
    rw [setP]
    simp only [Bool.not_true, Bool.false_and, Bool.false_eq_true, if_false, ih]
    by_cases h : eqT p.key k = true
    · simp [h]
    · simp [h]
theorem getP_cons (p : APair) (l : List APair) (k : ByteArray) : getP (p :: l) k = if eqT p.key k then p.val else getP l k := rfl
theorem getP_setP_ne {k k' : ByteArray} (h : eqT k k' = false) (v : AVal) (d : Bool) (l : List APair) : getP (setP k v d l) k' = getP l k' := by
  induction l generalizing d with
  | nil => cases d <;> simp [setP, getP, h]
  | cons p l ih =>
    rw [setP, getP_cons]
    by_cases hp : eqT p.key k = true
    · have e := (eqT_iff _ _).1 hp
      simp only [hp, if_true]
      split
      · rw [getP_cons, h, ih, e, h]; rfl
      · rw [ih, e, h]; rfl
    · simp only [hp, if_false, Bool.false_eq_true]
      split
      · rw [getP_cons, h, getP_cons, ih]; rfl
      · rw [getP_cons, ih]
theorem getP_setP_true (k : ByteArray) (v : AVal) (l : List APair) : getP (setP k v true l) k = AVal.zero := by
  rw [setP_true]
  induction l with
  | nil => rfl
  | cons p l ih =>
    by_cases h : eqT p.key k = true
    · simp [h, ih]
    · simp [h, getP_cons, ih]
theorem getP_setP (k : ByteArray) (v : AVal) (l : List APair) : getP (setP k v false l) k = v := by
  induction l with
  | nil => simp [setP, getP, eqT_refl]
  | cons p l ih =>
    rw [setP]
    by_cases h : (ltT k p.key || eqT k p.key) = true
    · simp [h, getP_cons, eqT_refl]
    · simp only [h, Bool.not_false, Bool.true_and, Bool.false_eq_true, if_false]
      rw [Bool.not_eq_true, Bool.or_eq_false_iff] at h
      have : eqT p.key k = false := by rw [eqT_comm]; exact h.2
      simp [this, getP_cons, ih]
/-- In a list in order. -/
theorem setP_false {l : List APair} (hs : Srt l) (k : ByteArray) (v : AVal) : setP k v false l = (l.filter fun p => ltT p.key k) ++ ⟨k, v⟩ :: (l.filter fun p => ltT k p.key) := by
  induction l with
  | nil => simp [setP]
  | cons p l ih =>
    have hs' := List.pairwise_cons.1 hs
    rw [setP]
    rcases h1 : ltT k p.key with _ | _
    · rcases h2 : eqT k p.key with _ | _
      · have h3 := ltT_or h1 h2
        have h4 : eqT p.key k = false := by rw [eqT_comm]; exact h2
        simp [h1, h3, h4, ih hs'.2]
      · have e := (eqT_iff _ _).1 h2
        have h4 : eqT p.key k = true := by rw [eqT_comm]; exact h2
        have h5 : ltT p.key k = false := by rw [← e]; exact ltT_irrefl k
        have h6 : ∀ q ∈ l, ltT k q.key = true := fun q hq => by rw [e]; exact hs'.1 q hq
        have f1 : l.filter (fun q => ltT q.key k) = [] := List.filter_eq_nil_iff.2 fun q hq => by simp [ltT_asymm (h6 q hq)]
        have f2 : l.filter (fun q => ltT k q.key) = l := List.filter_eq_self.2 h6
        have f3 : l.filter (fun q => !eqT q.key k) = l := List.filter_eq_self.2 fun q hq => by simp [eqT_gt (h6 q hq)]
        simp [h1, h4, h5, f1, f2, setP_true, f3]
    · have h6 : ∀ q ∈ l, ltT k q.key = true := fun q hq => ltT_trans h1 (hs'.1 q hq)
      have f1 : l.filter (fun q => ltT q.key k) = [] := List.filter_eq_nil_iff.2 fun q hq => by simp [ltT_asymm (h6 q hq)]
      have f2 : l.filter (fun q => ltT k q.key) = l := List.filter_eq_self.2 h6
      have f3 : l.filter (fun q => !eqT q.key k) = l := List.filter_eq_self.2 fun q hq => by simp [eqT_gt (h6 q hq)]
      simp [h1, ltT_asymm h1, eqT_gt h1, f1, f2, setP_true, f3]
theorem srt_setP {l : List APair} (hs : Srt l) (k : ByteArray) (v : AVal) (d : Bool) : Srt (setP k v d l) := by
  cases d
  · rw [setP_false hs]
    refine List.pairwise_append.2 ⟨hs.filter _, List.pairwise_cons.2 ⟨fun q hq => (List.mem_filter.1 hq).2, hs.filter _⟩, fun a ha b hb => ?_⟩
    have h1 := (List.mem_filter.1 ha).2
    rcases List.mem_cons.1 hb with rfl | hb
    · exact h1
    · exact ltT_trans h1 (List.mem_filter.1 hb).2
  · rw [setP_true]; exact hs.filter _
theorem mem_setP {k : ByteArray} {v : AVal} {d : Bool} {l : List APair} {p : APair} (hs : Srt l) (h : p ∈ setP k v d l) : p ∈ l ∨ (d = false ∧ p = ⟨k, v⟩) := by
  cases d
  · rw [setP_false hs] at h
    rcases List.mem_append.1 h with h | h
    · exact .inl (List.mem_filter.1 h).1
    · rcases List.mem_cons.1 h with h | h
      · exact .inr ⟨rfl, h⟩
      · exact .inl (List.mem_filter.1 h).1
  · rw [setP_true] at h; exact .inl (List.mem_filter.1 h).1
/-- How many pairs there are then. -/
theorem filter3 (l : List APair) (k : ByteArray) : (l.filter fun p => ltT p.key k).length + (l.filter fun p => ltT k p.key).length + (l.filter fun p => eqT p.key k).length = l.length := by
  induction l with
  | nil => rfl
  | cons p l ih =>
    rcases h1 : ltT p.key k with _ | _
    · rcases h2 : eqT p.key k with _ | _
      · have h3 := ltT_or h1 h2
        simp [h1, h2, h3]; omega
      · have e := (eqT_iff _ _).1 h2
        have h3 : ltT k p.key = false := by rw [e]; exact ltT_irrefl k
        simp [h1, h2, h3]; omega
    · simp [h1, ltT_asymm h1, eqT_lt h1]; omega
theorem len_setP_false {l : List APair} (hs : Srt l) (k : ByteArray) (v : AVal) : (setP k v false l).length + (l.filter fun p => eqT p.key k).length = l.length + 1 := by
  rw [setP_false hs, List.length_append, List.length_cons]
  have := filter3 l k
  omega
theorem len_setP_true (k : ByteArray) (v : AVal) (l : List APair) : (setP k v true l).length + (l.filter fun p => eqT p.key k).length = l.length := by
  rw [setP_true]
  induction l with
  | nil => rfl
  | cons p l ih =>
    rcases h : eqT p.key k with _ | _ <;> simp [h] <;> omega
theorem one_key {l : List APair} (hs : Srt l) (k : ByteArray) : (l.filter fun p => eqT p.key k).length ≤ 1 := by
  have h := hs.filter fun p => eqT p.key k
  rcases hq : l.filter (fun p => eqT p.key k) with _ | ⟨a, _ | ⟨b, m⟩⟩
  · rw [hq]; simp
  · rw [hq]; simp
  · exfalso
    rw [hq] at h
    have ha : eqT a.key k = true := (List.mem_filter.1 (show a ∈ l.filter (fun p => eqT p.key k) by rw [hq]; simp)).2
    have hb : eqT b.key k = true := (List.mem_filter.1 (show b ∈ l.filter (fun p => eqT p.key k) by rw [hq]; simp)).2
    have := (List.pairwise_cons.1 h).1 b (by simp)
    rw [(eqT_iff _ _).1 ha, (eqT_iff _ _).1 hb, ltT_irrefl] at this
    cases this
/-- Is it there? -/
theorem getP_none {l : List APair} {k : ByteArray} (h : ∀ p ∈ l, eqT p.key k = false) : getP l k = AVal.zero := by
  induction l with
  | nil => rfl
  | cons p l ih => rw [getP_cons, h p (by simp)]; exact ih fun q hq => h q (by simp [hq])
theorem getP_mem {l : List APair} (hs : Srt l) {p : APair} (hp : p ∈ l) : getP l p.key = p.val := by
  induction l with
  | nil => cases hp
  | cons q l ih =>
    have hs' := List.pairwise_cons.1 hs
    rw [getP_cons]
    rcases List.mem_cons.1 hp with rfl | hp
    · simp [eqT_refl]
    · rw [eqT_lt (hs'.1 p hp)]; exact ih hs'.2 hp
theorem getP_some {l : List APair} {k : ByteArray} (h : (getP l k).kind ≠ 0) : ∃ p ∈ l, p.key = k ∧ p.val = getP l k := by
  induction l with
  | nil => exact absurd rfl h
  | cons q l ih =>
    rw [getP_cons] at h ⊢
    by_cases hq : eqT q.key k = true
    · rw [if_pos hq] at h ⊢
      exact ⟨q, by simp, (eqT_iff _ _).1 hq, rfl⟩
    · rw [if_neg hq] at h ⊢
      obtain ⟨p, hp, h1⟩ := ih h
      exact ⟨p, by simp [hp], h1⟩
/-- Right pairs that have the same at each key are the same. -/
theorem pairs_ext : ∀ {l m : List APair}, Srt l → Srt m → (∀ p ∈ l, p.val.kind ≠ 0) → (∀ p ∈ m, p.val.kind ≠ 0) → (∀ k, getP l k = getP m k) → l = m
  | [], [], _, _, _, _, _ => rfl
  | [], q :: m, _, _, _, hm, h => by
    have := h q.key
    rw [getP_cons, eqT_refl, if_pos rfl] at this
    exact absurd (by rw [← this]; rfl) (hm q (by simp))
  | p :: l, [], _, _, hl, _, h => by
    have := h p.key
    rw [getP_cons, eqT_refl, if_pos rfl] at this
    exact absurd (by rw [this]; rfl) (hl p (by simp))
  | p :: l, q :: m, hs, ht, hl, hm, h => by
    have hs' := List.pairwise_cons.1 hs
    have ht' := List.pairwise_cons.1 ht
    have hp := h p.key
    have hq := h q.key
    have e : p.key = q.key := by
      rcases h1 : ltT p.key q.key with _ | _
      · rcases h2 : eqT p.key q.key with _ | _
        · have h3 := ltT_or h1 h2
          rw [getP_none (l := p :: l) (fun r hr => by
            rcases List.mem_cons.1 hr with rfl | hr
            · exact h2
            · exact eqT_gt (ltT_trans h3 (hs'.1 r hr)))] at hq
          rw [getP_cons, eqT_refl, if_pos rfl] at hq
          exact absurd (by rw [← hq]; rfl) (hm q (by simp))
        · exact (eqT_iff _ _).1 h2
      · rw [getP_none (l := q :: m) (fun r hr => by
            rcases List.mem_cons.1 hr with rfl | hr
            · exact eqT_gt h1
            · exact eqT_gt (ltT_trans h1 (ht'.1 r hr)))] at hp
        rw [getP_cons, eqT_refl, if_pos rfl] at hp
        exact absurd (by rw [hp]; rfl) (hl p (by simp))
    have ev : p.val = q.val := by
      rw [getP_cons, getP_cons, eqT_refl, if_pos rfl, e, eqT_refl, if_pos rfl] at hp
      exact hp
    have epq : p = q := by cases p; cases q; simp_all
    subst epq
    congr 1
    refine pairs_ext hs'.2 ht'.2 (fun r hr => hl r (by simp [hr])) (fun r hr => hm r (by simp [hr])) fun k => ?_
    rcases hk : eqT p.key k with _ | _
    · have := h k
      rwa [getP_cons, getP_cons, hk, if_neg (by simp), if_neg (by simp)] at this
    · have := (eqT_iff _ _).1 hk
      subst this
      rw [getP_none fun r hr => eqT_gt (hs'.1 r hr), getP_none fun r hr => eqT_gt (ht'.1 r hr)]
end Go.Proofs.Ythhjaneadbkccaa
