/-
  Plain laws of commands on pairs (doP). No program is walked here. Conditions: as each theorem names them.
-/
import Derived.Test.YthhjaneadbkccaaKvPure
namespace Go.Proofs.Ythhjaneadbkccaa

theorem canon_nan_eq {x : Nat} (h : isNaN (canon x) = true) : canon x = theNaN := by
  unfold canon at h ⊢
  split
  · rfl
  · rename_i hx; rw [if_neg hx] at h; exact absurd h hx
theorem addF_nan {a b : Nat} (h : isNaN (addF a b) = true) : addF a b = theNaN := by
  unfold addF at h ⊢
  split
  · rename_i r hr
    rw [hr] at h
    exact canon_nan_eq h
  · rfl
theorem maxF_nan {a b : Nat} (h : isNaN (maxF a b) = true) : maxF a b = theNaN := by
  unfold maxF at h ⊢
  split
  · rfl
  · rename_i hx
    rw [if_neg hx] at h
    rw [Bool.or_eq_true, not_or] at hx
    split at h
    · exact absurd h hx.2
    · exact absurd h hx.1
theorem empty_isEmpty : isEmptyT ⟨#[]⟩ = true := (isEmptyT_iff _).2 rfl
theorem chk_num {x : Nat} (h : isNaN x = true → x = theNaN) : chk ⟨1, x, ⟨#[]⟩⟩ = 0 := by
  unfold chk
  simp [empty_isEmpty]
  exact h
theorem chk_zero : chk AVal.zero = 0 := by
  have : isNaN 0 = false := by kernel_rfl
  simp [chk, AVal.zero, empty_isEmpty, this]
theorem chk_kind0 {v : AVal} (h : chk v = 0) (hk : v.kind = 0) : v = AVal.zero := by
  unfold chk at h
  rw [if_neg (by omega), if_neg (by omega)] at h
  split at h
  · cases h
  · rename_i hn
    rw [not_or] at hn
    have h1 : isEmptyT v.text = true := by
      rcases h2 : isEmptyT v.text with _ | _
      · exact absurd ⟨by omega, h2⟩ hn.1
      · rfl
    have h2 : v.num = 0 := Classical.byContradiction fun h3 => hn.2 ⟨by omega, h3⟩
    cases v
    simp only at hk h1 h2
    rw [isEmptyT_iff] at h1
    subst hk h1 h2
    rfl
theorem join_ok {add : Bool} {a b x : AVal} (hb : chk b = 0) (h : joinV add a b = (x, 0)) : chk x = 0 ∧ (a.kind = 0 → x = b) ∧ (b.kind = 1 → x.kind = 1) := by
  unfold joinV at h
  split at h
  · rename_i h1; simp only [Prod.mk.injEq] at h; exact absurd h.2 h1
  split at h
  · rename_i h1; simp only [Prod.mk.injEq] at h; exact absurd h.2 h1
  split at h
  · simp only [Prod.mk.injEq, and_true] at h; subst h; exact ⟨hb, fun _ => rfl, fun h => h⟩
  rename_i h0
  split at h
  · simp at h
  · simp only [Prod.mk.injEq, and_true] at h
    subst h
    refine ⟨chk_num ?_, fun h => absurd h h0, fun _ => rfl⟩
    cases add
    · exact maxF_nan
    · exact addF_nan

/-- What a right command has. -/
theorem cmd_ok {c : ACmd} (h : cmdE c = 0) : (1 ≤ c.kind ∧ c.kind ≤ 6) ∧ (1 ≤ c.key.size ∧ c.key.size ≤ 8) ∧ chk c.old = 0 ∧ chk c.val = 0 ∧ (c.kind ≠ 4 → zeroV c.old = true) ∧ okV c = true := by
  unfold cmdE at h
  split at h
  · cases h
  split at h
  · cases h
  split at h
  · cases h
  split at h
  · rename_i h1 h2 h3 h4
    rw [not_or, not_or, not_or] at h3
    refine ⟨by omega, by omega, Classical.byContradiction h3.2.2.1, Classical.byContradiction h3.2.2.2, fun hk => ?_, h4⟩
    rcases hz : zeroV c.old with _ | _
    · exact absurd ⟨hk, hz⟩ h3.2.1
    · rfl
  · cases h
/-- A command that is done. -/
theorem do_ok {l : List APair} {c : ACmd} (h : (doP l c).2.code = 0) : cmdE c = 0 ∧ pairsB l = true ∧
    ((c.kind = 1 ∧ doP l c = (l, ⟨0, getP l c.key⟩)) ∨
     (c.kind ≠ 1 ∧ ∃ x t, stepV (getP l c.key) c = (0, x, t) ∧ (setP c.key x (x.kind == 0) l).length ≤ 32 ∧ doP l c = (setP c.key x (x.kind == 0) l, ⟨0, t⟩))) := by
  unfold doP at h ⊢
  by_cases h1 : cmdE c = 0
  case neg => rw [if_pos h1] at h; exact absurd h h1
  rw [if_neg (by simpa using h1)] at h ⊢
  rcases h2 : pairsB l with _ | _
  · rw [h2, if_pos rfl] at h; cases h
  rw [h2, if_neg (by simp)] at h
  rw [if_neg (by simp)]
  refine ⟨h1, rfl, ?_⟩
  by_cases h3 : c.kind = 1
  · rw [if_pos h3]; exact .inl ⟨h3, rfl⟩
  rw [if_neg h3] at h ⊢
  refine .inr ⟨h3, ?_⟩
  rcases hs : stepV (getP l c.key) c with ⟨e, x, t⟩
  rw [hs] at h
  simp only at h ⊢
  by_cases h4 : e = 0
  case neg => rw [if_pos h4] at h; exact absurd h h4
  rw [if_neg (by simpa using h4)] at h ⊢
  by_cases h5 : 32 < (setP c.key x (x.kind == 0) l).length
  · rw [if_pos h5] at h; cases h
  · rw [if_neg h5]
    exact ⟨x, t, by rw [h4], by omega, rfl⟩
/-- One that is refused. -/
theorem do_no {l : List APair} {c : ACmd} (h : (doP l c).2.code ≠ 0) : (doP l c).1 = l ∧ ((doP l c).2.code ≠ 9 → (doP l c).2.val = AVal.zero) := by
  unfold doP at h ⊢
  by_cases h1 : cmdE c = 0
  case neg => rw [if_pos h1]; exact ⟨rfl, fun _ => rfl⟩
  rw [if_neg (by simpa using h1)] at h ⊢
  rcases h2 : pairsB l with _ | _
  · rw [if_pos rfl]; exact ⟨rfl, fun _ => rfl⟩
  rw [h2, if_neg (by simp)] at h
  rw [if_neg (by simp)]
  by_cases h3 : c.kind = 1
  · rw [if_pos h3] at h; exact absurd rfl h
  rw [if_neg h3] at h ⊢
  rcases hs : stepV (getP l c.key) c with ⟨e, x, t⟩
  rw [hs] at h
  simp only at h ⊢
  by_cases h4 : e = 0
  · rw [if_neg (by simpa using h4)] at h ⊢
    split
    · exact ⟨rfl, fun _ => rfl⟩
    · rename_i h5; rw [if_neg h5] at h; exact absurd rfl h
  · rw [if_pos h4]
    refine ⟨rfl, fun h9 => ?_⟩
    unfold stepV at hs
    split at hs
    · simp at hs; exact absurd hs.1.symm h4
    split at hs
    · simp at hs; exact absurd hs.1.symm h4
    split at hs
    · split at hs
      · simp at hs; exact absurd hs.1.symm h4
      · simp only [Prod.mk.injEq] at hs; exact absurd hs.1.symm h9
    · split at hs
      split at hs
      · simp at hs; exact absurd hs.1.symm h4
      · simp only [Prod.mk.injEq] at hs; exact hs.2.2.symm
theorem step_ok {v x t : AVal} {c : ACmd} (hc : cmdE c = 0) (h : stepV v c = (0, x, t)) : chk x = 0 := by
  obtain ⟨_, _, _, hv, _, _⟩ := cmd_ok hc
  unfold stepV at h
  split at h
  · simp only [Prod.mk.injEq, true_and] at h; rw [← h.1]; exact hv
  split at h
  · simp only [Prod.mk.injEq, true_and] at h; rw [← h.1]; exact chk_zero
  split at h
  · split at h
    · simp only [Prod.mk.injEq, true_and] at h; rw [← h.1]; exact hv
    · simp at h
  · split at h
    rename_i y e hj
    split at h
    · rename_i he
      simp only [Prod.mk.injEq, true_and] at h
      subst he
      rw [← h.1]
      exact (join_ok hv hj).1
    · rename_i he
      simp only [Prod.mk.injEq] at h
      exact absurd h.1 he
/-- Right pairs stay right. -/
theorem right_set {l : List APair} {k : ByteArray} {x : AVal} (hl : pairsB l = true) (hk : 1 ≤ k.size ∧ k.size ≤ 8) (hx : chk x = 0) (hn : (setP k x (x.kind == 0) l).length ≤ 32) : pairsB (setP k x (x.kind == 0) l) = true := by
  obtain ⟨_, h2, h3⟩ := (pairsB_iff l).1 hl
  refine (pairsB_iff _).2 ⟨hn, fun p hp => ?_, srt_setP h3 _ _ _⟩
  rcases mem_setP h3 hp with h | ⟨h, rfl⟩
  · exact h2 p h
  · unfold pairOk rightKeyB
    have : x.kind ≠ 0 := by simpa using h
    simp [hk.1, hk.2, hx, this]
theorem do_right {l : List APair} (c : ACmd) (hl : pairsB l = true) : pairsB (doP l c).1 = true := by
  by_cases h : (doP l c).2.code = 0
  · obtain ⟨hc, _, h | ⟨_, x, t, hs, hn, h⟩⟩ := do_ok h
    · rw [h.2]; exact hl
    · rw [h]
      exact right_set hl (cmd_ok hc).2.1 (step_ok hc hs) hn
  · rw [(do_no h).1]; exact hl
theorem eqVal_refl (v : AVal) : eqVal v v = true := by simp [eqVal, sameF, eqT_refl]
theorem do_others {l : List APair} {c : ACmd} {key : ByteArray} (h : eqT key c.key = false) : getP (doP l c).1 key = getP l key := by
  by_cases hc : (doP l c).2.code = 0
  · obtain ⟨_, _, h' | ⟨_, x, t, _, _, h'⟩⟩ := do_ok hc
    · rw [h'.2]
    · rw [h']
      exact getP_setP_ne (by rw [eqT_comm]; exact h) _ _ _
  · rw [(do_no hc).1]

theorem getP_set {l : List APair} {k : ByteArray} {x : AVal} (hx : chk x = 0) : getP (setP k x (x.kind == 0) l) k = x := by
  by_cases h : x.kind = 0
  · have e := chk_kind0 hx h
    rw [e]
    exact getP_setP_true _ _ _
  · have : (x.kind == 0) = false := by simpa using h
    rw [this]
    exact getP_setP _ _ _
/-- What a key of right pairs has is right. -/
theorem chk_get {l : List APair} (hl : pairsB l = true) (k : ByteArray) : chk (getP l k) = 0 := by
  by_cases h : (getP l k).kind = 0
  · by_cases h' : ∃ p ∈ l, eqT p.key k = true
    · obtain ⟨p, hp, e⟩ := h'
      obtain ⟨_, h2, h3⟩ := (pairsB_iff l).1 hl
      have := getP_mem h3 hp
      rw [(eqT_iff _ _).1 e] at this
      rw [this]
      have := h2 p hp
      unfold pairOk at this
      simp only [Bool.and_eq_true, beq_iff_eq] at this
      exact this.2
    · rw [getP_none fun p hp => by
        rcases e : eqT p.key k with _ | _
        · rfl
        · exact absurd ⟨p, hp, e⟩ h']
      exact chk_zero
  · obtain ⟨p, hp, _, e⟩ := getP_some h
    obtain ⟨_, h2, _⟩ := (pairsB_iff l).1 hl
    rw [← e]
    have := h2 p hp
    unfold pairOk at this
    simp only [Bool.and_eq_true, beq_iff_eq] at this
    exact this.2
theorem chk_kinds {v : AVal} (h : chk v = 0) : 0 ≤ v.kind ∧ v.kind ≤ 2 := by
  unfold chk at h
  split at h
  · cases h
  · omega
/-- A command on right pairs, room or not. -/
theorem do_eq {l : List APair} {c : ACmd} (hc : cmdE c = 0) (hl : pairsB l = true) (h1 : c.kind ≠ 1) : doP l c = (match stepV (getP l c.key) c with
    | (e, x, t) => if e ≠ 0 then (l, ⟨e, t⟩) else if 32 < (setP c.key x (x.kind == 0) l).length then (l, ⟨5, AVal.zero⟩) else (setP c.key x (x.kind == 0) l, ⟨0, t⟩)) := by
  unfold doP
  rw [if_neg (by simpa using hc), hl, if_neg (by simp), if_neg h1]
theorem zeroV_zero : zeroV AVal.zero = true := by unfold zeroV; rw [chk_zero]; rfl
/-- A key is asked for. -/
theorem do_get {l : List APair} {k : ByteArray} (hl : pairsB l = true) (hk : 1 ≤ k.size ∧ k.size ≤ 8) : doP l ⟨1, k, AVal.zero, AVal.zero⟩ = (l, ⟨0, getP l k⟩) := by
  have hc : cmdE ⟨1, k, AVal.zero, AVal.zero⟩ = 0 := by
    have h1 : ¬ 8 < k.size := by omega
    have h2 : ¬ k.size < 1 := by omega
    simp [cmdE, okV, zeroV_zero, chk_zero, h1, h2]
  unfold doP
  rw [if_neg (by simpa using hc), hl, if_neg (by simp), if_pos rfl]
theorem len_set_le {l : List APair} (hs : Srt l) (k : ByteArray) (x : AVal) : (setP k x (x.kind == 0) l).length ≤ l.length + 1 := by
  rcases h : (x.kind == 0) with _ | _
  · have := len_setP_false hs k x; omega
  · have := len_setP_true k x l; omega
/-- A key goes. -/
theorem do_del {l : List APair} {k : ByteArray} (hl : pairsB l = true) (hk : 1 ≤ k.size ∧ k.size ≤ 8) : doP l ⟨3, k, AVal.zero, AVal.zero⟩ = (setP k AVal.zero true l, ⟨0, getP l k⟩) := by
  have hc : cmdE ⟨3, k, AVal.zero, AVal.zero⟩ = 0 := by
    have h1 : ¬ 8 < k.size := by omega
    have h2 : ¬ k.size < 1 := by omega
    simp [cmdE, okV, zeroV_zero, chk_zero, h1, h2]
  rw [do_eq hc hl (by simp)]
  have h1 := len_setP_true k AVal.zero l
  have h2 := ((pairsB_iff l).1 hl).1
  have e : ((AVal.zero).kind == 0) = true := rfl
  have h3 : ¬ 32 < (setP k AVal.zero true l).length := by omega
  have hst : stepV (getP l k) ⟨3, k, AVal.zero, AVal.zero⟩ = (0, AVal.zero, getP l k) := by simp [stepV]
  simp only
  rw [hst]
  simp only
  rw [e, if_neg (by simp), if_neg h3]
theorem right_set_true {l : List APair} {k : ByteArray} (hl : pairsB l = true) (v : AVal) : pairsB (setP k v true l) = true := by
  obtain ⟨h1, h2, h3⟩ := (pairsB_iff l).1 hl
  have := len_setP_true k v l
  refine (pairsB_iff _).2 ⟨by omega, fun p hp => ?_, srt_setP h3 _ _ _⟩
  rcases mem_setP h3 hp with h | ⟨h, _⟩
  · exact h2 p h
  · cases h
theorem do_puts {p : List APair} {k : ByteArray} {v : AVal} (hp : pairsB p = true) (h : (doP p ⟨2, k, AVal.zero, v⟩).2.code = 0) :
    (doP p ⟨2, k, AVal.zero, v⟩).2.val = getP p k ∧ (1 ≤ k.size ∧ k.size ≤ 8) ∧ pairsB (doP p ⟨2, k, AVal.zero, v⟩).1 = true ∧ getP (doP p ⟨2, k, AVal.zero, v⟩).1 k = v ∧
      ((doP p ⟨2, k, AVal.zero, v⟩).1.filter fun q => eqT q.key k).length = 1 := by
  have hr := do_right ⟨2, k, AVal.zero, v⟩ hp
  obtain ⟨hc, _, h' | ⟨_, x, t, hs, hn, h'⟩⟩ := do_ok h
  · exact absurd h'.1 (by simp)
  · obtain ⟨_, hk, _, hv, _, ho⟩ := cmd_ok hc
    have hst : stepV (getP p k) ⟨2, k, AVal.zero, v⟩ = (0, v, getP p k) := by simp [stepV]
    simp only at hs
    rw [hst] at hs
    simp only [Prod.mk.injEq, true_and] at hs
    obtain ⟨rfl, rfl⟩ := hs
    have hv0 : v.kind ≠ 0 := by
      unfold okV at ho
      simpa using ho
    rw [h'] at hr ⊢
    simp only at hr ⊢
    refine ⟨trivial, hk, hr, getP_set hv, ?_⟩
    have h1 := one_key ((pairsB_iff _).1 hr).2.2 k
    have e : (v.kind == 0) = false := by simpa using hv0
    rw [e] at h1 ⊢
    have hm : (⟨k, v⟩ : APair) ∈ (setP k v false p).filter fun q => eqT q.key k := by
      refine List.mem_filter.2 ⟨?_, eqT_refl k⟩
      rw [setP_false ((pairsB_iff p).1 hp).2.2]
      simp
    have := List.length_pos_of_mem hm
    omega
/-- Two that want the same. -/
theorem do_cas {p : List APair} {k : ByteArray} {a : AVal} (h : (doP p ⟨4, k, getP p k, a⟩).2.code = 0) :
    (doP p ⟨4, k, getP p k, a⟩).2.val = getP p k ∧ getP (doP p ⟨4, k, getP p k, a⟩).1 k = a := by
  obtain ⟨hc, _, h' | ⟨_, x, t, hs, hn, h'⟩⟩ := do_ok h
  · exact absurd h'.1 (by simp)
  · obtain ⟨_, hk, _, hv, _, ho⟩ := cmd_ok hc
    have hst : stepV (getP p k) ⟨4, k, getP p k, a⟩ = (0, a, getP p k) := by simp [stepV, eqVal_refl]
    simp only at hs
    rw [hst] at hs
    simp only [Prod.mk.injEq, true_and] at hs
    obtain ⟨rfl, rfl⟩ := hs
    rw [h']
    exact ⟨rfl, getP_set hv⟩
theorem cmd_codes (c : ACmd) : cmdE c = 0 ∨ cmdE c = 15 ∨ cmdE c = 2 ∨ cmdE c = 8 := by
  unfold cmdE
  split
  · simp
  split
  · simp
  split
  · simp
  split <;> simp
theorem do_cas2 {q : List APair} {k : ByteArray} {a v b : AVal} (hq : pairsB q = true) (ha : getP q k = a) :
    ((doP q ⟨4, k, v, b⟩).2.code = 9 → eqVal a v = false ∧ (doP q ⟨4, k, v, b⟩).1 = q ∧ (doP q ⟨4, k, v, b⟩).2.val = a) ∧
    ((doP q ⟨4, k, v, b⟩).2.code = 0 → eqVal a v = true) := by
  subst ha
  rcases cmd_codes ⟨4, k, v, b⟩ with hc | hc
  · rw [do_eq hc hq (by simp)]
    have hst : stepV (getP q k) ⟨4, k, v, b⟩ = if eqVal (getP q k) v then (0, b, getP q k) else (9, getP q k, getP q k) := by simp [stepV]
    simp only
    rw [hst]
    rcases he : eqVal (getP q k) v with _ | _
    · simp
    · simp only [if_true]
      constructor
      · intro h
        exfalso
        revert h
        simp only [ne_eq, not_true_eq_false, if_false]
        split <;> simp
      · simp
  · have h0 : cmdE ⟨4, k, v, b⟩ ≠ 0 := by rcases hc with h | h | h <;> rw [h] <;> decide
    have e : doP q ⟨4, k, v, b⟩ = (q, ⟨cmdE ⟨4, k, v, b⟩, AVal.zero⟩) := by unfold doP; rw [if_pos h0]
    rw [e]
    simp only
    refine ⟨fun h => ?_, fun h => absurd h h0⟩
    rcases hc with h' | h' | h' <;> rw [h'] at h <;> cases h
/-- Numbers that are added, or held against one another. -/
def want1 (add : Bool) (want v : AVal) : AVal := if want.kind = 0 then v else (joinV add want v).1
theorem do_adds {p : List APair} {k : ByteArray} {x : Nat} {add : Bool} (hp : pairsB p = true) :
    ((doP p ⟨if add then 5 else 6, k, AVal.zero, ⟨1, x, ⟨#[]⟩⟩⟩).2.code = 0 → (doP p ⟨if add then 5 else 6, k, AVal.zero, ⟨1, x, ⟨#[]⟩⟩⟩).2.val = want1 add (getP p k) ⟨1, x, ⟨#[]⟩⟩ ∧ getP (doP p ⟨if add then 5 else 6, k, AVal.zero, ⟨1, x, ⟨#[]⟩⟩⟩).1 k = want1 add (getP p k) ⟨1, x, ⟨#[]⟩⟩) ∧
    ((doP p ⟨if add then 5 else 6, k, AVal.zero, ⟨1, x, ⟨#[]⟩⟩⟩).2.code = 8 → (getP p k).kind ≠ 2 → chk ⟨1, x, ⟨#[]⟩⟩ = 0 → k.size = 0) := by
  obtain ⟨kd, hkd⟩ : ∃ kd : Int, (if add then 5 else 6 : Int) = kd := ⟨_, rfl⟩
  have hk56 : kd = 5 ∨ kd = 6 := by cases add <;> simp at hkd <;> omega
  have hadd : (kd == 5) = add := by cases add <;> simp at hkd <;> subst hkd <;> rfl
  rw [hkd]
  have hst : stepV (getP p k) ⟨kd, k, AVal.zero, ⟨1, x, ⟨#[]⟩⟩⟩ = (match joinV add (getP p k) ⟨1, x, ⟨#[]⟩⟩ with | (y, e) => if e = 0 then (0, y, y) else (e, AVal.zero, AVal.zero)) := by
    unfold stepV
    rw [if_neg (by simp only; omega), if_neg (by simp only; omega), if_neg (by simp only; omega), hadd]
  have hcg := chk_get hp k
  constructor
  · intro h
    obtain ⟨hc, _, h' | ⟨_, y, t, hs, hn, h'⟩⟩ := do_ok h
    · have := h'.1; simp only at this; omega
    · simp only at hs
      rw [hst] at hs
      rcases hj : joinV add (getP p k) ⟨1, x, ⟨#[]⟩⟩ with ⟨z, e⟩
      rw [hj] at hs
      simp only at hs
      by_cases he : e = 0
      · rw [if_pos he] at hs
        simp only [Prod.mk.injEq, true_and] at hs
        obtain ⟨rfl, rfl⟩ := hs
        subst he
        have hv := (cmd_ok hc).2.2.2.1
        obtain ⟨j1, j2, _⟩ := join_ok hv hj
        rw [h']
        have hw : want1 add (getP p k) ⟨1, x, ⟨#[]⟩⟩ = z := by
          unfold want1
          split
          · rename_i h0; exact (j2 h0).symm
          · rw [hj]
        rw [hw]
        exact ⟨rfl, getP_set j1⟩
      · rw [if_neg he] at hs
        simp only [Prod.mk.injEq] at hs
        exact absurd hs.1 he
  · intro h h2 hv
    apply Classical.byContradiction
    intro hk0
    by_cases h8 : 8 < k.size
    · have hc : cmdE ⟨kd, k, AVal.zero, ⟨1, x, ⟨#[]⟩⟩⟩ = 2 := by
        unfold cmdE
        rw [if_neg (by simp only; omega), if_pos h8]
      have e : doP p ⟨kd, k, AVal.zero, ⟨1, x, ⟨#[]⟩⟩⟩ = (p, ⟨2, AVal.zero⟩) := by unfold doP; rw [if_pos (by rw [hc]; decide), hc]
      rw [e] at h
      cases h
    · have hc : cmdE ⟨kd, k, AVal.zero, ⟨1, x, ⟨#[]⟩⟩⟩ = 0 := by
        unfold cmdE
        rw [if_neg (by simp only; omega), if_neg h8, if_neg (by
          simp only [zeroV_zero, chk_zero, hv]
          rintro (h | h | h | h)
          · omega
          · simp at h
          · exact h rfl
          · exact h rfl), if_pos (by unfold okV; rw [if_neg (by simp only; omega), if_neg (by simp only; omega), if_pos hk56]; rfl)]
      rw [do_eq hc hp (by simp only; omega)] at h
      simp only at h
      rw [hst] at h
      have hkk := chk_kinds hcg
      have hj : ∃ z, joinV add (getP p k) ⟨1, x, ⟨#[]⟩⟩ = (z, 0) := by
        unfold joinV
        rw [if_neg (by simpa using hcg), if_neg (by simpa using hv)]
        split
        · exact ⟨_, rfl⟩
        · rw [if_neg (by simp only; omega)]; exact ⟨_, rfl⟩
      obtain ⟨z, hj⟩ := hj
      rw [hj] at h
      simp only [if_true, ne_eq, not_true_eq_false, if_false] at h
      split at h <;> cases h
/-- A new key is put. -/
theorem do_new {p : List APair} {k : ByteArray} {v : AVal} (hp : pairsB p = true) (hk : 1 ≤ k.size ∧ k.size ≤ 8) (hv : chk v = 0) (hv0 : v.kind ≠ 0) : doP p ⟨2, k, AVal.zero, v⟩ = if 32 < (setP k v false p).length then (p, ⟨5, AVal.zero⟩) else (setP k v false p, ⟨0, getP p k⟩) := by
  have hc : cmdE ⟨2, k, AVal.zero, v⟩ = 0 := by
    have h1 : ¬ 8 < k.size := by omega
    have h2 : ¬ k.size < 1 := by omega
    simp [cmdE, okV, zeroV_zero, chk_zero, h1, h2, hv, hv0]
  rw [do_eq hc hp (by simp)]
  have e : (v.kind == 0) = false := by simpa using hv0
  simp [stepV, e]
/-- What stands at a key then; where there is room. -/
def nextV (v : AVal) (c : ACmd) : AVal := if cmdE c ≠ 0 then v else if c.kind = 1 then v else match stepV v c with | (e, x, _) => if e ≠ 0 then v else x
def replyV (v : AVal) (c : ACmd) : AReply := if cmdE c ≠ 0 then ⟨cmdE c, AVal.zero⟩ else if c.kind = 1 then ⟨0, v⟩ else match stepV v c with | (e, _, t) => if e ≠ 0 then ⟨e, t⟩ else ⟨0, t⟩
theorem do_room {l : List APair} (c : ACmd) (hl : pairsB l = true) (hr : l.length ≤ 31) : (doP l c).2 = replyV (getP l c.key) c ∧ getP (doP l c).1 c.key = nextV (getP l c.key) c ∧ (doP l c).1.length ≤ l.length + 1 := by
  by_cases hc : cmdE c = 0
  case neg =>
    have e : doP l c = (l, ⟨cmdE c, AVal.zero⟩) := by unfold doP; rw [if_pos hc]
    rw [e]
    unfold replyV nextV
    rw [if_pos hc, if_pos hc]
    exact ⟨rfl, rfl, by simp⟩
  by_cases h1 : c.kind = 1
  · have e : doP l c = (l, ⟨0, getP l c.key⟩) := by unfold doP; rw [if_neg (by simpa using hc), hl, if_neg (by simp), if_pos h1]
    rw [e]
    unfold replyV nextV
    rw [if_neg (by simpa using hc), if_pos h1, if_neg (by simpa using hc), if_pos h1]
    exact ⟨rfl, rfl, by simp⟩
  rw [do_eq hc hl h1]
  unfold replyV nextV
  rw [if_neg (by simpa using hc), if_neg h1, if_neg (by simpa using hc), if_neg h1]
  rcases hs : stepV (getP l c.key) c with ⟨e, x, t⟩
  simp only
  by_cases he : e = 0
  · subst he
    have hle := len_set_le ((pairsB_iff l).1 hl).2.2 c.key x
    have h32 : ¬ 32 < (setP c.key x (x.kind == 0) l).length := by omega
    simp only [ne_eq, not_true_eq_false, if_false, h32]
    exact ⟨trivial, getP_set (step_ok hc hs), hle⟩
  · simp [he]
/-- Commands on unlike keys, in any order. -/
theorem do_parts {p : List APair} {a b : ACmd} (hp : pairsB p = true) (hr : p.length ≤ 30) (hk : eqT a.key b.key = false) :
    (doP (doP p a).1 b).1 = (doP (doP p b).1 a).1 ∧ (doP p a).2 = (doP (doP p b).1 a).2 ∧ (doP (doP p a).1 b).2 = (doP p b).2 := by
  have hk' : eqT b.key a.key = false := by rw [eqT_comm]; exact hk
  obtain ⟨a1, a2, a3⟩ := do_room a hp (by omega)
  obtain ⟨b1, b2, b3⟩ := do_room b hp (by omega)
  have ra := do_right a hp
  have rb := do_right b hp
  obtain ⟨ab1, ab2, _⟩ := do_room b ra (by omega)
  obtain ⟨ba1, ba2, _⟩ := do_room a rb (by omega)
  rw [do_others hk'] at ab1 ab2
  rw [do_others hk] at ba1 ba2
  refine ⟨?_, by rw [a1, ba1], by rw [ab1, b1]⟩
  have r1 := (pairsB_iff _).1 (do_right b ra)
  have r2 := (pairsB_iff _).1 (do_right a rb)
  have hkind : ∀ {l : List APair}, (∀ q ∈ l, pairOk q = true) → ∀ q ∈ l, q.val.kind ≠ 0 := fun h q hq => by
    have := h q hq
    unfold pairOk at this
    simp only [Bool.and_eq_true, bne_iff_ne] at this
    exact this.1.2
  refine pairs_ext r1.2.2 r2.2.2 (hkind r1.2.1) (hkind r2.2.1) fun k => ?_
  by_cases ka : eqT k a.key = true
  · have e := (eqT_iff _ _).1 ka
    subst e
    rw [do_others hk, a2, ba2]
  · by_cases kb : eqT k b.key = true
    · have e := (eqT_iff _ _).1 kb
      subst e
      rw [ab2, do_others hk', b2]
    · rw [do_others (by simpa using kb), do_others (by simpa using ka), do_others (by simpa using ka), do_others (by simpa using kb)]
end Go.Proofs.Ythhjaneadbkccaa
