/-
  Plain laws for KvFull: pairs behind puts of unlike keys. No program is walked here. Conditions: as each theorem names them.
-/
import Derived.Test.YthhjaneadbkccaaKvMore
namespace Go.Proofs.Ythhjaneadbkccaa

def keyAt (i : Nat) : ByteArray := (⟨#[97, 98, 99, 100, 101, 102, 103, 104, 105, 106, 107, 108, 109, 110, 111, 112, 113, 114, 115, 116, 117, 118, 119, 120, 121, 122, 65, 66, 67, 68, 69, 70, 71]⟩ : ByteArray).extract i (i + 1)
def kb (i : Nat) : Nat := if i < 26 then 97 + i else 39 + i
theorem keyAt_bytes : ∀ i, i < 33 → (keyAt i).data.toList.map UInt8.toNat = [kb i] := by decide +kernel
theorem key_size {i : Nat} (h : i < 33) : (keyAt i).size = 1 := by
  have := congrArg List.length (keyAt_bytes i h)
  simpa using this
theorem key_ne {i j : Nat} (hi : i < 33) (hj : j < 33) (h : i ≠ j) : eqT (keyAt i) (keyAt j) = false := by
  rw [← Bool.not_eq_true, eqT_iff]
  intro e
  have h1 := keyAt_bytes i hi
  rw [e, keyAt_bytes j hj] at h1
  simp only [List.cons.injEq, and_true] at h1
  unfold kb at h1
  split at h1 <;> split at h1 <;> omega
theorem key_a : (⟨#[97]⟩ : ByteArray) = keyAt 0 := by decide +kernel
theorem key_b : (⟨#[98]⟩ : ByteArray) = keyAt 1 := by decide +kernel
theorem key_g : (⟨#[71]⟩ : ByteArray) = keyAt 32 := by decide +kernel
structure FullP (p : List APair) (i : Nat) : Prop where
  right : pairsB p = true
  len : p.length = i
  new : ∀ j, i ≤ j → j < 33 → ∀ q ∈ p, eqT q.key (keyAt j) = false
  old : ∀ j, j < i → ∃ q ∈ p, q.key = keyAt j
theorem fullP_nil : FullP [] 0 := ⟨right_nil, rfl, by simp, by omega⟩
theorem filt_none {p : List APair} {k : ByteArray} (h : ∀ q ∈ p, eqT q.key k = false) : (p.filter fun q => eqT q.key k).length = 0 := by
  rw [List.filter_eq_nil_iff.2 (fun q hq => by rw [h q hq]; simp)]; rfl
theorem filt_one {p : List APair} {k : ByteArray} (hs : Srt p) (h : ∃ q ∈ p, q.key = k) : (p.filter fun q => eqT q.key k).length = 1 := by
  obtain ⟨q, hq, e⟩ := h
  have h1 := one_key hs k
  have := List.length_pos_of_mem (List.mem_filter.2 ⟨hq, by rw [e]; exact eqT_refl k⟩ : q ∈ p.filter fun q => eqT q.key k)
  omega
theorem mem_keep {p : List APair} (hs : Srt p) {q : APair} (hq : q ∈ p) {k : ByteArray} (h : eqT q.key k = false) (v : AVal) : q ∈ setP k v false p := by
  rw [setP_false hs]
  rcases h1 : ltT q.key k with _ | _
  · exact List.mem_append.2 (.inr (List.mem_cons.2 (.inr (List.mem_filter.2 ⟨hq, ltT_or h1 h⟩))))
  · exact List.mem_append.2 (.inl (List.mem_filter.2 ⟨hq, h1⟩))
theorem fullP_step {p : List APair} {i : Nat} {v : AVal} (h : FullP p i) (hi : i < 32) (hv : chk v = 0) (hk : v.kind ≠ 0) :
    doP p ⟨2, keyAt i, AVal.zero, v⟩ = (setP (keyAt i) v false p, ⟨0, getP p (keyAt i)⟩) ∧ FullP (setP (keyAt i) v false p) (i + 1) := by
  have hs := ((pairsB_iff p).1 h.right).2.2
  have hks := key_size (i := i) (by omega)
  have hl := len_setP_false hs (keyAt i) v
  rw [filt_none (h.new i (by omega) (by omega)), h.len] at hl
  have hd := do_new (k := keyAt i) h.right (by omega) hv hk
  rw [if_neg (by omega)] at hd
  have hr := do_right ⟨2, keyAt i, AVal.zero, v⟩ h.right
  rw [hd] at hr
  refine ⟨hd, hr, by omega, fun j hj hj2 q hq => ?_, fun j hj => ?_⟩
  · rcases mem_setP hs hq with h1 | ⟨_, rfl⟩
    · exact h.new j (by omega) hj2 q h1
    · exact key_ne (by omega) hj2 (by omega)
  · by_cases e : j = i
    · subst e
      refine ⟨⟨keyAt j, v⟩, ?_, rfl⟩
      rw [setP_false hs]; simp
    · obtain ⟨q, hq, hqk⟩ := h.old j (by omega)
      exact ⟨q, mem_keep hs hq (h.new i (by omega) (by omega) q hq) v, hqk⟩
/-- Behind the thirty-second. -/
theorem fullP_end {p : List APair} {x : AVal} (h : FullP p 32) (hx : chk x = 0) (hk : x.kind ≠ 0) : ∃ q1 q2 q3 t1 t2 t3, doP p ⟨2, ⟨#[71]⟩, AVal.zero, x⟩ = (p, ⟨5, AVal.zero⟩) ∧ doP p ⟨2, ⟨#[97]⟩, AVal.zero, x⟩ = (q1, ⟨0, t1⟩) ∧ q1.length = 32 ∧ pairsB q1 = true ∧
    doP q1 ⟨3, ⟨#[98]⟩, AVal.zero, AVal.zero⟩ = (q2, ⟨0, t2⟩) ∧ q2.length = 31 ∧ pairsB q2 = true ∧ doP q2 ⟨4, ⟨#[71]⟩, AVal.zero, x⟩ = (q3, ⟨0, t3⟩) ∧ q3.length = 32 ∧ pairsB q3 = true := by
  rw [key_a, key_b, key_g]
  have hs := ((pairsB_iff p).1 h.right).2.2
  have k0 := key_size (i := 0) (by omega)
  have k1 := key_size (i := 1) (by omega)
  have k32 := key_size (i := 32) (by omega)
  have hl := h.len
  -- one more
  have d1 := do_new (k := keyAt 32) h.right (by omega) hx hk
  have l1 := len_setP_false hs (keyAt 32) x
  rw [filt_none (h.new 32 (by omega) (by omega))] at l1
  rw [if_pos (by omega)] at d1
  -- another value
  have d2 := do_new (k := keyAt 0) h.right (by omega) hx hk
  have l2 := len_setP_false hs (keyAt 0) x
  rw [filt_one hs (h.old 0 (by omega))] at l2
  rw [if_neg (by omega)] at d2
  have r2 := do_right ⟨2, keyAt 0, AVal.zero, x⟩ h.right
  rw [d2] at r2
  dsimp only at r2
  have s2 := ((pairsB_iff _).1 r2).2.2
  have n32 : ∀ q ∈ setP (keyAt 0) x false p, eqT q.key (keyAt 32) = false := fun q hq => by
    rcases mem_setP hs hq with h1 | ⟨_, rfl⟩
    · exact h.new 32 (by omega) (by omega) q h1
    · exact key_ne (by omega) (by omega) (by omega)
  have o1 : ∃ q ∈ setP (keyAt 0) x false p, q.key = keyAt 1 := by
    obtain ⟨q, hq, e⟩ := h.old 1 (by omega)
    exact ⟨q, mem_keep hs hq (by rw [e]; exact key_ne (by omega) (by omega) (by omega)) x, e⟩
  -- one goes
  have d3 := do_del (k := keyAt 1) r2 (by omega)
  have l3 := len_setP_true (keyAt 1) AVal.zero (setP (keyAt 0) x false p)
  rw [filt_one s2 o1] at l3
  have r3 := do_right ⟨3, keyAt 1, AVal.zero, AVal.zero⟩ r2
  rw [d3] at r3
  dsimp only at r3
  have s3 := ((pairsB_iff _).1 r3).2.2
  have n33 : ∀ q ∈ setP (keyAt 1) AVal.zero true (setP (keyAt 0) x false p), eqT q.key (keyAt 32) = false := fun q hq => by
    rcases mem_setP s2 hq with h1 | ⟨h1, _⟩
    · exact n32 q h1
    · cases h1
  -- another comes
  have hc : cmdE ⟨4, keyAt 32, AVal.zero, x⟩ = 0 := by
    have e1 : ¬ 8 < (keyAt 32).size := by omega
    have e2 : ¬ (keyAt 32).size < 1 := by omega
    simp [cmdE, okV, chk_zero, e1, e2, hx]
  have hst : stepV (getP (setP (keyAt 1) AVal.zero true (setP (keyAt 0) x false p)) (keyAt 32)) ⟨4, keyAt 32, AVal.zero, x⟩ = (0, x, AVal.zero) := by
    rw [getP_none n33]
    unfold stepV
    rw [if_neg (by simp), if_neg (by simp), if_pos rfl, eqVal_refl, if_pos rfl]
  have d4 := do_eq (c := ⟨4, keyAt 32, AVal.zero, x⟩) hc r3 (by simp)
  have hk' : (x.kind == 0) = false := by simpa using hk
  simp only at d4
  rw [hst] at d4
  simp only at d4
  rw [hk'] at d4
  have l4 := len_setP_false s3 (keyAt 32) x
  rw [filt_none n33] at l4
  rw [if_neg (by simp), if_neg (by omega)] at d4
  have r4 := do_right ⟨4, keyAt 32, AVal.zero, x⟩ r3
  rw [d4] at r4
  exact ⟨_, _, _, _, _, _, d1, d2, by omega, r2, d3, by omega, r3, d4, by omega, r4⟩
end Go.Proofs.Ythhjaneadbkccaa
