/-
  Plain laws: how much a reader eats, and that what it reads fits. No program is walked here. Conditions: as each theorem names them.
-/
import Derived.Test.YtplpegjnmlabkaaSesDecP
namespace Go.Proofs.Ytplpegjnmlabkaa
set_option linter.unusedSimpArgs false

theorem int_lt {r : RS} (h : r.int.2.e = 0) : r.int.2.left.length < r.left.length := by
  have he := int_e r h
  unfold RS.int at h ⊢
  rw [if_neg (by simpa using he)] at h ⊢
  rcases hv : rdVar 0 0 r.left with _ | ⟨z, l⟩
  · rw [hv] at h; simp at h
  · exact (rdVar_lt r.left 0 0 z l (by omega) (by simp) hv).2
theorem text_le (r : RS) : r.text.2.left.length ≤ r.left.length := by
  have h1 := int_left_le r
  rw [text_eq]
  split
  · exact h1
  split
  · exact h1
  split
  · exact h1
  · simp; omega
theorem text_lt {r : RS} (h : r.text.2.e = 0) : r.text.2.left.length < r.left.length := by
  rw [text_eq] at h ⊢
  split at h
  · rename_i h1
    exact absurd h h1
  rename_i h1
  have h2 : r.int.2.e = 0 := by simpa using h1
  have h3 := int_lt h2
  rw [if_neg h1]
  split
  · exact h3
  split
  · exact h3
  · simp; omega
theorem text_small (r : RS) : r.text.1.length ≤ 16384 := by
  rw [text_eq]
  split
  · simp
  split
  · simp
  split
  · simp
  · simp; omega
theorem float_le (r : RS) : r.float.2.left.length ≤ r.left.length := by
  unfold RS.float
  split
  · exact Nat.le_refl _
  split
  · exact Nat.le_refl _
  split
  · exact Nat.le_refl _
  · simp
theorem float_e (r : RS) : r.float.2.e = 0 → r.e = 0 := by
  unfold RS.float
  split
  · exact id
  · intro _; rename_i h; omega
theorem float_lt (r : RS) : r.float.1 < 18446744073709551616 := by
  unfold RS.float
  split
  · simp
  split
  · simp
  split
  · simp
  · rename_i h _
    have := num8_lt 8 (r.left.take 8) (by rw [List.length_take]; omega)
    simpa using this
theorem val_le (r : RS) : r.val.2.left.length ≤ r.left.length := by
  have h1 := int_left_le r
  unfold RS.val
  split
  · exact Nat.le_trans (float_le _) h1
  split
  · exact Nat.le_trans (text_le _) h1
  · exact h1
theorem val_e (r : RS) : r.val.2.e = 0 → r.e = 0 := by
  unfold RS.val
  split
  · exact fun h => int_e _ (float_e _ h)
  split
  · exact fun h => int_e _ (text_e _ h)
  · exact int_e _
theorem val_ok (r : RS) : r.val.1.ok := by
  have h1 := int_range r
  unfold RS.val
  split
  · refine ⟨by unfold I64; simp, float_lt _, by simp [maxLen, ByteArray.size]⟩
  split
  · refine ⟨by unfold I64; simp, by simp, ?_⟩
    have := text_small r.int.2
    simp only [ByteArray.size, List.size_toArray, maxLen]
    omega
  · refine ⟨by unfold I64; simp only; omega, by simp, by simp [maxLen, ByteArray.size]⟩
theorem pair_ok (r : RS) : (⟨textB r.text.1, r.text.2.val.1⟩ : APair).ok := by
  refine ⟨?_, val_ok _⟩
  have := text_small r
  simp only [textB, ByteArray.size, List.size_toArray, maxLen]
  omega
theorem sess_ok (r : RS) : r.sess.1.ok := by
  have h1 := int_range r
  have h2 := int_range r.int.2
  have h3 := int_range r.int.2.int.2
  unfold RS.sess
  exact ⟨by unfold I64; simp only; omega, by unfold I64; simp only; omega, by unfold I64; simp only; omega, val_ok _⟩
theorem sess_le (r : RS) : r.sess.2.left.length ≤ r.left.length := by
  have h1 := int_left_le r
  have h2 := int_left_le r.int.2
  have h3 := int_left_le r.int.2.int.2
  have h4 := val_le r.int.2.int.2.int.2
  unfold RS.sess
  simp only
  omega
theorem sess_lt {r : RS} (h : r.sess.2.e = 0) : r.sess.2.left.length < r.left.length := by
  unfold RS.sess at h ⊢
  simp only at h ⊢
  have h4 := val_le r.int.2.int.2.int.2
  have h3 := int_left_le r.int.2.int.2
  have h2 := int_left_le r.int.2
  have h1 := int_lt (int_e _ (int_e _ (val_e _ h)))
  omega
/-- How much was read: m elements out of N bytes. -/
def Eaten (N m : Nat) (r : RS) : Prop := m ≤ N + 1 ∧ (r.e = 0 → m + r.left.length ≤ N)
theorem eat_pair {N m : Nat} {r : RS} (h : Eaten N m r) (hl : 0 < r.leftN) : Eaten N (m + 1) r.text.2.val.2 := by
  unfold RS.leftN at hl
  split at hl
  · omega
  rename_i he
  have he0 : r.e = 0 := by simpa using he
  have h1 := h.2 he0
  refine ⟨by omega, fun h2 => ?_⟩
  have h3 := text_lt (val_e _ h2)
  have h4 := val_le r.text.2
  omega
theorem eat_sess {N m : Nat} {r : RS} (h : Eaten N m r) (hl : 0 < r.leftN) : Eaten N (m + 1) r.sess.2 := by
  unfold RS.leftN at hl
  split at hl
  · omega
  rename_i he
  have he0 : r.e = 0 := by simpa using he
  have h1 := h.2 he0
  refine ⟨by omega, fun h2 => ?_⟩
  have h3 := sess_lt h2
  omega
theorem rdPs_stop {n : Nat} {r : RS} (h : n = 0 ∨ r.leftN ≤ 0) : rdPs n r = ([], r) := by
  cases n with
  | zero => rfl
  | succ n => rw [rdPs, if_pos (by rcases h with h | h; omega; exact h)]
theorem rdPs_step {n : Nat} {r : RS} (h : 0 < r.leftN) : rdPs (n + 1) r = (⟨textB r.text.1, r.text.2.val.1⟩ :: (rdPs n r.text.2.val.2).1, (rdPs n r.text.2.val.2).2) := by
  rw [rdPs, if_neg (by omega)]
theorem rdSs_stop {n : Nat} {r : RS} (h : n = 0 ∨ r.leftN ≤ 0) : rdSs n r = ([], r) := by
  cases n with
  | zero => rfl
  | succ n => rw [rdSs, if_pos (by rcases h with h | h; omega; exact h)]
theorem rdSs_step {n : Nat} {r : RS} (h : 0 < r.leftN) : rdSs (n + 1) r = (r.sess.1 :: (rdSs n r.sess.2).1, (rdSs n r.sess.2).2) := by
  rw [rdSs, if_neg (by omega)]
end Go.Proofs.Ytplpegjnmlabkaa
