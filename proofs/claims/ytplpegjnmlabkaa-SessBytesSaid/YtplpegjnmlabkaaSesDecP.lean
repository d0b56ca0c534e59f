/-
  Plain functions: what sess.Decode reads; what was written is read again, with anything behind it. No program is walked here. Conditions: as each theorem names them.
-/
import Derived.Test.YtplpegjnmlabkaaSesEnc
import Derived.Test.YtplpegjnmlabkaaSesR
import Derived.Test.YtplpegjnmlabkaaPackPure
namespace Go.Proofs.Ytplpegjnmlabkaa
set_option linter.unusedSimpArgs false

def textB (l : List UInt8) : ByteArray := ⟨l.toArray⟩
/-- Pairs that are read: at most n, and while something is left. -/
def rdPs : Nat → RS → List APair × RS
  | 0, r => ([], r)
  | n + 1, r => if r.leftN ≤ 0 then ([], r) else
    (⟨textB r.text.1, r.text.2.val.1⟩ :: (rdPs n r.text.2.val.2).1, (rdPs n r.text.2.val.2).2)
def RS.sess (r : RS) : ASess × RS :=
  (⟨r.int.1, r.int.2.int.1, ⟨r.int.2.int.2.int.1, r.int.2.int.2.int.2.val.1⟩⟩, r.int.2.int.2.int.2.val.2)
def rdSs : Nat → RS → List ASess × RS
  | 0, r => ([], r)
  | n + 1, r => if r.leftN ≤ 0 then ([], r) else (r.sess.1 :: (rdSs n r.sess.2).1, (rdSs n r.sess.2).2)
def decM (bs : List UInt8) : AMach × RS :=
  (⟨(rdPs (RS.int ⟨bs, 0⟩).1.toNat (RS.int ⟨bs, 0⟩).2).1,
    (rdSs (rdPs (RS.int ⟨bs, 0⟩).1.toNat (RS.int ⟨bs, 0⟩).2).2.int.1.toNat (rdPs (RS.int ⟨bs, 0⟩).1.toNat (RS.int ⟨bs, 0⟩).2).2.int.2).1⟩,
   (rdSs (rdPs (RS.int ⟨bs, 0⟩).1.toNat (RS.int ⟨bs, 0⟩).2).2.int.1.toNat (rdPs (RS.int ⟨bs, 0⟩).1.toNat (RS.int ⟨bs, 0⟩).2).2.int.2).2)
theorem textB_bs (s : ByteArray) : textB (bsOf s) = s := by
  cases s
  simp [textB, bsOf]
theorem text_empty {t : ByteArray} (h : isEmptyT t = true) : t = ⟨#[]⟩ := (isEmptyT_iff _).1 h
theorem chk_form {v : AVal} (h : chk v = 0) : v = ⟨0, 0, ⟨#[]⟩⟩ ∨ (∃ x, v = ⟨1, x, ⟨#[]⟩⟩ ∧ canon x = x) ∨ ∃ t, v = ⟨2, 0, t⟩ ∧ t.size ≤ 32 := by
  obtain ⟨k, x, t⟩ := v
  unfold chk at h
  simp only at h
  split at h
  · cases h
  rename_i h1
  split at h
  · cases h
  rename_i h2
  split at h
  · cases h
  rename_i h3
  split at h
  · cases h
  rename_i h4
  have hk : k = 0 ∨ k = 1 ∨ k = 2 := by omega
  have ht : k ≠ 2 → t = ⟨#[]⟩ := fun hk => text_empty (by
    rcases he : isEmptyT t with _ | _
    · exact absurd (.inl ⟨hk, he⟩) h3
    · rfl)
  have hx : k ≠ 1 → x = 0 := fun hk => by
    rcases Nat.eq_zero_or_pos x with h | h
    · exact h
    · exact absurd (.inr ⟨hk, by omega⟩) h3
  rcases hk with rfl | rfl | rfl
  · exact .inl (by rw [ht (by omega), hx (by omega)])
  · refine .inr (.inl ⟨x, by rw [ht (by omega)], ?_⟩)
    unfold canon
    split
    · rename_i hn
      rcases Nat.decEq x theNaN with hne | he
      · exact absurd ⟨hn, hne⟩ h4
      · exact he.symm
    · rfl
  · refine .inr (.inr ⟨t, by rw [hx (by omega)], ?_⟩)
    have : ¬ 32 < t.size := fun e => h2 ⟨rfl, e⟩
    omega
theorem val_enc {v : AVal} (h : chk v = 0) (hok : v.ok) (rest : List UInt8) : RS.val ⟨encV v ++ rest, 0⟩ = (v, ⟨rest, 0⟩) := by
  rcases chk_form h with rfl | ⟨x, rfl, hx⟩ | ⟨t, rfl, ht⟩
  · unfold RS.val encV
    rw [if_neg (show ¬ (0 : Int) = 1 by omega), if_neg (show ¬ (0 : Int) = 2 by omega), List.append_nil, int_enc 0 rest (by omega) (by omega)]
    simp
  · unfold RS.val encV
    rw [if_pos rfl, List.append_assoc, int_enc 1 _ (by omega) (by omega)]
    simp only [if_true]
    rw [float_enc x rest hok.2.1, hx]
  · unfold RS.val encV
    rw [if_neg (show ¬ (2 : Int) = 1 by omega), if_pos rfl, List.append_assoc, int_enc 2 _ (by omega) (by omega)]
    rw [if_neg (show ¬ (2 : Int) = 1 by omega), if_pos rfl]
    simp only
    rw [text_enc (bsOf t) rest (by have : (bsOf t).length = t.size := rfl; omega)]
theorem leftN_pos {a rest : List UInt8} (h : 0 < a.length) : ¬ RS.leftN ⟨a ++ rest, 0⟩ ≤ 0 := by
  unfold RS.leftN
  simp
  omega
theorem encInt_pos (n : Int) : 0 < (encInt n).length := uvF_pos 9 _
theorem encP_pos (p : APair) : 0 < (encP p).length := by
  have := encInt_pos (bsOf p.key).length
  unfold encP encText
  simp only [List.length_append]
  omega
theorem encS_pos (s : ASess) : 0 < (encS s).length := by
  have := encInt_pos s.client
  unfold encS
  simp only [List.length_append]
  omega
theorem rdPs_enc (p : List APair) (h : ∀ x ∈ p, pairOk x = true) (hok : ∀ x ∈ p, x.ok) (rest : List UInt8) : rdPs p.length ⟨p.flatMap encP ++ rest, 0⟩ = (p, ⟨rest, 0⟩) := by
  induction p with
  | nil => rfl
  | cons x p ih =>
    have hx := h x (by simp)
    have hkx := hok x (by simp)
    have hs := pair_small hx
    have hkl : (bsOf x.key).length = x.key.size := rfl
    have hc : chk x.val = 0 := by unfold pairOk at hx; simp only [Bool.and_eq_true, beq_iff_eq] at hx; exact hx.2
    rw [List.length_cons, rdPs, List.flatMap_cons, List.append_assoc, if_neg (leftN_pos (encP_pos x))]
    have e1 : RS.text ⟨encP x ++ (p.flatMap encP ++ rest), 0⟩ = (bsOf x.key, ⟨encV x.val ++ (p.flatMap encP ++ rest), 0⟩) := by
      unfold encP
      rw [List.append_assoc]
      exact text_enc _ _ (by omega)
    rw [e1]
    simp only
    rw [val_enc hc hkx.2]
    simp only
    rw [ih (fun y hy => h y (by simp [hy])) (fun y hy => hok y (by simp [hy])), textB_bs]
theorem rdSs_enc (l : List ASess) (h : ∀ x ∈ l, sessOk x = true) (hok : ∀ x ∈ l, x.ok) (rest : List UInt8) : rdSs l.length ⟨l.flatMap encS ++ rest, 0⟩ = (l, ⟨rest, 0⟩) := by
  induction l with
  | nil => rfl
  | cons x l ih =>
    have hx := h x (by simp)
    have hkx := hok x (by simp)
    have hc : chk x.reply.val = 0 := by unfold sessOk at hx; simp only [Bool.and_eq_true, beq_iff_eq] at hx; exact hx.2
    rw [List.length_cons, rdSs, List.flatMap_cons, List.append_assoc, if_neg (leftN_pos (encS_pos x))]
    have e1 : RS.sess ⟨encS x ++ (l.flatMap encS ++ rest), 0⟩ = (x, ⟨l.flatMap encS ++ rest, 0⟩) := by
      have i1 := hkx.1
      have i2 := hkx.2.1
      have i3 := hkx.2.2.1
      unfold I64 at i1 i2 i3
      unfold RS.sess encS
      simp only [List.append_assoc]
      rw [int_enc x.client _ (by omega) (by omega)]
      simp only
      rw [int_enc x.seq _ (by omega) (by omega)]
      simp only
      rw [int_enc x.reply.code _ (by omega) (by omega)]
      simp only
      rw [val_enc hc hkx.2.2.2]
    rw [e1]
    simp only
    rw [ih (fun y hy => h y (by simp [hy])) (fun y hy => hok y (by simp [hy]))]
def AMach.ok (m : AMach) : Prop := (∀ x ∈ m.pairs, x.ok) ∧ ∀ x ∈ m.sess, x.ok
/-- What was written is read again, with anything behind it. -/
theorem decM_enc {m : AMach} (h : machB m = true) (hok : m.ok) (d : List UInt8) : decM (encM m ++ d) = (m, ⟨d, 0⟩) := by
  have h2 := h
  unfold machB at h2
  rw [Bool.and_eq_true] at h2
  have hp := ((pairsB_iff m.pairs).1 h2.1).2.1
  have hl := ((sessB_iff m.sess).1 h2.2).1
  have n1 := right_len h2.1
  have n2 := (sess_nums h2.2).2.2
  unfold decM encM
  simp only [List.append_assoc]
  rw [int_enc (m.pairs.length : Int) _ (by omega) (by omega)]
  simp only [Int.toNat_natCast]
  rw [rdPs_enc m.pairs hp hok.1]
  simp only
  rw [int_enc (m.sess.length : Int) _ (by omega) (by omega)]
  simp only [Int.toNat_natCast]
  rw [rdSs_enc m.sess hl hok.2]
/-- A machine's bytes are no strict beginning of another's, and they are its own. -/
theorem encM_pre {m n : AMach} (hm : machB m = true) (hn : machB n = true) (hmo : m.ok) (hno : n.ok) {d : List UInt8} (h : encM m = encM n ++ d) : m = n ∧ d = [] := by
  have h1 := decM_enc hm hmo []
  have h2 := decM_enc hn hno d
  rw [List.append_nil, h, h2] at h1
  injection h1 with e1 e2
  injection e2 with e2 _
  exact ⟨e1.symm, e2⟩
end Go.Proofs.Ytplpegjnmlabkaa
