/-
  Plain laws: what the page's Decode reads is what sess.Decode tells. No program is walked here. Conditions: as each theorem names them.
-/
import Derived.Test.YtplpegjnmlabkaaSesBackP
namespace Go.Proofs.Ytplpegjnmlabkaa
set_option linter.unusedSimpArgs false

/-- The page's ReadValue: of the three kinds alone. -/
def RS.valP (r : RS) : AVal × RS := if r.int.1 = 0 ∨ r.int.1 = 1 ∨ r.int.1 = 2 then r.val else (⟨r.int.1, 0, ⟨#[]⟩⟩, r.int.2.fail 3)
def rdPsP : Nat → RS → List APair × RS
  | 0, r => ([], r)
  | n + 1, r => if r.e ≠ 0 then ([], r) else
    (⟨textB r.text.1, r.text.2.valP.1⟩ :: (rdPsP n r.text.2.valP.2).1, (rdPsP n r.text.2.valP.2).2)
def RS.sessP (r : RS) : ASess × RS :=
  (⟨r.int.1, r.int.2.int.1, ⟨r.int.2.int.2.int.1, r.int.2.int.2.int.2.valP.1⟩⟩, r.int.2.int.2.int.2.valP.2)
def rdSsP : Nat → RS → List ASess × RS
  | 0, r => ([], r)
  | n + 1, r => if r.e ≠ 0 then ([], r) else (r.sessP.1 :: (rdSsP n r.sessP.2).1, (rdSsP n r.sessP.2).2)
/-- The page's Decode. -/
def decP (bs : List UInt8) : Option AMach :=
  if (RS.int ⟨bs, 0⟩).1 < 0 ∨ 32 < (RS.int ⟨bs, 0⟩).1 then none else
  let p := rdPsP (RS.int ⟨bs, 0⟩).1.toNat (RS.int ⟨bs, 0⟩).2
  if p.2.int.1 < 0 ∨ 4 < p.2.int.1 then none else
  let s := rdSsP p.2.int.1.toNat p.2.int.2
  if s.2.done ≠ 0 ∨ machB ⟨p.1, s.1⟩ = false then none else some ⟨p.1, s.1⟩
theorem fail_e (r : RS) : (r.fail 3).e ≠ 0 := by
  unfold RS.fail
  split
  · simp
  · assumption
theorem valP_e {r : RS} (h : r.valP.2.e = 0) : r.e = 0 := by
  unfold RS.valP at h
  split at h
  · exact val_e _ h
  · exact absurd h (fail_e _)
theorem rs_of {r : RS} (h : r.e = 0) : r = ⟨r.left, 0⟩ := by obtain ⟨l, e⟩ := r; simp only at h; subst h; rfl
theorem bs_textB (l : List UInt8) : bsOf (textB l) = l := by simp [textB, bsOf]
theorem enc_valP {l : List UInt8} (h : (RS.valP ⟨l, 0⟩).2.e = 0) : l = encV (RS.valP ⟨l, 0⟩).1 ++ (RS.valP ⟨l, 0⟩).2.left := by
  unfold RS.valP at h ⊢
  split at h
  · rename_i hk
    rw [if_pos hk]
    have hi := int_e
    have he := val_e ⟨l, 0⟩ h
    unfold RS.val at h ⊢
    split at h
    · rename_i h1
      rw [if_pos h1]
      have e1 := rs_of (float_e _ h)
      have e2 := enc_int e1
      have e3 := rs_of h
      rw [e1] at e3
      have e4 := (enc_float e3).1
      unfold encV
      rw [if_pos rfl, List.append_assoc]
      rw [h1] at e2
      rw [e2]
      congr 1
    · rename_i h1
      split at h
      · rename_i h2
        rw [if_neg h1, if_pos h2]
        have e1 := rs_of (text_e _ h)
        have e2 := enc_int e1
        have e3 := rs_of h
        rw [e1] at e3
        have e4 := (enc_text e3).1
        unfold encV
        rw [if_neg (show ¬ (2 : Int) = 1 by omega), if_pos rfl, List.append_assoc]
        rw [h2] at e2
        rw [e2]
        congr 1
      · rename_i h2
        rw [if_neg h1, if_neg h2]
        have e2 := enc_int (rs_of h)
        unfold encV
        rw [if_neg h1, if_neg h2, List.append_nil]
        exact e2
  · exact absurd h (fail_e _)
theorem rdPsP_only : ∀ (n : Nat) (r : RS), (rdPsP n r).2.e = 0 → r.e = 0 ∧ (rdPsP n r).1.length = n ∧ r.left = (rdPsP n r).1.flatMap encP ++ (rdPsP n r).2.left := by
  intro n
  induction n with
  | zero => intro r h; exact ⟨h, rfl, rfl⟩
  | succ n ih =>
    intro r h
    rw [rdPsP] at h ⊢
    by_cases he : r.e = 0
    · rw [if_neg (by simpa using he)] at h ⊢
      obtain ⟨h1, h2, h3⟩ := ih _ h
      refine ⟨he, by simp [h2], ?_⟩
      have ht := valP_e h1
      have e1 := rs_of he
      have e2 := rs_of ht
      have e3 : r.left = encText r.text.1 ++ r.text.2.left := by
        rw [e1] at e2 ⊢
        exact (enc_text e2).1
      have e4 : r.text.2.left = encV r.text.2.valP.1 ++ r.text.2.valP.2.left := by
        rw [e2] at h1 ⊢
        exact enc_valP h1
      rw [List.flatMap_cons, List.append_assoc, ← h3]
      unfold encP
      rw [bs_textB, List.append_assoc, ← e4]
      exact e3
    · rw [if_pos he] at h
      exact absurd h he
theorem rdSsP_only : ∀ (n : Nat) (r : RS), (rdSsP n r).2.e = 0 → r.e = 0 ∧ (rdSsP n r).1.length = n ∧ r.left = (rdSsP n r).1.flatMap encS ++ (rdSsP n r).2.left := by
  intro n
  induction n with
  | zero => intro r h; exact ⟨h, rfl, rfl⟩
  | succ n ih =>
    intro r h
    rw [rdSsP] at h ⊢
    by_cases he : r.e = 0
    · rw [if_neg (by simpa using he)] at h ⊢
      obtain ⟨h1, h2, h3⟩ := ih _ h
      refine ⟨he, by simp [h2], ?_⟩
      have ht : r.int.2.int.2.int.2.e = 0 := valP_e h1
      have hi2 := int_e _ ht
      have hi1 := int_e _ hi2
      have e1 : r.left = encInt r.int.1 ++ r.int.2.left := by
        have e := rs_of hi1
        rw [rs_of he] at e ⊢
        exact enc_int e
      have e2 : r.int.2.left = encInt r.int.2.int.1 ++ r.int.2.int.2.left := by
        have e := rs_of hi2
        rw [rs_of hi1] at e ⊢
        exact enc_int e
      have e3 : r.int.2.int.2.left = encInt r.int.2.int.2.int.1 ++ r.int.2.int.2.int.2.left := by
        have e := rs_of ht
        rw [rs_of hi2] at e ⊢
        exact enc_int e
      have e4 : r.int.2.int.2.int.2.left = encV r.int.2.int.2.int.2.valP.1 ++ r.int.2.int.2.int.2.valP.2.left := by
        have h1' : r.int.2.int.2.int.2.valP.2.e = 0 := h1
        rw [rs_of ht] at h1' ⊢
        exact enc_valP h1'
      rw [List.flatMap_cons, List.append_assoc, ← h3]
      unfold encS RS.sessP
      simp only [List.append_assoc]
      rw [← e4, ← e3, ← e2]
      exact e1
    · rw [if_pos he] at h
      exact absurd h he
theorem valP_ok (r : RS) : r.valP.1.ok := by
  unfold RS.valP
  split
  · exact val_ok r
  · have h1 := int_range r
    exact ⟨by unfold I64; simp only; omega, by simp, by simp [maxLen, ByteArray.size]⟩
theorem pairP_ok (r : RS) : (⟨textB r.text.1, r.text.2.valP.1⟩ : APair).ok := by
  refine ⟨?_, valP_ok _⟩
  have := text_small r
  simp only [textB, ByteArray.size, List.size_toArray, maxLen]
  omega
theorem sessP_ok (r : RS) : r.sessP.1.ok := by
  have h1 := int_range r
  have h2 := int_range r.int.2
  have h3 := int_range r.int.2.int.2
  unfold RS.sessP
  exact ⟨by unfold I64; simp only; omega, by unfold I64; simp only; omega, by unfold I64; simp only; omega, valP_ok _⟩
theorem rdPsP_ok : ∀ (n : Nat) (r : RS), ∀ x ∈ (rdPsP n r).1, x.ok := by
  intro n
  induction n with
  | zero => intro r x hx; simp [rdPsP] at hx
  | succ n ih =>
    intro r x hx
    rw [rdPsP] at hx
    split at hx
    · simp at hx
    · rcases List.mem_cons.1 hx with rfl | hx
      · exact pairP_ok r
      · exact ih _ x hx
theorem rdSsP_ok : ∀ (n : Nat) (r : RS), ∀ x ∈ (rdSsP n r).1, x.ok := by
  intro n
  induction n with
  | zero => intro r x hx; simp [rdSsP] at hx
  | succ n ih =>
    intro r x hx
    rw [rdSsP] at hx
    split at hx
    · simp at hx
    · rcases List.mem_cons.1 hx with rfl | hx
      · exact sessP_ok r
      · exact ih _ x hx
theorem valP_enc {v : AVal} (h : chk v = 0) (hok : v.ok) (rest : List UInt8) : RS.valP ⟨encV v ++ rest, 0⟩ = (v, ⟨rest, 0⟩) := by
  have hk : (RS.int ⟨encV v ++ rest, 0⟩).1 = v.kind := by
    unfold encV
    have := hok.1
    unfold I64 at this
    rw [List.append_assoc, int_enc v.kind _ (by omega) (by omega)]
  unfold RS.valP
  rw [hk, if_pos ?_]
  · exact val_enc h hok rest
  · rcases chk_form h with rfl | ⟨x, rfl, _⟩ | ⟨t, rfl, _⟩ <;> simp
theorem rdPsP_enc (p : List APair) (h : ∀ x ∈ p, pairOk x = true) (hok : ∀ x ∈ p, x.ok) (rest : List UInt8) : rdPsP p.length ⟨p.flatMap encP ++ rest, 0⟩ = (p, ⟨rest, 0⟩) := by
  induction p with
  | nil => rfl
  | cons x p ih =>
    have hx := h x (by simp)
    have hkx := hok x (by simp)
    have hs := pair_small hx
    have hkl : (bsOf x.key).length = x.key.size := rfl
    have hc : chk x.val = 0 := by unfold pairOk at hx; simp only [Bool.and_eq_true, beq_iff_eq] at hx; exact hx.2
    rw [List.length_cons, rdPsP, List.flatMap_cons, List.append_assoc, if_neg (by simp)]
    have e1 : RS.text ⟨encP x ++ (p.flatMap encP ++ rest), 0⟩ = (bsOf x.key, ⟨encV x.val ++ (p.flatMap encP ++ rest), 0⟩) := by
      unfold encP
      rw [List.append_assoc]
      exact text_enc _ _ (by omega)
    rw [e1]
    simp only
    rw [valP_enc hc hkx.2]
    simp only
    rw [ih (fun y hy => h y (by simp [hy])) (fun y hy => hok y (by simp [hy])), textB_bs]
theorem rdSsP_enc (l : List ASess) (h : ∀ x ∈ l, sessOk x = true) (hok : ∀ x ∈ l, x.ok) (rest : List UInt8) : rdSsP l.length ⟨l.flatMap encS ++ rest, 0⟩ = (l, ⟨rest, 0⟩) := by
  induction l with
  | nil => rfl
  | cons x l ih =>
    have hx := h x (by simp)
    have hkx := hok x (by simp)
    have hc : chk x.reply.val = 0 := by unfold sessOk at hx; simp only [Bool.and_eq_true, beq_iff_eq] at hx; exact hx.2
    rw [List.length_cons, rdSsP, List.flatMap_cons, List.append_assoc, if_neg (by simp)]
    have e1 : RS.sessP ⟨encS x ++ (l.flatMap encS ++ rest), 0⟩ = (x, ⟨l.flatMap encS ++ rest, 0⟩) := by
      have i1 := hkx.1
      have i2 := hkx.2.1
      have i3 := hkx.2.2.1
      unfold I64 at i1 i2 i3
      unfold RS.sessP encS
      simp only [List.append_assoc]
      rw [int_enc x.client _ (by omega) (by omega)]
      simp only
      rw [int_enc x.seq _ (by omega) (by omega)]
      simp only
      rw [int_enc x.reply.code _ (by omega) (by omega)]
      simp only
      rw [valP_enc hc hkx.2.2.2]
    rw [e1]
    simp only
    rw [ih (fun y hy => h y (by simp [hy])) (fun y hy => hok y (by simp [hy]))]
theorem decP_enc {m : AMach} (h : machB m = true) (hok : m.ok) : decP (encM m) = some m := by
  have h2 := h
  unfold machB at h2
  rw [Bool.and_eq_true] at h2
  have hp := ((pairsB_iff m.pairs).1 h2.1).2.1
  have hl := ((sessB_iff m.sess).1 h2.2).1
  have n1 := right_len h2.1
  have n2 := (sess_nums h2.2).2.2
  unfold decP encM
  rw [int_enc (m.pairs.length : Int) _ (by omega) (by omega)]
  simp only [Int.toNat_natCast]
  rw [if_neg (by omega), rdPsP_enc m.pairs hp hok.1]
  simp only
  rw [int_enc (m.sess.length : Int) _ (by omega) (by omega)]
  simp only [Int.toNat_natCast]
  rw [if_neg (by omega)]
  have h3 := rdSsP_enc m.sess hl hok.2 []
  rw [List.append_nil] at h3
  rw [h3]
  have hm : machB ⟨m.pairs, m.sess⟩ = true := h
  simp [RS.done, hm]
theorem done_e {r : RS} (h : r.done = 0) : r.e = 0 ∧ r.left = [] := by
  unfold RS.done at h
  split at h
  · cases h
  · rename_i h1
    refine ⟨h, ?_⟩
    rcases hl : r.left with _ | ⟨a, b⟩
    · rfl
    · exact absurd ⟨h, by rw [hl]; simp⟩ h1
theorem decP_only {bs : List UInt8} {m : AMach} (h : decP bs = some m) : machB m = true ∧ m.ok ∧ encM m = bs := by
  unfold decP at h
  split at h
  · cases h
  rename_i h1
  simp only at h
  split at h
  · cases h
  rename_i h2
  split at h
  · cases h
  rename_i h3
  simp only [not_or, ne_eq, Decidable.not_not, Bool.not_eq_false] at h3
  injection h with h
  subst h
  obtain ⟨d1, d2⟩ := done_e h3.1
  obtain ⟨s1, s2, s3⟩ := rdSsP_only _ _ d1
  have p0 := int_e _ s1
  obtain ⟨p1, p2, p3⟩ := rdPsP_only _ _ p0
  refine ⟨h3.2, ⟨rdPsP_ok _ _, rdSsP_ok _ _⟩, ?_⟩
  unfold encM
  simp only
  have e1 := enc_int (rs_of p1)
  have e2 := enc_int (l := (rdPsP (RS.int ⟨bs, 0⟩).1.toNat (RS.int ⟨bs, 0⟩).2).2.left) (l' := (rdPsP (RS.int ⟨bs, 0⟩).1.toNat (RS.int ⟨bs, 0⟩).2).2.int.2.left) (by
    have e := rs_of s1
    rw [rs_of p0] at e ⊢
    exact e)
  rw [← rs_of p0] at e2
  rw [d2, List.append_nil] at s3
  rw [p2, s2, ← s3, Int.toNat_of_nonneg (by omega), Int.toNat_of_nonneg (by omega), ← e2, ← p3]
  exact e1.symm
/-- The page's Decode tells what sess.Decode tells. -/
theorem decP_eq (bs : List UInt8) : decP bs = if decE bs = 0 then some (decR bs) else none := by
  rcases decE_or bs with ⟨h0, h1, h2, h3⟩ | ⟨h0, h1⟩
  · rw [if_pos h0]
    have := decP_enc h1 h2
    rw [h3] at this
    exact this
  · rw [if_neg (by omega)]
    rcases hd : decP bs with _ | m
    · rfl
    · exfalso
      obtain ⟨g1, g2, g3⟩ := decP_only hd
      have := (dec_enc g1 g2).2
      rw [g3] at this
      omega
end Go.Proofs.Ytplpegjnmlabkaa
