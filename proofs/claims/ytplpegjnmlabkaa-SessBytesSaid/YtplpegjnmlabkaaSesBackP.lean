/-
  Plain laws for SessBack, SessCuts: what Decode tells of a machine's bytes, cut or with more behind them. No program is walked here. Conditions: as each theorem names them.
-/
import Derived.Test.YtplpegjnmlabkaaSesDecQ
import Derived.Test.YtplpegjnmlabkaaSesMore
namespace Go.Proofs.Ytplpegjnmlabkaa
set_option linter.unusedSimpArgs false

/-- What sess.Decode tells: the machine, and the code. -/
def decGood (bs : List UInt8) : Bool := (decM bs).2.done == 0 && machB (decM bs).1 && encM (decM bs).1 == bs
def decR (bs : List UInt8) : AMach := if decGood bs then (decM bs).1 else ⟨[], []⟩
def decE (bs : List UInt8) : Int := if decGood bs then 0 else 6
theorem dec_bad {bs : List UInt8} {m : AMach} {r : RS} (hd : decM bs = (m, r)) (h : machB m = false ∨ r.done ≠ 0 ∨ (encM m == bs) = false) : decR bs = ⟨[], []⟩ ∧ decE bs = 6 := by
  have hg : decGood bs = false := by
    unfold decGood
    rw [hd]
    rcases h with h | h | h
    · simp [h]
    · simp [h]
    · simp only [h, Bool.and_false]
  unfold decR decE
  rw [hg]
  exact ⟨rfl, rfl⟩
theorem dec_good {bs : List UInt8} {m : AMach} {r : RS} (hd : decM bs = (m, r)) (h1 : machB m = true) (h2 : r.done = 0) (h3 : (encM m == bs) = true) : decR bs = m ∧ decE bs = 0 := by
  have hg : decGood bs = true := by
    unfold decGood
    rw [hd]
    simp only [h1, h2, h3]
    rfl
  unfold decR decE
  rw [hg, hd]
  exact ⟨rfl, rfl⟩
theorem rdPs_ok : ∀ (n : Nat) (r : RS), ∀ x ∈ (rdPs n r).1, x.ok := by
  intro n
  induction n with
  | zero => intro r x hx; simp [rdPs] at hx
  | succ n ih =>
    intro r x hx
    rw [rdPs] at hx
    split at hx
    · simp at hx
    · rcases List.mem_cons.1 hx with rfl | hx
      · exact pair_ok r
      · exact ih _ x hx
theorem rdSs_ok : ∀ (n : Nat) (r : RS), ∀ x ∈ (rdSs n r).1, x.ok := by
  intro n
  induction n with
  | zero => intro r x hx; simp [rdSs] at hx
  | succ n ih =>
    intro r x hx
    rw [rdSs] at hx
    split at hx
    · simp at hx
    · rcases List.mem_cons.1 hx with rfl | hx
      · exact sess_ok r
      · exact ih _ x hx
theorem decM_ok (bs : List UInt8) : (decM bs).1.ok := ⟨rdPs_ok _ _, rdSs_ok _ _⟩
theorem decGood_iff {bs : List UInt8} (h : decGood bs = true) : machB (decM bs).1 = true ∧ encM (decM bs).1 = bs := by
  unfold decGood at h
  simp only [Bool.and_eq_true, beq_iff_eq] at h
  exact ⟨h.1.2, h.2⟩
theorem decE_or (bs : List UInt8) : (decE bs = 0 ∧ machB (decR bs) = true ∧ (decR bs).ok ∧ encM (decR bs) = bs) ∨ (decE bs = 6 ∧ decR bs = ⟨[], []⟩) := by
  unfold decE decR
  rcases hg : decGood bs with _ | _
  · exact .inr ⟨rfl, rfl⟩
  · exact .inl ⟨rfl, (decGood_iff hg).1, decM_ok bs, (decGood_iff hg).2⟩
/-- A right machine's bytes lead back to it. -/
theorem dec_enc {m : AMach} (h : machB m = true) (hok : m.ok) : decR (encM m) = m ∧ decE (encM m) = 0 := by
  have h1 := decM_enc h hok []
  rw [List.append_nil] at h1
  exact dec_good h1 h (by simp [RS.done]) (by simp)
theorem decE_pre {m : AMach} (h : machB m = true) (hok : m.ok) {bs d : List UInt8} (hb : encM m = bs ++ d) (hd : d ≠ []) : decE bs = 6 := by
  rcases decE_or bs with ⟨_, h1, h2, h3⟩ | ⟨h1, _⟩
  · rw [← h3] at hb
    exact absurd (encM_pre h h1 hok h2 hb).2 hd
  · exact h1
theorem decE_more {m : AMach} (h : machB m = true) (hok : m.ok) {d : List UInt8} (hd : d ≠ []) : decE (encM m ++ d) = 6 := by
  rcases decE_or (encM m ++ d) with ⟨_, h1, h2, h3⟩ | ⟨h1, _⟩
  · exact absurd (encM_pre h1 h h2 hok h3).2 hd
  · exact h1
theorem encM_pos (m : AMach) : 0 < (encM m).length := by
  have := encInt_pos m.pairs.length
  unfold encM
  simp only [List.length_append]
  omega
theorem encM_len {m : AMach} (h : machB m = true) : (encM m).length ≤ 10000 := by
  unfold machB at h
  rw [Bool.and_eq_true] at h
  have hp32 : m.pairs.length ≤ 32 := right_len h.1
  have hl4 : m.sess.length ≤ 4 := (sess_nums h.2).2.2
  have h1 := flatB_len (f := encP) (l := m.pairs) (k := 100) (fun x hx => encP_len (((pairsB_iff m.pairs).1 h.1).2.1 x hx))
  have h2 := flatB_len (f := encS) (l := m.sess) (k := 100) (fun x hx => encS_len (((sessB_iff m.sess).1 h.2).1 x hx))
  have h3 := encInt_len (m.pairs.length : Int)
  have h4 := encInt_len (m.sess.length : Int)
  unfold encM
  simp only [List.length_append]
  omega
theorem newM_ok {w w' : World} {pv v : Value} {m : AMach} (h : NewM w w' pv v m) : m.ok := ⟨h.1.2.1, h.2.1.2.1⟩
theorem newB_up {W w w' : World} {v : Value} {bs : List UInt8} (h : NewB w w' v bs) (hs : W.heap.size ≤ w.heap.size) : NewB W w' v bs := ⟨h.1, fun g hg => Nat.le_trans hs (h.2 g hg)⟩
theorem newB_mod {W w w' : World} {v : Value} {bs : List UInt8} (h : NewB W w v bs) (hE : Ext w w') : NewB W w' v bs := ⟨own_mod h.1 hE (fun _ _ => id), h.2⟩
theorem newB_box {W w w' : World} {v : Value} {bs : List UInt8} {b : Nat} {t : TypeId} {cs : Array Value} {q : Nat × Nat} (h : NewB W w v bs) (hb : w.heap[b]? = some (.cells cs t q)) (hM : Mod (fun k => k = b) w w') (ht : 5 ≠ t) : NewB W w' v bs :=
  ⟨own_mod h.1 hM (fun _ hg => own_apart h.1 hg hb ht), h.2⟩
theorem byt_take {w : World} {T : Nat → Prop} {A : Option Addr} {c q : Nat} {xs : List UInt8} (h : Byt w T (.slice A xs.length c) xs) (hq : q ≤ xs.length) : Byt w T (.slice A q c) (xs.take q) := by
  have h2 := Sl.upto h hq
  unfold Byt
  rw [List.length_take, Nat.min_eq_left hq]
  simpa using h2
theorem byt_cap {w : World} {T : Nat → Prop} {A : Option Addr} {n c : Nat} {xs : List UInt8} (h : Byt w T (.slice A n c) xs) : n ≤ c := by
  obtain ⟨_, A', c', e, h1, _⟩ := h
  injection e with _ _ e3
  omega
/-- Of two right values that are the same one has the other's bits. -/
theorem eqVal_eq {a b : AVal} (ha : chk a = 0) (hb : chk b = 0) (h : eqVal a b = true) : a = b := by
  obtain ⟨k, x, t⟩ := a
  obtain ⟨k', x', t'⟩ := b
  unfold eqVal sameF at h
  simp only [Bool.and_eq_true, Bool.or_eq_true, beq_iff_eq, eqT_iff] at h
  obtain ⟨⟨rfl, hx⟩, rfl⟩ := h
  have hn : ∀ {v : AVal}, chk v = 0 → isNaN v.num = true → v.num = theNaN := by
    intro v hv hn
    rcases Nat.decEq v.num theNaN with hne | he
    · exfalso
      unfold chk at hv
      split at hv
      · cases hv
      split at hv
      · cases hv
      split at hv
      · cases hv
      split at hv
      · cases hv
      · rename_i h4; exact h4 ⟨hn, hne⟩
    · exact he
  rcases hx with ⟨h1, h2⟩ | rfl
  · have e1 := hn ha h1
    have e2 := hn hb h2
    simp only at e1 e2
    rw [e1, e2]
  · rfl
theorem eqM_eq {m n : AMach} (hm : machB m = true) (hn : machB n = true) (h : eqM m n = true) : m = n := by
  obtain ⟨p, l⟩ := m
  obtain ⟨q, k⟩ := n
  unfold machB at hm hn
  rw [Bool.and_eq_true] at hm hn
  have hp := ((pairsB_iff p).1 hm.1).2.1
  have hq := ((pairsB_iff q).1 hn.1).2.1
  have hl := ((sessB_iff l).1 hm.2).1
  have hk := ((sessB_iff k).1 hn.2).1
  unfold eqM eqPrs at h
  rw [Bool.and_eq_true, eqL_iff, eqL_iff] at h
  have e1 : p = q := by
    refine List.ext_getElem? (fun i => ?_)
    rcases hx : p[i]? with _ | x
    · rw [List.getElem?_eq_none_iff] at hx
      symm
      rw [List.getElem?_eq_none_iff, ← h.1.1]
      exact hx
    · have hi := (List.getElem?_eq_some_iff.1 hx).1
      have hy : q[i]? = some (q[i]'(by rw [← h.1.1]; exact hi)) := List.getElem?_eq_getElem _
      have h2 := h.1.2 i _ _ hx hy
      rw [hy]
      generalize hyy : (q[i]'(by rw [← h.1.1]; exact hi)) = y at *
      have c1 := hp x (List.mem_of_getElem? hx)
      have c2 := hq y (List.mem_of_getElem? hy)
      unfold pairOk at c1 c2
      simp only [Bool.and_eq_true, beq_iff_eq] at c1 c2
      unfold eqPair at h2
      rw [Bool.and_eq_true, eqT_iff] at h2
      have h3 := eqVal_eq c1.2 c2.2 h2.2
      obtain ⟨a, b⟩ := x
      obtain ⟨a', b'⟩ := y
      simp only at h2 h3
      rw [h2.1, h3]
  have e2 : l = k := by
    refine List.ext_getElem? (fun i => ?_)
    rcases hx : l[i]? with _ | x
    · rw [List.getElem?_eq_none_iff] at hx
      symm
      rw [List.getElem?_eq_none_iff, ← h.2.1]
      exact hx
    · have hi := (List.getElem?_eq_some_iff.1 hx).1
      have hy : k[i]? = some (k[i]'(by rw [← h.2.1]; exact hi)) := List.getElem?_eq_getElem _
      have h2 := h.2.2 i _ _ hx hy
      rw [hy]
      generalize hyy : (k[i]'(by rw [← h.2.1]; exact hi)) = y at *
      have c1 := hl x (List.mem_of_getElem? hx)
      have c2 := hk y (List.mem_of_getElem? hy)
      unfold sessOk at c1 c2
      simp only [Bool.and_eq_true, beq_iff_eq] at c1 c2
      unfold eqSess eqReply at h2
      simp only [Bool.and_eq_true, beq_iff_eq] at h2
      have h3 := eqVal_eq c1.2 c2.2 h2.2.2
      obtain ⟨a, b, c, d⟩ := x
      obtain ⟨a', b', c', d'⟩ := y
      simp only at h2 h3
      rw [h2.1.1, h2.1.2, h2.2.1, h3]
  rw [e1, e2]
theorem enc_eqM {m n : AMach} (hm : machB m = true) (hn : machB n = true) (hmo : m.ok) (hno : n.ok) : (encM m == encM n) = eqM m n := by
  rw [Bool.eq_iff_iff, beq_iff_eq]
  constructor
  · intro h
    have := (encM_pre hm hn hmo hno (d := []) (by rw [h, List.append_nil])).1
    rw [this]
    exact eqM_refl _
  · intro h
    rw [eqM_eq hm hn h]
end Go.Proofs.Ytplpegjnmlabkaa
