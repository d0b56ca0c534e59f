/-
 Plain laws for HistAlone: what a store alone tells, call by call. No program is walked here. Conditions: as each theorem names them.
-/
import Derived.Test.YtbclnghbgoblcaaHisEv
namespace Go.Proofs.Ytbclnghbgoblcaa
set_option linter.unusedSimpArgs false

/-- A client's number: what the array has. -/
def numC (s : List Int) (k : Int) : Int := s.getD k.toNat 0
def Aln (i : Nat) (s : List Int) (m : AMach) (l : List AEntry) (L : List ATold) : Prop :=
 (s.length = 5 ∧ ∀ v ∈ s, 0 ≤ v ∧ v ≤ (i : Int)) ∧ machB m = true ∧ atP l l.length = m ∧ (∀ k : Int, 1 ≤ k → k ≤ 4 → (lastS m.sess k).1 ≤ numC s k) ∧
 (∀ x ∈ l, x.call.seq ≤ numC s x.call.client) ∧ (∀ t ∈ L, toldP l t = true ∧ pointP l t ≤ l.length) ∧ L.Pairwise (fun a b => okB l (pointP l a) b = true) ∧
 ∃ last, runH hist0 (tkn L) = some (last, List.replicate 5 false) ∧ last.length = 5 ∧ ∀ j, j < 5 → (last.getD j ACall.zero).seq = s.getD j 0
theorem aln_zero : Aln 0 [0, 0, 0, 0, 0] mach0 [] [] := by
 refine ⟨⟨rfl, fun v hv => ?_⟩, mach0_right, rfl, fun k h1 h2 => ?_, fun x hx => ?_, fun t ht => ?_, List.Pairwise.nil, hist0.1, rfl, rfl, fun j hj => ?_⟩
 ·
  simp at hv; subst hv; simp
 ·
  have : k = 1 ∨ k = 2 ∨ k = 3 ∨ k = 4 := by omega
  rcases this with rfl | rfl | rfl | rfl <;> exact Int.le_refl 0
 ·
  cases hx
 ·
  cases ht
 ·
  have : j = 0 ∨ j = 1 ∨ j = 2 ∨ j = 3 ∨ j = 4 := by omega
  rcases this with rfl | rfl | rfl | rfl | rfl <;> rfl
theorem aln_more {i : Nat} {s : List Int} {m : AMach} {l : List AEntry} {L : List ATold} (h : Aln i s m l L) : Aln (i + 1) s m l L := by
 obtain ⟨⟨h1, h2⟩, h3⟩ := h
 exact ⟨⟨h1, fun v hv => by have := h2 v hv; omega⟩, h3⟩
theorem runH_app (b : List AEvent) : ∀ (a : List AEvent) (s : List ACall × List Bool), runH s (a ++ b) = (runH s a).bind fun s' => runH s' b := by
 intro a
 induction a with
 | nil => intro s; rfl
 | cons x a ih =>
  intro s
  rw [List.cons_append, runH, runH]
  cases stepH s x with
  | none => rfl
  | some s' => exact ih s'
theorem wait_set : ∀ k, k < 5 → ((List.replicate 5 false).set k true).set k false = List.replicate 5 false := by decide
theorem wait_get : ∀ k, k < 5 → ((List.replicate 5 false).set k true).getD k false = true := by decide
theorem getD_set {α : Type} {l : List α} {k : Nat} {x d : α} (h : k < l.length) (j : Nat) : (l.set k x).getD j d = if j = k then x else l.getD j d := by
 rw [List.getD_eq_getElem?_getD, List.getElem?_set]
 by_cases e : k = j
 ·
  subst e
  rw [if_pos rfl, if_pos rfl, if_pos h]
  rfl
 ·
  rw [if_neg e, if_neg (fun h => e h.symm), List.getD_eq_getElem?_getD]
/-- The history goes on by one call that is told. -/
theorem aln_hist {s : List Int} {L : List ATold} {c : ACall} {r : AReply} {n : Int} {last : List ACall} (hs : s.length = 5) (h1 : runH hist0 (tkn L) = some (last, List.replicate 5 false)) (h2 : last.length = 5) (h3 : ∀ j, j < 5 → (last.getD j ACall.zero).seq = s.getD j 0)
  (hc : callE c = 0) (hq : c.seq = numC s c.client + 1) (hn : 0 ≤ n) :
  ∃ last', runH hist0 (tkn (L ++ [⟨c, r, n⟩])) = some (last', List.replicate 5 false) ∧ last'.length = 5 ∧ ∀ j, j < 5 → (last'.getD j ACall.zero).seq = (s.set c.client.toNat (numC s c.client + 1)).getD j 0 := by
 have hk := call_nums hc
 have hk5 : c.client.toNat < 5 := by omega
 have e1 : stepH (last, List.replicate 5 false) (evA c) = some (last.set c.client.toNat c, (List.replicate 5 false).set c.client.toNat true) := by
  unfold stepH
  rw [if_neg (by rw [show (evA c).told.call = c from rfl, hc]; simp), if_neg ?_, if_neg ?_, if_neg (by simp [evA])]
  ·
   rfl
  ·
   rintro ⟨_, h⟩
   apply h
   show c.seq = (last.getD c.client.toNat ACall.zero).seq + 1
   rw [h3 _ hk5]
   exact hq
  ·
   have : (List.replicate 5 false).getD c.client.toNat false = false := by
    rw [List.getD_eq_getElem?_getD, List.getElem?_replicate, if_pos hk5]; rfl
   simp only [show (evA c).told.call = c from rfl, this]
   simp [evA]
 have e2 : stepH (last.set c.client.toNat c, (List.replicate 5 false).set c.client.toNat true) (evT ⟨c, r, n⟩) = some ((last.set c.client.toNat c).set c.client.toNat c, ((List.replicate 5 false).set c.client.toNat true).set c.client.toNat false) := by
  have hg : (last.set c.client.toNat c).getD c.client.toNat ACall.zero = c := by rw [getD_set (by omega), if_pos rfl]
  unfold stepH
  rw [if_neg (by rw [show (evT ⟨c, r, n⟩).told.call = c from rfl, hc]; simp), if_neg ?_, if_neg (by simp [evT]), if_neg ?_]
  ·
   rfl
  ·
   rintro ⟨_, h | h | h⟩
   ·
    apply h
    show c.seq = ((last.set c.client.toNat c).getD c.client.toNat ACall.zero).seq
    rw [hg]
   ·
    have : eqCmd c.cmd ((last.set c.client.toNat c).getD c.client.toNat ACall.zero).cmd = false := h
    rw [hg, eqCmd_refl'] at this
    cases this
   ·
    have : n < 0 := h
    omega
  ·
   simp only [show (evT ⟨c, r, n⟩).told.call = c from rfl, wait_get _ hk5]
   simp [evT]
 refine ⟨last.set c.client.toNat c, ?_, by rw [List.length_set]; exact h2, fun j hj => ?_⟩
 ·
  rw [tkn_snoc, runH_app, h1]
  simp only [Option.bind_some]
  rw [runH, e1]
  simp only
  rw [runH, e2]
  simp only
  rw [runH, List.set_set, wait_set _ hk5]
 ·
  rw [getD_set (by omega), getD_set (by omega)]
  split
  ·
   exact hq
  ·
   exact h3 j hj
theorem num_set {s : List Int} {c : ACall} (hs : s.length = 5) (hk : 1 ≤ c.client ∧ c.client ≤ 4) {v : Int} {k : Int} (_hk2 : 0 ≤ k) : numC (s.set c.client.toNat v) k = if k = c.client then v else numC s k := by
 unfold numC
 rw [getD_set (by omega)]
 by_cases e : k = c.client
 ·
  rw [if_pos e, if_pos (by rw [e])]
 ·
  rw [if_neg e, if_neg (by omega)]
theorem num_nn {i : Nat} {s : List Int} (hs : s.length = 5 ∧ ∀ v ∈ s, 0 ≤ v ∧ v ≤ (i : Int)) (k : Int) : 0 ≤ numC s k ∧ numC s k ≤ (i : Int) := by
 unfold numC
 rw [List.getD_eq_getElem?_getD]
 rcases h : s[k.toNat]? with _ | v
 ·
  simp
 ·
  exact hs.2 v (List.mem_of_getElem? h)
theorem s_set {i : Nat} {s : List Int} (hs : s.length = 5 ∧ ∀ v ∈ s, 0 ≤ v ∧ v ≤ (i : Int)) (k : Int) (j : Nat) : (s.set j (numC s k + 1)).length = 5 ∧ ∀ v ∈ s.set j (numC s k + 1), 0 ≤ v ∧ v ≤ ((i + 1 : Nat) : Int) := by
 refine ⟨by rw [List.length_set]; exact hs.1, fun v hv => ?_⟩
 rcases List.mem_or_eq_of_mem_set hv with h | h
 ·
  have := hs.2 v h; omega
 ·
  have := num_nn hs k; omega
/-- A read. -/
theorem aln_get {i : Nat} {s : List Int} {m : AMach} {l : List AEntry} {L : List ATold} {c : ACall} (h : Aln i s m l L) (hc : callE c = 0) (hq : c.seq = numC s c.client + 1) (hk : c.cmd.kind = 1) :
  Aln (i + 1) (s.set c.client.toNat (numC s c.client + 1)) m l (L ++ [⟨c, (doP m.pairs c.cmd).2, l.length⟩]) := by
 obtain ⟨hs, h2, h3, h4, h5, h6, h7, last, h8, h9, h10⟩ := h
 have hkc := (call_nums hc).2.2
 have hp : pointP l ⟨c, (doP m.pairs c.cmd).2, l.length⟩ = l.length := by unfold pointP; rw [if_pos hk]
 refine ⟨s_set hs _ _, h2, h3, fun k k1 k2 => ?_, fun x hx => ?_, fun t ht => ?_, ?_, aln_hist hs.1 h8 h9 h10 hc hq (by omega)⟩
 ·
  rw [num_set hs.1 ⟨hkc.1, hkc.2.1⟩ (by omega)]
  have := h4 k k1 k2
  split
  ·
   rename_i e; rw [e] at this ⊢; omega
  ·
   exact this
 ·
  have := h5 x hx
  by_cases h0 : 0 ≤ x.call.client
  ·
   rw [num_set hs.1 ⟨hkc.1, hkc.2.1⟩ h0]
   split
   ·
    rename_i e; rw [e] at this; omega
   ·
    exact this
  ·
   have e : numC (s.set c.client.toNat (numC s c.client + 1)) x.call.client = numC s x.call.client := by
    unfold numC
    rw [getD_set (by have := hs.1; omega), if_neg (by omega)]
   rw [e]; exact this
 ·
  rcases List.mem_append.1 ht with ht | ht
  ·
   exact h6 t ht
  ·
   rw [List.mem_singleton] at ht
   subst ht
   refine ⟨?_, by rw [hp]; exact Int.le_refl _⟩
   unfold toldP
   rw [if_pos hk, h3]
   simp [eqReply, eqVal_refl]
 ·
  rw [List.pairwise_append]
  refine ⟨h7, List.pairwise_singleton _ _, fun a ha b hb => ?_⟩
  rw [List.mem_singleton] at hb
  subst hb
  have := (h6 a ha).2
  unfold okB
  rw [hp]
  simp only [Bool.not_eq_true', Bool.or_eq_false_iff, decide_eq_false_iff_not, Bool.and_eq_false_iff]
  refine ⟨by omega, .inr ?_⟩
  simp [hk]
/-- A call that is logged. -/
theorem aln_call {i : Nat} {s : List Int} {m : AMach} {l : List AEntry} {L : List ATold} {c : ACall} (h : Aln i s m l L) (hc : callE c = 0) (hq : c.seq = numC s c.client + 1) (hk : c.cmd.kind ≠ 1) :
  Aln (i + 1) (s.set c.client.toNat (numC s c.client + 1)) (onceP m c).1 (l ++ [entC c]) (L ++ [⟨c, (onceP m c).2, (l.length : Int) + 1⟩]) := by
 obtain ⟨hs, h2, h3, h4, h5, h6, h7, last, h8, h9, h10⟩ := h
 have hkc := (call_nums hc).2.2
 have hlast := h4 c.client hkc.1 hkc.2.1
 have ho : onceP m c = (⟨(doP m.pairs c.cmd).1, setS ⟨c.client, c.seq, (doP m.pairs c.cmd).2⟩ false m.sess⟩, (doP m.pairs c.cmd).2) := by
  unfold onceP
  rw [if_neg (by simpa using hc), h2, if_neg (by simp), if_neg (by omega), if_neg (by omega)]
 have hls : ∀ k, lastS (onceP m c).1.sess k = if k = c.client then (c.seq, (onceP m c).2) else lastS m.sess k := by
  intro k
  rw [ho]
  exact lastS_set (mach_srt h2) ⟨c.client, c.seq, (doP m.pairs c.cmd).2⟩ k
 have hpl : placeH (l ++ [entC c]) c = l.length + 1 := by
  unfold placeH
  have := place_at (c := c) (x := entC c) (r := []) (by simp [isCall, entC]) l 0 (fun y hy => by
   unfold isCall
   by_cases e : y.call.client = c.client
   ·
    have := h5 y hy
    rw [e] at this
    have e2 : (y.call.seq == c.seq) = false := by simp; omega
    rw [e2]
    simp
   ·
    have e2 : (y.call.client == c.client) = false := by simpa using e
    rw [e2]
    simp)
  simpa using this
 have hat : atP (l ++ [entC c]) ((l.length : Int) + 1) = (onceP m c).1 := by
  have h3' := h3
  unfold atP at h3' ⊢
  rw [List.take_of_length_le (by simp)] at h3'
  rw [List.take_of_length_le (by simp)]
  rw [List.foldl_append, h3']
  simp only [List.foldl_cons, List.foldl_nil]
  unfold playE
  rw [if_pos (show (entC c).kind = 1 from rfl)]
  rfl
 have hp : pointP (l ++ [entC c]) ⟨c, (onceP m c).2, (l.length : Int) + 1⟩ = (l.length : Int) + 1 := by
  unfold pointP
  rw [if_neg hk]
  show ((placeH (l ++ [entC c]) c : Nat) : Int) = _
  rw [hpl]
  omega
 refine ⟨s_set hs _ _, once_right c h2, ?_, fun k k1 k2 => ?_, fun x hx => ?_, fun t ht => ?_, ?_, aln_hist hs.1 h8 h9 h10 hc hq (by omega)⟩
 ·
  rw [← hat]
  congr 1
  simp
 ·
  rw [hls, num_set hs.1 ⟨hkc.1, hkc.2.1⟩ (by omega)]
  split
  ·
   rw [hq]; exact Int.le_refl _
  ·
   exact h4 k k1 k2
 ·
  rcases List.mem_append.1 hx with hx | hx
  ·
   have := h5 x hx
   by_cases h0 : 0 ≤ x.call.client
   ·
    rw [num_set hs.1 ⟨hkc.1, hkc.2.1⟩ h0]
    split
    ·
     rename_i e; rw [e] at this; omega
    ·
     exact this
   ·
    have e : numC (s.set c.client.toNat (numC s c.client + 1)) x.call.client = numC s x.call.client := by
     unfold numC
     rw [getD_set (by have := hs.1; omega), if_neg (by omega)]
    rw [e]; exact this
  ·
   rw [List.mem_singleton] at hx
   subst hx
   show c.seq ≤ _
   rw [show (entC c).call.client = c.client from rfl, num_set hs.1 ⟨hkc.1, hkc.2.1⟩ (by omega), if_pos rfl, hq]
   exact Int.le_refl _
 ·
  rcases List.mem_append.1 ht with ht | ht
  ·
   obtain ⟨t1, t2⟩ := h6 t ht
   refine ⟨toldP_more t1, ?_⟩
   rw [pointP_more t1, List.length_append]
   simp
   omega
  ·
   rw [List.mem_singleton] at ht
   subst ht
   refine ⟨?_, by rw [hp, List.length_append]; simp⟩
   unfold toldP
   rw [if_neg hk]
   simp only
   rw [hpl, Nat.add_sub_cancel, List.getElem?_append_right (Nat.le_refl _), Nat.sub_self]
   simp only [List.getElem?_cons_zero]
   rw [show (entC c).call.cmd = c.cmd from rfl, eqCmd_refl', show (((l.length + 1 : Nat)) : Int) = (l.length : Int) + 1 by omega, hat, hls, if_pos rfl]
   simp [eqReply, eqVal_refl]
 ·
  rw [List.pairwise_append]
  refine ⟨?_, List.pairwise_singleton _ _, fun a ha b hb => ?_⟩
  ·
   refine List.Pairwise.imp_of_mem ?_ h7
   intro a b ha hb hab
   unfold okB at hab ⊢
   rw [pointP_more (h6 a ha).1, pointP_more (h6 b hb).1]
   exact hab
  ·
   rw [List.mem_singleton] at hb
   subst hb
   have := h6 a ha
   unfold okB
   rw [hp, pointP_more this.1]
   simp only [Bool.not_eq_true', Bool.or_eq_false_iff, decide_eq_false_iff_not, Bool.and_eq_false_iff]
   refine ⟨by omega, .inl ?_⟩
   simp
   omega
theorem aln_check {i : Nat} {s : List Int} {m : AMach} {l : List AEntry} {L : List ATold} (h : Aln i s m l L) : checkE (tkn L) = 0 := by
 obtain ⟨_, _, _, _, _, _, _, last, h8, _⟩ := h
 unfold checkE histB
 rw [h8]
 rfl
theorem aln_order {i : Nat} {s : List Int} {m : AMach} {l : List AEntry} {L : List ATold} (h : Aln i s m l L) : orderB l (tkn L) = true := by
 obtain ⟨_, _, _, _, _, h6, h7, _⟩ := h
 rw [show tkn L = tkn L ++ [] by simp]
 exact order_tkn (fun t ht => (h6 t ht).1) h7 (fun _ _ => rfl) rfl
theorem sameF_tr {a b c : Nat} (h : sameF a b = true) (h' : sameF a c = true) : sameF b c = true := by
 unfold sameF at *
 simp only [Bool.or_eq_true, Bool.and_eq_true, beq_iff_eq] at *
 rcases h with ⟨h1, h2⟩ | rfl
 ·
  rcases h' with ⟨h3, h4⟩ | rfl
  ·
   exact .inl ⟨h2, h4⟩
  ·
   exact .inl ⟨h2, h1⟩
 ·
  exact h'
theorem eqReply_tr {a b c : AReply} (h : eqReply a b = true) (h' : eqReply a c = true) : eqReply b c = true := by
 unfold eqReply eqVal at *
 simp only [Bool.and_eq_true, beq_iff_eq, eqT_iff] at *
 refine ⟨h.1.symm.trans h'.1, ⟨h.2.1.1.symm.trans h'.2.1.1, sameF_tr h.2.1.2 h'.2.1.2⟩, h.2.2.symm.trans h'.2.2⟩
theorem told_other {l : List AEntry} {c : ACall} {r o : AReply} {n : Int} (h : toldP l ⟨c, r, n⟩ = true) (hr : eqReply r o = false) : toldP l ⟨c, o, n⟩ = false := by
 rcases e : toldP l ⟨c, o, n⟩ with _ | _
 ·
  rfl
 exfalso
 unfold toldP at h e
 simp only at h e
 split at h
 ·
  rename_i hk
  rw [if_pos hk] at e
  rw [Bool.and_eq_true] at h e
  rw [eqReply_tr h.2 e.2] at hr
  cases hr
 ·
  rename_i hk
  rw [if_neg hk] at e
  split at h
  ·
   cases h
  ·
   rename_i y hy
   rw [hy] at e
   simp only [Bool.and_eq_true] at h e
   rw [eqReply_tr h.2.2 e.2.2] at hr
   cases hr
theorem aln_bad {i j : Nat} {s : List Int} {m : AMach} {l : List AEntry} {L : List ATold} {t : ATold} {o : AReply} (h : Aln i s m l L) (ht : L[j]? = some t) (ho : eqReply t.reply o = false) : orderB l ((tkn L).set (2 * j + 1) (evT ⟨t.call, o, t.index⟩)) = false := by
 obtain ⟨_, _, _, _, _, h6, _⟩ := h
 have hj : j < L.length := (List.getElem?_eq_some_iff.1 ht).1
 have hm : evT ⟨t.call, o, t.index⟩ ∈ (tkn L).set (2 * j + 1) (evT ⟨t.call, o, t.index⟩) := List.mem_set (by rw [tkn_len]; omega) _
 exact order_bad hm rfl (told_other (h6 t (List.mem_of_getElem? ht)).1 ho)
theorem tkn_get {L : List ATold} : ∀ {j : Nat} {t : ATold}, L[j]? = some t → (tkn L)[2 * j + 1]? = some (evT t) := by
 induction L with
 | nil => intro j t h; cases h
 | cons x L ih =>
  intro j t h
  rw [tkn_cons]
  cases j with
  | zero =>
   rw [List.getElem?_cons_zero] at h
   injection h with h
   subst h
   rfl
  | succ j =>
   rw [List.getElem?_cons_succ] at h
   have := ih h
   rw [show 2 * (j + 1) + 1 = (2 * j + 1) + 1 + 1 by omega, List.getElem?_cons_succ, List.getElem?_cons_succ]
   exact this
end Go.Proofs.Ytbclnghbgoblcaa
