/-
 Plain laws of machines and calls. No program is walked here. Conditions: as each theorem names them.
 Plain laws of calls that are done once. No program is walked here. Conditions: as each theorem names them.
-/
import Derived.Test.YtbclnghbgoblcaaGreatGSes2
import Derived.Test.YtbclnghbgoblcaaGreatGSes
import Derived.Test.YtbclnghbgoblcaaGreatGSpec
namespace Go.Proofs.YtbclnghbgoblcaaGreat

theorem do_reply {l : List APair} {c : ACmd} (hc : cmdE c = 0) (hl : pairsB l = true) : 0 ≤ (doP l c).2.code ∧ (doP l c).2.code ≤ 16 ∧ chk (doP l c).2.val = 0 := by
 have hg := chk_get hl c.key
 obtain ⟨_, _, _, hv, _, _⟩ := cmd_ok hc
 by_cases h1 : c.kind = 1
 ·
  unfold doP
  rw [if_neg (by simpa using hc), hl, if_neg (by simp), if_pos h1]
  exact ⟨by simp, by simp, hg⟩
 rw [do_eq hc hl h1]
 have hs : 0 ≤ (stepV (getP l c.key) c).1 ∧ (stepV (getP l c.key) c).1 ≤ 16 ∧ chk (stepV (getP l c.key) c).2.2 = 0 := by
  unfold stepV
  split
  ·
   exact ⟨by simp, by simp, hg⟩
  split
  ·
   exact ⟨by simp, by simp, hg⟩
  split
  ·
   split
   ·
    exact ⟨by simp, by simp, hg⟩
   ·
    exact ⟨by simp, by simp, hg⟩
  ·
   rcases hj : joinV (c.kind == 5) (getP l c.key) c.val with ⟨x, e⟩
   have hb : 0 ≤ e ∧ e ≤ 16 := by
    have : (joinV (c.kind == 5) (getP l c.key) c.val).2 = e := by rw [hj]
    unfold joinV at this
    rw [if_neg (by rw [hg]; simp), if_neg (by rw [hv]; simp)] at this
    split at this
    ·
     simp only at this; omega
    ·
     split at this <;> simp only at this <;> omega
   simp only
   split
   ·
    rename_i he
    subst he
    exact ⟨by simp, by simp, (join_ok hv hj).1⟩
   ·
    exact ⟨hb.1, hb.2, chk_zero⟩
 rcases hst : stepV (getP l c.key) c with ⟨e, x, t⟩
 rw [hst] at hs
 simp only
 split
 ·
  exact hs
 ·
  split
  ·
   exact ⟨by simp, by simp, chk_zero⟩
  ·
   exact ⟨by simp, by simp, hs.2.2⟩
theorem lastS_ins {a b : List ASess} {x : ASess} {k : Int} (h : k ≠ x.client) : lastS (a ++ x :: b) k = lastS (a ++ b) k := by
 induction a with
 | nil => rw [List.nil_append, List.nil_append, lastS, if_neg (fun e => h e.symm)]
 | cons s a ih => rw [List.cons_append, List.cons_append, lastS, lastS, ih]
theorem lastS_at {a b : List ASess} {x : ASess} (h : ∀ s ∈ a, s.client < x.client) : lastS (a ++ x :: b) x.client = (x.seq, x.reply) := by
 induction a with
 | nil => rw [List.nil_append, lastS, if_pos rfl]
 | cons s a ih => rw [List.cons_append, lastS, if_neg (by have := h s (by simp); omega), ih (fun t ht => h t (by simp [ht]))]
/-- What setS makes of sessions in order. -/
theorem setS_form {l : List ASess} (h : SrtS l) (x : ASess) : ∃ a b, setS x false l = a ++ x :: b ∧ (∀ s ∈ a, s.client < x.client) ∧ (∀ s ∈ b, x.client < s.client) ∧ (l = a ++ b ∨ ∃ y, y.client = x.client ∧ l = a ++ y :: b) := by
 obtain ⟨a, b, rfl, h1, h2 | ⟨y, b', rfl, hy, h2⟩⟩ := splitS h x.client
 ·
  exact ⟨a, b, setS_new x a b h1 h2, h1, h2, .inl rfl⟩
 ·
  exact ⟨a, b', setS_old x y a b' hy h1 h2, h1, h2, .inr ⟨y, hy, rfl⟩⟩
theorem lastS_set {l : List ASess} (h : SrtS l) (x : ASess) (k : Int) : lastS (setS x false l) k = if k = x.client then (x.seq, x.reply) else lastS l k := by
 obtain ⟨a, b, e, h1, h2, h3⟩ := setS_form h x
 rw [e]
 by_cases hk : k = x.client
 ·
  rw [if_pos hk, hk, lastS_at h1]
 ·
  rw [if_neg hk, lastS_ins hk]
  rcases h3 with rfl | ⟨y, hy, rfl⟩
  ·
   rfl
  ·
   rw [lastS_ins (by rw [hy]; exact hk)]
theorem srt_setS {l : List ASess} (h : SrtS l) (x : ASess) : SrtS (setS x false l) := by
 obtain ⟨a, b, e, h1, h2, h3⟩ := setS_form h x
 have hab : SrtS (a ++ b) := by
  rcases h3 with rfl | ⟨y, hy, rfl⟩
  ·
   exact h
  ·
   exact List.Pairwise.sublist (List.Sublist.append_left (List.sublist_cons_self y b) a) h
 rw [e]
 unfold SrtS at hab ⊢
 rw [List.pairwise_append] at hab ⊢
 refine ⟨hab.1, List.pairwise_cons.2 ⟨h2, hab.2.1⟩, fun s hs t ht => ?_⟩
 rcases List.mem_cons.1 ht with rfl | ht
 ·
  exact h1 s hs
 ·
  exact hab.2.2 s hs t ht
theorem mem_setS {l : List ASess} (h : SrtS l) {x s : ASess} (hs : s ∈ setS x false l) : s = x ∨ s ∈ l := by
 obtain ⟨a, b, e, h1, h2, h3⟩ := setS_form h x
 rw [e] at hs
 rcases List.mem_append.1 hs with hs | hs
 ·
  right; rcases h3 with rfl | ⟨y, hy, rfl⟩ <;> simp [hs]
 ·
  rcases List.mem_cons.1 hs with rfl | hs
  ·
   exact .inl rfl
  ·
   right; rcases h3 with rfl | ⟨y, hy, rfl⟩ <;> simp [hs]
/-- A machine stays right. -/
theorem once_right {m : AMach} (c : ACall) (h : machB m = true) : machB (onceP m c).1 = true := by
 obtain ⟨p, l⟩ := m
 have hp : pairsB p = true := by unfold machB at h; rw [Bool.and_eq_true] at h; exact h.1
 have hl : sessB l = true := by unfold machB at h; rw [Bool.and_eq_true] at h; exact h.2
 obtain ⟨h1, h2⟩ := (sessB_iff l).1 hl
 unfold onceP
 by_cases hc : callE c = 0
 case neg => rw [if_pos hc]; exact h
 rw [if_neg (by simpa using hc), h, if_neg (by simp)]
 by_cases he : c.seq = (lastS l c.client).1
 ·
  rw [if_pos he]; exact h
 rw [if_neg he]
 by_cases hlt : c.seq < (lastS l c.client).1
 ·
  rw [if_pos hlt]; exact h
 rw [if_neg hlt]
 have hn : numB c.client c.seq = true := by
  rcases hn : numB c.client c.seq with _ | _
  ·
   rw [callE_no hn] at hc; cases hc
  ·
   rfl
 rw [callE_yes hn] at hc
 unfold machB
 rw [Bool.and_eq_true]
 refine ⟨do_right c.cmd hp, (sessB_iff _).2 ⟨fun s hs => ?_, srt_setS h2 _⟩⟩
 rcases mem_setS h2 hs with rfl | hs
 ·
  obtain ⟨q1, q2, q3⟩ := do_reply hc hp
  unfold sessOk
  simp only
  rw [hn, decide_eq_true q1, decide_eq_true q2, q3]
  rfl
 ·
  exact h1 s hs
end Go.Proofs.YtbclnghbgoblcaaGreat

namespace Go.Proofs.YtbclnghbgoblcaaGreat

theorem mach_srt {m : AMach} (h : machB m = true) : SrtS m.sess := by
 unfold machB at h
 rw [Bool.and_eq_true] at h
 exact ((sessB_iff _).1 h.2).2
/-- A call leaves the machine as it is, or its client's last number is its own, and the reply is what it tells. -/
theorem once_form {m : AMach} (c : ACall) (h : machB m = true) :
  ((onceP m c).1 = m ∧ (callE c = 0 → c.seq ≤ (lastS m.sess c.client).1 ∧ (c.seq = (lastS m.sess c.client).1 → (onceP m c).2 = (lastS m.sess c.client).2))) ∨
  (callE c = 0 ∧ (lastS m.sess c.client).1 < c.seq ∧ lastS (onceP m c).1.sess c.client = (c.seq, (onceP m c).2) ∧
   onceP m c = (⟨(doP m.pairs c.cmd).1, setS ⟨c.client, c.seq, (doP m.pairs c.cmd).2⟩ false m.sess⟩, (doP m.pairs c.cmd).2)) := by
 have hs := mach_srt h
 unfold onceP
 by_cases hc : callE c = 0
 case neg => rw [if_pos hc]; exact .inl ⟨rfl, fun e => absurd e hc⟩
 rw [if_neg (by simpa using hc), h, if_neg (by simp)]
 by_cases he : c.seq = (lastS m.sess c.client).1
 ·
  rw [if_pos he]; exact .inl ⟨rfl, fun _ => ⟨by omega, fun _ => rfl⟩⟩
 rw [if_neg he]
 by_cases hlt : c.seq < (lastS m.sess c.client).1
 ·
  rw [if_pos hlt]; exact .inl ⟨rfl, fun _ => ⟨by omega, fun e => absurd e he⟩⟩
 rw [if_neg hlt]
 refine .inr ⟨hc, by omega, ?_, rfl⟩
 simp only
 rw [lastS_set hs, if_pos rfl]
/-- A client's last number never falls. -/
theorem once_rises {m : AMach} (c : ACall) (h : machB m = true) :
  ((onceP m c).1 = m) ∨ ((lastS m.sess c.client).1 < c.seq ∧ lastS (onceP m c).1.sess c.client = (c.seq, (onceP m c).2)) := by
 rcases once_form c h with h1 | h1
 ·
  exact .inl h1.1
 ·
  exact .inr ⟨h1.2.1, h1.2.2.1⟩
/-- Another client's number stays. -/
theorem once_other {m : AMach} {c : ACall} {k : Int} (h : machB m = true) (hk : c.client ≠ k) : lastS (onceP m c).1.sess k = lastS m.sess k := by
 rcases once_form c h with h1 | h1
 ·
  rw [h1.1]
 ·
  rw [h1.2.2.2]
  simp only
  rw [lastS_set (mach_srt h), if_neg (fun e => hk e.symm)]
/-- A call that was done is answered as before. -/
theorem once_done {m : AMach} {c : ACall} (h : machB m = true) (hc : callE c = 0) (hl : (lastS (onceP m c).1.sess c.client).1 = c.seq) : lastS (onceP m c).1.sess c.client = (c.seq, (onceP m c).2) := by
 rcases once_form c h with ⟨h1, h2⟩ | h1
 ·
  obtain ⟨h3, h4⟩ := h2 hc
  rw [h1] at hl ⊢
  rw [h4 hl.symm, ← hl]
 ·
  exact h1.2.2.1
theorem once_again {m : AMach} {c : ACall} {r : AReply} (h : machB m = true) (hc : callE c = 0) (hl : lastS m.sess c.client = (c.seq, r)) : onceP m c = (m, r) := by
 unfold onceP
 rw [if_neg (by simpa using hc), h, if_neg (by simp), hl, if_pos rfl]
/-- An elder number is refused. -/
theorem once_elder {m : AMach} {c : ACall} {r : AReply} (h : machB m = true) (hc : callE c = 0) (hl : lastS m.sess c.client = (c.seq, r)) :
  (onceP m ⟨c.client, c.seq - 1, c.cmd⟩).1 = m ∧ (c.seq - 1 < 1 → (onceP m ⟨c.client, c.seq - 1, c.cmd⟩).2.code = 1) ∧ (¬ c.seq - 1 < 1 → (onceP m ⟨c.client, c.seq - 1, c.cmd⟩).2.code = 10) := by
 have hn : numB c.client c.seq = true := by
  rcases hn : numB c.client c.seq with _ | _
  ·
   rw [callE_no hn] at hc; cases hc
  ·
   rfl
 by_cases h1 : c.seq - 1 < 1
 ·
  have hn1 : numB c.client (c.seq - 1) = false := by unfold numB; rw [decide_eq_false (show ¬ 1 ≤ c.seq - 1 by omega)]; simp
  have e : callE ⟨c.client, c.seq - 1, c.cmd⟩ = 1 := callE_no hn1
  unfold onceP
  rw [e, if_pos (by simp)]
  exact ⟨rfl, fun _ => rfl, fun h => absurd h1 h⟩
 ·
  have hn1 : numB c.client (c.seq - 1) = true := by
   unfold numB at hn ⊢
   simp only [Bool.and_eq_true, decide_eq_true_iff] at hn ⊢
   omega
  have e : callE ⟨c.client, c.seq - 1, c.cmd⟩ = 0 := by
   have q : callE ⟨c.client, c.seq - 1, c.cmd⟩ = cmdE c.cmd := callE_yes hn1
   rw [q]
   rw [callE_yes hn] at hc
   exact hc
  unfold onceP
  rw [e, if_neg (by simp), h, if_neg (by simp)]
  simp only
  rw [hl]
  simp only
  rw [if_neg (by omega), if_pos (by omega)]
  exact ⟨rfl, fun h => absurd h h1, fun _ => rfl⟩
/-- Sessions laid in two orders. -/
theorem setS_comm {l : List ASess} (h : SrtS l) {x y : ASess} (hk : x.client ≠ y.client) : setS x false (setS y false l) = setS y false (setS x false l) := by
 have e : ∀ (l m : List ASess), SrtS l → SrtS m → (∀ s, s ∈ l ↔ s ∈ m) → l = m := by
  intro l
  induction l with
  | nil =>
   intro m _ _ hm
   cases m with
   | nil => rfl
   | cons a m => exact absurd ((hm a).2 (by simp)) (by simp)
  | cons a l ih =>
   intro m h1 h2 hm
   cases m with
   | nil => exact absurd ((hm a).1 (by simp)) (by simp)
   | cons b m =>
    obtain ⟨p1, p2⟩ := List.pairwise_cons.1 h1
    obtain ⟨q1, q2⟩ := List.pairwise_cons.1 h2
    have hab : a = b := by
     rcases List.mem_cons.1 ((hm a).1 (by simp)) with e | ha
     ·
      exact e
     ·
      rcases List.mem_cons.1 ((hm b).2 (by simp)) with e | hb
      ·
       exact e.symm
      ·
       have := p1 b hb; have := q1 a ha; omega
    subst hab
    rw [ih m p2 q2 (fun s => ?_)]
    constructor
    ·
     intro hs
     rcases List.mem_cons.1 ((hm s).1 (by simp [hs])) with e | h3
     ·
      have := p1 s hs; rw [e] at this; omega
     ·
      exact h3
    ·
     intro hs
     rcases List.mem_cons.1 ((hm s).2 (by simp [hs])) with e | h3
     ·
      have := q1 s hs; rw [e] at this; omega
     ·
      exact h3
 have hm : ∀ {l : List ASess} (h : SrtS l) (x s : ASess), s ∈ setS x false l ↔ s = x ∨ (s ∈ l ∧ s.client ≠ x.client) := by
  intro l h x s
  obtain ⟨a, b, e, h1, h2, h3⟩ := setS_form h x
  rw [e, List.mem_append, List.mem_cons]
  have ha : s ∈ a → s.client ≠ x.client := fun hs => by have := h1 s hs; omega
  have hb : s ∈ b → s.client ≠ x.client := fun hs => by have := h2 s hs; omega
  rcases h3 with rfl | ⟨y, hy, rfl⟩
  ·
   rw [List.mem_append]
   constructor
   ·
    rintro (hs | rfl | hs)
    ·
     exact .inr ⟨.inl hs, ha hs⟩
    ·
     exact .inl rfl
    ·
     exact .inr ⟨.inr hs, hb hs⟩
   ·
    rintro (rfl | ⟨hs | hs, _⟩)
    ·
     exact .inr (.inl rfl)
    ·
     exact .inl hs
    ·
     exact .inr (.inr hs)
  ·
   rw [List.mem_append, List.mem_cons]
   constructor
   ·
    rintro (hs | rfl | hs)
    ·
     exact .inr ⟨.inl hs, ha hs⟩
    ·
     exact .inl rfl
    ·
     exact .inr ⟨.inr (.inr hs), hb hs⟩
   ·
    rintro (rfl | ⟨hs | rfl | hs, hn⟩)
    ·
     exact .inr (.inl rfl)
    ·
     exact .inl hs
    ·
     exact absurd hy hn
    ·
     exact .inr (.inr hs)
 refine e _ _ (srt_setS (srt_setS h y) x) (srt_setS (srt_setS h x) y) (fun s => ?_)
 rw [hm (srt_setS h y), hm h, hm (srt_setS h x), hm h]
 constructor
 ·
  rintro (rfl | ⟨rfl | ⟨h1, h2⟩, h3⟩)
  ·
   exact .inr ⟨.inl rfl, hk⟩
  ·
   exact .inl rfl
  ·
   exact .inr ⟨.inr ⟨h1, h3⟩, h2⟩
 ·
  rintro (rfl | ⟨rfl | ⟨h1, h2⟩, h3⟩)
  ·
   exact .inr ⟨.inl rfl, fun e => hk e.symm⟩
  ·
   exact .inl rfl
  ·
   exact .inr ⟨.inr ⟨h1, h3⟩, h2⟩
end Go.Proofs.YtbclnghbgoblcaaGreat
