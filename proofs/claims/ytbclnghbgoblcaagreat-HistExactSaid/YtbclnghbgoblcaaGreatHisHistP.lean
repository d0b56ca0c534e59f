/-
 Plain functions: what the page's History computes; it answers as hist.Check does. No program is walked here. Conditions: as each theorem names them.
-/
import Derived.Test.YtbclnghbgoblcaaGreatHisWake
namespace Go.Proofs.YtbclnghbgoblcaaGreat
set_option linter.unusedSimpArgs false

/-- One event, as the page goes. -/
def stepR (s : List ACall × List Bool) (x : AEvent) : Option (List ACall × List Bool) :=
 if callE x.told.call ≠ 0 then none
 else if s.2.getD x.told.call.client.toNat false = x.ask then none
 else if x.ask = true then (if x.told.call.seq ≠ (s.1.getD x.told.call.client.toNat ACall.zero).seq + 1 then none else some (s.1.set x.told.call.client.toNat x.told.call, s.2.set x.told.call.client.toNat true))
 else if eqCall x.told.call (s.1.getD x.told.call.client.toNat ACall.zero) = false ∨ x.told.index < 0 then none else some (s.1, s.2.set x.told.call.client.toNat false)
def runR : List ACall × List Bool → List AEvent → Option (List ACall × List Bool)
 | s, [] => some s
 | s, x :: l => match stepR s x with
  | none => none
  | some s' => runR s' l
def histR (h : List AEvent) : Bool := (runR hist0 h).isSome
theorem sameF_tr2 {a b c : Nat} (h : sameF a b = true) (h' : sameF a c = true) : sameF b c = true := by
 unfold sameF at *
 simp only [Bool.or_eq_true, Bool.and_eq_true, beq_iff_eq] at *
 rcases h with ⟨h1, h2⟩ | rfl
 ·
  rcases h' with ⟨h3, h4⟩ | rfl
  ·
   exact .inl ⟨h2, h4⟩
  ·
   exact .inl ⟨h2, h1⟩
 ·
  exact h'
theorem eqVal_tr2 {a b c : AVal} (h : eqVal a b = true) (h' : eqVal a c = true) : eqVal b c = true := by
 unfold eqVal at *
 simp only [Bool.and_eq_true, beq_iff_eq, eqT_iff] at *
 exact ⟨⟨h.1.1.symm.trans h'.1.1, sameF_tr2 h.1.2 h'.1.2⟩, h.2.symm.trans h'.2⟩
theorem eqCmd_tr2 {a b c : ACmd} (h : eqCmd a b = true) (h' : eqCmd a c = true) : eqCmd b c = true := by
 unfold eqCmd at *
 simp only [Bool.and_eq_true, beq_iff_eq, eqT_iff] at *
 exact ⟨⟨⟨h.1.1.1.symm.trans h'.1.1.1, h.1.1.2.symm.trans h'.1.1.2⟩, eqVal_tr2 h.1.2 h'.1.2⟩, eqVal_tr2 h.2 h'.2⟩
theorem eqCmd_sy {a b : ACmd} (h : eqCmd a b = true) : eqCmd b a = true := eqCmd_tr2 h (eqCmd_refl' a)
theorem eqCmd_cg {a b : ACmd} (h : eqCmd a b = true) (c : ACmd) : eqCmd c a = eqCmd c b := by
 rw [Bool.eq_iff_iff]
 exact ⟨fun e => eqCmd_tr2 (eqCmd_sy e) h, fun e => eqCmd_tr2 (eqCmd_sy e) (eqCmd_sy h)⟩
theorem getD_setH {α : Type} {l : List α} {k : Nat} {x d : α} (h : k < l.length) (j : Nat) : (l.set k x).getD j d = if j = k then x else l.getD j d := by
 rw [List.getD_eq_getElem?_getD, List.getElem?_set]
 by_cases e : k = j
 ·
  subst e
  rw [if_pos rfl, if_pos rfl, if_pos h]
  rfl
 ·
  rw [if_neg e, if_neg (fun h => e h.symm), List.getD_eq_getElem?_getD]
def Sim (P S : List ACall × List Bool) : Prop := P.2 = S.2 ∧ P.1.length = 5 ∧ S.1.length = 5 ∧ P.2.length = 5 ∧
 ∀ k, k < 5 → (P.1.getD k ACall.zero).seq = (S.1.getD k ACall.zero).seq ∧ eqCmd (P.1.getD k ACall.zero).cmd (S.1.getD k ACall.zero).cmd = true ∧ (P.2.getD k false = true → (P.1.getD k ACall.zero).client = (k : Int))
theorem sim_step {P S : List ACall × List Bool} (h : Sim P S) (x : AEvent) : (stepR P x = none ∧ stepH S x = none) ∨ ∃ P' S', stepR P x = some P' ∧ stepH S x = some S' ∧ Sim P' S' := by
 obtain ⟨h1, h2, h3, h4, h5⟩ := h
 by_cases hc : callE x.told.call = 0
 case neg =>
  refine .inl ⟨?_, ?_⟩
  ·
   unfold stepR; rw [if_pos hc]
  ·
   unfold stepH; rw [if_pos hc]
 have hn := (call_nums hc).2.2
 obtain ⟨k, hk⟩ : ∃ k, x.told.call.client.toNat = k := ⟨_, rfl⟩
 have hk5 : k < 5 := by omega
 obtain ⟨e1, e2, e3⟩ := h5 k hk5
 have hc' : ¬ (callE x.told.call ≠ 0) := by simpa using hc
 unfold stepR stepH
 rw [if_neg hc', if_neg hc', hk, ← h1]
 by_cases hw : P.2.getD k false = x.ask
 ·
  exact .inl ⟨by rw [if_pos hw], by rw [if_pos hw.symm]⟩
 have hw2 : ¬ (x.ask = P.2.getD k false) := fun e => hw e.symm
 rw [if_neg hw, if_neg hw2, ← e1]
 rcases ha : x.ask with _ | _
 ·
  have hwt : P.2.getD k false = true := by
   rw [ha] at hw
   simpa using hw
  have hcl : (x.told.call.client == (P.1.getD k ACall.zero).client) = true := by
   rw [e3 hwt]
   simp
   omega
  have hq : eqCall x.told.call (P.1.getD k ACall.zero) = ((x.told.call.seq == (P.1.getD k ACall.zero).seq) && eqCmd x.told.call.cmd (S.1.getD k ACall.zero).cmd) := by
   unfold eqCall
   rw [hcl, eqCmd_cg e2, Bool.true_and]
  rw [if_neg (show ¬ (false = true) by simp), if_neg (show ¬ (false = true ∧ x.told.call.seq ≠ (P.1.getD k ACall.zero).seq + 1) by simp), hq]
  by_cases hs : x.told.call.seq = (P.1.getD k ACall.zero).seq
  case neg =>
   refine .inl ⟨?_, ?_⟩
   ·
    rw [if_pos (.inl (by rw [show (x.told.call.seq == (P.1.getD k ACall.zero).seq) = false by simpa using hs]; rfl))]
   ·
    rw [if_pos ⟨rfl, .inl hs⟩]
  rw [show (x.told.call.seq == (P.1.getD k ACall.zero).seq) = true by simpa using hs, Bool.true_and]
  rcases hm : eqCmd x.told.call.cmd (S.1.getD k ACall.zero).cmd with _ | _
  ·
   exact .inl ⟨by rw [if_pos (.inl rfl)], by rw [if_pos ⟨rfl, .inr (.inl rfl)⟩]⟩
  by_cases hi : x.told.index < 0
  ·
   exact .inl ⟨by rw [if_pos (.inr hi)], by rw [if_pos ⟨rfl, .inr (.inr hi)⟩]⟩
  refine .inr ⟨(P.1, P.2.set k false), (S.1.set k x.told.call, P.2.set k false), by rw [if_neg (by rintro (e | e); { cases e }; { exact hi e })], by rw [if_neg (by rintro ⟨_, e | e | e⟩; { exact e hs }; { cases e }; { exact hi e })], rfl, h2, by rw [List.length_set]; exact h3, by rw [List.length_set]; exact h4, fun j hj => ?_⟩
  simp only
  rw [getD_setH (by omega), getD_setH (by omega)]
  by_cases hjk : j = k
  ·
   subst hjk
   rw [if_pos rfl, if_pos rfl]
   exact ⟨hs.symm, by rw [← eqCmd_cg e2] at hm; exact eqCmd_sy hm, by simp⟩
  ·
   rw [if_neg hjk, if_neg hjk]
   exact h5 j hj
 ·
  rw [if_pos rfl]
  by_cases hs : x.told.call.seq = (P.1.getD k ACall.zero).seq + 1
  case neg =>
   exact .inl ⟨by rw [if_pos hs], by rw [if_pos ⟨rfl, hs⟩]⟩
  refine .inr ⟨(P.1.set k x.told.call, P.2.set k true), (S.1.set k x.told.call, P.2.set k true), by rw [if_neg (by simpa using hs)], by rw [if_neg (fun e => e.2 hs), if_neg (by simp)], rfl, by rw [List.length_set]; exact h2, by rw [List.length_set]; exact h3, by rw [List.length_set]; exact h4, fun j hj => ?_⟩
  simp only
  rw [getD_setH (by omega), getD_setH (by omega), getD_setH (by omega)]
  by_cases hjk : j = k
  ·
   subst hjk
   rw [if_pos rfl, if_pos rfl, if_pos rfl]
   exact ⟨rfl, eqCmd_refl' _, fun _ => by omega⟩
  ·
   rw [if_neg hjk, if_neg hjk, if_neg hjk]
   exact h5 j hj
theorem sim_run : ∀ (l : List AEvent) (P S : List ACall × List Bool), Sim P S → (runR P l).isSome = (runH S l).isSome := by
 intro l
 induction l with
 | nil => intro P S _; rfl
 | cons x l ih =>
  intro P S h
  rw [runR, runH]
  rcases sim_step h x with ⟨a, b⟩ | ⟨P', S', a, b, c⟩
  ·
   rw [a, b]
  ·
   rw [a, b]
   exact ih P' S' c
theorem sim_zero : Sim hist0 hist0 := by
 refine ⟨rfl, rfl, rfl, rfl, fun k hk => ⟨rfl, eqCmd_refl' _, fun e => ?_⟩⟩
 have : k = 0 ∨ k = 1 ∨ k = 2 ∨ k = 3 ∨ k = 4 := by omega
 rcases this with rfl | rfl | rfl | rfl | rfl <;> cases e
theorem histR_eq (h : List AEvent) : histR h = histB h := sim_run h hist0 hist0 sim_zero
theorem runR_drop {s : List ACall × List Bool} {l : List AEvent} {x : AEvent} {r : List AEvent} (h : l = x :: r) : runR s l = match stepR s x with
  | none => none
  | some s' => runR s' r := by rw [h]; rfl
end Go.Proofs.YtbclnghbgoblcaaGreat
