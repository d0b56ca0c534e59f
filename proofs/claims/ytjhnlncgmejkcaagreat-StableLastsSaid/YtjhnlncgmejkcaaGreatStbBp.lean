/-
 Plain: how far two logs are the same, field by field (the law StableLasts). No program is walked here. Conditions: as each theorem names them.
-/
import Derived.Test.YtjhnlncgmejkcaaGreatStbLp
namespace Go.Proofs.YtjhnlncgmejkcaaGreat
set_option linter.unusedSimpArgs false

theorem sameF_canon {a b : Nat} (h : sameF a b = true) (ha : canon a = a) (hb : canon b = b) : a = b := by
 unfold sameF at h
 simp only [Bool.or_eq_true, Bool.and_eq_true, beq_iff_eq] at h
 rcases h with ⟨h1, h2⟩ | h
 ·
  unfold canon at ha hb
  rw [if_pos h1] at ha
  rw [if_pos h2] at hb
  omega
 ·
  exact h
theorem eqVal_eq {a b : AVal} (h : eqVal a b = true) (ha : valB a = true) (hb : valB b = true) : a = b := by
 unfold eqVal at h
 simp only [Bool.and_eq_true, beq_iff_eq] at h
 obtain ⟨⟨h1, h2⟩, h3⟩ := h
 have h3 := (eqT_iff _ _).1 h3
 rcases valB_form ha with rfl | ⟨x, rfl, hx⟩ | ⟨t, rfl⟩ <;> rcases valB_form hb with rfl | ⟨x', rfl, hx'⟩ | ⟨t', rfl⟩ <;> simp only at h1 h2 h3
 ·
  rfl
 ·
  cases h1
 ·
  cases h1
 ·
  cases h1
 ·
  rw [sameF_canon h2 hx hx']
 ·
  cases h1
 ·
  cases h1
 ·
  cases h1
 ·
  rw [h3]
theorem eqConf_eq {a b : AConf} (h : eqConf a b = true) : a = b := by
 obtain ⟨a1, a2, a3, a4⟩ := a
 obtain ⟨b1, b2, b3, b4⟩ := b
 unfold eqConf at h
 simp only [Bool.and_eq_true, beq_iff_eq] at h
 obtain ⟨⟨⟨rfl, rfl⟩, rfl⟩, rfl⟩ := h
 rfl
theorem eqE_eq {a b : AEntry} (ha : rightE a = true) (hb : rightE b = true) (h : eqEntry a b = true) : a = b := by
 obtain ⟨t, k, c, f⟩ := a
 obtain ⟨t', k', c', f'⟩ := b
 unfold eqEntry at h
 simp only [Bool.and_eq_true, beq_iff_eq] at h
 obtain ⟨⟨⟨rfl, rfl⟩, h3⟩, h4⟩ := h
 have h4 := eqConf_eq h4
 subst h4
 suffices hc : c = c' by rw [hc]
 unfold rightE at ha hb
 simp only at ha hb
 by_cases k0 : k = 0
 ·
  rw [if_pos k0, Bool.and_eq_true] at ha hb
  rw [noCall_zero ha.1, noCall_zero hb.1]
 rw [if_neg k0] at ha hb
 by_cases k1 : k = 1
 ·
  rw [if_pos k1, Bool.and_eq_true, beq_iff_eq] at ha hb
  obtain ⟨p1, p2, _⟩ := call_parts ha.1
  obtain ⟨q1, q2, _⟩ := call_parts hb.1
  unfold eqCall eqCmd at h3
  simp only [Bool.and_eq_true, beq_iff_eq] at h3
  obtain ⟨⟨e1, e2⟩, ⟨⟨e3, e4⟩, e5⟩, e6⟩ := h3
  replace e4 := (eqT_iff _ _).1 e4
  replace e5 := eqVal_eq e5 (chk_valB p1).1 (chk_valB q1).1
  replace e6 := eqVal_eq e6 (chk_valB p2).1 (chk_valB q2).1
  obtain ⟨a1, a2, ⟨a3, a4, a5, a6⟩⟩ := c
  obtain ⟨b1, b2, ⟨b3, b4, b5, b6⟩⟩ := c'
  simp only at e1 e2 e3 e4 e5 e6
  subst e1 e2 e3 e4 e5 e6
  rfl
 rw [if_neg k1] at ha hb
 by_cases k2 : k = 2
 ·
  rw [if_pos k2, Bool.and_eq_true] at ha hb
  rw [noCall_zero ha.1, noCall_zero hb.1]
 ·
  rw [if_neg k2] at ha; cases ha
/-- So many entries are the same. -/
def comE : List AEntry → List AEntry → Nat
 | x :: l, y :: m => if eqEntry x y then comE l m + 1 else 0
 | _, _ => 0
theorem comE_eq : ∀ (l m : List AEntry) (_ : ∀ x ∈ l, rightE x = true ∧ x.ok) (_ : ∀ x ∈ m, rightE x = true ∧ x.ok), comE l m = comN m l
 | [], [], _, _ => rfl
 | [], _ :: _, _, _ => rfl
 | _ :: _, [], _, _ => rfl
 | x :: l, y :: m, hl, hm => by
  have hx := hl x (by simp)
  have hy := hm y (by simp)
  rw [comE, comN, comE_eq l m (fun z hz => hl z (by simp [hz])) (fun z hz => hm z (by simp [hz]))]
  by_cases h : eqEntry x y = true
  ·
   have e := eqE_eq hx.1 hy.1 h
   rw [if_pos h, e, if_pos (sameB_refl y)]
  ·
   rw [if_neg h, if_neg]
   intro h2
   have e := same_eq hy.1 hy.2 hx.1 hx.2 h2
   rw [e] at h
   exact h (eqEntry_refl x)
theorem comE_drop {l m : List AEntry} {k : Nat} {x y : AEntry} (hx : l[k]? = some x) (hy : m[k]? = some y) : comE (l.drop k) (m.drop k) = if eqEntry x y then comE (l.drop (k + 1)) (m.drop (k + 1)) + 1 else 0 := by
 obtain ⟨h1, h2⟩ := List.getElem?_eq_some_iff.1 hx
 obtain ⟨h3, h4⟩ := List.getElem?_eq_some_iff.1 hy
 rw [List.drop_eq_getElem_cons h1, List.drop_eq_getElem_cons h3, h2, h4, comE]
theorem comE_nil (l : List AEntry) : comE l [] = 0 := by cases l <;> rfl
/-- What stands between: none of both, or one that is met on the way. -/
theorem found_way {g y x : AHard} (hg : Held g) (h : Found g y x) (h1 : eqHard x g = false) (h2 : eqHard x y = false) :
  g.base = y.base ∧ g.baseTerm = y.baseTerm ∧ g.conf = y.conf ∧ g.snap = y.snap ∧ comE g.log y.log ≤ g.log.length ∧ comE g.log y.log ≤ y.log.length ∧ g.log.take (comE g.log y.log) = y.log.take (comE g.log y.log) ∧
  (x = { g with term := y.term, vote := y.vote } ∨ ∃ i, comE g.log y.log ≤ i ∧ i < y.log.length ∧ x = { g with term := y.term, vote := y.vote, log := y.log.take i }) := by
 rcases h with rfl | ⟨hn, hy, ht, h⟩
 ·
  rw [eqHard_refl] at h1; cases h1
 have hn := near_of hn
 have hgr : ∀ z ∈ g.log, rightE z = true ∧ z.ok := fun z hz => ⟨row_all hg.1.r z hz, hg.2.1 z hz⟩
 have hyr : ∀ z ∈ y.log, rightE z = true ∧ z.ok := fun z hz => ⟨row_all hy.1.r z hz, hy.2.1 z hz⟩
 have hk := comE_eq g.log y.log hgr hyr
 have hl := comN_le y.log g.log
 have ht2 := comN_take y.log g.log hyr hgr
 obtain ⟨n1, n2, n3, n4⟩ := hn
 refine ⟨n1.symm, n2.symm, n3.symm, n4.symm, by rw [hk]; exact hl.2, by rw [hk]; exact hl.1, by rw [hk]; exact ht2.symm, ?_⟩
 rcases h with rfl | rfl | ⟨i, h3, h4, rfl⟩
 ·
  rw [eqHard_refl] at h1; cases h1
 ·
  exact .inl rfl
 ·
  right
  have hi : i < y.log.length := by
   rcases Nat.lt_or_ge i y.log.length with h5 | h5
   ·
    exact h5
   ·
    rw [List.take_of_length_le h5] at h2
    rw [eqHard_refl] at h2; cases h2
  refine ⟨i, by rw [hk]; exact h3, hi, ?_⟩
  rw [← n1, ← n2, ← n3, ← n4]
end Go.Proofs.YtjhnlncgmejkcaaGreat
