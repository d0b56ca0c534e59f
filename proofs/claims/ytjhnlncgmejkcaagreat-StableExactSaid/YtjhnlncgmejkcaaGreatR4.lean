/-
 Plain: a save on a disk that may be tripped, and what is found behind a crash (T3). No program is walked here. Conditions: as each theorem names them.
-/
import Derived.Test.YtjhnlncgmejkcaaGreatS25
namespace Go.Proofs.YtjhnlncgmejkcaaGreat
set_option linter.unusedSimpArgs false
end Go.Proofs.YtjhnlncgmejkcaaGreat
namespace Go.Proofs.YtjhnlncgmejkcaaGreat
set_option linter.unusedSimpArgs false
theorem zk6 {a b : Nat} (h : zgS a b = true) (ha : yU a = a) (hb : yU b = b) : a = b := by
 unfold zgS at h
 simp only [Bool.or_eq_true, Bool.and_eq_true, beq_iff_eq] at h
 rcases h with ⟨h1, h2⟩ | h
 ·
  unfold yU at ha hb
  rw [if_pos h1] at ha
  rw [if_pos h2] at hb
  omega
 exact h
theorem zmN {a b : jY} (h : zdB a b = true) (ha : zb4 a = true) (hb : zb4 b = true) : a = b := by
 unfold zdB at h
 simp only [Bool.and_eq_true, beq_iff_eq] at h
 obtain ⟨⟨h1, h2⟩, h3⟩ := h
 have h3 := (zdA _ _).1 h3
 rcases zfQ ha with rfl | ⟨x, rfl, hx⟩ | ⟨t, rfl⟩ <;> rcases zfQ hb with rfl | ⟨x', rfl, hx'⟩ | ⟨t', rfl⟩ <;> simp only at h1 h2 h3
 · rfl
 · cases h1
 · cases h1
 · cases h1
 · rw [zk6 h2 hx hx']
 · cases h1
 · cases h1
 · cases h1
 rw [h3]
theorem zjQ {a b : yF} (h : xI a b = true) : a = b := by
 obtain ⟨a1, a2, a3, a4⟩ := a
 obtain ⟨b1, b2, b3, b4⟩ := b
 unfold xI at h
 simp only [Bool.and_eq_true, beq_iff_eq] at h
 obtain ⟨⟨⟨rfl, rfl⟩, rfl⟩, rfl⟩ := h
 rfl
theorem eqE_eq {a b : zI} (ha : xB a = true) (hb : xB b = true) (h : xZ a b = true) : a = b := by
 obtain ⟨t, k, c, f⟩ := a
 obtain ⟨t', k', c', f'⟩ := b
 unfold xZ at h
 simp only [Bool.and_eq_true, beq_iff_eq] at h
 obtain ⟨⟨⟨rfl, rfl⟩, h3⟩, h4⟩ := h
 have h4 := zjQ h4
 subst h4
 suffices hc : c = c' by rw [hc]
 unfold xB at ha hb
 simp only at ha hb
 by_cases k0 : k = 0
 · rw [if_pos k0, Bool.and_eq_true] at ha hb
   rw [zaU ha.1, zaU hb.1]
 rw [if_neg k0] at ha hb
 by_cases k1 : k = 1
 ·
  rw [if_pos k1, Bool.and_eq_true, beq_iff_eq] at ha hb
  obtain ⟨p1, p2, _⟩ := zeO ha.1
  obtain ⟨q1, q2, _⟩ := zeO hb.1
  unfold jJ zgT at h3
  simp only [Bool.and_eq_true, beq_iff_eq] at h3
  obtain ⟨⟨e1, e2⟩, ⟨⟨e3, e4⟩, e5⟩, e6⟩ := h3
  replace e4 := (zdA _ _).1 e4
  replace e5 := zmN e5 (zcZ p1).1 (zcZ q1).1
  replace e6 := zmN e6 (zcZ p2).1 (zcZ q2).1
  obtain ⟨a1, a2, ⟨a3, a4, a5, a6⟩⟩ := c
  obtain ⟨b1, b2, ⟨b3, b4, b5, b6⟩⟩ := c'
  simp only at e1 e2 e3 e4 e5 e6
  subst e1 e2 e3 e4 e5 e6
  rfl
 rw [if_neg k1] at ha hb
 by_cases k2 : k = 2
 · rw [if_pos k2, Bool.and_eq_true] at ha hb
   rw [zaU ha.1, zaU hb.1]
 rw [if_neg k2] at ha; cases ha
def zj1 : List zI → List zI → Nat
 | x :: l, y :: m => if xZ x y then zj1 l m + 1 else 0
 | _, _ => 0
theorem zqH : ∀ (l m : List zI) (_ : ∀ x ∈ l, xB x = true ∧ x.ok) (_ : ∀ x ∈ m, xB x = true ∧ x.ok), zj1 l m = zaN m l
 | [], [], _, _ => rfl
 | [], _ :: _, _, _ => rfl
 | _ :: _, [], _, _ => rfl
 | x :: l, y :: m, hl, hm => by
  have hx := hl x (by simp)
  have hy := hm y (by simp)
  rw [zj1, zaN, zqH l m (fun z hz => hl z (by simp [hz])) (fun z hz => hm z (by simp [hz]))]
  by_cases h : xZ x y = true
  · have e := eqE_eq hx.1 hy.1 h
    rw [if_pos h, e, if_pos (zhA y)]
  rw [if_neg h, if_neg]
  intro h2
  have e := zo2 hy.1 hy.2 hx.1 hx.2 h2
  rw [e] at h
  exact h (ze0 x)
theorem zqI {l m : List zI} {k : Nat} {x y : zI} (hx : l[k]? = some x) (hy : m[k]? = some y) : zj1 (l.drop k) (m.drop k) = if xZ x y then zj1 (l.drop (k + 1)) (m.drop (k + 1)) + 1 else 0 := by
 obtain ⟨h1, h2⟩ := List.getElem?_eq_some_iff.1 hx
 obtain ⟨h3, h4⟩ := List.getElem?_eq_some_iff.1 hy
 rw [List.drop_eq_getElem_cons h1, List.drop_eq_getElem_cons h3, h2, h4, zj1]
theorem comE_nil (l : List zI) : zj1 l [] = 0 := by cases l <;> rfl
end Go.Proofs.YtjhnlncgmejkcaaGreat
