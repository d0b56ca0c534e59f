/-
 Plain laws of logs and histories: a longer log, a shorter history. No program is walked here. Conditions: as each theorem names them.
-/
import Derived.Test.YtbclnghbgoblcaaGreatHisSpec
namespace Go.Proofs.YtbclnghbgoblcaaGreat
set_option linter.unusedSimpArgs false

theorem placeF_more {c : ACall} {more : List AEntry} : ∀ (l : List AEntry) (k : Nat), placeF l c k ≠ 0 → placeF (l ++ more) c k = placeF l c k := by
 intro l
 induction l with
 | nil => intro k h; exact absurd rfl h
 | cons x l ih =>
  intro k h
  rw [List.cons_append, placeF, placeF]
  rw [placeF] at h
  split
  ·
   rfl
  ·
   rename_i hx
   rw [if_neg hx] at h
   exact ih _ h
theorem placeF_le {c : ACall} : ∀ (l : List AEntry) (k : Nat), placeF l c k ≠ 0 → k + 1 ≤ placeF l c k ∧ placeF l c k ≤ k + l.length := by
 intro l
 induction l with
 | nil => intro k h; exact absurd rfl h
 | cons x l ih =>
  intro k h
  rw [placeF] at h ⊢
  split
  ·
   simp
  ·
   rename_i hx
   rw [if_neg hx] at h
   have := ih _ h
   rw [List.length_cons]
   omega
theorem placeH_more {l more : List AEntry} {c : ACall} (h : 1 ≤ placeH l c) : placeH (l ++ more) c = placeH l c := placeF_more l 0 (by unfold placeH at h; omega)
theorem placeH_le {l : List AEntry} {c : ACall} (h : 1 ≤ placeH l c) : placeH l c ≤ l.length := by
 have := placeF_le (c := c) l 0 (by unfold placeH at h; omega)
 unfold placeH
 omega
theorem atP_more {l more : List AEntry} {n : Int} (h : n ≤ l.length) : atP (l ++ more) n = atP l n := by
 unfold atP
 rw [List.take_append_of_le_length (by omega)]
theorem toldP_more {l more : List AEntry} {x : ATold} (h : toldP l x = true) : toldP (l ++ more) x = true := by
 unfold toldP at h ⊢
 split
 ·
  rename_i hk
  rw [if_pos hk] at h
  rw [Bool.and_eq_true, decide_eq_true_iff] at h ⊢
  refine ⟨by rw [List.length_append]; omega, ?_⟩
  rw [atP_more h.1]
  exact h.2
 ·
  rename_i hk
  rw [if_neg hk] at h
  split at h
  ·
   cases h
  ·
   rename_i y hy
   simp only [Bool.and_eq_true, decide_eq_true_iff] at h
   have hp := h.1.1.1
   have hple := placeH_le hp
   rw [placeH_more hp, List.getElem?_append_left (by omega), hy]
   simp only [Bool.and_eq_true, decide_eq_true_iff]
   rw [atP_more (by omega)]
   exact h
theorem told_place {l : List AEntry} {x : ATold} (h : toldP l x = true) (hk : x.call.cmd.kind ≠ 1) : 1 ≤ placeH l x.call ∧ (placeH l x.call : Int) ≤ x.index := by
 unfold toldP at h
 rw [if_neg hk] at h
 split at h
 ·
  cases h
 ·
  simp only [Bool.and_eq_true, decide_eq_true_iff] at h
  exact h.1.1
theorem pointP_more {l more : List AEntry} {x : ATold} (h : toldP l x = true) : pointP (l ++ more) x = pointP l x := by
 unfold pointP
 split
 ·
  rfl
 ·
  rename_i hk
  rw [placeH_more (told_place h hk).1]
theorem tellP_mem {c : ACall} {t : ATold} : ∀ {r : List AEvent}, tellP r c = some t → ∃ x ∈ r, x.ask = false ∧ x.told = t := by
 intro r
 induction r with
 | nil => intro h; cases h
 | cons x r ih =>
  intro h
  rw [tellP] at h
  split at h
  ·
   rename_i hx
   injection h with h
   refine ⟨x, by simp, ?_, h⟩
   unfold tellsB at hx
   simp only [Bool.and_eq_true, Bool.not_eq_true'] at hx
   exact hx.1.1
  ·
   obtain ⟨y, hy, h2⟩ := ih h
   exact ⟨y, by simp [hy], h2⟩
theorem order_told {l : List AEntry} : ∀ {h : List AEvent}, orderB l h = true → ∀ x ∈ h, x.ask = false → toldP l x.told = true := by
 intro h
 induction h with
 | nil => intro _ x hx; cases hx
 | cons a r ih =>
  intro ho x hx hask
  rw [orderB, Bool.and_eq_true] at ho
  rcases List.mem_cons.1 hx with rfl | hx
  ·
   have := ho.1
   rw [hask, Bool.false_or, Bool.and_eq_true] at this
   exact this.1
  ·
   exact ih ho.2 x hx hask
theorem freeB_more {l more : List AEntry} {a : Int} {c : ACall} {r : List AEvent} (ht : ∀ x ∈ r, x.ask = false → toldP l x.told = true) : freeB (l ++ more) a c r = freeB l a c r := by
 unfold freeB
 rcases hq : tellP r c with _ | t
 ·
  rfl
 ·
  obtain ⟨x, hx, h1, h2⟩ := tellP_mem hq
  have := ht x hx h1
  rw [h2] at this
  simp only
  rw [pointP_more this]
theorem clearB_more {l more : List AEntry} {a : Int} : ∀ {r : List AEvent}, (∀ x ∈ r, x.ask = false → toldP l x.told = true) → clearB (l ++ more) a r = clearB l a r := by
 intro r
 induction r with
 | nil => intro _; rfl
 | cons b r ih =>
  intro ht
  rw [clearB, clearB, freeB_more (fun x hx => ht x (by simp [hx])), ih (fun x hx => ht x (by simp [hx]))]
/-- A history that has an order has one in a longer log. -/
theorem order_more {l more : List AEntry} : ∀ {h : List AEvent}, orderB l h = true → orderB (l ++ more) h = true := by
 intro h
 induction h with
 | nil => intro _; rfl
 | cons a r ih =>
  intro ho
  have ht := order_told ho
  rw [orderB, Bool.and_eq_true] at ho ⊢
  refine ⟨?_, ih ho.2⟩
  rcases hask : a.ask with _ | _
  ·
   have h1 := ho.1
   rw [hask, Bool.false_or, Bool.and_eq_true] at h1
   rw [Bool.false_or, Bool.and_eq_true]
   refine ⟨toldP_more h1.1, ?_⟩
   rw [pointP_more h1.1, clearB_more (fun x hx => ht x (by simp [hx]))]
   exact h1.2
  ·
   rfl
theorem tellP_snoc {c : ACall} {t : ATold} {x : AEvent} : ∀ {r : List AEvent}, tellP r c = some t → tellP (r ++ [x]) c = some t := by
 intro r
 induction r with
 | nil => intro h; cases h
 | cons y r ih =>
  intro h
  rw [List.cons_append, tellP]
  rw [tellP] at h
  split
  ·
   rename_i hy; rw [if_pos hy] at h; exact h
  ·
   rename_i hy; rw [if_neg hy] at h; exact ih h
theorem clearB_snoc {l : List AEntry} {a : Int} {x : AEvent} : ∀ {r : List AEvent}, clearB l a (r ++ [x]) = true → clearB l a r = true := by
 intro r
 induction r with
 | nil => intro _; rfl
 | cons b r ih =>
  intro h
  rw [List.cons_append, clearB, Bool.and_eq_true] at h
  rw [clearB, Bool.and_eq_true]
  refine ⟨?_, ih h.2⟩
  have h1 := h.1
  rcases hb : b.ask with _ | _
  ·
   rfl
  ·
   rw [hb] at h1
   simp only [Bool.not_true, Bool.false_or] at h1 ⊢
   unfold freeB at h1 ⊢
   rcases hq : tellP r b.told.call with _ | t
   ·
    rfl
   ·
    rw [tellP_snoc hq] at h1
    exact h1
/-- .. and without its last event. -/
theorem order_snoc {l : List AEntry} {x : AEvent} : ∀ {h : List AEvent}, orderB l (h ++ [x]) = true → orderB l h = true := by
 intro h
 induction h with
 | nil => intro _; rfl
 | cons a r ih =>
  intro ho
  rw [List.cons_append, orderB, Bool.and_eq_true] at ho
  rw [orderB, Bool.and_eq_true]
  refine ⟨?_, ih ho.2⟩
  rcases hask : a.ask with _ | _
  ·
   have h1 := ho.1
   rw [hask, Bool.false_or, Bool.and_eq_true] at h1
   rw [Bool.false_or, Bool.and_eq_true]
   exact ⟨h1.1, clearB_snoc h1.2⟩
  ·
   rfl
/-- One step of a log that is played: an entry that is no call, then a call. -/
theorem at_two {l : List AEntry} {i : Nat} (hl : l.length = 2 * i) {a b : AEntry} (ha : a.kind ≠ 1) (hb : b.kind = 1) (n : Int) :
  atP (l ++ [a, b]) n = if 2 * (i : Int) + 1 < n then (onceP (atP l n) b.call).1 else atP l n := by
 unfold atP
 rw [List.take_append, hl, List.foldl_append]
 by_cases h : 2 * (i : Int) + 1 < n
 ·
  rw [if_pos h]
  obtain ⟨k, hk⟩ : ∃ k, n.toNat - 2 * i = k + 2 := ⟨n.toNat - 2 * i - 2, by omega⟩
  rw [hk]
  simp [playE, ha, hb]
 ·
  rw [if_neg h]
  have : n.toNat - 2 * i = 0 ∨ n.toNat - 2 * i = 1 := by omega
  rcases this with e | e <;> rw [e] <;> simp [playE, ha]
end Go.Proofs.YtbclnghbgoblcaaGreat
