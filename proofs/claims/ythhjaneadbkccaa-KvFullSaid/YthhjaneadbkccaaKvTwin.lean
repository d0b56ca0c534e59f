/-
  Contracts of skerrykeep.TwinPairs and slices.Clone. Conditions: as each theorem names them.
-/
import Derived.Test.YthhjaneadbkccaaKvGet2
namespace Go.Proofs.Ythhjaneadbkccaa
set_option linter.unusedSimpArgs false
open Go.RowKit

theorem info_pair : (Try.prog.info? 61).map (fun i => (i.zero, i.size, i.bytes)) = some (some (.agg #[.string ⟨#[]⟩, .int .i64 0, .float .f64 0, .string ⟨#[]⟩]), 4, 48) := by kernel_rfl
theorem pair_one (l : List APair) : ∀ u ∈ l.flatMap APair.cells, u.oneCell' = true := by
  intro u hu
  obtain ⟨p, _, hp⟩ := List.mem_flatMap.1 hu
  simp only [APair.cells, List.mem_cons, List.not_mem_nil, or_false] at hp
  rcases hp with rfl | rfl | rfl | rfl <;> rfl

set_option maxRecDepth 100000 in
set_option maxHeartbeats 400000 in
theorem k_twinPairs (w : World) (T : Nat → Prop) (v : Value) (l : List APair) (h : Prs w T v l) (hl : l.length ≤ 1000000) :
    Calls Try.prog 24 #[v] w fun e w' => ∃ v', e = .returned v' ∧ NewP w w' v' l ∧ Ext w w' := by
  obtain ⟨i0, hi, hz0, hz1, hz2⟩ := info_parts info_pair
  obtain ⟨n, hn⟩ : ∃ n, l.length = n := ⟨_, rfl⟩
  obtain ⟨A, c, rfl⟩ := h.form
  obtain ⟨h1, h2⟩ := h
  rw [hn] at hl h1 ⊢
  have Hn := Lib.hid hn
  have H2 := Lib.hid h2
  clear hn h2
  go_enter Try.func24, Try.ntmps24
  go_wp2_with (at_builtin; refine wpList_app _ rfl _ _ 29 rfl 61 i0 _ 4 48 Try.underlying29 hi hz0 hz1 hz2 rfl (by omega) _ 0 [] rfl (World.ownsRow_nil _ _ _ _) T _ n (l.flatMap APair.cells) rfl h1 (pair_one l) (by simp only [maxLen]; omega) (by omega) ?_)
  intro v' w1 ho hgr hat
  have hE : Ext w w1 := (Mod.refl _ w).grown hgr (by simp [Value.ownBlock])
  have hN : NewP w w1 v' l := by
    refine ⟨by rw [Hn.out]; simpa using ho, H2.out, fun g hgg => ?_⟩
    rcases hat with e | e <;> rw [e] at hgg <;> simp [Value.ownBlock] at hgg <;> omega
  go_wp2
  go_ret
  exact ⟨v', rfl, hN, hE⟩

set_option maxRecDepth 100000 in
set_option maxHeartbeats 400000 in
theorem sl_clone (w : World) (T : Nat → Prop) (v : Value) (l : List APair) (h : Prs w T v l) (hl : l.length ≤ 1000000) :
    Calls Try.prog 33 #[v] w fun e w' => ∃ v', e = .returned v' ∧ NewP w w' v' l ∧ Ext w w' := by
  obtain ⟨i0, hi, hz0, hz1, hz2⟩ := info_parts info_pair
  obtain ⟨n, hn⟩ : ∃ n, l.length = n := ⟨_, rfl⟩
  obtain ⟨A, c, rfl⟩ := h.form
  obtain ⟨h1, h2⟩ := h
  rw [hn] at hl h1 ⊢
  have Hn := Lib.hid hn
  have H2 := Lib.hid h2
  clear hn h2
  have heq := fun (w : World) (a : Option Addr) (n c n' c' : Nat) => Lib.run_eql_slice_nil (P := Try.prog) w 29 61 a n c n' c' Try.underlying29
  rcases A with _ | A
  · have hn0 : n = 0 := by
      rcases Nat.eq_zero_or_pos n with h0 | h0
      · exact h0
      · obtain ⟨_, A', c', e, _, _, hx⟩ := h1
        injection e with e1 _ _
        obtain ⟨g, off, hA, _⟩ := hx h0
        rw [← e1] at hA; cases hA
    have hl0 : l = [] := List.eq_nil_of_length_eq_zero (by rw [Hn.out]; exact hn0)
    subst hl0
    clear h1
    go_enter Try.func33, Try.ntmps33
    go_wp2
    go_ret
    exact ⟨_, rfl, ⟨World.ownsRow_nil _ _ _ _, by simp, by simp [Value.ownBlock]⟩, Mod.refl _ w⟩
  · have hEa : Ext w (w.alloc (.cells #[] 61)) := (Mod.refl _ w).alloc _
    have h3 := h1.ext hEa
    have hown : (w.alloc (.cells #[] 61)).ownsRow 0 61 4 (.slice (some ⟨w.heap.size, 0, none⟩) 0 0) 0 [] := World.ownsRow_made w #[] 0 (Nat.zero_le _) (by simp [maxLen]) rfl
    go_enter Try.func33, Try.ntmps33
    go_wp2_with (at_builtin; refine wpList_app _ rfl _ _ 29 rfl 61 i0 _ 4 48 Try.underlying29 hi hz0 hz1 hz2 rfl (by omega) _ 0 [] rfl hown T _ n (l.flatMap APair.cells) rfl h3 (pair_one l) (by simp only [maxLen]; omega) (by omega) ?_)
    intro v' w1 ho hgr hat
    have hM : Mod (Since w.heap.size) w w1 := (((Mod.refl (Since w.heap.size) w).alloc _).grown hgr (fun k hk => by
      simp [Value.ownBlock] at hk; subst hk; exact .inl (Nat.le_refl _)))
    have hN : NewP w w1 v' l := by
      refine ⟨by rw [Hn.out]; simpa using ho, H2.out, fun g hgg => ?_⟩
      rcases hat with e | e <;> rw [e] at hgg <;> simp [Value.ownBlock] at hgg <;> omega
    go_wp2
    go_ret
    exact ⟨v', rfl, hN, hM.toExt⟩
end Go.Proofs.Ythhjaneadbkccaa
