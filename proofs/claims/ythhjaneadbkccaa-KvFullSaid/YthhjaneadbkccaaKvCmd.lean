/-
  Contracts of value.Add and Max, of the page's Check, zero, join, Cmd, and of kv's tests. Conditions: as each theorem names them.
-/
import Derived.Test.YthhjaneadbkccaaKvBoth
import Derived.Deep.QuietTactic
import Derived.BigQuiet
namespace Go.Proofs.Ythhjaneadbkccaa
set_option linter.unusedSimpArgs false
open Go.RowKit
attribute [local go_sem] call_frombits call_bits

set_option maxRecDepth 100000 in
set_option maxHeartbeats 1000000 in
theorem v_add (a b : AVal) (w : World) : Calls Try.prog 49 #[.agg #[.int .i64 a.kind, .float .f64 a.num, .string a.text], .agg #[.int .i64 b.kind, .float .f64 b.num, .string b.text]] w fun e w' =>
    e = .returned (.tuple #[.agg #[.int .i64 (joinV true a b).1.kind, .float .f64 (joinV true a b).1.num, .string (joinV true a b).1.text], .int .i64 (joinV true a b).2]) ∧ Ext w w' := by
  rw [joinV_both]
  obtain ⟨r, hr⟩ : ∃ r, (if true = true then addF a.num b.num else maxF a.num b.num) = r := ⟨_, rfl⟩
  have hr' : addF a.num b.num = r := hr
  rw [hr]
  have Hr := Lib.hid hr'
  clear hr hr'
  go_enter Try.func49, Try.ntmps49
  go_wp2_with fail
  refine (v_both 63 r a b _ (fun _ _ => by kernel_rfl) (fun W => by rw [← Hr.out]; exact (n_add _ _ _))).mono ?_
  rintro e w1 ⟨rfl, hE1⟩
  obtain ⟨hc1, hf1⟩ := bcell hE1
  have hz1 := hE1.size
  simp at hz1
  have q10 : w.heap.size < w1.heap.size := by omega
  have q11 : w.heap.size + 1 < w1.heap.size := by omega
  have q12 : w.heap.size + 1 + 1 < w1.heap.size := by omega
  have HM : Hid (Mod (Since w.heap.size) w w1) := Lib.hid ((((Mod.refl (Since w.heap.size) w).alloc _).alloc _).alloc _ |>.ext hE1)
  clear hE1
  go_wp2
  refine bodyPost_ret (v := .tuple #[.agg #[.int .i64 (bothV r a b).1.kind, .float .f64 (bothV r a b).1.num, .string (bothV r a b).1.text], .int .i64 (bothV r a b).2]) (by simp [results, Try.results49, go_sem, hc1, q10, q11, q12]) rfl ⟨rfl, ?_⟩
  refine Mod.toExt ?_
  repeat (first | exact HM.out | (refine Mod.setCell ?_ (.inl (by first | omega | (simp <;> omega))) _) | refine Mod.alloc ?_ _)
set_option maxRecDepth 100000 in
set_option maxHeartbeats 1000000 in
theorem v_max (a b : AVal) (ha : a.num < 18446744073709551616) (hb : b.num < 18446744073709551616) (w : World) : Calls Try.prog 50 #[.agg #[.int .i64 a.kind, .float .f64 a.num, .string a.text], .agg #[.int .i64 b.kind, .float .f64 b.num, .string b.text]] w fun e w' =>
    e = .returned (.tuple #[.agg #[.int .i64 (joinV false a b).1.kind, .float .f64 (joinV false a b).1.num, .string (joinV false a b).1.text], .int .i64 (joinV false a b).2]) ∧ Ext w w' := by
  rw [joinV_both]
  obtain ⟨r, hr⟩ : ∃ r, (if false = true then addF a.num b.num else maxF a.num b.num) = r := ⟨_, rfl⟩
  have hr' : maxF a.num b.num = r := hr
  rw [hr]
  have Hr := Lib.hid hr'
  clear hr hr'
  go_enter Try.func50, Try.ntmps50
  go_wp2_with fail
  refine (v_both 64 r a b _ (fun _ _ => by kernel_rfl) (fun W => by rw [← Hr.out]; exact (n_max _ _ ha hb _))).mono ?_
  rintro e w1 ⟨rfl, hE1⟩
  obtain ⟨hc1, hf1⟩ := bcell hE1
  have hz1 := hE1.size
  simp at hz1
  have q10 : w.heap.size < w1.heap.size := by omega
  have q11 : w.heap.size + 1 < w1.heap.size := by omega
  have q12 : w.heap.size + 1 + 1 < w1.heap.size := by omega
  have HM : Hid (Mod (Since w.heap.size) w w1) := Lib.hid ((((Mod.refl (Since w.heap.size) w).alloc _).alloc _).alloc _ |>.ext hE1)
  clear hE1
  go_wp2
  refine bodyPost_ret (v := .tuple #[.agg #[.int .i64 (bothV r a b).1.kind, .float .f64 (bothV r a b).1.num, .string (bothV r a b).1.text], .int .i64 (bothV r a b).2]) (by simp [results, Try.results50, go_sem, hc1, q10, q11, q12]) rfl ⟨rfl, ?_⟩
  refine Mod.toExt ?_
  repeat (first | exact HM.out | (refine Mod.setCell ?_ (.inl (by first | omega | (simp <;> omega))) _) | refine Mod.alloc ?_ _)

set_option maxRecDepth 100000 in
set_option maxHeartbeats 400000 in
theorem r_nought (x : Nat) (w : World) : Calls Try.prog 38 #[.float .f64 x] w fun e w' => e = .returned (.bool (decide (x = 0))) ∧ w = w' := by
  have h : ((x : Int) == 0) = decide (x = 0) := by rw [Bool.eq_iff_iff]; simp
  go_enter Try.func38, Try.ntmps38
  go_wp2
  go_ret
  exact ⟨rfl, rfl⟩
set_option maxRecDepth 100000 in
set_option maxHeartbeats 2000000 in
theorem r_check (v : AVal) (w : World) : Calls Try.prog 18 #[.agg #[.int .i64 v.kind, .float .f64 v.num, .string v.text]] w fun e w' => e = .returned (.int .i64 (chk v)) ∧ Ext w w' := by
  obtain ⟨k, x, t⟩ := v
  have hT : t.toList.isEmpty = isEmptyT t := rfl
  have hE : Ext w (w.alloc (.cells #[.int .i64 k, .float .f64 x, .string t] 25)) := (Mod.refl _ w).alloc _
  have e1 : (FloatKind.f64.format.order x x != some Ordering.eq) = isNaN x := rfl
  simp only
  by_cases h0 : k = 0
  · subst h0
    rw [chk0, same_zero]
    rcases he : isEmptyT t with _ | _
    · rw [he] at hT
      rw [Bool.and_false]
      go_enter Try.func18, Try.ntmps18
      go_wp2_with (first | (go_at_call 38; refine (r_nought _ _).mono ?_; rintro e w' ⟨rfl, rfl⟩) | (go_at_call 40; refine (refnan_any _).mono ?_; rintro e w' ⟨rfl, rfl⟩))
      go_ret
      exact ⟨rfl, hE⟩
    · rw [he] at hT
      by_cases hx : x = 0
      · subst hx
        have e2 : (FloatKind.f64.format.order 0 0 != some Ordering.eq) = false := by kernel_rfl
        clear e1
        go_enter Try.func18, Try.ntmps18
        go_wp2_with (first | (go_at_call 38; refine (r_nought _ _).mono ?_; rintro e w' ⟨rfl, rfl⟩) | (go_at_call 40; refine (refnan_any _).mono ?_; rintro e w' ⟨rfl, rfl⟩))
        go_ret
        exact ⟨rfl, hE⟩
      · have d : decide (x = 0) = false := by simpa using hx
        rw [d]
        clear hx
        go_enter Try.func18, Try.ntmps18
        go_wp2_with (first | (go_at_call 38; refine (r_nought _ _).mono ?_; rintro e w' ⟨rfl, rfl⟩) | (go_at_call 40; refine (refnan_any _).mono ?_; rintro e w' ⟨rfl, rfl⟩))
        go_ret
        exact ⟨rfl, hE⟩
  by_cases h1 : k = 1
  · subst h1
    rw [chk1, canonB_iff]
    rcases he : isEmptyT t with _ | _
    · rw [he] at hT
      rw [Bool.and_false]
      go_enter Try.func18, Try.ntmps18
      go_wp2_with (first | (go_at_call 38; refine (r_nought _ _).mono ?_; rintro e w' ⟨rfl, rfl⟩) | (go_at_call 40; refine (refnan_any _).mono ?_; rintro e w' ⟨rfl, rfl⟩))
      go_ret
      exact ⟨rfl, hE⟩
    · rw [he] at hT
      rcases hn : isNaN x with _ | _
      · rw [hn] at e1
        go_enter Try.func18, Try.ntmps18
        go_wp2_with (first | (go_at_call 38; refine (r_nought _ _).mono ?_; rintro e w' ⟨rfl, rfl⟩) | (go_at_call 40; refine (refnan_any _).mono ?_; rintro e w' ⟨rfl, rfl⟩))
        go_ret
        exact ⟨rfl, hE⟩
      · rw [hn] at e1
        by_cases hx : x = theNaN
        · subst hx
          go_enter Try.func18, Try.ntmps18
          go_wp2_with (first | (go_at_call 38; refine (r_nought _ _).mono ?_; rintro e w' ⟨rfl, rfl⟩) | (go_at_call 40; refine (refnan_any _).mono ?_; rintro e w' ⟨rfl, rfl⟩))
          go_ret
          exact ⟨rfl, hE⟩
        · have d : ((x : Int) != (theNaN : Int)) = true := by rw [bne_iff_ne]; omega
          have d2 : decide (true = true ∧ x ≠ theNaN) = true := by simpa using hx
          rw [d2]
          clear d2 hx
          go_enter Try.func18, Try.ntmps18
          go_wp2_with (first | (go_at_call 38; refine (r_nought _ _).mono ?_; rintro e w' ⟨rfl, rfl⟩) | (go_at_call 40; refine (refnan_any _).mono ?_; rintro e w' ⟨rfl, rfl⟩))
          go_ret
          exact ⟨rfl, hE⟩
  by_cases h2 : k = 2
  · subst h2
    rw [chk2, same_zero]
    by_cases hl : 32 < t.size
    · rw [if_pos hl]
      have d : decide ((32 : Int) < (t.size : Int)) = true := by simp; omega
      go_enter Try.func18, Try.ntmps18
      go_wp2_with (first | (go_at_call 38; refine (r_nought _ _).mono ?_; rintro e w' ⟨rfl, rfl⟩) | (go_at_call 40; refine (refnan_any _).mono ?_; rintro e w' ⟨rfl, rfl⟩))
      go_ret
      exact ⟨rfl, hE⟩
    · rw [if_neg hl]
      have d : decide ((32 : Int) < (t.size : Int)) = false := by simp; omega
      by_cases hx : x = 0
      · subst hx
        have e2 : (FloatKind.f64.format.order 0 0 != some Ordering.eq) = false := by kernel_rfl
        clear e1
        go_enter Try.func18, Try.ntmps18
        go_wp2_with (first | (go_at_call 38; refine (r_nought _ _).mono ?_; rintro e w' ⟨rfl, rfl⟩) | (go_at_call 40; refine (refnan_any _).mono ?_; rintro e w' ⟨rfl, rfl⟩))
        go_ret
        exact ⟨rfl, hE⟩
      · have d : decide (x = 0) = false := by simpa using hx
        rw [d]
        clear hx
        go_enter Try.func18, Try.ntmps18
        go_wp2_with (first | (go_at_call 38; refine (r_nought _ _).mono ?_; rintro e w' ⟨rfl, rfl⟩) | (go_at_call 40; refine (refnan_any _).mono ?_; rintro e w' ⟨rfl, rfl⟩))
        go_ret
        exact ⟨rfl, hE⟩
  · rw [chk3 x t h0 h1 h2]
    by_cases hk : k < 0
    · have d : decide (k < 0) = true := by simpa using hk
      clear h0 h1 h2
      go_enter Try.func18, Try.ntmps18
      go_wp2_with (first | (go_at_call 38; refine (r_nought _ _).mono ?_; rintro e w' ⟨rfl, rfl⟩) | (go_at_call 40; refine (refnan_any _).mono ?_; rintro e w' ⟨rfl, rfl⟩))
      go_ret
      exact ⟨rfl, hE⟩
    · have d : decide (k < 0) = false := by simpa using hk
      have d2 : decide (2 < k) = true := by rw [decide_eq_true_iff]; omega
      clear h0 h1 h2
      go_enter Try.func18, Try.ntmps18
      go_wp2_with (first | (go_at_call 38; refine (r_nought _ _).mono ?_; rintro e w' ⟨rfl, rfl⟩) | (go_at_call 40; refine (refnan_any _).mono ?_; rintro e w' ⟨rfl, rfl⟩))
      go_ret
      exact ⟨rfl, hE⟩
end Go.Proofs.Ythhjaneadbkccaa
