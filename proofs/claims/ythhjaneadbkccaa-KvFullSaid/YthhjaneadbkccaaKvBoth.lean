/-
  Contracts of value.Same, value.both, Add and Max. Conditions: as each theorem names them.
-/
import Derived.Test.YthhjaneadbkccaaKvNum
import Derived.Test.YthhjaneadbkccaaHead0
namespace Go.Proofs.Ythhjaneadbkccaa
set_option linter.unusedSimpArgs false
open Go.RowKit

theorem sameNum_eq (a b : Nat) : sameNum a b = sameF a b := by
  unfold sameNum sameF canon
  rw [Bool.eq_iff_iff]
  by_cases ha : isNaN a = true <;> by_cases hb : isNaN b = true
  · simp [ha, hb]
  · simp [ha, hb]
    constructor
    · intro h; rw [← h] at hb; exact absurd (by decide +kernel) hb
    · rintro rfl; exact absurd ha hb
  · simp [ha, hb]
    constructor
    · intro h; rw [h] at ha; exact absurd (by decide +kernel) ha
    · rintro rfl; exact absurd hb ha
  · simp [ha, hb]
set_option maxRecDepth 100000 in
set_option maxHeartbeats 400000 in
theorem v_same (a b : AVal) (w : World) : Calls Try.prog 48 #[.agg #[.int .i64 a.kind, .float .f64 a.num, .string a.text], .agg #[.int .i64 b.kind, .float .f64 b.num, .string b.text]] w fun e w' => e = .returned (.bool (eqVal a b)) ∧ Ext w w' := by
  have hT : (a.text.toList == b.text.toList) = eqT a.text b.text := rfl
  have hE : Ext w ((w.alloc (.cells #[.int .i64 a.kind, .float .f64 a.num, .string a.text] 25)).alloc (.cells #[.int .i64 b.kind, .float .f64 b.num, .string b.text] 25)) := ((Mod.refl _ w).alloc _).alloc _
  unfold eqVal
  rw [← sameNum_eq]
  rcases h1 : (a.kind == b.kind) with _ | _
  · go_enter Try.func48, Try.ntmps48
    go_wp2
    go_ret
    exact ⟨rfl, hE⟩
  · rcases h2 : sameNum a.num b.num with _ | _
    all_goals
      go_enter Try.func48, Try.ntmps48
      go_wp2_with (go_at_call 56; refine (nsame _ _ _).mono ?_; rintro e w' ⟨rfl, rfl⟩)
      go_ret
      exact ⟨rfl, hE⟩

/-- What value.both tells, r being what the two numbers make. -/
def bothV (r : Nat) (a b : AVal) : AVal × Int :=
  if chk a ≠ 0 then (AVal.zero, chk a) else if chk b ≠ 0 then (AVal.zero, chk b)
  else if a.kind = 0 then (b, 0) else if a.kind ≠ 1 ∨ b.kind ≠ 1 then (AVal.zero, 8)
  else (⟨1, r, ⟨#[]⟩⟩, 0)
theorem joinV_both (add : Bool) (a b : AVal) : joinV add a b = bothV (if add then addF a.num b.num else maxF a.num b.num) a b := rfl

set_option maxRecDepth 100000 in
set_option maxHeartbeats 2000000 in
theorem v_both (f : FuncId) (r : Nat) (a b : AVal) (w : World) (hcall : ∀ args W, (callFunc f args).run Try.prog W = .ok (.enter f args) W)
    (hf : ∀ W, Calls Try.prog f #[.float .f64 a.num, .float .f64 b.num] W fun e w' => e = .returned (.float .f64 r) ∧ Ext W w') :
    Calls Try.prog 62 #[.agg #[.int .i64 a.kind, .float .f64 a.num, .string a.text], .agg #[.int .i64 b.kind, .float .f64 b.num, .string b.text], .func (Fn.func f) #[] #[]] w fun e w' =>
      e = .returned (.tuple #[.agg #[.int .i64 (bothV r a b).1.kind, .float .f64 (bothV r a b).1.num, .string (bothV r a b).1.text], .int .i64 (bothV r a b).2]) ∧ Ext w w' := by
  have Hf := Lib.hid hf
  clear hf
  by_cases ca : chk a = 0
  case neg =>
    have Hr : Hid (bothV r a b = (AVal.zero, chk a)) := Lib.hid (by unfold bothV; rw [if_pos ca])
    have na : (chk a != 0) = true := by simpa using ca
    rw [Hr.out]
    clear ca
    go_enter Try.func62, Try.ntmps62
    go_wp2
    refine wp_loop_rounds 3 ?_
    rw [rounds_succ]
    go_wp2_with fail
    refine (v_check a _).mono ?_
    rintro e w1 ⟨rfl, hE1⟩
    obtain ⟨hc1, hf1⟩ := bcell hE1
    have hz1 := hE1.size
    simp at hz1
    have q10 : w.heap.size < w1.heap.size := by omega
    have q11 : w.heap.size + 1 < w1.heap.size := by omega
    have q12 : w.heap.size + 1 + 1 < w1.heap.size := by omega
    have q13 : w.heap.size + 1 + 1 + 1 < w1.heap.size := by omega
    have HM : Hid (Mod (Since w.heap.size) w w1) := Lib.hid ((((((Mod.refl (Since w.heap.size) w).alloc _).alloc _).alloc _).alloc _).alloc _ |>.ext hE1)
    clear hE1 hz1
    go_wp2
    refine bodyPost_ret (v := .tuple #[.agg #[.int .i64 0, .float .f64 0, .string ⟨#[]⟩], .int .i64 (chk a)]) (by simp [results, Try.results62, go_sem, hc1, q10, q11, q12, q13]) rfl ⟨rfl, ?_⟩
    refine Mod.toExt ?_
    repeat (first | exact HM.out | (refine Mod.setCell ?_ (.inl (by first | omega | (simp <;> omega))) _) | refine Mod.alloc ?_ _)
  by_cases cb : chk b = 0
  case neg =>
    have Hr : Hid (bothV r a b = (AVal.zero, chk b)) := Lib.hid (by unfold bothV; rw [if_neg (by simpa using ca), if_pos cb])
    have nb : (chk b != 0) = true := by simpa using cb
    rw [Hr.out]
    clear cb
    go_enter Try.func62, Try.ntmps62
    go_wp2
    refine wp_loop_rounds 3 ?_
    rw [rounds_succ]
    go_wp2_with fail
    refine (v_check a _).mono ?_
    rintro e w1 ⟨rfl, hE1⟩
    obtain ⟨hc1, hf1⟩ := bcell hE1
    have hz1 := hE1.size
    simp at hz1
    have q10 : w.heap.size < w1.heap.size := by omega
    have q11 : w.heap.size + 1 < w1.heap.size := by omega
    have q12 : w.heap.size + 1 + 1 < w1.heap.size := by omega
    have q13 : w.heap.size + 1 + 1 + 1 < w1.heap.size := by omega
    have HM : Hid (Mod (Since w.heap.size) w w1) := Lib.hid ((((((Mod.refl (Since w.heap.size) w).alloc _).alloc _).alloc _).alloc _).alloc _ |>.ext hE1)
    clear hE1
    rw [ca]
    go_wp2_with fail
    rw [rounds_succ]
    go_wp2_with fail
    refine (v_check b _).mono ?_
    rintro e w2 ⟨rfl, hE2⟩
    obtain ⟨hc2, hf2⟩ := bcell hE2
    have hz2 := hE2.size
    simp at hz2
    have q20 : w.heap.size < w2.heap.size := by omega
    have q21 : w.heap.size + 1 < w2.heap.size := by omega
    have q22 : w.heap.size + 1 + 1 < w2.heap.size := by omega
    have q23 : w.heap.size + 1 + 1 + 1 < w2.heap.size := by omega
    have HM : Hid (Mod (Since w.heap.size) w w2) := Lib.hid ((HM.out.alloc _).ext hE2)
    clear hE2
    go_wp2
    refine bodyPost_ret (v := .tuple #[.agg #[.int .i64 0, .float .f64 0, .string ⟨#[]⟩], .int .i64 (chk b)]) (by simp [results, Try.results62, go_sem, hc1, hc2, q10, q11, q12, q13, q20, q21, q22, q23]) rfl ⟨rfl, ?_⟩
    refine Mod.toExt ?_
    repeat (first | exact HM.out | (refine Mod.setCell ?_ (.inl (by first | omega | (simp <;> omega))) _) | refine Mod.alloc ?_ _)
  by_cases k0 : a.kind = 0
  · have Hr : Hid (bothV r a b = (b, 0)) := Lib.hid (by unfold bothV; rw [if_neg (by simpa using ca), if_neg (by simpa using cb), if_pos k0])
    have e0 : (a.kind == 0) = true := by simpa using k0
    rw [Hr.out]
    clear k0
    go_enter Try.func62, Try.ntmps62
    go_wp2
    refine wp_loop_rounds 3 ?_
    rw [rounds_succ]
    go_wp2_with fail
    refine (v_check a _).mono ?_
    rintro e w1 ⟨rfl, hE1⟩
    obtain ⟨hc1, hf1⟩ := bcell hE1
    have hz1 := hE1.size
    simp at hz1
    have q10 : w.heap.size < w1.heap.size := by omega
    have q11 : w.heap.size + 1 < w1.heap.size := by omega
    have q12 : w.heap.size + 1 + 1 < w1.heap.size := by omega
    have q13 : w.heap.size + 1 + 1 + 1 < w1.heap.size := by omega
    have HM : Hid (Mod (Since w.heap.size) w w1) := Lib.hid ((((((Mod.refl (Since w.heap.size) w).alloc _).alloc _).alloc _).alloc _).alloc _ |>.ext hE1)
    clear hE1
    rw [ca]
    go_wp2_with fail
    rw [rounds_succ]
    go_wp2_with fail
    refine (v_check b _).mono ?_
    rintro e w2 ⟨rfl, hE2⟩
    obtain ⟨hc2, hf2⟩ := bcell hE2
    have hz2 := hE2.size
    simp at hz2
    have q20 : w.heap.size < w2.heap.size := by omega
    have q21 : w.heap.size + 1 < w2.heap.size := by omega
    have q22 : w.heap.size + 1 + 1 < w2.heap.size := by omega
    have q23 : w.heap.size + 1 + 1 + 1 < w2.heap.size := by omega
    have HM : Hid (Mod (Since w.heap.size) w w2) := Lib.hid ((HM.out.alloc _).ext hE2)
    clear hE2
    rw [cb]
    go_wp2_with fail
    rw [rounds_succ]
    go_wp2
    refine bodyPost_ret (v := .tuple #[.agg #[.int .i64 b.kind, .float .f64 b.num, .string b.text], .int .i64 0]) (by simp [results, Try.results62, go_sem, hc1, hc2, q10, q11, q12, q13, q20, q21, q22, q23]) rfl ⟨rfl, ?_⟩
    refine Mod.toExt ?_
    repeat (first | exact HM.out | (refine Mod.setCell ?_ (.inl (by first | omega | (simp <;> omega))) _) | refine Mod.alloc ?_ _)
  have e0 : (a.kind == 0) = false := by simpa using k0
  by_cases k1 : a.kind = 1
  case neg =>
    have Hr : Hid (bothV r a b = (AVal.zero, 8)) := Lib.hid (by unfold bothV; rw [if_neg (by simpa using ca), if_neg (by simpa using cb), if_neg k0, if_pos (.inl k1)])
    have e1 : (a.kind != 1) = true := by simpa using k1
    rw [Hr.out]
    clear k0 k1
    go_enter Try.func62, Try.ntmps62
    go_wp2
    refine wp_loop_rounds 3 ?_
    rw [rounds_succ]
    go_wp2_with fail
    refine (v_check a _).mono ?_
    rintro e w1 ⟨rfl, hE1⟩
    obtain ⟨hc1, hf1⟩ := bcell hE1
    have hz1 := hE1.size
    simp at hz1
    have q10 : w.heap.size < w1.heap.size := by omega
    have q11 : w.heap.size + 1 < w1.heap.size := by omega
    have q12 : w.heap.size + 1 + 1 < w1.heap.size := by omega
    have q13 : w.heap.size + 1 + 1 + 1 < w1.heap.size := by omega
    have HM : Hid (Mod (Since w.heap.size) w w1) := Lib.hid ((((((Mod.refl (Since w.heap.size) w).alloc _).alloc _).alloc _).alloc _).alloc _ |>.ext hE1)
    clear hE1
    rw [ca]
    go_wp2_with fail
    rw [rounds_succ]
    go_wp2_with fail
    refine (v_check b _).mono ?_
    rintro e w2 ⟨rfl, hE2⟩
    obtain ⟨hc2, hf2⟩ := bcell hE2
    have hz2 := hE2.size
    simp at hz2
    have q20 : w.heap.size < w2.heap.size := by omega
    have q21 : w.heap.size + 1 < w2.heap.size := by omega
    have q22 : w.heap.size + 1 + 1 < w2.heap.size := by omega
    have q23 : w.heap.size + 1 + 1 + 1 < w2.heap.size := by omega
    have HM : Hid (Mod (Since w.heap.size) w w2) := Lib.hid ((HM.out.alloc _).ext hE2)
    clear hE2
    rw [cb]
    go_wp2_with fail
    rw [rounds_succ]
    go_wp2
    refine bodyPost_ret (v := .tuple #[.agg #[.int .i64 0, .float .f64 0, .string ⟨#[]⟩], .int .i64 8]) (by simp [results, Try.results62, go_sem, hc1, hc2, q10, q11, q12, q13, q20, q21, q22, q23]) rfl ⟨rfl, ?_⟩
    refine Mod.toExt ?_
    repeat (first | exact HM.out | (refine Mod.setCell ?_ (.inl (by first | omega | (simp <;> omega))) _) | refine Mod.alloc ?_ _)
  have e1 : (a.kind != 1) = false := by simpa using k1
  by_cases k2 : b.kind = 1
  case neg =>
    have Hr : Hid (bothV r a b = (AVal.zero, 8)) := Lib.hid (by unfold bothV; rw [if_neg (by simpa using ca), if_neg (by simpa using cb), if_neg k0, if_pos (.inr k2)])
    have e2 : (b.kind != 1) = true := by simpa using k2
    rw [Hr.out]
    clear k0 k1 k2
    go_enter Try.func62, Try.ntmps62
    go_wp2
    refine wp_loop_rounds 3 ?_
    rw [rounds_succ]
    go_wp2_with fail
    refine (v_check a _).mono ?_
    rintro e w1 ⟨rfl, hE1⟩
    obtain ⟨hc1, hf1⟩ := bcell hE1
    have hz1 := hE1.size
    simp at hz1
    have q10 : w.heap.size < w1.heap.size := by omega
    have q11 : w.heap.size + 1 < w1.heap.size := by omega
    have q12 : w.heap.size + 1 + 1 < w1.heap.size := by omega
    have q13 : w.heap.size + 1 + 1 + 1 < w1.heap.size := by omega
    have HM : Hid (Mod (Since w.heap.size) w w1) := Lib.hid ((((((Mod.refl (Since w.heap.size) w).alloc _).alloc _).alloc _).alloc _).alloc _ |>.ext hE1)
    clear hE1
    rw [ca]
    go_wp2_with fail
    rw [rounds_succ]
    go_wp2_with fail
    refine (v_check b _).mono ?_
    rintro e w2 ⟨rfl, hE2⟩
    obtain ⟨hc2, hf2⟩ := bcell hE2
    have hz2 := hE2.size
    simp at hz2
    have q20 : w.heap.size < w2.heap.size := by omega
    have q21 : w.heap.size + 1 < w2.heap.size := by omega
    have q22 : w.heap.size + 1 + 1 < w2.heap.size := by omega
    have q23 : w.heap.size + 1 + 1 + 1 < w2.heap.size := by omega
    have HM : Hid (Mod (Since w.heap.size) w w2) := Lib.hid ((HM.out.alloc _).ext hE2)
    clear hE2
    rw [cb]
    go_wp2_with fail
    rw [rounds_succ]
    go_wp2
    refine bodyPost_ret (v := .tuple #[.agg #[.int .i64 0, .float .f64 0, .string ⟨#[]⟩], .int .i64 8]) (by simp [results, Try.results62, go_sem, hc1, hc2, q10, q11, q12, q13, q20, q21, q22, q23]) rfl ⟨rfl, ?_⟩
    refine Mod.toExt ?_
    repeat (first | exact HM.out | (refine Mod.setCell ?_ (.inl (by first | omega | (simp <;> omega))) _) | refine Mod.alloc ?_ _)
  · have Hr : Hid (bothV r a b = (⟨1, r, ⟨#[]⟩⟩, 0)) := Lib.hid (by unfold bothV; rw [if_neg (by simpa using ca), if_neg (by simpa using cb), if_neg k0, if_neg (by simp [k1, k2])])
    have e2 : (b.kind != 1) = false := by simpa using k2
    rw [Hr.out]
    clear k0 k1 k2
    go_enter Try.func62, Try.ntmps62
    go_wp2
    refine wp_loop_rounds 3 ?_
    rw [rounds_succ]
    go_wp2_with fail
    refine (v_check a _).mono ?_
    rintro e w1 ⟨rfl, hE1⟩
    obtain ⟨hc1, hf1⟩ := bcell hE1
    have hz1 := hE1.size
    simp at hz1
    have q10 : w.heap.size < w1.heap.size := by omega
    have q11 : w.heap.size + 1 < w1.heap.size := by omega
    have q12 : w.heap.size + 1 + 1 < w1.heap.size := by omega
    have q13 : w.heap.size + 1 + 1 + 1 < w1.heap.size := by omega
    have HM : Hid (Mod (Since w.heap.size) w w1) := Lib.hid ((((((Mod.refl (Since w.heap.size) w).alloc _).alloc _).alloc _).alloc _).alloc _ |>.ext hE1)
    clear hE1
    rw [ca]
    go_wp2_with fail
    rw [rounds_succ]
    go_wp2_with fail
    refine (v_check b _).mono ?_
    rintro e w2 ⟨rfl, hE2⟩
    obtain ⟨hc2, hf2⟩ := bcell hE2
    have hz2 := hE2.size
    simp at hz2
    have q20 : w.heap.size < w2.heap.size := by omega
    have q21 : w.heap.size + 1 < w2.heap.size := by omega
    have q22 : w.heap.size + 1 + 1 < w2.heap.size := by omega
    have q23 : w.heap.size + 1 + 1 + 1 < w2.heap.size := by omega
    have HM : Hid (Mod (Since w.heap.size) w w2) := Lib.hid ((HM.out.alloc _).ext hE2)
    clear hE2
    rw [cb]
    go_wp2_with fail
    rw [rounds_succ]
    go_wp2_with fail
    refine (Hf.out _).mono ?_
    rintro e w3 ⟨rfl, hE3⟩
    obtain ⟨hc3, hf3⟩ := bcell hE3
    have hz3 := hE3.size
    have q30 : w.heap.size < w3.heap.size := by omega
    have q31 : w.heap.size + 1 < w3.heap.size := by omega
    have q32 : w.heap.size + 1 + 1 < w3.heap.size := by omega
    have q33 : w.heap.size + 1 + 1 + 1 < w3.heap.size := by omega
    have HM : Hid (Mod (Since w.heap.size) w w3) := Lib.hid (HM.out.ext hE3)
    clear hE3
    go_wp2
    refine bodyPost_ret (v := .tuple #[.agg #[.int .i64 1, .float .f64 r, .string ⟨#[]⟩], .int .i64 0]) (by simp [results, Try.results62, go_sem, hc1, hc2, hc3, q10, q11, q12, q13, q20, q21, q22, q23, q30, q31, q32, q33]) rfl ⟨rfl, ?_⟩
    refine Mod.toExt ?_
    repeat (first | exact HM.out | (refine Mod.setCell ?_ (.inl (by first | omega | (simp <;> omega))) _) | refine Mod.alloc ?_ _)
end Go.Proofs.Ythhjaneadbkccaa
