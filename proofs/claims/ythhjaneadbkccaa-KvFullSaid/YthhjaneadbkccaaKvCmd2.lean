/-
  Contracts of the page's zero, join, Add, Max, Cmd, and of kv's tests (rightKey, none, Right, Changes). Conditions: as each theorem names them.
-/
import Derived.Test.YthhjaneadbkccaaKvCmd
import Derived.Deep.RegionHeld3
import Derived.Deep.MidRow
namespace Go.Proofs.Ythhjaneadbkccaa
set_option linter.unusedSimpArgs false
open Go.RowKit

set_option maxRecDepth 100000 in
set_option maxHeartbeats 400000 in
theorem r_zero (v : AVal) (w : World) : Calls Try.prog 45 #[.agg #[.int .i64 v.kind, .float .f64 v.num, .string v.text]] w fun e w' => e = .returned (.bool (zeroV v)) ∧ Ext w w' := by
  have hE : Ext w (w.alloc (.cells #[.int .i64 v.kind, .float .f64 v.num, .string v.text] 25)) := (Mod.refl _ w).alloc _
  unfold zeroV
  rcases h : (v.kind == 0) with _ | _
  · go_enter Try.func45, Try.ntmps45
    go_wp2
    go_ret
    exact ⟨rfl, hE⟩
  · go_enter Try.func45, Try.ntmps45
    go_wp2_with fail
    refine (r_check v _).mono ?_
    rintro e w1 ⟨rfl, hE1⟩
    have HE := Lib.hid (Mod.ext hE hE1)
    clear hE hE1
    go_wp2
    go_ret
    exact ⟨rfl, HE.out⟩
set_option maxRecDepth 100000 in
set_option maxHeartbeats 400000 in
theorem kv_rightKey (k : ByteArray) (w : World) : Calls Try.prog 42 #[.string k] w fun e w' => e = .returned (.bool (rightKeyB k)) ∧ w = w' := by
  unfold rightKeyB
  have e1 : decide ((1 : Int) ≤ (k.size : Int)) = decide (1 ≤ k.size) := by rw [decide_eq_decide]; omega
  have e2 : decide ((k.size : Int) ≤ 8) = decide (k.size ≤ 8) := by rw [decide_eq_decide]; omega
  rcases h : decide (1 ≤ k.size) with _ | _
  all_goals
    rw [h] at e1
    go_enter Try.func42, Try.ntmps42
    go_wp2
    go_ret
    exact ⟨rfl, rfl⟩
theorem noneV_zero (v : AVal) : noneV v = zeroV v := by
  unfold noneV zeroV
  rcases h : (v.kind == 0) with _ | _
  · rfl
  · obtain ⟨k, x, t⟩ := v
    have : k = 0 := by simpa using h
    subst this
    rw [chk0]
    simp only [Bool.true_and]
    rcases (sameNum x 0 && isEmptyT t) with _ | _ <;> rfl
set_option maxRecDepth 100000 in
set_option maxHeartbeats 400000 in
theorem kv_none (v : AVal) (w : World) : Calls Try.prog 44 #[.agg #[.int .i64 v.kind, .float .f64 v.num, .string v.text]] w fun e w' => e = .returned (.bool (zeroV v)) ∧ Ext w w' := by
  rw [← noneV_zero]
  unfold noneV
  have hT : v.text.toList.isEmpty = isEmptyT v.text := rfl
  have hE : Ext w (w.alloc (.cells #[.int .i64 v.kind, .float .f64 v.num, .string v.text] 25)) := (Mod.refl _ w).alloc _
  rcases h1 : (v.kind == 0) with _ | _
  · go_enter Try.func44, Try.ntmps44
    go_wp2
    go_ret
    exact ⟨rfl, hE⟩
  · rcases h2 : sameNum v.num 0 with _ | _
    all_goals
      go_enter Try.func44, Try.ntmps44
      go_wp2_with (go_at_call 56; refine (nsame _ _ _).mono ?_; rintro e w' ⟨rfl, rfl⟩)
      go_ret
      exact ⟨rfl, hE⟩
set_option maxRecDepth 100000 in
set_option maxHeartbeats 400000 in
theorem kv_changes (c : ACmd) (w : World) : Calls Try.prog 29 #[.agg #[.int .i64 c.kind, .string c.key, .int .i64 c.old.kind, .float .f64 c.old.num, .string c.old.text, .int .i64 c.val.kind, .float .f64 c.val.num, .string c.val.text]] w fun e w' => e = .returned (.bool (c.kind != 1)) ∧ Ext w w' := by
  go_enter Try.func29, Try.ntmps29
  go_wp2
  go_ret
  exact ⟨rfl, (Mod.refl _ w).alloc _⟩

set_option maxRecDepth 100000 in
set_option maxHeartbeats 2000000 in
theorem r_join (a b : AVal) (add : Bool) (ha : a.num < 18446744073709551616) (hb : b.num < 18446744073709551616) (w : World) :
    Calls Try.prog 41 #[.agg #[.int .i64 a.kind, .float .f64 a.num, .string a.text], .agg #[.int .i64 b.kind, .float .f64 b.num, .string b.text], .bool add] w fun e w' =>
      e = .returned (.tuple #[.agg #[.int .i64 (joinV add a b).1.kind, .float .f64 (joinV add a b).1.num, .string (joinV add a b).1.text], .int .i64 (joinV add a b).2]) ∧ Ext w w' := by
  rw [joinV_both]
  obtain ⟨r, hr⟩ : ∃ r, (if add = true then addF a.num b.num else maxF a.num b.num) = r := ⟨_, rfl⟩
  rw [hr]
  have Hq := Lib.hid hr
  clear hr
  by_cases ca : chk a = 0
  case neg =>
    have Hr : Hid (bothV r a b = (AVal.zero, chk a)) := Lib.hid (by unfold bothV; rw [if_pos ca])
    have na : (chk a != 0) = true := by simpa using ca
    have na' : (chk a == 0) = false := by simpa using ca
    rw [Hr.out]
    clear ca
    go_enter Try.func41, Try.ntmps41
    go_wp2_with fail
    refine (r_check a _).mono ?_
    rintro e w1 ⟨rfl, hE1⟩
    obtain ⟨hc1, hf1⟩ := bcell hE1
    have hz1 := hE1.size
    simp at hz1
    have q10 : w.heap.size < w1.heap.size := by omega
    have q11 : w.heap.size + 1 < w1.heap.size := by omega
    have q12 : w.heap.size + 1 + 1 < w1.heap.size := by omega
    have HM : Hid (Mod (Since w.heap.size) w w1) := Lib.hid ((((Mod.refl (Since w.heap.size) w).alloc _).alloc _).alloc _ |>.ext hE1)
    clear hE1
    go_wp2
    refine bodyPost_ret (v := .tuple #[.agg #[.int .i64 0, .float .f64 0, .string ⟨#[]⟩], .int .i64 (chk a)]) (by simp [results, Try.results41, go_sem, hc1, q10, q11, q12]) rfl ⟨rfl, ?_⟩
    refine Mod.toExt ?_
    repeat (first | exact HM.out | (refine Mod.setCell ?_ (.inl (by first | omega | (simp <;> omega))) _) | refine Mod.alloc ?_ _)
  by_cases cb : chk b = 0
  case neg =>
    have Hr : Hid (bothV r a b = (AVal.zero, chk b)) := Lib.hid (by unfold bothV; rw [if_neg (by simpa using ca), if_pos cb])
    have nb : (chk b != 0) = true := by simpa using cb
    rw [Hr.out]
    clear cb
    go_enter Try.func41, Try.ntmps41
    go_wp2_with fail
    refine (r_check a _).mono ?_
    rintro e w1 ⟨rfl, hE1⟩
    obtain ⟨hc1, hf1⟩ := bcell hE1
    have hz1 := hE1.size
    simp at hz1
    have q10 : w.heap.size < w1.heap.size := by omega
    have q11 : w.heap.size + 1 < w1.heap.size := by omega
    have q12 : w.heap.size + 1 + 1 < w1.heap.size := by omega
    have HM : Hid (Mod (Since w.heap.size) w w1) := Lib.hid ((((Mod.refl (Since w.heap.size) w).alloc _).alloc _).alloc _ |>.ext hE1)
    clear hE1
    rw [ca]
    go_wp2_with fail
    refine (r_check b _).mono ?_
    rintro e w2 ⟨rfl, hE2⟩
    obtain ⟨hc2, hf2⟩ := bcell hE2
    have hz2 := hE2.size
    have q20 : w.heap.size < w2.heap.size := by omega
    have q21 : w.heap.size + 1 < w2.heap.size := by omega
    have q22 : w.heap.size + 1 + 1 < w2.heap.size := by omega
    have HM : Hid (Mod (Since w.heap.size) w w2) := Lib.hid (HM.out.ext hE2)
    clear hE2
    go_wp2
    refine bodyPost_ret (v := .tuple #[.agg #[.int .i64 0, .float .f64 0, .string ⟨#[]⟩], .int .i64 (chk b)]) (by simp [results, Try.results41, go_sem, hc1, hc2, q10, q11, q12, q20, q21, q22]) rfl ⟨rfl, ?_⟩
    refine Mod.toExt ?_
    repeat (first | exact HM.out | (refine Mod.setCell ?_ (.inl (by first | omega | (simp <;> omega))) _) | refine Mod.alloc ?_ _)
  by_cases k0 : a.kind = 0
  · have Hr : Hid (bothV r a b = (b, 0)) := Lib.hid (by unfold bothV; rw [if_neg (by simpa using ca), if_neg (by simpa using cb), if_pos k0])
    have e0 : (a.kind == 0) = true := by simpa using k0
    rw [Hr.out]
    clear k0
    go_enter Try.func41, Try.ntmps41
    go_wp2_with fail
    refine (r_check a _).mono ?_
    rintro e w1 ⟨rfl, hE1⟩
    obtain ⟨hc1, hf1⟩ := bcell hE1
    have hz1 := hE1.size
    simp at hz1
    have q10 : w.heap.size < w1.heap.size := by omega
    have q11 : w.heap.size + 1 < w1.heap.size := by omega
    have q12 : w.heap.size + 1 + 1 < w1.heap.size := by omega
    have HM : Hid (Mod (Since w.heap.size) w w1) := Lib.hid ((((Mod.refl (Since w.heap.size) w).alloc _).alloc _).alloc _ |>.ext hE1)
    clear hE1
    rw [ca]
    go_wp2_with fail
    refine (r_check b _).mono ?_
    rintro e w2 ⟨rfl, hE2⟩
    obtain ⟨hc2, hf2⟩ := bcell hE2
    have hz2 := hE2.size
    have q20 : w.heap.size < w2.heap.size := by omega
    have q21 : w.heap.size + 1 < w2.heap.size := by omega
    have q22 : w.heap.size + 1 + 1 < w2.heap.size := by omega
    have HM : Hid (Mod (Since w.heap.size) w w2) := Lib.hid (HM.out.ext hE2)
    clear hE2
    rw [cb]
    go_wp2
    refine bodyPost_ret (v := .tuple #[.agg #[.int .i64 b.kind, .float .f64 b.num, .string b.text], .int .i64 0]) (by simp [results, Try.results41, go_sem, hc1, hc2, q10, q11, q12, q20, q21, q22]) rfl ⟨rfl, ?_⟩
    refine Mod.toExt ?_
    repeat (first | exact HM.out | (refine Mod.setCell ?_ (.inl (by first | omega | (simp <;> omega))) _) | refine Mod.alloc ?_ _)
  have e0 : (a.kind == 0) = false := by simpa using k0
  by_cases k1 : a.kind = 1
  case neg =>
    have Hr : Hid (bothV r a b = (AVal.zero, 8)) := Lib.hid (by unfold bothV; rw [if_neg (by simpa using ca), if_neg (by simpa using cb), if_neg k0, if_pos (.inl k1)])
    have e1 : (a.kind != 1) = true := by simpa using k1
    rw [Hr.out]
    clear k0 k1
    go_enter Try.func41, Try.ntmps41
    go_wp2_with fail
    refine (r_check a _).mono ?_
    rintro e w1 ⟨rfl, hE1⟩
    obtain ⟨hc1, hf1⟩ := bcell hE1
    have hz1 := hE1.size
    simp at hz1
    have q10 : w.heap.size < w1.heap.size := by omega
    have q11 : w.heap.size + 1 < w1.heap.size := by omega
    have q12 : w.heap.size + 1 + 1 < w1.heap.size := by omega
    have HM : Hid (Mod (Since w.heap.size) w w1) := Lib.hid ((((Mod.refl (Since w.heap.size) w).alloc _).alloc _).alloc _ |>.ext hE1)
    clear hE1
    rw [ca]
    go_wp2_with fail
    refine (r_check b _).mono ?_
    rintro e w2 ⟨rfl, hE2⟩
    obtain ⟨hc2, hf2⟩ := bcell hE2
    have hz2 := hE2.size
    have q20 : w.heap.size < w2.heap.size := by omega
    have q21 : w.heap.size + 1 < w2.heap.size := by omega
    have q22 : w.heap.size + 1 + 1 < w2.heap.size := by omega
    have HM : Hid (Mod (Since w.heap.size) w w2) := Lib.hid (HM.out.ext hE2)
    clear hE2
    rw [cb]
    go_wp2
    refine bodyPost_ret (v := .tuple #[.agg #[.int .i64 0, .float .f64 0, .string ⟨#[]⟩], .int .i64 8]) (by simp [results, Try.results41, go_sem, hc1, hc2, q10, q11, q12, q20, q21, q22]) rfl ⟨rfl, ?_⟩
    refine Mod.toExt ?_
    repeat (first | exact HM.out | (refine Mod.setCell ?_ (.inl (by first | omega | (simp <;> omega))) _) | refine Mod.alloc ?_ _)
  have e1 : (a.kind != 1) = false := by simpa using k1
  by_cases k2 : b.kind = 1
  case neg =>
    have Hr : Hid (bothV r a b = (AVal.zero, 8)) := Lib.hid (by unfold bothV; rw [if_neg (by simpa using ca), if_neg (by simpa using cb), if_neg k0, if_pos (.inr k2)])
    have e2 : (b.kind != 1) = true := by simpa using k2
    rw [Hr.out]
    clear k0 k1 k2
    go_enter Try.func41, Try.ntmps41
    go_wp2_with fail
    refine (r_check a _).mono ?_
    rintro e w1 ⟨rfl, hE1⟩
    obtain ⟨hc1, hf1⟩ := bcell hE1
    have hz1 := hE1.size
    simp at hz1
    have q10 : w.heap.size < w1.heap.size := by omega
    have q11 : w.heap.size + 1 < w1.heap.size := by omega
    have q12 : w.heap.size + 1 + 1 < w1.heap.size := by omega
    have HM : Hid (Mod (Since w.heap.size) w w1) := Lib.hid ((((Mod.refl (Since w.heap.size) w).alloc _).alloc _).alloc _ |>.ext hE1)
    clear hE1
    rw [ca]
    go_wp2_with fail
    refine (r_check b _).mono ?_
    rintro e w2 ⟨rfl, hE2⟩
    obtain ⟨hc2, hf2⟩ := bcell hE2
    have hz2 := hE2.size
    have q20 : w.heap.size < w2.heap.size := by omega
    have q21 : w.heap.size + 1 < w2.heap.size := by omega
    have q22 : w.heap.size + 1 + 1 < w2.heap.size := by omega
    have HM : Hid (Mod (Since w.heap.size) w w2) := Lib.hid (HM.out.ext hE2)
    clear hE2
    rw [cb]
    go_wp2
    refine bodyPost_ret (v := .tuple #[.agg #[.int .i64 0, .float .f64 0, .string ⟨#[]⟩], .int .i64 8]) (by simp [results, Try.results41, go_sem, hc1, hc2, q10, q11, q12, q20, q21, q22]) rfl ⟨rfl, ?_⟩
    refine Mod.toExt ?_
    repeat (first | exact HM.out | (refine Mod.setCell ?_ (.inl (by first | omega | (simp <;> omega))) _) | refine Mod.alloc ?_ _)
  have Hr : Hid (bothV r a b = (⟨1, r, ⟨#[]⟩⟩, 0)) := Lib.hid (by unfold bothV; rw [if_neg (by simpa using ca), if_neg (by simpa using cb), if_neg k0, if_neg (by simp [k1, k2])])
  have e2 : (b.kind != 1) = false := by simpa using k2
  rw [Hr.out]
  clear k0 k1 k2
  rcases add with _ | _
  · have hv := Hq.out
    have Hv : Hid (maxF a.num b.num = r) := Lib.hid hv
    clear hv
    go_enter Try.func41, Try.ntmps41
    go_wp2_with fail
    refine (r_check a _).mono ?_
    rintro e w1 ⟨rfl, hE1⟩
    obtain ⟨hc1, hf1⟩ := bcell hE1
    have hz1 := hE1.size
    simp at hz1
    have q10 : w.heap.size < w1.heap.size := by omega
    have q11 : w.heap.size + 1 < w1.heap.size := by omega
    have q12 : w.heap.size + 1 + 1 < w1.heap.size := by omega
    have HM : Hid (Mod (Since w.heap.size) w w1) := Lib.hid ((((Mod.refl (Since w.heap.size) w).alloc _).alloc _).alloc _ |>.ext hE1)
    clear hE1
    rw [ca]
    go_wp2_with fail
    refine (r_check b _).mono ?_
    rintro e w2 ⟨rfl, hE2⟩
    obtain ⟨hc2, hf2⟩ := bcell hE2
    have hz2 := hE2.size
    have q20 : w.heap.size < w2.heap.size := by omega
    have q21 : w.heap.size + 1 < w2.heap.size := by omega
    have q22 : w.heap.size + 1 + 1 < w2.heap.size := by omega
    have HM : Hid (Mod (Since w.heap.size) w w2) := Lib.hid (HM.out.ext hE2)
    clear hE2
    rw [cb]
    go_wp2_with fail
    refine (r_max _ _ ha hb _).mono ?_
    rintro e w3 ⟨rfl, hE3⟩
    rw [Hv.out]
    obtain ⟨hc3, hf3⟩ := bcell hE3
    have hz3 := hE3.size
    have q30 : w.heap.size < w3.heap.size := by omega
    have q31 : w.heap.size + 1 < w3.heap.size := by omega
    have q32 : w.heap.size + 1 + 1 < w3.heap.size := by omega
    have HM : Hid (Mod (Since w.heap.size) w w3) := Lib.hid (HM.out.ext hE3)
    clear hE3
    go_wp2
    refine bodyPost_ret (v := .tuple #[.agg #[.int .i64 1, .float .f64 r, .string ⟨#[]⟩], .int .i64 0]) (by simp [results, Try.results41, go_sem, hc1, hc2, hc3, q10, q11, q12, q20, q21, q22, q30, q31, q32]) rfl ⟨rfl, ?_⟩
    refine Mod.toExt ?_
    repeat (first | exact HM.out | (refine Mod.setCell ?_ (.inl (by first | omega | (simp <;> omega))) _) | refine Mod.alloc ?_ _)
  · have hv := Hq.out
    have Hv : Hid (addF a.num b.num = r) := Lib.hid hv
    clear hv
    go_enter Try.func41, Try.ntmps41
    go_wp2_with fail
    refine (r_check a _).mono ?_
    rintro e w1 ⟨rfl, hE1⟩
    obtain ⟨hc1, hf1⟩ := bcell hE1
    have hz1 := hE1.size
    simp at hz1
    have q10 : w.heap.size < w1.heap.size := by omega
    have q11 : w.heap.size + 1 < w1.heap.size := by omega
    have q12 : w.heap.size + 1 + 1 < w1.heap.size := by omega
    have HM : Hid (Mod (Since w.heap.size) w w1) := Lib.hid ((((Mod.refl (Since w.heap.size) w).alloc _).alloc _).alloc _ |>.ext hE1)
    clear hE1
    rw [ca]
    go_wp2_with fail
    refine (r_check b _).mono ?_
    rintro e w2 ⟨rfl, hE2⟩
    obtain ⟨hc2, hf2⟩ := bcell hE2
    have hz2 := hE2.size
    have q20 : w.heap.size < w2.heap.size := by omega
    have q21 : w.heap.size + 1 < w2.heap.size := by omega
    have q22 : w.heap.size + 1 + 1 < w2.heap.size := by omega
    have HM : Hid (Mod (Since w.heap.size) w w2) := Lib.hid (HM.out.ext hE2)
    clear hE2
    rw [cb]
    go_wp2_with fail
    refine (r_add _ _ _).mono ?_
    rintro e w3 ⟨rfl, hE3⟩
    rw [Hv.out]
    obtain ⟨hc3, hf3⟩ := bcell hE3
    have hz3 := hE3.size
    have q30 : w.heap.size < w3.heap.size := by omega
    have q31 : w.heap.size + 1 < w3.heap.size := by omega
    have q32 : w.heap.size + 1 + 1 < w3.heap.size := by omega
    have HM : Hid (Mod (Since w.heap.size) w w3) := Lib.hid (HM.out.ext hE3)
    clear hE3
    go_wp2
    refine bodyPost_ret (v := .tuple #[.agg #[.int .i64 1, .float .f64 r, .string ⟨#[]⟩], .int .i64 0]) (by simp [results, Try.results41, go_sem, hc1, hc2, hc3, q10, q11, q12, q20, q21, q22, q30, q31, q32]) rfl ⟨rfl, ?_⟩
    refine Mod.toExt ?_
    repeat (first | exact HM.out | (refine Mod.setCell ?_ (.inl (by first | omega | (simp <;> omega))) _) | refine Mod.alloc ?_ _)

set_option maxRecDepth 100000 in
set_option maxHeartbeats 1000000 in
theorem r_add5 (a b : AVal) (ha : a.num < 18446744073709551616) (hb : b.num < 18446744073709551616) (w : World) : Calls Try.prog 19 #[.agg #[.int .i64 a.kind, .float .f64 a.num, .string a.text], .agg #[.int .i64 b.kind, .float .f64 b.num, .string b.text]] w fun e w' =>
    e = .returned (.tuple #[.agg #[.int .i64 (joinV true a b).1.kind, .float .f64 (joinV true a b).1.num, .string (joinV true a b).1.text], .int .i64 (joinV true a b).2]) ∧ Ext w w' := by
  go_enter Try.func19, Try.ntmps19
  go_wp2_with fail
  refine (r_join a b true ha hb _).mono ?_
  rintro e w1 ⟨rfl, hE1⟩
  obtain ⟨hc1, hf1⟩ := bcell hE1
  have hz1 := hE1.size
  simp at hz1
  have q10 : w.heap.size < w1.heap.size := by omega
  have q11 : w.heap.size + 1 < w1.heap.size := by omega
  have q12 : w.heap.size + 1 + 1 < w1.heap.size := by omega
  have HM : Hid (Mod (Since w.heap.size) w w1) := Lib.hid ((((Mod.refl (Since w.heap.size) w).alloc _).alloc _).alloc _ |>.ext hE1)
  clear hE1
  go_wp2
  refine bodyPost_ret (v := .tuple #[.agg #[.int .i64 (joinV true a b).1.kind, .float .f64 (joinV true a b).1.num, .string (joinV true a b).1.text], .int .i64 (joinV true a b).2]) (by simp [results, Try.results19, go_sem, hc1, q10, q11, q12]) rfl ⟨rfl, ?_⟩
  refine Mod.toExt ?_
  repeat (first | exact HM.out | (refine Mod.setCell ?_ (.inl (by first | omega | (simp <;> omega))) _) | refine Mod.alloc ?_ _)

set_option maxRecDepth 100000 in
set_option maxHeartbeats 1000000 in
theorem r_max5 (a b : AVal) (ha : a.num < 18446744073709551616) (hb : b.num < 18446744073709551616) (w : World) : Calls Try.prog 20 #[.agg #[.int .i64 a.kind, .float .f64 a.num, .string a.text], .agg #[.int .i64 b.kind, .float .f64 b.num, .string b.text]] w fun e w' =>
    e = .returned (.tuple #[.agg #[.int .i64 (joinV false a b).1.kind, .float .f64 (joinV false a b).1.num, .string (joinV false a b).1.text], .int .i64 (joinV false a b).2]) ∧ Ext w w' := by
  go_enter Try.func20, Try.ntmps20
  go_wp2_with fail
  refine (r_join a b false ha hb _).mono ?_
  rintro e w1 ⟨rfl, hE1⟩
  obtain ⟨hc1, hf1⟩ := bcell hE1
  have hz1 := hE1.size
  simp at hz1
  have q10 : w.heap.size < w1.heap.size := by omega
  have q11 : w.heap.size + 1 < w1.heap.size := by omega
  have q12 : w.heap.size + 1 + 1 < w1.heap.size := by omega
  have HM : Hid (Mod (Since w.heap.size) w w1) := Lib.hid ((((Mod.refl (Since w.heap.size) w).alloc _).alloc _).alloc _ |>.ext hE1)
  clear hE1
  go_wp2
  refine bodyPost_ret (v := .tuple #[.agg #[.int .i64 (joinV false a b).1.kind, .float .f64 (joinV false a b).1.num, .string (joinV false a b).1.text], .int .i64 (joinV false a b).2]) (by simp [results, Try.results20, go_sem, hc1, q10, q11, q12]) rfl ⟨rfl, ?_⟩
  refine Mod.toExt ?_
  repeat (first | exact HM.out | (refine Mod.setCell ?_ (.inl (by first | omega | (simp <;> omega))) _) | refine Mod.alloc ?_ _)
end Go.Proofs.Ythhjaneadbkccaa
