/-
 Contracts of the program's and the page's small functions on floats and values. Conditions: as each theorem names them.
-/
import Derived.Test.YtmebipnljkopgaaGreatDoorKeepF
import Derived.Test.YtmebipnljkopgaaGreatDoorGSpec
import Derived.Test.YtmebipnljkopgaaGreatDoorFloatOrd
import Derived.IntWalk
namespace Go.Proofs.YtmebipnljkopgaaGreatDoor
open Go.RowKit
attribute [local go_sem] call_frombits call_bits

set_option maxRecDepth 100000 in
set_option maxHeartbeats 400000 in
theorem nsame (a b : Nat) (w : World) : Calls Tryz.prog 86 #[.float .f64 a, .float .f64 b] w fun e w' => e = .returned (.bool (sameNum a b)) ∧ w = w' := by
 have e3 : ((canon a : Int) == (canon b : Int)) = sameNum a b := by unfold sameNum; rw [Bool.eq_iff_iff]; simp; omega
 go_enter Tryz.func86, Tryz.ntmps86
 go_wp2_with (go_at_call 107; refine (canon_any _ _).mono ?_; rintro e w' ⟨rfl, rfl⟩)
 go_ret
 exact ⟨rfl, rfl⟩
set_option maxRecDepth 100000 in
set_option maxHeartbeats 400000 in
theorem vcanon (a : Nat) (w : World) : Calls Tryz.prog 104 #[.float .f64 a] w fun e w' => e = .returned (.bool (canonB a)) ∧ w = w' := by
 have e3 : ((canon a : Int) == (a : Int)) = canonB a := by unfold canonB; rw [Bool.eq_iff_iff]; simp; omega
 go_enter Tryz.func104, Tryz.ntmps104
 go_wp2_with (go_at_call 107; refine (canon_any _ _).mono ?_; rintro e w' ⟨rfl, rfl⟩)
 go_ret
 exact ⟨rfl, rfl⟩

theorem canon_zero' : canon 0 = 0 := by kernel_rfl
theorem same_zero (n : Nat) : sameNum n 0 = decide (n = 0) := by
 unfold sameNum
 rw [canon_zero', Bool.eq_iff_iff, beq_iff_eq, decide_eq_true_iff]
 unfold canon
 split
 ·
  rename_i h
  constructor
  ·
   intro h'; simp [theNaN] at h'
  ·
   rintro rfl; revert h; decide +kernel
 ·
  exact Iff.rfl
theorem canonB_iff (n : Nat) : canonB n = !(decide (isNaN n = true ∧ n ≠ theNaN)) := by
 unfold canonB canon
 by_cases h : isNaN n = true
 ·
  rw [if_pos h]
  rw [Bool.eq_iff_iff, beq_iff_eq]
  simp [h]
  exact eq_comm
 ·
  rw [if_neg h]; simp [h]
theorem isNaN_zero : isNaN 0 = false := by kernel_rfl
theorem chk0 (x : Nat) (t : ByteArray) : chk ⟨0, x, t⟩ = if (sameNum x 0 && isEmptyT t) = true then 0 else 8 := by
 rw [same_zero]
 unfold chk
 by_cases h : x = 0
 ·
  subst h; rcases isEmptyT t with _ | _ <;> simp [isNaN_zero]
 ·
  rcases isEmptyT t with _ | _ <;> simp [h]
theorem chk1 (x : Nat) (t : ByteArray) : chk ⟨1, x, t⟩ = if (canonB x && isEmptyT t) = true then 0 else 8 := by
 rw [canonB_iff]
 unfold chk
 by_cases h : isNaN x = true ∧ x ≠ theNaN
 ·
  rcases isEmptyT t with _ | _ <;> simp [h]
 ·
  rcases isEmptyT t with _ | _ <;> simp [h]
theorem chk2 (x : Nat) (t : ByteArray) : chk ⟨2, x, t⟩ = if 32 < t.size then 2 else if sameNum x 0 = true then 0 else 8 := by
 rw [same_zero]
 unfold chk
 by_cases h : x = 0
 ·
  subst h; by_cases h2 : 32 < t.size <;> simp [h2, isNaN_zero]
 ·
  by_cases h2 : 32 < t.size <;> simp [h, h2]
theorem chk3 {k : Int} (x : Nat) (t : ByteArray) (h0 : k ≠ 0) (h1 : k ≠ 1) (h2 : k ≠ 2) : chk ⟨k, x, t⟩ = 15 := by
 unfold chk
 rw [if_pos (by simp only; omega)]

set_option maxRecDepth 100000 in
set_option maxHeartbeats 1000000 in
theorem v_check (v : AVal) (w : World) : Calls Tryz.prog 77 #[.agg #[.int .i64 v.kind, .float .f64 v.num, .string v.text]] w fun e w' => e = .returned (.int .i64 (chk v)) ∧ Ext w w' := by
 obtain ⟨k, x, t⟩ := v
 have hT : t.toList.isEmpty = isEmptyT t := rfl
 have hE : Ext w (w.alloc (.cells #[.int .i64 k, .float .f64 x, .string t] 24)) := (Mod.refl _ w).alloc _
 simp only
 by_cases h0 : k = 0
 ·
  subst h0
  rw [chk0]
  rcases hs : sameNum x 0 with _ | _ <;> rcases he : isEmptyT t with _ | _
  all_goals
   rw [he] at hT
   go_enter Tryz.func77, Tryz.ntmps77
   go_wp2_with (go_at_call 86; refine (nsame _ _ _).mono ?_; rintro e w' ⟨rfl, rfl⟩)
   go_ret
   exact ⟨rfl, hE⟩
 by_cases h1 : k = 1
 ·
  subst h1
  rw [chk1]
  rcases hs : canonB x with _ | _ <;> rcases he : isEmptyT t with _ | _
  all_goals
   rw [he] at hT
   go_enter Tryz.func77, Tryz.ntmps77
   go_wp2_with (first | (go_at_call 86; refine (nsame _ _ _).mono ?_; rintro e w' ⟨rfl, rfl⟩) | (go_at_call 104; refine (vcanon _ _).mono ?_; rintro e w' ⟨rfl, rfl⟩))
   go_ret
   exact ⟨rfl, hE⟩
 by_cases h2 : k = 2
 ·
  subst h2
  rw [chk2]
  by_cases hl : 32 < t.size
  ·
   rw [if_pos hl]
   have d : decide ((32 : Int) < (t.size : Int)) = true := by simp; omega
   go_enter Tryz.func77, Tryz.ntmps77
   go_wp2_with (go_at_call 86; refine (nsame _ _ _).mono ?_; rintro e w' ⟨rfl, rfl⟩)
   go_ret
   exact ⟨rfl, hE⟩
  ·
   rw [if_neg hl]
   have d : decide ((32 : Int) < (t.size : Int)) = false := by simp; omega
   rcases hs : sameNum x 0 with _ | _
   all_goals
    go_enter Tryz.func77, Tryz.ntmps77
    go_wp2_with (go_at_call 86; refine (nsame _ _ _).mono ?_; rintro e w' ⟨rfl, rfl⟩)
    go_ret
    exact ⟨rfl, hE⟩
 ·
  rw [chk3 x t h0 h1 h2]
  have k0 : (k == 0) = false := by simpa using h0
  have k1 : (k == 1) = false := by simpa using h1
  have k2 : (k == 2) = false := by simpa using h2
  clear h0 h1 h2
  go_enter Tryz.func77, Tryz.ntmps77
  go_wp2_with (go_at_call 86; refine (nsame _ _ _).mono ?_; rintro e w' ⟨rfl, rfl⟩)
  go_ret
  exact ⟨rfl, hE⟩
end Go.Proofs.YtmebipnljkopgaaGreatDoor
