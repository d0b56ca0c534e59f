/-
  Contracts of the program's and the page's sums and greater ones of floats. Conditions: as each theorem names them.
-/
import Derived.Test.YthhjaneadbkccaaKvVal
import Derived.Laws.FloatArith
namespace Go.Proofs.Ythhjaneadbkccaa
open Go.RowKit
attribute [local go_sem] call_frombits call_bits

theorem ret_float {k : FloatKind} {a b : Nat} (h : a = b) : Ending.returned (.float k a) = .returned (.float k b) := by rw [h]
/-- The bits of a sum, be it a NaN or not. -/
theorem run_addF (a b : Nat) (t : TypeId) (w : World) : ∃ r q, (binOp .add t (.float .f64 a) (.float .f64 b)).run Try.prog w = .ok (.float .f64 r) (w.drewN q) ∧ canon r = addF a b := by
  rcases h : FloatKind.f64.format.add a b with _ | r
  · refine ⟨Question.cut (.nanBits .f64 a b) (w.tape w.drawn (.nanBits .f64 a b)), 1, ?_, ?_⟩
    · simp [binOp, Op.floatArith, h, Question.forced]
      rfl
    · unfold addF
      rw [h]
      exact canon_yes (nan_bits _)
  · refine ⟨r, 0, run_float_arith (P := Try.prog) w .add t .f64 a b r h, ?_⟩
    unfold addF
    rw [h]
set_option maxRecDepth 100000 in
set_option maxHeartbeats 400000 in
theorem n_add (a b : Nat) (w : World) : Calls Try.prog 63 #[.float .f64 a, .float .f64 b] w fun e w' => e = .returned (.float .f64 (addF a b)) ∧ Ext w w' := by
  obtain ⟨r, q, hr, hc⟩ := run_addF a b 23 w
  have HC := Lib.hid hc
  clear hc
  go_enter Try.func63, Try.ntmps63
  go_wp2_with (go_at_call 67; refine (canon_any _ _).mono ?_; rintro e w' ⟨rfl, rfl⟩)
  go_ret
  exact ⟨ret_float HC.out, (Mod.refl _ w).drewN q⟩
set_option maxRecDepth 100000 in
set_option maxHeartbeats 400000 in
theorem r_add (a b : Nat) (w : World) : Calls Try.prog 54 #[.float .f64 a, .float .f64 b] w fun e w' => e = .returned (.float .f64 (addF a b)) ∧ Ext w w' := by
  obtain ⟨r, q, hr, hc⟩ := run_addF a b 23 w
  have HC := Lib.hid hc
  clear hc
  go_enter Try.func54, Try.ntmps54
  go_wp2_with (go_at_call 65; refine (refcanon_any _ _).mono ?_; rintro e w' ⟨rfl, rfl⟩)
  go_ret
  exact ⟨ret_float HC.out, (Mod.refl _ w).drewN q⟩
theorem sgn_conv {a : Nat} (h : a < 18446744073709551616) : decide (wrap64 (a : Int) < 0) = sgnB a := by
  unfold sgnB wrap64
  rw [decide_eq_decide]
  omega
set_option maxRecDepth 100000 in
set_option maxHeartbeats 400000 in
theorem m_sign (a : Nat) (h : a < 18446744073709551616) (w : World) : Calls Try.prog 75 #[.float .f64 a] w fun e w' => e = .returned (.bool (sgnB a)) ∧ w = w' := by
  have hs := sgn_conv h
  go_enter Try.func75, Try.ntmps75
  go_wp2
  go_ret
  exact ⟨rfl, rfl⟩
set_option maxRecDepth 100000 in
set_option maxHeartbeats 400000 in
theorem n_less (a b : Nat) (ha : a < 18446744073709551616) (hb : b < 18446744073709551616) (na : isNaN a = false) (nb : isNaN b = false) (w : World) : Calls Try.prog 72 #[.float .f64 a, .float .f64 b] w fun e w' => e = .returned (.bool (lessF a b)) ∧ w = w' := by
  rw [← lessG_eq ha hb na nb]
  unfold lessG
  rcases ho : (FloatKind.f64.format.order a b == some Ordering.eq) with _ | _
  · go_enter Try.func72, Try.ntmps72
    go_wp2_with (go_at_call 70; refine (isnan_any _ _).mono ?_; rintro e w' ⟨rfl, rfl⟩)
    go_ret
    exact ⟨rfl, rfl⟩
  · rcases hs : sgnB a with _ | _
    all_goals
      go_enter Try.func72, Try.ntmps72
      go_wp2_with (first | (go_at_call 70; refine (isnan_any _ _).mono ?_; rintro e w' ⟨rfl, rfl⟩) | (go_at_call 75; refine (m_sign _ (by assumption) _).mono ?_; rintro e w' ⟨rfl, rfl⟩))
      go_ret
      exact ⟨rfl, rfl⟩
set_option maxRecDepth 100000 in
set_option maxHeartbeats 400000 in
theorem n_max (a b : Nat) (ha : a < 18446744073709551616) (hb : b < 18446744073709551616) (w : World) : Calls Try.prog 64 #[.float .f64 a, .float .f64 b] w fun e w' => e = .returned (.float .f64 (maxF a b)) ∧ Ext w w' := by
  unfold maxF
  rcases na : isNaN a with _ | _
  · rcases nb : isNaN b with _ | _
    · rcases hl : lessF a b with _ | _
      all_goals
        go_enter Try.func64, Try.ntmps64
        go_wp2_with (first | (go_at_call 70; refine (isnan_any _ _).mono ?_; rintro e w' ⟨rfl, rfl⟩) | (go_at_call 72; refine (n_less _ _ ha hb na nb _).mono ?_; rintro e w' ⟨rfl, rfl⟩))
        go_ret
        exact ⟨rfl, Mod.refl _ _⟩
    · go_enter Try.func64, Try.ntmps64
      go_wp2_with (first | (go_at_call 70; refine (isnan_any _ _).mono ?_; rintro e w' ⟨rfl, rfl⟩) | (go_at_call 71; refine (nan_any _).mono ?_; rintro e w' ⟨rfl, rfl⟩))
      go_ret
      exact ⟨rfl, Mod.refl _ _⟩
  · go_enter Try.func64, Try.ntmps64
    go_wp2_with (first | (go_at_call 70; refine (isnan_any _ _).mono ?_; rintro e w' ⟨rfl, rfl⟩) | (go_at_call 71; refine (nan_any _).mono ?_; rintro e w' ⟨rfl, rfl⟩))
    go_ret
    exact ⟨rfl, Mod.refl _ _⟩
theorem bv_nat {x : Nat} (h : x < 18446744073709551616) : (BitVec.ofInt 64 (x : Int)).toNat = x := by
  rw [BitVec.ofInt_natCast, BitVec.toNat_ofNat]; exact Nat.mod_eq_of_lt (by omega)
theorem rank_hi {a : Nat} (hc : canon a < 18446744073709551616) (h : ((canon a : Int) / 9223372036854775808 == 1) = true) : bits .xor .u64 IntKind.u64.max (canon a : Int) = (rank a : Nat) := by
  have h1 : (canon a : Int) / 9223372036854775808 = 1 := by simpa using h
  have e : IntKind.u64.max = ((18446744073709551615 : Nat) : Int) := by decide
  unfold rank
  rw [if_pos (by omega), e]
  show IntKind.u64.wrap ((BitVec.ofInt 64 ((18446744073709551615 : Nat) : Int) ^^^ BitVec.ofInt 64 (canon a : Int)).toNat : Int) = _
  have e2 : BitVec.ofInt 64 ((18446744073709551615 : Nat) : Int) = BitVec.allOnes 64 := by decide
  rw [e2, ← BitVec.not_def, BitVec.toNat_not, bv_nat hc]
  simp [IntKind.wrap, IntKind.bits, IntKind.signed]
  omega
theorem rank_lo {a : Nat} (hc : canon a < 18446744073709551616) (h : ((canon a : Int) / 9223372036854775808 == 1) = false) : bits .or .u64 (canon a : Int) 9223372036854775808 = (rank a : Nat) := by
  have h1 : (canon a : Int) / 9223372036854775808 ≠ 1 := by simpa using h
  unfold rank
  rw [if_neg (by omega)]
  show IntKind.u64.wrap ((BitVec.ofInt 64 (canon a : Int) ||| BitVec.ofInt 64 ((9223372036854775808 : Nat) : Int)).toNat : Int) = _
  rw [BitVec.toNat_or, bv_nat hc, bv_nat (by omega)]
  have e : canon a ||| 9223372036854775808 = canon a + 9223372036854775808 := by
    have := Nat.two_pow_add_eq_or_of_lt (i := 63) (b := canon a) (by omega) 1
    rw [Nat.or_comm]
    simpa [Nat.add_comm] using this.symm
  rw [e]
  simp [IntKind.wrap, IntKind.bits, IntKind.signed]
  omega
set_option maxRecDepth 100000 in
set_option maxHeartbeats 400000 in
theorem r_rank (a : Nat) (ha : a < 18446744073709551616) (w : World) : Calls Try.prog 73 #[.float .f64 a] w fun e w' => e = .returned (.int .u64 (rank a : Nat)) ∧ w = w' := by
  have hc : canon a < 18446744073709551616 := by
    unfold canon; split
    · decide
    · exact ha
  go_enter Try.func73, Try.ntmps73
  go_wp2_with (go_at_call 65; refine (refcanon_any _ _).mono ?_; rintro e w' ⟨rfl, rfl⟩)
  · go_ret
    exact ⟨ret_int (rank_hi hc (by assumption)), rfl⟩
  · go_ret
    exact ⟨ret_int (rank_lo hc (by assumption)), rfl⟩
set_option maxRecDepth 100000 in
set_option maxHeartbeats 400000 in
theorem r_less (a b : Nat) (ha : a < 18446744073709551616) (hb : b < 18446744073709551616) (w : World) : Calls Try.prog 66 #[.float .f64 a, .float .f64 b] w fun e w' => e = .returned (.bool (lessF a b)) ∧ w = w' := by
  have e : decide ((rank a : Int) < (rank b : Int)) = lessF a b := by unfold lessF; rw [decide_eq_decide]; omega
  have H := Lib.hid e
  clear e
  go_enter Try.func66, Try.ntmps66
  go_wp2_with (go_at_call 73; refine (r_rank _ (by assumption) _).mono ?_; rintro e w' ⟨rfl, rfl⟩)
  go_ret
  exact ⟨ret_bool (by rw [← H.out]; rw [decide_eq_decide]; omega), rfl⟩
set_option maxRecDepth 100000 in
set_option maxHeartbeats 400000 in
theorem r_max (a b : Nat) (ha : a < 18446744073709551616) (hb : b < 18446744073709551616) (w : World) : Calls Try.prog 55 #[.float .f64 a, .float .f64 b] w fun e w' => e = .returned (.float .f64 (maxF a b)) ∧ Ext w w' := by
  have e1 : (FloatKind.f64.format.order a a != some Ordering.eq) = isNaN a := rfl
  have e2 : (FloatKind.f64.format.order b b != some Ordering.eq) = isNaN b := rfl
  unfold maxF
  rcases na : isNaN a with _ | _
  · rcases nb : isNaN b with _ | _
    · rcases hl : lessF a b with _ | _
      all_goals
        rw [na] at e1
        rw [nb] at e2
        go_enter Try.func55, Try.ntmps55
        go_wp2_with (go_at_call 66; refine (r_less _ _ ha hb _).mono ?_; rintro e w' ⟨rfl, rfl⟩)
        go_ret
        exact ⟨rfl, Mod.refl _ _⟩
    · rw [na] at e1
      rw [nb] at e2
      go_enter Try.func55, Try.ntmps55
      go_wp2_with (go_at_call 40; refine (refnan_any _).mono ?_; rintro e w' ⟨rfl, rfl⟩)
      go_ret
      exact ⟨rfl, Mod.refl _ _⟩
  · rw [na] at e1
    go_enter Try.func55, Try.ntmps55
    go_wp2_with (go_at_call 40; refine (refnan_any _).mono ?_; rintro e w' ⟨rfl, rfl⟩)
    go_ret
    exact ⟨rfl, Mod.refl _ _⟩
end Go.Proofs.Ythhjaneadbkccaa
