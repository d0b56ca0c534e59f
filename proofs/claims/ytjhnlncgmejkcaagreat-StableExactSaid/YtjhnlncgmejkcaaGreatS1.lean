/-
  Contracts of the small functions on floats (num.Canon, math.IsNaN, the references' Canon), bit by bit. Conditions: none.
-/
import Derived.Test.YtjhnlncgmejkcaaGreatRows
import Derived.Test.YtjhnlncgmejkcaaGreatGSpec
import Derived.IntWalk
set_option maxRecDepth 100000
set_option maxHeartbeats 1000000
namespace Go.Proofs.YtjhnlncgmejkcaaGreat
open Go.RowKit
theorem yP (n : Int) (w : World) : (callFunc 185 #[.int .u64 n]).run Tryz.prog w = .ok (.value (.float .f64 n.toNat)) w := by kernel_rfl
theorem jA (n : Nat) (w : World) : (callFunc 111 #[.float .f64 n]).run Tryz.prog w = .ok (.value (.int .u64 n)) w := by kernel_rfl
attribute [local go_sem] yP jA
theorem nan_any (w : World) : Calls Tryz.prog 206 #[] w fun e w' => e = .returned (.float .f64 zaQ) ∧ w = w' := by
 go_enter Tryz.func206, Tryz.ntmps206
 go_wp2
 go_ret
 exact ⟨rfl, rfl⟩
theorem ziN (x : Nat) (w : World) : Calls Tryz.prog 205 #[.float .f64 x] w fun e w' => e = .returned (.bool (zaG x)) ∧ w = w' := by
 go_enter Tryz.func205, Tryz.ntmps205
 go_wp2
 go_ret
 exact ⟨rfl, rfl⟩
theorem zbZ {x : Nat} (h : zaG x = true) : yU x = zaQ := by unfold yU; rw [if_pos h]
theorem zdM {x : Nat} (h : zaG x = false) : yU x = x := by unfold yU; rw [if_neg (by rw [h]; decide)]
theorem zbG (x : Nat) (w : World) : Calls Tryz.prog 199 #[.float .f64 x] w fun e w' => e = .returned (.float .f64 (yU x)) ∧ w = w' := by
 rcases hn : zaG x with _ | _
 ·
  rw [zdM hn]
  go_enter Tryz.func199, Tryz.ntmps199
  go_wp2_with (go_at_call 205; refine (ziN _ _).mono ?_; rintro e w' ⟨rfl, rfl⟩)
  go_ret
  exact ⟨rfl, rfl⟩
 rw [zbZ hn]
 go_enter Tryz.func199, Tryz.ntmps199
 go_wp2_with (first | (go_at_call 205; refine (ziN _ _).mono ?_; rintro e w' ⟨rfl, rfl⟩) | (go_at_call 206; refine (nan_any _).mono ?_; rintro e w' ⟨rfl, rfl⟩))
 go_ret
 exact ⟨rfl, rfl⟩
theorem jU (w : World) : Calls Tryz.prog 147 #[] w fun e w' => e = .returned (.float .f64 zaQ) ∧ w = w' := by
 go_enter Tryz.func147, Tryz.ntmps147
 go_wp2
 go_ret
 exact ⟨rfl, rfl⟩
theorem zeW (x : Nat) (w : World) : Calls Tryz.prog 112 #[.float .f64 x] w fun e w' => e = .returned (.float .f64 (yU x)) ∧ w = w' := by
 rcases hn : zaG x with _ | _
 ·
  rw [zdM hn]
  unfold zaG at hn
  go_enter Tryz.func112, Tryz.ntmps112
  go_wp2
  go_ret
  exact ⟨rfl, rfl⟩
 rw [zbZ hn]
 unfold zaG at hn
 go_enter Tryz.func112, Tryz.ntmps112
 go_wp2_with (go_at_call 147; refine (jU _).mono ?_; rintro e w' ⟨rfl, rfl⟩)
 go_ret
 exact ⟨rfl, rfl⟩
end Go.Proofs.YtjhnlncgmejkcaaGreat
namespace Go.Proofs.YtjhnlncgmejkcaaGreat
open Go.RowKit
attribute [local go_sem] yP jA
theorem znU (a b : Nat) (w : World) : Calls Tryz.prog 187 #[.float .f64 a, .float .f64 b] w fun e w' => e = .returned (.bool (zgS a b)) ∧ w = w' := by
 have e1 : (FloatKind.f64.format.order a a != some Ordering.eq) = zaG a := rfl
 have e2 : (FloatKind.f64.format.order b b != some Ordering.eq) = zaG b := rfl
 have e3 : ((a : Int) == (b : Int)) = (a == b) := by rw [Bool.eq_iff_iff]; simp; omega
 rcases h1 : zaG a with _ | _ <;> rcases h2 : zaG b with _ | _
 all_goals
  have Hf : Hid (zgS a b = _) := hJ (by unfold zgS; rw [h1, h2])
  go_enter Tryz.func187, Tryz.ntmps187
  go_wp2
  go_ret
  exact ⟨zP (by rw [Hf.out]; simp), rfl⟩
theorem znV (a b : jY) (w : World) : Calls Tryz.prog 160 #[.agg #[.int .i64 a.kind, .float .f64 a.num, .string a.text], .agg #[.int .i64 b.kind, .float .f64 b.num, .string b.text]] w fun e w' => e = .returned (.bool (zdB a b)) ∧ Ext w w' := by
 have hT : (a.text.toList == b.text.toList) = eqT a.text b.text := rfl
 rcases h1 : (a.kind == b.kind) with _ | _
 ·
  go_enter Tryz.func160, Tryz.ntmps160
  go_wp2
  go_ret
  exact ⟨zP (by simp [zdB, h1]), ((Mod.refl _ w).alloc _).alloc _⟩
 rcases h2 : zgS a.num b.num with _ | _
 ·
  go_enter Tryz.func160, Tryz.ntmps160
  go_wp2_with (go_at_call 187; refine (znU _ _ _).mono ?_; rintro e w' ⟨rfl, rfl⟩)
  go_ret
  exact ⟨zP (by simp [zdB, h2]), ((Mod.refl _ w).alloc _).alloc _⟩
 go_enter Tryz.func160, Tryz.ntmps160
 go_wp2_with (go_at_call 187; refine (znU _ _ _).mono ?_; rintro e w' ⟨rfl, rfl⟩)
 go_ret
 exact ⟨zP (by simp [zdB, h1, h2]), ((Mod.refl _ w).alloc _).alloc _⟩
end Go.Proofs.YtjhnlncgmejkcaaGreat
namespace Go.Proofs.YtjhnlncgmejkcaaGreat
def rungV (r : Nat) : Nat := if r < 4503599627370496 then r else (4503599627370496 + r % 4503599627370496) * 2 ^ (r / 4503599627370496 - 1)
def sgnB (x : Nat) : Bool := decide (9223372036854775808 ≤ x)
def rungB (x : Nat) : Nat := x % 9223372036854775808
def sv (x : Nat) : Int := if sgnB x then -(rungV (rungB x) : Int) else (rungV (rungB x) : Int)
end Go.Proofs.YtjhnlncgmejkcaaGreat
namespace Go.Proofs.YtjhnlncgmejkcaaGreat
open Go.RowKit
attribute [local go_sem] yP jA
theorem zj3 (a b : Nat) (w : World) : Calls Tryz.prog 188 #[.float .f64 a, .float .f64 b] w fun e w' => e = .returned (.bool (xC a b)) ∧ w = w' := by
 have e3 : ((yU a : Int) == (yU b : Int)) = xC a b := by unfold xC; rw [Bool.eq_iff_iff]; simp; omega
 go_enter Tryz.func188, Tryz.ntmps188
 go_wp2_with (go_at_call 199; refine (zbG _ _).mono ?_; rintro e w' ⟨rfl, rfl⟩)
 go_ret
 exact ⟨rfl, rfl⟩
theorem vcanon (a : Nat) (w : World) : Calls Tryz.prog 200 #[.float .f64 a] w fun e w' => e = .returned (.bool (za4 a)) ∧ w = w' := by
 have e3 : ((yU a : Int) == (a : Int)) = za4 a := by unfold za4; rw [Bool.eq_iff_iff]; simp; omega
 go_enter Tryz.func200, Tryz.ntmps200
 go_wp2_with (go_at_call 199; refine (zbG _ _).mono ?_; rintro e w' ⟨rfl, rfl⟩)
 go_ret
 exact ⟨rfl, rfl⟩
theorem zj4 : yU 0 = 0 := by kernel_rfl
theorem zdN (n : Nat) : xC n 0 = decide (n = 0) := by
 unfold xC
 rw [zj4, Bool.eq_iff_iff, beq_iff_eq, decide_eq_true_iff]
 unfold yU
 split
 ·
  rename_i h
  constructor
  · intro h'; simp [zaQ] at h'
  rintro rfl; revert h; decide +kernel
 exact Iff.rfl
theorem zg0 (n : Nat) : za4 n = !(decide (zaG n = true ∧ n ≠ zaQ)) := by
 unfold za4 yU
 by_cases h : zaG n = true
 ·
  rw [if_pos h]
  rw [Bool.eq_iff_iff, beq_iff_eq]
  simp [h]
  exact eq_comm
 rw [if_neg h]; simp [h]
theorem zg1 : zaG 0 = false := by kernel_rfl
theorem chk0 (x : Nat) (t : ByteArray) : chk ⟨0, x, t⟩ = if (xC x 0 && zX t) = true then 0 else 8 := by
 rw [zdN]
 unfold chk
 by_cases h : x = 0
 · subst h; rcases zX t with _ | _ <;> simp [zg1]
 rcases zX t with _ | _ <;> simp [h]
theorem chk1 (x : Nat) (t : ByteArray) : chk ⟨1, x, t⟩ = if (za4 x && zX t) = true then 0 else 8 := by
 rw [zg0]
 unfold chk
 by_cases h : zaG x = true ∧ x ≠ zaQ
 · rcases zX t with _ | _ <;> simp [h]
 rcases zX t with _ | _ <;> simp [h]
theorem chk2 (x : Nat) (t : ByteArray) : chk ⟨2, x, t⟩ = if 32 < t.size then 2 else if xC x 0 = true then 0 else 8 := by
 rw [zdN]
 unfold chk
 by_cases h : x = 0
 · subst h; by_cases h2 : 32 < t.size <;> simp [h2, zg1]
 by_cases h2 : 32 < t.size <;> simp [h, h2]
theorem chk3 {k : Int} (x : Nat) (t : ByteArray) (h0 : k ≠ 0) (h1 : k ≠ 1) (h2 : k ≠ 2) : chk ⟨k, x, t⟩ = 15 := by
 unfold chk
 rw [if_pos (by simp only; omega)]
theorem znW (v : jY) (w : World) : Calls Tryz.prog 190 #[.agg #[.int .i64 v.kind, .float .f64 v.num, .string v.text]] w fun e w' => e = .returned (.int .i64 (chk v)) ∧ Ext w w' := by
 obtain ⟨k, x, t⟩ := v
 have hT : t.toList.isEmpty = zX t := rfl
 have hE : Ext w (w.alloc (.cells #[.int .i64 k, .float .f64 x, .string t] 50)) := (Mod.refl _ w).alloc _
 simp only
 by_cases h0 : k = 0
 ·
  subst h0
  rw [chk0]
  rcases hs : xC x 0 with _ | _ <;> rcases he : zX t with _ | _
  all_goals
   rw [he] at hT
   go_enter Tryz.func190, Tryz.ntmps190
   go_wp2_with (go_at_call 188; refine (zj3 _ _ _).mono ?_; rintro e w' ⟨rfl, rfl⟩)
   go_ret
   exact ⟨rfl, hE⟩
 by_cases h1 : k = 1
 ·
  subst h1
  rw [chk1]
  rcases hs : za4 x with _ | _ <;> rcases he : zX t with _ | _
  all_goals
   rw [he] at hT
   go_enter Tryz.func190, Tryz.ntmps190
   go_wp2_with (first | (go_at_call 188; refine (zj3 _ _ _).mono ?_; rintro e w' ⟨rfl, rfl⟩) | (go_at_call 200; refine (vcanon _ _).mono ?_; rintro e w' ⟨rfl, rfl⟩))
   go_ret
   exact ⟨rfl, hE⟩
 by_cases h2 : k = 2
 ·
  subst h2
  rw [chk2]
  by_cases hl : 32 < t.size
  ·
   rw [if_pos hl]
   have d : decide ((32 : Int) < (t.size : Int)) = true := by simp; omega
   go_enter Tryz.func190, Tryz.ntmps190
   go_wp2_with (go_at_call 188; refine (zj3 _ _ _).mono ?_; rintro e w' ⟨rfl, rfl⟩)
   go_ret
   exact ⟨rfl, hE⟩
  rw [if_neg hl]
  have d : decide ((32 : Int) < (t.size : Int)) = false := by simp; omega
  rcases hs : xC x 0 with _ | _
  all_goals
   go_enter Tryz.func190, Tryz.ntmps190
   go_wp2_with (go_at_call 188; refine (zj3 _ _ _).mono ?_; rintro e w' ⟨rfl, rfl⟩)
   go_ret
   exact ⟨rfl, hE⟩
 rw [chk3 x t h0 h1 h2]
 have k0 : (k == 0) = false := by simpa using h0
 have k1 : (k == 1) = false := by simpa using h1
 have k2 : (k == 2) = false := by simpa using h2
 clear h0 h1 h2
 go_enter Tryz.func190, Tryz.ntmps190
 go_wp2_with (go_at_call 188; refine (zj3 _ _ _).mono ?_; rintro e w' ⟨rfl, rfl⟩)
 go_ret
 exact ⟨rfl, hE⟩
end Go.Proofs.YtjhnlncgmejkcaaGreat
