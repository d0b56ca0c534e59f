/-
 Layer 27 (script): a float's sixteen digits: num.Text, and the page's Text. Conditions: the package variables are as start-up lays them (Glb).
-/
import Derived.Test.YtmebipnljkopgaaGreatDoorScrF
import Derived.Test.YtmebipnljkopgaaGreatDoorNum
namespace Go.Proofs.YtmebipnljkopgaaGreatDoor
set_option linter.unusedSimpArgs false
set_option linter.unusedVariables false
open Go.RowKit
attribute [local go_sem] call_frombits call_bits
theorem hexD_len : ∀ (k u : Nat), u < 16 ^ (k + 1) → (hexD u).length ≤ k + 1
  | 0, u, h => by rw [hexD_small (by simpa using h)]; simp
  | k + 1, u, h => by
    by_cases hu : u < 16
    · rw [hexD_small hu]; simp
    rw [hexD_big hu, List.length_append, List.length_cons, List.length_nil]
    have := hexD_len k (u / 16) (Nat.div_lt_of_lt_mul (by rw [Nat.mul_comm]; simpa [Nat.pow_succ] using h))
    omega
theorem hexK_zero : ∀ k, hexK k 0 = List.replicate k 48
  | 0 => rfl
  | k + 1 => by
    rw [hexK, Nat.zero_div, hexK_zero k, List.replicate_succ']
    rfl
theorem hexK_eq : ∀ (k u : Nat), u < 16 ^ (k + 1) → hexK (k + 1) u = List.replicate (k + 1 - (hexD u).length) 48 ++ hexD u
  | 0, u, h => by
    have hu : u < 16 := by simpa using h
    rw [hexD_small hu]
    simp [hexK, Nat.mod_eq_of_lt hu]
  | k + 1, u, h => by
    by_cases hu : u < 16
    · rw [hexD_small hu, hexK, Nat.div_eq_of_lt hu, hexK_zero, Nat.mod_eq_of_lt hu]
      simp
    have hd : u / 16 < 16 ^ (k + 1) := Nat.div_lt_of_lt_mul (by rw [Nat.mul_comm]; simpa [Nat.pow_succ] using h)
    have hl := hexD_len k (u / 16) hd
    rw [hexD_big hu, hexK, hexK_eq k (u / 16) hd, ← List.append_assoc]
    congr 2
    rw [List.length_append, List.length_cons, List.length_nil]
    congr 1
    omega
theorem hexD_ne (u : Nat) : 1 ≤ (hexD u).length := by
 rw [hexD]; split <;> simp
theorem repeat48 (c : Nat) : Lib.repeatL [48] c = List.replicate c 48 := by
 have := Lib.repeatL_replicate 48 1 c
 simpa using this
theorem bA_app (a b : List UInt8) : bA a ++ bA b = bA (a ++ b) := bsOf_inj (by simp [bsOf, bA])
set_option maxRecDepth 100000 in
set_option maxHeartbeats 400000 in
theorem n_text (x : Nat) (hx : x < 18446744073709551616) (w : World) (hg : Glb w) : Calls Tryz.prog 103 #[.float .f64 x] w fun e w' => e = .returned (.string (bA (textF x))) ∧ Ext w w' := by
 have hc := canon_lt hx
 have hl := hexD_len 15 (canon x) (by simpa using hc)
 have he : textF x = List.replicate (16 - (hexD (canon x)).length) 48 ++ hexD (canon x) := hexK_eq 15 (canon x) (by simpa using hc)
 have He := Lib.hid he
 clear he
 obtain ⟨l, hll⟩ : ∃ l, hexD (canon x) = l := ⟨_, rfl⟩
 have hfm := c_fmt (canon x) hc
 rw [hll] at hl hfm He
 obtain ⟨m, hm⟩ : ∃ m, l.length = m := ⟨_, rfl⟩
 have Hm := Lib.hid hm
 rw [hm] at hl
 have Hhl := Lib.hid hll
 clear hll
 have hsz : (bA l).size = m := by rw [← hm]; simp [bA, ByteArray.size]
 clear hm
 have hrep : ∀ W, Calls Tryz.prog 121 #[.string ⟨#[48]⟩, .int .i64 (16 - (m : Int))] W fun e w' => e = .returned (.string (bA (List.replicate (16 - m) 48))) ∧ Ext W w' := by
  intro W
  have h := Tryz.strings_Repeat ⟨#[48]⟩ (16 - m) W (by omega) (by show 1 * (16 - m) ≤ _; omega)
  rw [show (((16 - m : Nat)) : Int) = 16 - (m : Int) by omega] at h
  refine h.mono fun e w' hh => ?_
  obtain ⟨rfl, hb⟩ := hh
  exact ⟨by rw [← repeat48], Ext.of_below hb⟩
 go_enter Tryz.func103, Tryz.ntmps103
 go_wp2_with (first
  | (go_at_call 107; refine (canon_any x _).mono ?_; rintro e w1 ⟨rfl, rfl⟩)
  | (go_at_call 88; refine (hfm _ hg).mono ?_; rintro e w1 ⟨rfl, hE1⟩)
  | (go_at_call 121; refine (hrep _).mono ?_; rintro e w2 ⟨rfl, hE2⟩))
 go_ret
 exact ⟨by rw [He.out, Hm.out, bA_app]; rfl, hE1.ext hE2⟩
set_option maxRecDepth 100000 in
set_option maxHeartbeats 400000 in
theorem r_text (x : Nat) (hx : x < 18446744073709551616) (w : World) (hg : Glb w) : Calls Tryz.prog 64 #[.float .f64 x] w fun e w' => e = .returned (.string (bA (textF x))) ∧ Ext w w' := by
 have hc := canon_lt hx
 have hl := hexD_len 15 (canon x) (by simpa using hc)
 have he : textF x = List.replicate (16 - (hexD (canon x)).length) 48 ++ hexD (canon x) := hexK_eq 15 (canon x) (by simpa using hc)
 have He := Lib.hid he
 clear he
 obtain ⟨l, hll⟩ : ∃ l, hexD (canon x) = l := ⟨_, rfl⟩
 have hfm := c_fmt (canon x) hc
 rw [hll] at hl hfm He
 have Hhl := Lib.hid hll
 have Hl := Lib.hid hl
 clear hll hl
 go_enter Tryz.func64, Tryz.ntmps64
 go_wp2_with (first
  | (go_at_call 89; refine (refcanon_any x _).mono ?_; rintro e w1 ⟨rfl, rfl⟩)
  | (go_at_call 88; refine (hfm _ hg).mono ?_; rintro e w1 ⟨rfl, hE1⟩))
 go_loopw [3] (fun sv wr => ∃ j : Nat, j + l.length ≤ 16 ∧ sv = .string (bA (List.replicate j 48 ++ l)) ∧ wr = w1) (fun sv _ => match sv with | .string s => 16 - s.size | _ => 0)
 case atStart => exact ⟨0, by have := Hl.out; omega, rfl, rfl⟩
 case round =>
  obtain ⟨j, hj, rfl, rfl⟩ := hrel
  obtain ⟨m, hm⟩ : ∃ m, (bA (List.replicate j 48 ++ l)).size = m := ⟨_, rfl⟩
  have hm2 : m = j + l.length := by rw [← hm]; simp [bA, ByteArray.size]
  have Hm2 := Lib.hid hm2
  have hm16 : m ≤ 16 := by omega
  clear hm2 hj
  by_cases hlt : m < 16
  · go_wp2
    have e : (⟨#[48]⟩ : ByteArray) ++ bA (List.replicate j 48 ++ l) = bA (List.replicate (j + 1) 48 ++ l) := bA_app [48] _
    have e2 : (bA (List.replicate (j + 1) 48 ++ l)).size = m + 1 := by rw [Hm2.out]; simp [bA, ByteArray.size]; omega
    refine ⟨⟨j + 1, by have := Hm2.out; omega, by rw [e], trivial⟩, ?_⟩
    simp only [e, e2, hm]; omega
  have Hd : Hid (16 - l.length = j) := Lib.hid (by have := Hm2.out; omega)
  go_wp2
  go_ret
  exact ⟨by rw [He.out, Hd.out]; rfl, hE1⟩
end Go.Proofs.YtmebipnljkopgaaGreatDoor
