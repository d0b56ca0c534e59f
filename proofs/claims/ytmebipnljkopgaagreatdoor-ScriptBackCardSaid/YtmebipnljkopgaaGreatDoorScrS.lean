/-
 Layer 27 (script): the page's number, whole, Number, key, values. Conditions: the text is no longer than 100000 bytes; the package variables are as start-up lays them (Glb).
-/
import Derived.Test.YtmebipnljkopgaaGreatDoorScrX
namespace Go.Proofs.YtmebipnljkopgaaGreatDoor
set_option linter.unusedSimpArgs false
set_option linter.unusedVariables false
open Go.RowKit
theorem r_number (n : Int) (h0 : -9223372036854775808 ≤ n) (h1 : n ≤ 9223372036854775807) (w : World) (hg : Glb w) :
  Calls Tryz.prog 60 #[.int .i64 n] w fun e w' => e = .returned (.string (bA (Lib.itoa n))) ∧ Ext w w' := by
 have h := c_itoa n h0 h1 w hg
 obtain ⟨z, hz⟩ : ∃ z, bA (Lib.itoa n) = z := ⟨_, rfl⟩
 rw [hz] at h ⊢
 clear hz hg
 go_enter Tryz.func60, Tryz.ntmps60
 go_wp2_with (go_at_call 46; refine h.mono ?_; rintro e w3 ⟨rfl, hE3⟩)
 go_ret
 exact ⟨rfl, hE3⟩
theorem whole_lo {N d Q : Int} (hN : -9223372036854775808 ≤ N) (hN0 : N ≤ 0) (hd : 0 ≤ d) (hd9 : d ≤ 9) (hQ : Int.tdiv (-9223372036854775808 + d) 10 = Q) (h : ¬ N < Q) : -9223372036854775808 ≤ 10 * N - d ∧ -9223372036854775808 ≤ 10 * N ∧ 10 * N - d ≤ 0 := by
 have : Int.tdiv (-9223372036854775808 + d) 10 = -((9223372036854775808 - d) / 10) := by
  rw [show (-9223372036854775808 + d : Int) = -(9223372036854775808 - d) by omega, Int.neg_tdiv, Int.tdiv_eq_ediv_of_nonneg (by omega)]
 omega
def WholeOut (l : List UInt8) (w : World) (e : Ending) (w' : World) : Prop := e = .returned (.tuple #[.int .i64 ((wholeL l).getD 0), .bool (wholeL l).isSome]) ∧ w' = w
set_option maxRecDepth 100000 in
set_option maxHeartbeats 1000000 in
theorem r_whole_loop (l : List UInt8) (N : Int) (k : Nat) (c : UInt8) (hc : l[k]? = some c) : wholeG N (l.drop k) = if (c.toNat : Int) - 48 < 0 ∨ 9 < (c.toNat : Int) - 48 ∨ N < Int.tdiv (-9223372036854775808 + ((c.toNat : Int) - 48)) 10 then none else wholeG (10 * N - ((c.toNat : Int) - 48)) (l.drop (k + 1)) := by
 obtain ⟨h1, rfl⟩ := List.getElem?_eq_some_iff.1 hc
 rw [List.drop_eq_getElem_cons h1, wholeG]
set_option maxRecDepth 100000 in
set_option maxHeartbeats 1000000 in
theorem r_whole (s : ByteArray) (w : World) (hs : s.size ≤ 100000) : Calls Tryz.prog 79 #[.string s] w (WholeOut (bsOf s) w) := by
 obtain ⟨l, hl⟩ : ∃ l, bsOf s = l := ⟨_, rfl⟩
 have hsz : s.size = l.length := by rw [← hl]; rfl
 rw [hl]
 rcases hll : l with _ | ⟨c0, r0⟩
 · subst hll
   obtain rfl : s = ⟨#[]⟩ := bsOf_inj hl
   clear hl hsz
   go_enter Tryz.func79, Tryz.ntmps79
   go_wp2
   go_ret2
   exact ⟨rfl, rfl⟩
 rw [← hll]
 have x0 : ∀ W, (Instr.index 9 (.string s) (.int .i64 0)).run Tryz.prog W = .ok (.int .u8 (c0.toNat : Int)) W := fun W => run_hd (hl.trans hll) W
 obtain ⟨n, hn⟩ : ∃ n, s.size = n := ⟨_, rfl⟩
 have Hln : Hid (l.length = n) := Lib.hid (by omega)
 have hn1 : n ≤ 100000 := by omega
 have hn0 : 1 ≤ n := by rw [← hn, hsz, hll]; simp
 have Hl := Lib.hid hl
 have Hll := Lib.hid hll
 clear hl hsz hll hs
 by_cases h45 : c0 = 45
 · subst h45
   have x0' : ∀ W, (Instr.index 9 (.string s) (.int .i64 0)).run Tryz.prog W = .ok (.int .u8 45) W := x0
   clear x0
   have hwl : wholeL l = if l.drop 1 = [] then none else wholeG 0 (l.drop 1) := by unfold wholeL; rw [if_pos (by rw [Hll.out]; rfl)]
   have Hwl := Lib.hid hwl
   clear hwl
   by_cases h1 : n = 1
   · have Hn : Hid (wholeL l = none) := Lib.hid (by rw [Hwl.out, if_pos (List.drop_eq_nil_of_le (by rw [Hln.out]; omega))])
     have hd : ((1 : Int) == (n : Int)) = true := by simp; omega
     go_enter Tryz.func79, Tryz.ntmps79
     go_wp2
     go_ret2
     exact ⟨by rw [Hn.out]; rfl, rfl⟩
   have hd : ((1 : Int) == (n : Int)) = false := by simp; omega
   have Hwl2 : Hid (wholeL l = wholeG 0 (l.drop 1)) := Lib.hid (by rw [Hwl.out, if_neg]; intro e; have := congrArg List.length e; rw [List.length_drop, Hln.out] at this; simp at this; omega)
   clear Hwl h1
   go_enter Tryz.func79, Tryz.ntmps79
   go_wp2
   go_loopw [5, 6] (fun av nv wr => ∃ (k : Nat) (N : Int), av = .int .i64 k ∧ nv = .int .i64 N ∧ k ≤ n ∧ -9223372036854775808 ≤ N ∧ N ≤ 0 ∧ wholeG 0 (l.drop 1) = wholeG N (l.drop k) ∧ wr = w) (fun av _ _ => n - (intOf av).toNat)
   case atStart => exact ⟨1, 0, rfl, rfl, by omega, by omega, by omega, rfl, rfl⟩
   case round =>
    obtain ⟨k, N, rfl, rfl, hk, hN, hN0, hG, rfl⟩ := hrel
    have HG := Lib.hid hG
    clear hG
    by_cases hlt : k < n
    · obtain ⟨c, hc⟩ : ∃ c, l[k]? = some c := ⟨_, List.getElem?_eq_getElem (by rw [Hln.out]; exact hlt)⟩
      have x1 := run_ix Hl.out hc .i64
      have hstep := r_whole_loop l N k c hc
      have hy0 : 0 ≤ (c.toNat : Int) := by omega
      have hy1 : (c.toNat : Int) < 256 := by have := c.toNat_lt; omega
      obtain ⟨y, hy⟩ : ∃ y : Int, (c.toNat : Int) = y := ⟨_, rfl⟩
      rw [hy] at x1 hstep hy0 hy1
      clear hy hc
      by_cases h1 : y - 48 < 0
      · rw [if_pos (.inl h1)] at hstep
        have Hn := Lib.hid (HG.out.trans hstep)
        clear hstep
        go_wp2
        go_ret2
        exact ⟨by rw [Hwl2.out, Hn.out]; rfl, rfl⟩
      by_cases h2 : 9 < y - 48
      · rw [if_pos (.inr (.inl h2))] at hstep
        have Hn := Lib.hid (HG.out.trans hstep)
        clear hstep
        go_wp2
        go_ret2
        exact ⟨by rw [Hwl2.out, Hn.out]; rfl, rfl⟩
      obtain ⟨d, hd⟩ : ∃ d, y - 48 = d := ⟨_, rfl⟩
      obtain ⟨Q, hQ⟩ : ∃ Q, Int.tdiv (-9223372036854775808 + d) 10 = Q := ⟨_, rfl⟩
      rw [hd, hQ] at hstep
      rw [hd] at h1 h2
      have hQ1 : -9223372036854775808 ≤ Q ∧ Q ≤ 0 := by
       have : Int.tdiv (-9223372036854775808 + d) 10 = -((9223372036854775808 - d) / 10) := by
        rw [show (-9223372036854775808 + d : Int) = -(9223372036854775808 - d) by omega, Int.neg_tdiv, Int.tdiv_eq_ediv_of_nonneg (by omega)]
       omega
      by_cases hq : N < Q
      · rw [if_pos (.inr (.inr hq))] at hstep
        have Hn := Lib.hid (HG.out.trans hstep)
        clear hstep
        go_wp2
        go_ret2
        exact ⟨by rw [Hwl2.out, Hn.out]; rfl, rfl⟩
      have hw := whole_lo hN hN0 (by omega) (by omega) hQ hq
      rw [if_neg (by rintro (h | h | h); exact h1 h; exact h2 h; exact hq h)] at hstep
      have Hn := Lib.hid (HG.out.trans hstep)
      clear hstep
      obtain ⟨hw1, hw2, hw3⟩ := hw
      go_wp2
      exact ⟨⟨k + 1, 10 * N - d, by push_cast; rfl, rfl, by omega, hw1, hw3, Hn.out, trivial⟩, by simp [intOf] <;> omega⟩
    obtain rfl : k = n := by omega
    have Hn : Hid (wholeG 0 (l.drop 1) = some N) := Lib.hid (by rw [HG.out, List.drop_eq_nil_of_le (by rw [Hln.out]; exact Nat.le_refl _)]; rfl)
    go_wp2
    go_ret2
    exact ⟨by rw [Hwl2.out, Hn.out]; rfl, rfl⟩
 have hwl : wholeL l = match wholeG 0 (l.drop 0) with
     | none => none
     | some n => if n = -9223372036854775808 then none else some (-n) := by unfold wholeL; rw [if_neg (by rw [Hll.out]; simp [h45]), if_neg (by rw [Hll.out]; simp)]; rfl
 have Hwl := Lib.hid hwl
 clear hwl
 obtain ⟨y0, hy0⟩ : ∃ y, c0.toNat = y := ⟨_, rfl⟩
 have d45 : ((y0 : Int) == 45) = false := by
  have : y0 ≠ 45 := fun e => h45 (UInt8.toNat_inj.1 (by rw [hy0, e]; rfl))
  simp; omega
 rw [hy0] at x0
 have hd : ((0 : Int) == (n : Int)) = false := by simp; omega
 clear hy0 h45
 go_enter Tryz.func79, Tryz.ntmps79
 go_wp2
 
 go_loopw [5, 6] (fun av nv wr => ∃ (k : Nat) (N : Int), av = .int .i64 k ∧ nv = .int .i64 N ∧ k ≤ n ∧ -9223372036854775808 ≤ N ∧ N ≤ 0 ∧ wholeG 0 (l.drop 0) = wholeG N (l.drop k) ∧ wr = w) (fun av _ _ => n - (intOf av).toNat)
 case atStart => exact ⟨0, 0, rfl, rfl, by omega, by omega, by omega, rfl, rfl⟩
 case round =>
  obtain ⟨k, N, rfl, rfl, hk, hN, hN0, hG, rfl⟩ := hrel
  have HG := Lib.hid hG
  clear hG
  by_cases hlt : k < n
  · obtain ⟨c, hc⟩ : ∃ c, l[k]? = some c := ⟨_, List.getElem?_eq_getElem (by rw [Hln.out]; exact hlt)⟩
    have x1 := run_ix Hl.out hc .i64
    have hstep := r_whole_loop l N k c hc
    have hy0 : 0 ≤ (c.toNat : Int) := by omega
    have hy1 : (c.toNat : Int) < 256 := by have := c.toNat_lt; omega
    obtain ⟨y, hy⟩ : ∃ y : Int, (c.toNat : Int) = y := ⟨_, rfl⟩
    rw [hy] at x1 hstep hy0 hy1
    clear hy hc
    by_cases h1 : y - 48 < 0
    · rw [if_pos (.inl h1)] at hstep
      have Hn := Lib.hid (HG.out.trans hstep)
      clear hstep
      go_wp2
      go_ret2
      exact ⟨by rw [Hwl.out, Hn.out]; rfl, rfl⟩
    by_cases h2 : 9 < y - 48
    · rw [if_pos (.inr (.inl h2))] at hstep
      have Hn := Lib.hid (HG.out.trans hstep)
      clear hstep
      go_wp2
      go_ret2
      exact ⟨by rw [Hwl.out, Hn.out]; rfl, rfl⟩
    obtain ⟨d, hd⟩ : ∃ d, y - 48 = d := ⟨_, rfl⟩
    obtain ⟨Q, hQ⟩ : ∃ Q, Int.tdiv (-9223372036854775808 + d) 10 = Q := ⟨_, rfl⟩
    rw [hd, hQ] at hstep
    rw [hd] at h1 h2
    have hQ1 : -9223372036854775808 ≤ Q ∧ Q ≤ 0 := by
     have : Int.tdiv (-9223372036854775808 + d) 10 = -((9223372036854775808 - d) / 10) := by
      rw [show (-9223372036854775808 + d : Int) = -(9223372036854775808 - d) by omega, Int.neg_tdiv, Int.tdiv_eq_ediv_of_nonneg (by omega)]
     omega
    by_cases hq : N < Q
    · rw [if_pos (.inr (.inr hq))] at hstep
      have Hn := Lib.hid (HG.out.trans hstep)
      clear hstep
      go_wp2
      go_ret2
      exact ⟨by rw [Hwl.out, Hn.out]; rfl, rfl⟩
    have hw := whole_lo hN hN0 (by omega) (by omega) hQ hq
    rw [if_neg (by rintro (h | h | h); exact h1 h; exact h2 h; exact hq h)] at hstep
    have Hn := Lib.hid (HG.out.trans hstep)
    clear hstep
    obtain ⟨hw1, hw2, hw3⟩ := hw
    go_wp2
    exact ⟨⟨k + 1, 10 * N - d, by push_cast; rfl, rfl, by omega, hw1, hw3, Hn.out, trivial⟩, by simp [intOf] <;> omega⟩
  obtain rfl : k = n := by omega
  have Hn : Hid (wholeG 0 (l.drop 0) = some N) := Lib.hid (by rw [HG.out, List.drop_eq_nil_of_le (by rw [Hln.out]; exact Nat.le_refl _)]; rfl)
  by_cases hm : N = -9223372036854775808
  · subst hm
    go_wp2
    go_ret2
    exact ⟨by rw [Hwl.out, Hn.out]; rfl, rfl⟩
  have Hm := Lib.hid hm
  have dm : (N == -9223372036854775808) = false := by simp; omega
  have hm2 : -9223372036854775808 < N := by omega
  have hm3 : -N ≤ 9223372036854775807 := by omega
  have hm4 : 0 ≤ -N := by omega
  have hm5 : wrap64 (-N) = -N := by simp only [wrap64]; omega
  clear hm
  go_wp2
  go_ret2
  exact ⟨by rw [Hwl.out, Hn.out]; simp only [if_neg Hm.out]; rfl, rfl⟩
def NumOut (w : World) (u : ByteArray) (e : Ending) (w' : World) : Prop := e = .returned (.tuple #[.int .i64 ((numW u).getD 0), .bool (numW u).isSome]) ∧ Ext w w'
set_option maxRecDepth 100000 in
set_option maxHeartbeats 1000000 in
theorem r_num (s : ByteArray) (w : World) (hg : Glb w) (hs : s.size ≤ 100000) : Calls Tryz.prog 51 #[.string s] w (NumOut w s) := by
 unfold NumOut
 rw [← numPg_eq]
 unfold numPg
 obtain ⟨n, hn⟩ : ∃ n, s.size = n := ⟨_, rfl⟩
 rw [hn]
 by_cases h20 : 20 < n
 · rw [if_pos h20]
   go_enter Tryz.func51, Tryz.ntmps51
   go_wp2
   go_ret2
   exact ⟨rfl, Mod.refl _ _⟩
 rw [if_neg h20]
 have hw := r_whole s w hs
 have Hg := Lib.hid hg
 clear hg
 rcases hwl : wholeL (bsOf s) with _ | v
 · have hw' : Calls Tryz.prog 79 #[.string s] w fun e w' => e = .returned (.tuple #[.int .i64 0, .bool false]) ∧ w' = w := by
    unfold WholeOut at hw; rw [hwl] at hw; exact hw
   clear hw hwl
   go_enter Tryz.func51, Tryz.ntmps51
   go_wp2_with (go_at_call 79; refine hw'.mono ?_; rintro e w3 ⟨rfl, rfl⟩)
   go_ret2
   exact ⟨rfl, Mod.refl _ _⟩
 have hw' : Calls Tryz.prog 79 #[.string s] w fun e w' => e = .returned (.tuple #[.int .i64 v, .bool true]) ∧ w' = w := by
  unfold WholeOut at hw; rw [hwl] at hw; exact hw
 obtain ⟨hv1, hv2⟩ := wholeL_i64 hwl
 have hnu := r_number v hv1 hv2 w Hg.out
 obtain ⟨z, hz⟩ : ∃ z, bA (Lib.itoa v) = z := ⟨_, rfl⟩
 rw [hz] at hnu
 simp only
 clear hw hwl
 by_cases hzs : z = s
 · rw [if_pos (by rw [← hzs, ← hz, bA_bs])]
   subst hzs
   clear hz
   go_enter Tryz.func51, Tryz.ntmps51
   go_wp2_with (first
     | (go_at_call 79; refine hw'.mono ?_; rintro e w3 ⟨rfl, h3⟩; rw [h3]; clear h3)
     | (go_at_call 60; refine hnu.mono ?_; rintro e w3 ⟨rfl, hE3⟩))
   go_ret2
   exact ⟨rfl, hE3⟩
 rw [if_neg (fun e => hzs (by rw [← hz, e, bs_bA]))]
 have hd := bs_ne hzs
 clear hz hzs
 go_enter Tryz.func51, Tryz.ntmps51
 go_wp2_with (first
   | (go_at_call 79; refine hw'.mono ?_; rintro e w3 ⟨rfl, h3⟩; rw [h3]; clear h3)
   | (go_at_call 60; refine hnu.mono ?_; rintro e w3 ⟨rfl, hE3⟩))
 go_ret2
 exact ⟨rfl, hE3⟩
def PKeyOut (w : World) (u : ByteArray) (e : Ending) (w' : World) : Prop := e = .returned (.tuple #[.string ((keyP u).getD ⟨#[]⟩), .bool (keyP u).isSome]) ∧ Ext w w'
set_option maxRecDepth 100000 in
set_option maxHeartbeats 1000000 in
theorem r_key (s : ByteArray) (w : World) (hs : s.size ≤ 100000) : Calls Tryz.prog 52 #[.string s] w (PKeyOut w s) := by
 unfold PKeyOut keyP
 rcases hl : bsOf s with _ | ⟨c, r⟩
 · obtain rfl : s = ⟨#[]⟩ := bsOf_inj hl
   clear hl
   go_enter Tryz.func52, Tryz.ntmps52
   go_wp2
   go_ret2
   exact ⟨rfl, Mod.refl _ _⟩
 have hsz : s.size = r.length + 1 := by have : s.size = (bsOf s).length := rfl; rw [this, hl]; rfl
 have hlen : ¬ ((s.size : Int) < 1) := by omega
 have htl := fun W => run_tl hl W
 have hhd := fun W => run_hd hl W
 simp only
 by_cases h107 : c = 107
 · subst h107
   have hhd' : ∀ W, (Instr.index 9 (.string s) (.int .i64 0)).run Tryz.prog W = .ok (.int .u8 107) W := hhd
   have hun : Calls Tryz.prog 50 #[.string (bA r)] w fun e w' => e = .returned (.tuple #[.string (bA ((unhexL r).getD [])), .bool (unhexL r).isSome]) ∧ Ext w w' := by
    have h := r_unhex (bA r) w (by have : (bA r).size = r.length := by simp [bA, ByteArray.size]
                                   omega)
    rw [bA_bs] at h
    exact h
   rw [if_pos rfl]
   obtain ⟨q, hq⟩ : ∃ q, bA r = q := ⟨_, rfl⟩
   rw [hq] at hun htl
   clear hhd hl hq hsz
   go_enter Tryz.func52, Tryz.ntmps52
   go_wp2_with (go_at_call 50; refine hun.mono ?_; rintro e w3 ⟨rfl, hE3⟩)
   go_ret2
   refine ⟨?_, hE3⟩
   rcases unhexL r with _ | t <;> rfl
 rw [if_neg h107]
 obtain ⟨y, hy⟩ : ∃ y, c.toNat = y := ⟨_, rfl⟩
 rw [hy] at hhd
 have d107 : ((y : Int) != 107) = true := by
  have : y ≠ 107 := fun e => h107 (UInt8.toNat_inj.1 (by rw [hy, e]; rfl))
  simp; omega
 clear hl hy h107 htl hsz
 go_enter Tryz.func52, Tryz.ntmps52
 go_wp2
 go_ret2
 exact ⟨rfl, Mod.refl _ _⟩
theorem r_values (k : Int) (w : World) : Calls Tryz.prog 39 #[.int .i64 k] w fun e w' => e = .returned (.int .i64 (valsP k)) ∧ w' = w := by
 go_enter Tryz.func39, Tryz.ntmps39
 go_wp2
 all_goals go_ret
 all_goals refine ⟨ret_int ?_, rfl⟩
 all_goals simp_all [valsP]
end Go.Proofs.YtmebipnljkopgaaGreatDoor
