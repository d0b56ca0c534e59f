/-
 Layer 27 (script): the page's Hex, Text of a value, say. Conditions: the text is no longer than 100000 bytes; the package variables are as start-up lays them (Glb).
 Layer 27 (script): the page's Check of a value; the verifier's Twin of bytes, HeavyCmd. Conditions: as each theorem names them.
-/
import Derived.Test.YtmebipnljkopgaaGreatDoorScrYt
import Derived.Test.YtmebipnljkopgaaGreatDoorScrS
import Derived.Deep.QuietTactic
import Derived.Test.YtmebipnljkopgaaGreatDoorScrE
import Derived.Test.YtmebipnljkopgaaGreatDoorKvVal
import Derived.BigQuiet
namespace Go.Proofs.YtmebipnljkopgaaGreatDoor
set_option linter.unusedSimpArgs false
set_option linter.unusedVariables false
open Go.RowKit
theorem dig_cut : ∀ n : Fin 16, (⟨#[48, 49, 50, 51, 52, 53, 54, 55, 56, 57, 97, 98, 99, 100, 101, 102]⟩ : ByteArray).extract n.val (n.val + 1) = bA [digC n.val] := by decide +kernel
theorem run_digS (n : Nat) (h : n < 16) (W : World) : (Instr.slice 9 (.string ⟨#[48, 49, 50, 51, 52, 53, 54, 55, 56, 57, 97, 98, 99, 100, 101, 102]⟩) (some (.int .u8 (n : Int))) (some (.int .u8 ((n : Int) + 1))) none).run Tryz.prog W = .ok (.string (bA [digC n])) W := by
 rw [run_slice_string_if W _ _ _ _ _ _ Tryz.underlying9, if_pos ⟨by omega, by show (n : Int) + 1 ≤ (16 : Nat); omega⟩, if_pos ⟨by omega, by omega⟩]
 have e : (⟨#[48, 49, 50, 51, 52, 53, 54, 55, 56, 57, 97, 98, 99, 100, 101, 102]⟩ : ByteArray).extract (n : Int).toNat ((n : Int) + 1).toNat = bA [digC n] := dig_cut ⟨n, h⟩
 rw [e]
set_option maxRecDepth 100000 in
set_option maxHeartbeats 1000000 in
theorem r_hex (s : ByteArray) (w : World) (hs : s.size ≤ 100000) : Calls Tryz.prog 38 #[.string s] w fun e w' => e = .returned (.string (bA (hexB (bsOf s)))) ∧ Ext w w' := by
 obtain ⟨l, hl⟩ : ∃ l, bsOf s = l := ⟨_, rfl⟩
 have hsz : s.size = l.length := by rw [← hl]; rfl
 obtain ⟨n, hn⟩ : ∃ n, s.size = n := ⟨_, rfl⟩
 have Hln : Hid (l.length = n) := Lib.hid (by omega)
 have hn1 : n ≤ 100000 := by omega
 have Hl := Lib.hid hl
 rw [hl]
 clear hsz hs hl
 go_enter Tryz.func38, Tryz.ntmps38
 go_wp2_with fail
 go_loopw [3, 4] (fun v iv wr => ∃ (k q : Nat), iv = .int .i64 k ∧ k ≤ n ∧ v = .string (bA (hexB (l.take k))) ∧ wr = w.drewN q) (fun _ iv _ => n - (intOf iv).toNat)
 case atStart => exact ⟨0, 0, rfl, by omega, rfl, rfl⟩
 case round =>
  obtain ⟨k, q, rfl, hk, rfl, rfl⟩ := hrel
  by_cases hlt : k < n
  · obtain ⟨c, hc⟩ : ∃ c, l[k]? = some c := ⟨_, List.getElem?_eq_getElem (by rw [Hln.out]; exact hlt)⟩
    have x1 := run_ix Hl.out hc .i64
    obtain ⟨x, hx⟩ : ∃ x, c.toNat = x := ⟨_, rfl⟩
    have hx256 : x < 256 := by rw [← hx]; exact c.toNat_lt
    rw [hx] at x1
    obtain ⟨q1, hq1⟩ : ∃ q1 : Int, (x : Int) / 16 = q1 := ⟨_, rfl⟩
    obtain ⟨q2, hq2⟩ : ∃ q2 : Int, bits .and .u8 (x : Int) 15 = q2 := ⟨_, rfl⟩
    have hq1b : 0 ≤ q1 ∧ q1 < 16 := by omega
    have hq2b : 0 ≤ q2 ∧ q2 < 16 := by rw [and15 x hx256] at hq2; omega
    have hw1 : IntKind.u8.wrap (q1 + 1) = q1 + 1 := by simp [IntKind.wrap, IntKind.signed, IntKind.bits]; omega
    have hw2 : IntKind.u8.wrap (q2 + 1) = q2 + 1 := by simp [IntKind.wrap, IntKind.signed, IntKind.bits]; omega
    obtain ⟨e1, he1⟩ : ∃ e1, bA [digC (x / 16)] = e1 := ⟨_, rfl⟩
    obtain ⟨e2, he2⟩ : ∃ e2, bA [digC (x % 16)] = e2 := ⟨_, rfl⟩
    have d1 : ∀ W, (Instr.slice 9 (.string ⟨#[48, 49, 50, 51, 52, 53, 54, 55, 56, 57, 97, 98, 99, 100, 101, 102]⟩) (some (.int .u8 q1)) (some (.int .u8 (q1 + 1))) none).run Tryz.prog W = .ok (.string e1) W := fun W => by
     have := run_digS (x / 16) (by omega) W
     rw [he1] at this
     rw [← hq1]; exact this
    have d2 : ∀ W, (Instr.slice 9 (.string ⟨#[48, 49, 50, 51, 52, 53, 54, 55, 56, 57, 97, 98, 99, 100, 101, 102]⟩) (some (.int .u8 q2)) (some (.int .u8 (q2 + 1))) none).run Tryz.prog W = .ok (.string e2) W := fun W => by
     have := run_digS (x % 16) (by omega) W
     rw [he2] at this
     rw [← hq2, and15 x hx256]; exact this
    obtain ⟨S, hS⟩ : ∃ S, bA (hexB (l.take k)) = S := ⟨_, rfl⟩
    have Hstp : Hid (S ++ e1 ++ e2 = bA (hexB (l.take (k + 1)))) := Lib.hid (by
     rw [show l.take (k + 1) = l.take k ++ [c] by obtain ⟨h1, h2⟩ := List.getElem?_eq_some_iff.1 hc; rw [← h2]; exact List.take_succ_eq_append_getElem h1, hexB_app, ← hS, ← he1, ← he2, bA_app, bA_app]
     simp [hexB, hx])
    have hSz : S.size ≤ 200000 := by rw [← hS]; show (hexB (l.take k)).length ≤ 200000; rw [hexB_len, List.length_take]; omega
    have h1z : e1.size = 1 := by rw [← he1]; rfl
    have h2z : e2.size = 1 := by rw [← he2]; rfl
    rw [hS]
    clear hc hx he1 he2 hS
    go_wp2_with fail
    go_region
    go_wp2
    exact ⟨⟨k + 1, _, by push_cast; rfl, by omega, by rw [← Hstp.out], rfl⟩, by simp [intOf] <;> omega⟩
  obtain rfl : k = n := by omega
  obtain ⟨S, hS⟩ : ∃ S, bA (hexB (l.take k)) = S := ⟨_, rfl⟩
  have HS : Hid (S = bA (hexB l)) := Lib.hid (by rw [← hS, List.take_of_length_le (by rw [Hln.out]; exact Nat.le_refl _)])
  rw [hS]
  clear hS
  go_wp2
  go_ret
  exact ⟨by rw [HS.out]; rfl, (Mod.refl _ w).drewN _⟩
set_option maxRecDepth 100000 in
set_option maxHeartbeats 1000000 in
theorem r_Text (v : AVal) (w : World) (hg : Glb w) (hn : v.num < 18446744073709551616) (ht : v.text.size ≤ 100000) : Calls Tryz.prog 41 #[.agg #[.int .i64 v.kind, .float .f64 v.num, .string v.text]] w fun e w' => e = .returned (.string (bA (textV v))) ∧ Ext w w' := by
 have hE : Ext w (w.alloc (.cells #[.int .i64 v.kind, .float .f64 v.num, .string v.text] 24)) := (Mod.refl _ w).alloc _
 have h1 := fun W hE => r_text v.num hn W (hg.ext hE)
 have h2 := fun W => r_hex v.text W ht
 obtain ⟨z1, hz1⟩ : ∃ z, bA (textF v.num) = z := ⟨_, rfl⟩
 obtain ⟨z2, hz2⟩ : ∃ z, bA (hexB (bsOf v.text)) = z := ⟨_, rfl⟩
 have g1 : v.kind = 1 → bA (textV v) = ⟨#[110]⟩ ++ z1 := fun e => by unfold textV; rw [if_pos e, ← hz1]; exact (bA_app [110] _).symm
 have g2 : v.kind = 2 → bA (textV v) = ⟨#[116]⟩ ++ z2 := fun e => by unfold textV; rw [if_neg (by omega), if_pos e, ← hz2]; exact (bA_app [116] _).symm
 have g3 : v.kind ≠ 1 → v.kind ≠ 2 → bA (textV v) = ⟨#[45]⟩ := fun e f => by unfold textV; rw [if_neg e, if_neg f]; try rfl
 have z1z : z1.size = 16 := by rw [← hz1]; show (textF v.num).length = 16; rw [textF, hexK_len]
 have z2z : z2.size ≤ 200000 := by
  rw [← hz2]; show (hexB (bsOf v.text)).length ≤ 200000
  rw [hexB_len]; have : (bsOf v.text).length = v.text.size := rfl
  omega
 obtain ⟨R, hR⟩ : ∃ R, bA (textV v) = R := ⟨_, rfl⟩
 rw [hz1] at h1
 rw [hz2] at h2
 rw [hR] at g1 g2 g3 ⊢
 have G1 := Lib.hid g1
 have G2 := Lib.hid g2
 have G3 := Lib.hid g3
 have HE := Lib.hid hE
 have H1 := Lib.hid h1
 have H2 := Lib.hid h2
 clear g1 g2 g3 hE h1 h2 hz1 hz2 hR hg hn ht
 obtain ⟨k, x, t⟩ := v
 simp only at *
 by_cases k1 : k = 1
 · subst k1
   go_enter Tryz.func41, Tryz.ntmps41
   go_wp2_with (go_at_call 64; refine (H1.out _ HE.out).mono ?_; rintro e w3 ⟨rfl, hE3⟩)
   go_ret
   exact ⟨by rw [G1.out trivial]; rfl, HE.out.ext hE3⟩
 by_cases k2 : k = 2
 · subst k2
   go_enter Tryz.func41, Tryz.ntmps41
   go_wp2_with (go_at_call 38; refine (H2.out _).mono ?_; rintro e w3 ⟨rfl, hE3⟩)
   go_ret
   exact ⟨by rw [G2.out trivial]; rfl, HE.out.ext hE3⟩
 have K1 := Lib.hid k1
 have K2 := Lib.hid k2
 go_enter Tryz.func41, Tryz.ntmps41
 go_wp2
 go_ret
 exact ⟨by rw [G3.out K1.out K2.out]; rfl, HE.out⟩
/-- Words behind a text: each with a blank ahead of it. -/
def tailW : List (List UInt8) → List UInt8
  | [] => []
  | x :: r => 32 :: x ++ tailW r
theorem joinL_tail (x : List UInt8) : ∀ r, joinL (x :: r) = x ++ tailW r
  | [] => by simp [joinL, tailW]
  | y :: r => by rw [join_cons, joinL_tail y r]; simp [tailW]
theorem tailW_app (a b : List (List UInt8)) : tailW (a ++ b) = tailW a ++ tailW b := by
 induction a with
 | nil => rfl
 | cons x r ih => simp [tailW, ih]
theorem tailW_itoa : ∀ is : List Int, (∀ i ∈ is, -9223372036854775808 ≤ i ∧ i ≤ 9223372036854775807) → (tailW (is.map Lib.itoa)).length ≤ 21 * is.length
  | [], _ => by simp [tailW]
  | i :: r, h => by
    have h1 := itoa_le20 i (h i (by simp)).1 (h i (by simp)).2
    have h2 := tailW_itoa r (fun j hj => h j (List.mem_cons_of_mem _ hj))
    simp only [List.map_cons, tailW, List.length_cons, List.length_append]; omega
set_option maxRecDepth 100000 in
set_option maxHeartbeats 1000000 in
theorem r_say (s : ByteArray) (is : List Int) (v : Value) (T : Nat → Prop) (w : World) (hg : Glb w) (hv : Sl w T 1 v is.length (is.map (Value.int .i64))) (hi64 : ∀ i ∈ is, -9223372036854775808 ≤ i ∧ i ≤ 9223372036854775807) (hl : is.length ≤ 1000) (hsz : s.size ≤ 100000) :
  Calls Tryz.prog 36 #[.string s, v] w fun e w' => e = .returned (.string (bA (bsOf s ++ tailW (is.map Lib.itoa)))) ∧ Ext w w' := by
 obtain ⟨n, hn⟩ : ∃ n, is.length = n := ⟨_, rfl⟩
 obtain ⟨A, cp, rfl⟩ : ∃ A cp, v = .slice A n cp := by obtain ⟨_, A, c, e, _⟩ := hv; rw [hn] at e; exact ⟨A, c, e⟩
 have Hn := Lib.hid hn
 rw [hn] at hv hl
 have Hv := Lib.hid hv
 have Hg := Lib.hid hg
 have Hi := Lib.hid hi64
 clear hn hv hg hi64
 go_enter Tryz.func36, Tryz.ntmps36
 go_wp2_with fail
 go_loopw [0, 5] (fun sv iv wr => ∃ (k : Nat), iv = .int .i64 k ∧ k ≤ n ∧ sv = .string (bA (bsOf s ++ tailW ((is.take k).map Lib.itoa))) ∧ Ext w wr) (fun _ iv _ => n - (intOf iv).toNat)
 case atStart => exact ⟨0, rfl, by omega, by simp [tailW, bs_bA], Mod.refl _ _⟩
 case round =>
  obtain ⟨k, rfl, hk, rfl, hE⟩ := hrel
  obtain ⟨S, hS⟩ : ∃ S, bA (bsOf s ++ tailW ((is.take k).map Lib.itoa)) = S := ⟨_, rfl⟩
  by_cases hlt : k < n
  · obtain ⟨x, hx⟩ : ∃ x, is[k]? = some x := ⟨_, List.getElem?_eq_getElem (by rw [Hn.out]; exact hlt)⟩
    have hxi := Hi.out x (List.mem_of_getElem? hx)
    obtain ⟨g, off, rfl, hcell⟩ : ∃ g off, A = some ⟨g, off, none⟩ ∧ wr.cell? ⟨g, off + k, none⟩ = some (.int .i64 x) := by
     obtain ⟨_, A', c', e, _, _, hx'⟩ := Hv.out
     injection e with e1 _ e3; subst e1; subst e3
     obtain ⟨g, off, rfl, hg, hcell⟩ := hx' (by omega)
     exact ⟨g, off, rfl, hE.cell (hcell k _ (by simp [hx])) id⟩
    have hnu := r_number x hxi.1 hxi.2 wr (Hg.out.ext hE)
    obtain ⟨z, hz⟩ : ∃ z, bA (Lib.itoa x) = z := ⟨_, rfl⟩
    have Hstp : Hid (S ++ ⟨#[32]⟩ ++ z = bA (bsOf s ++ tailW ((is.take (k + 1)).map Lib.itoa))) := Lib.hid (by
     rw [show is.take (k + 1) = is.take k ++ [x] by obtain ⟨h1, h2⟩ := List.getElem?_eq_some_iff.1 hx; rw [← h2]; exact List.take_succ_eq_append_getElem h1, List.map_append, tailW_app, ← hS, ← hz]
     rw [show (⟨#[32]⟩ : ByteArray) = bA [32] from rfl, bA_app, bA_app]
     simp [tailW])
    have hzz : z.size ≤ 20 := by rw [← hz]; exact itoa_le20 x hxi.1 hxi.2
    have hSz : S.size ≤ 200000 := by
     rw [← hS]; show (bsOf s ++ tailW ((is.take k).map Lib.itoa)).length ≤ 200000
     have h1 := tailW_itoa (is.take k) (fun i hi => Hi.out i (List.mem_of_mem_take hi))
     have h2 : (bsOf s).length = s.size := rfl
     rw [List.length_append]; rw [List.length_take] at h1; omega
    rw [hz] at hnu
    rw [hS]
    have HE := Lib.hid hE
    clear hx hz hS hE hxi
    go_wp2_with (go_at_call 60; refine hnu.mono ?_; rintro e w3 ⟨rfl, hE3⟩)
    exact ⟨⟨k + 1, by push_cast; rfl, by omega, by rw [← Hstp.out], HE.out.ext hE3⟩, by simp [intOf] <;> omega⟩
  obtain rfl : k = n := by omega
  have HS : Hid (S = bA (bsOf s ++ tailW (is.map Lib.itoa))) := Lib.hid (by rw [← hS, List.take_of_length_le (by rw [Hn.out]; exact Nat.le_refl _)])
  rw [hS]
  clear hS
  go_wp2
  go_ret
  exact ⟨by rw [HS.out]; rfl, hE⟩
attribute [local go_sem] call_frombits call_bits
set_option maxRecDepth 100000 in
set_option maxHeartbeats 400000 in
theorem r_nought (x : Nat) (w : World) : Calls Tryz.prog 61 #[.float .f64 x] w fun e w' => e = .returned (.bool (decide (x = 0))) ∧ w = w' := by
  have h : ((x : Int) == 0) = decide (x = 0) := by rw [Bool.eq_iff_iff]; simp
  go_enter Tryz.func61, Tryz.ntmps61
  go_wp2
  go_ret
  exact ⟨rfl, rfl⟩
set_option maxRecDepth 100000 in
set_option maxHeartbeats 2000000 in
theorem r_check (v : AVal) (w : World) : Calls Tryz.prog 40 #[.agg #[.int .i64 v.kind, .float .f64 v.num, .string v.text]] w fun e w' => e = .returned (.int .i64 (chk v)) ∧ Ext w w' := by
  obtain ⟨k, x, t⟩ := v
  have hT : t.toList.isEmpty = isEmptyT t := rfl
  have hE : Ext w (w.alloc (.cells #[.int .i64 k, .float .f64 x, .string t] 24)) := (Mod.refl _ w).alloc _
  have e1 : (FloatKind.f64.format.order x x != some Ordering.eq) = isNaN x := rfl
  simp only
  by_cases h0 : k = 0
  · subst h0
    rw [chk0, same_zero]
    rcases he : isEmptyT t with _ | _
    · rw [he] at hT
      rw [Bool.and_false]
      go_enter Tryz.func40, Tryz.ntmps40
      go_wp2_with (first | (go_at_call 61; refine (r_nought _ _).mono ?_; rintro e w' ⟨rfl, rfl⟩) | (go_at_call 63; refine (refnan_any _).mono ?_; rintro e w' ⟨rfl, rfl⟩))
      go_ret
      exact ⟨rfl, hE⟩
    · rw [he] at hT
      by_cases hx : x = 0
      · subst hx
        have e2 : (FloatKind.f64.format.order 0 0 != some Ordering.eq) = false := by kernel_rfl
        clear e1
        go_enter Tryz.func40, Tryz.ntmps40
        go_wp2_with (first | (go_at_call 61; refine (r_nought _ _).mono ?_; rintro e w' ⟨rfl, rfl⟩) | (go_at_call 63; refine (refnan_any _).mono ?_; rintro e w' ⟨rfl, rfl⟩))
        go_ret
        exact ⟨rfl, hE⟩
      · have d : decide (x = 0) = false := by simpa using hx
        rw [d]
        clear hx
        go_enter Tryz.func40, Tryz.ntmps40
        go_wp2_with (first | (go_at_call 61; refine (r_nought _ _).mono ?_; rintro e w' ⟨rfl, rfl⟩) | (go_at_call 63; refine (refnan_any _).mono ?_; rintro e w' ⟨rfl, rfl⟩))
        go_ret
        exact ⟨rfl, hE⟩
  by_cases h1 : k = 1
  · subst h1
    rw [chk1, canonB_iff]
    rcases he : isEmptyT t with _ | _
    · rw [he] at hT
      rw [Bool.and_false]
      go_enter Tryz.func40, Tryz.ntmps40
      go_wp2_with (first | (go_at_call 61; refine (r_nought _ _).mono ?_; rintro e w' ⟨rfl, rfl⟩) | (go_at_call 63; refine (refnan_any _).mono ?_; rintro e w' ⟨rfl, rfl⟩))
      go_ret
      exact ⟨rfl, hE⟩
    · rw [he] at hT
      rcases hn : isNaN x with _ | _
      · rw [hn] at e1
        go_enter Tryz.func40, Tryz.ntmps40
        go_wp2_with (first | (go_at_call 61; refine (r_nought _ _).mono ?_; rintro e w' ⟨rfl, rfl⟩) | (go_at_call 63; refine (refnan_any _).mono ?_; rintro e w' ⟨rfl, rfl⟩))
        go_ret
        exact ⟨rfl, hE⟩
      · rw [hn] at e1
        by_cases hx : x = theNaN
        · subst hx
          go_enter Tryz.func40, Tryz.ntmps40
          go_wp2_with (first | (go_at_call 61; refine (r_nought _ _).mono ?_; rintro e w' ⟨rfl, rfl⟩) | (go_at_call 63; refine (refnan_any _).mono ?_; rintro e w' ⟨rfl, rfl⟩))
          go_ret
          exact ⟨rfl, hE⟩
        · have d : ((x : Int) != (theNaN : Int)) = true := by rw [bne_iff_ne]; omega
          have d2 : decide (true = true ∧ x ≠ theNaN) = true := by simpa using hx
          rw [d2]
          clear d2 hx
          go_enter Tryz.func40, Tryz.ntmps40
          go_wp2_with (first | (go_at_call 61; refine (r_nought _ _).mono ?_; rintro e w' ⟨rfl, rfl⟩) | (go_at_call 63; refine (refnan_any _).mono ?_; rintro e w' ⟨rfl, rfl⟩))
          go_ret
          exact ⟨rfl, hE⟩
  by_cases h2 : k = 2
  · subst h2
    rw [chk2, same_zero]
    by_cases hl : 32 < t.size
    · rw [if_pos hl]
      have d : decide ((32 : Int) < (t.size : Int)) = true := by simp; omega
      go_enter Tryz.func40, Tryz.ntmps40
      go_wp2_with (first | (go_at_call 61; refine (r_nought _ _).mono ?_; rintro e w' ⟨rfl, rfl⟩) | (go_at_call 63; refine (refnan_any _).mono ?_; rintro e w' ⟨rfl, rfl⟩))
      go_ret
      exact ⟨rfl, hE⟩
    · rw [if_neg hl]
      have d : decide ((32 : Int) < (t.size : Int)) = false := by simp; omega
      by_cases hx : x = 0
      · subst hx
        have e2 : (FloatKind.f64.format.order 0 0 != some Ordering.eq) = false := by kernel_rfl
        clear e1
        go_enter Tryz.func40, Tryz.ntmps40
        go_wp2_with (first | (go_at_call 61; refine (r_nought _ _).mono ?_; rintro e w' ⟨rfl, rfl⟩) | (go_at_call 63; refine (refnan_any _).mono ?_; rintro e w' ⟨rfl, rfl⟩))
        go_ret
        exact ⟨rfl, hE⟩
      · have d : decide (x = 0) = false := by simpa using hx
        rw [d]
        clear hx
        go_enter Tryz.func40, Tryz.ntmps40
        go_wp2_with (first | (go_at_call 61; refine (r_nought _ _).mono ?_; rintro e w' ⟨rfl, rfl⟩) | (go_at_call 63; refine (refnan_any _).mono ?_; rintro e w' ⟨rfl, rfl⟩))
        go_ret
        exact ⟨rfl, hE⟩
  · rw [chk3 x t h0 h1 h2]
    by_cases hk : k < 0
    · have d : decide (k < 0) = true := by simpa using hk
      clear h0 h1 h2
      go_enter Tryz.func40, Tryz.ntmps40
      go_wp2_with (first | (go_at_call 61; refine (r_nought _ _).mono ?_; rintro e w' ⟨rfl, rfl⟩) | (go_at_call 63; refine (refnan_any _).mono ?_; rintro e w' ⟨rfl, rfl⟩))
      go_ret
      exact ⟨rfl, hE⟩
    · have d : decide (k < 0) = false := by simpa using hk
      have d2 : decide (2 < k) = true := by rw [decide_eq_true_iff]; omega
      clear h0 h1 h2
      go_enter Tryz.func40, Tryz.ntmps40
      go_wp2_with (first | (go_at_call 61; refine (r_nought _ _).mono ?_; rintro e w' ⟨rfl, rfl⟩) | (go_at_call 63; refine (refnan_any _).mono ?_; rintro e w' ⟨rfl, rfl⟩))
      go_ret
      exact ⟨rfl, hE⟩
set_option maxRecDepth 100000 in
set_option maxHeartbeats 400000 in
theorem k_twin (w : World) (T : Nat → Prop) (v : Value) (bs : List UInt8) (h : Byt w T v bs) (hl : bs.length ≤ 1000000000) :
    Calls Tryz.prog 11 #[v] w fun e w' => ∃ v', e = .returned v' ∧ NewB w w' v' bs ∧ Ext w w' := by
  obtain ⟨i0, hi, hz0, hz1, hz2⟩ := info_parts info_u8
  obtain ⟨n, hn⟩ : ∃ n, bs.length = n := ⟨_, rfl⟩
  unfold Byt at h
  rw [hn] at hl h
  have Hn := Lib.hid hn
  clear hn
  obtain ⟨A, c, rfl⟩ := h.form
  go_enter Tryz.func11, Tryz.ntmps11
  go_wp2_with (at_builtin; refine wpList_app _ rfl _ _ 29 rfl 5 i0 _ 1 1 Tryz.underlying29 hi hz0 hz1 hz2 rfl (by omega) _ 0 [] rfl (World.ownsRow_nil _ _ _ _) T _ n (bs.map B) rfl h (B_one bs) (by simp only [maxLen]; omega) (by omega) ?_)
  intro v' w1 ho hgr hat
  have hE : Ext w w1 := (Mod.refl _ w).grown hgr (by simp [Value.ownBlock])
  have hN : NewB w w1 v' bs := by
    refine ⟨by rw [Hn.out]; simpa using ho, fun g hgg => ?_⟩
    rcases hat with e | e <;> rw [e] at hgg <;> simp [Value.ownBlock] at hgg <;> omega
  go_wp2
  go_ret
  exact ⟨v', rfl, hN, hE⟩

/-- Two slices are compared byte by byte. -/
def heavyCmd (c : ACmd) : Bool := decide (2000 < c.key.size) || decide (2000 < c.old.text.size) || decide (2000 < c.val.text.size)
theorem hv_cmd (c : ACmd) (w : World) : Calls Tryz.prog 29 #[.agg #[.int .i64 c.kind, .string c.key, .int .i64 c.old.kind, .float .f64 c.old.num, .string c.old.text, .int .i64 c.val.kind, .float .f64 c.val.num, .string c.val.text]] w fun e w' => e = .returned (.bool (heavyCmd c)) ∧ Ext w w' := by
  have e1 : decide ((2000 : Int) < (c.key.size : Int)) = decide (2000 < c.key.size) := by rw [decide_eq_decide]; omega
  have e2 : decide ((2000 : Int) < (c.old.text.size : Int)) = decide (2000 < c.old.text.size) := by rw [decide_eq_decide]; omega
  have e3 : decide ((2000 : Int) < (c.val.text.size : Int)) = decide (2000 < c.val.text.size) := by rw [decide_eq_decide]; omega
  have hE : Ext w (w.alloc (.cells #[.int .i64 c.kind, .string c.key, .int .i64 c.old.kind, .float .f64 c.old.num, .string c.old.text, .int .i64 c.val.kind, .float .f64 c.val.num, .string c.val.text] 26)) := (Mod.refl _ w).alloc _
  rcases h1 : decide (2000 < c.key.size) with _ | _
  · rcases h2 : decide (2000 < c.old.text.size) with _ | _
    · rw [h1] at e1; rw [h2] at e2
      go_enter Tryz.func29, Tryz.ntmps29
      go_wp2
      go_ret
      exact ⟨ret_bool (by simp only [heavyCmd, h1, h2, Bool.false_or]), hE⟩
    · rw [h1] at e1; rw [h2] at e2
      go_enter Tryz.func29, Tryz.ntmps29
      go_wp2
      go_ret
      exact ⟨ret_bool (by simp only [heavyCmd, h2, Bool.or_true, Bool.true_or]), hE⟩
  · rw [h1] at e1
    go_enter Tryz.func29, Tryz.ntmps29
    go_wp2
    go_ret
    exact ⟨ret_bool (by simp only [heavyCmd, h1, Bool.true_or]), hE⟩
end Go.Proofs.YtmebipnljkopgaaGreatDoor
