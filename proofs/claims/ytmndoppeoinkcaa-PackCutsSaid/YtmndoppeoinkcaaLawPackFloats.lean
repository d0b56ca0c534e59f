/-
  PackFloats: whatever bits and number come in, skerrylaw02.PackFloats returns true. Conditions: none.
-/
import Derived.Test.YtmndoppeoinkcaaLawPackSticks
import Derived.Test.YtmndoppeoinkcaaRef02
namespace Go.Proofs.Ytmndoppeoinkcaa
open Go.RowKit Go.ChangeShapes Go.WideShapes Go.ChangeAt Go.Deep
attribute [local go_sem] call_frombits call_bits

theorem float_hib (x : Nat) (rest : List UInt8) (h : x < 18446744073709551616) :
    (canon x = x → RS.float ⟨hib 8 x ++ rest, 0⟩ = (x, ⟨rest, 0⟩)) ∧ (canon x ≠ x → RS.float ⟨hib 8 x ++ rest, 0⟩ = (0, ⟨hib 8 x ++ rest, 3⟩)) := by
  have hl : (hib 8 x).length = 8 := hib_len 8 x
  have e1 : (hib 8 x ++ rest).take 8 = hib 8 x := List.take_left' hl
  have e2 : (hib 8 x ++ rest).drop 8 = rest := List.drop_left' hl
  have e3 : num8 (hib 8 x) = x := by rw [num8_hib, Nat.mod_eq_of_lt (by simpa using h)]
  constructor
  · intro hc
    rw [float_yes (by simp [hl]) (by rw [e1, e3]; exact hc), e1, e2, e3]
  · intro hc
    rw [float_nan (by simp [hl]) (by rw [e1, e3]; exact hc)]

set_option maxRecDepth 100000 in
set_option maxHeartbeats 2000000 in
theorem packFloats_walk (w : World) (b n : Int) (hb : 0 ≤ b ∧ b ≤ 18446744073709551615) (hn : -9223372036854775808 ≤ n ∧ n ≤ 9223372036854775807) :
    Calls Try.prog 4 #[.int .u64 b, .int .i64 n] w (LawOk w) := by
  obtain ⟨x, rfl⟩ := Int.eq_ofNat_of_zero_le hb.1
  obtain ⟨i0, hi, hz0, hz1, hz2⟩ := info_parts info_u8
  have hx : x < 18446744073709551616 := by omega
  obtain ⟨N, hN⟩ : ∃ N, w.heap.size = N := ⟨_, rfl⟩
  have hW0 := Wr.new w 27
  rw [hN] at hW0
  have HN := Lib.hid hN
  have Hx := Lib.hid hx
  have Hn := Lib.hid hn
  have hl1 := encFloat_len x
  have hl2 := encInt_len n
  have hl3 := uvF_pos 9 (zig n)
  have hfin : ∀ w', Mod (Since N) w w' → LawOk w (.returned (.bool true)) w' := fun w' hm => ⟨rfl, hm.below (by have := HN.out; omega) (fun k hk => by have := HN.out; unfold Since; omega)⟩
  have Hfin := Lib.hid hfin
  clear hb hx hn hfin
  have Hl1 := Lib.hid hl1
  have Hl3 : Hid (1 ≤ (encInt n).length) := Lib.hid hl3
  clear hl1 hl3
  go_enter Try.func4, Try.ntmps4
  go_wp2_with fail
  refine (w_float _ _ _ _ _ _ hW0 (by simp)).mono ?_
  rintro e w1 ⟨rfl, hW1, hm1⟩
  have hW1 := hW1.since (by simp; omega)
  have hm1' : Mod (Since N) w w1 := ((Mod.refl _ w).alloc _).self hm1
  go_wp2_with fail
  refine (w_int _ _ _ _ _ _ hW1 (by have := Hl1.out; simp; omega) Hn.out.1 Hn.out.2).mono ?_
  rintro e w2 ⟨rfl, hW2, hm2⟩
  have hm2' := hm1'.self hm2
  rw [List.nil_append] at hW2
  obtain ⟨m, hm⟩ : ∃ m, (encFloat x ++ encInt n).length = m := ⟨_, rfl⟩
  have hm9 : 9 ≤ m ∧ m ≤ 18 := by have := Hl1.out; have := Hl3.out; rw [← hm]; simp; omega
  have Hm := Lib.hid hm
  clear hm
  go_wp2_with fail
  refine (w_bytes _ _ _ _ hW2 (by rw [Hm.out]; omega)).mono ?_
  rintro e w3 ⟨v3, rfl, hN3, hE3⟩
  have hb3 := hN3.sl
  unfold Byt at hb3
  rw [Hm.out] at hb3
  obtain ⟨A3, c3, rfl⟩ := hb3.form
  have hm3 := hm2'.ext hE3
  go_wp2_with fail
  refine (r_new _ _ _ (encFloat x ++ encInt n) (by unfold Byt; rw [Hm.out]; exact hb3) (by rw [Hm.out]; omega)).mono ?_
  rintro e w4 ⟨b, rfl, hbs, hR, hE4⟩
  have hm4 := hm3.ext hE4
  go_wp2_with fail
  refine (r_float _ _ _ _ hR).mono ?_
  rintro e w5 ⟨rfl, hR5, hm5⟩
  rw [float_enc x _ Hx.out] at hR5 ⊢
  go_wp2_with fail
  refine (k_float _ _ _).mono ?_
  rintro e w' ⟨rfl, rfl⟩
  rw [same_canon]
  have hs3 : N ≤ w3.heap.size := by have := hm3.size; have := HN.out; omega
  have hm5' : Mod (Since N) w w5 := hm4.trans hm5 (fun k _ h => by unfold Since; omega)
  go_wp2_with fail
  refine (r_int _ _ _ _ hR5).mono ?_
  rintro e w6 ⟨rfl, hR6, hm6⟩
  have hie := int_enc n [] Hn.out.1 Hn.out.2
  rw [List.append_nil] at hie
  rw [hie] at hR6 ⊢
  clear hie
  have hnn : (n != n) = false := by simp
  have hm6' : Mod (Since N) w w6 := hm5'.trans hm6 (fun k _ h => by unfold Since; omega)
  go_wp2_with fail
  refine (r_done _ _ _ _ hR6).mono ?_
  rintro e w' ⟨rfl, rfl⟩
  rw [show RS.done ⟨[], 0⟩ = 0 from rfl]
  go_wp2_with fail
  refine (ref_high _ _).mono ?_
  rintro e w7 ⟨v7, rfl, hN7, hE7⟩
  go_wp2_with fail
  refine (ref_int n _ Hn.out.1 Hn.out.2).mono ?_
  rintro e w8 ⟨v8, rfl, hN8, hE8⟩
  have hs7 := hE7.size
  have ho7 := own_mod hN7.1 hE8 (fun _ _ => id)
  rw [hib_len] at ho7
  have hb8 := hN8.sl
  unfold Byt at hb8
  obtain ⟨m8, hm8⟩ : ∃ m, (encInt n).length = m := ⟨_, rfl⟩
  rw [hm8] at hb8 hl2
  clear hm8
  go_wp2_with (at_builtin; refine wpList_app _ rfl _ _ 25 rfl 5 i0 _ 1 1 Try.underlying25 hi hz0 hz1 hz2 rfl (by omega) _ 8 ((hib 8 x).map B) rfl ho7 _ _ m8 ((encInt n).map B) rfl hb8 (B_one _) (by simp only [maxLen]; omega) (by omega) ?_)
  intro v9 w9 ho9 hgr hat
  obtain ⟨hB9, hE9⟩ := NewB.app (cs := hib 8 x ++ encInt n) (w := w6) ⟨own_mod hN7.1 hE8 (fun _ _ => id), hN7.2⟩ (hE7.ext hE8) (Mod.refl _ w8) (by simp) ho9 hgr hat (by have := hE8.size; omega)
  have hm9 := hm6'.ext hE9
  have hlen9 : (hib 8 x ++ encInt n).length ≤ 1000 := by have := encInt_len n; simp [hib_len]; omega
  go_wp2_with fail
  refine (r_new _ _ _ (hib 8 x ++ encInt n) hB9.sl (by omega)).mono ?_
  rintro e w10 ⟨b, rfl, hbs, hR10, hE10⟩
  have hm10 := hm9.ext hE10
  have hs9 : N ≤ w9.heap.size := by have := hm9.size; have := HN.out; omega
  go_wp2_with fail
  refine (r_float _ _ _ _ hR10).mono ?_
  rintro e w11 ⟨rfl, hR11, hm11⟩
  have hm11' : Mod (Since N) w w11 := hm10.trans hm11 (fun k _ h => by unfold Since; omega)
  by_cases hc : canon x = x
  · rw [(float_hib x _ Hx.out).1 hc] at hR11 ⊢
    have hno : (FloatKind.f64.format.order x x != some Ordering.eq) = false ∨ ((FloatKind.f64.format.order x x != some Ordering.eq) = true ∧ ((x : Int) != 9221120237041090561) = false) := by
      rcases hnn : isNaN x with _ | _
      · exact .inl hnn
      · refine .inr ⟨hnn, ?_⟩
        rw [canon_yes hnn] at hc
        rw [← hc]; rfl
    have hxx : ((x : Int) == (x : Int)) = true := by simp
    have hn2 : (n == n) = true := by simp
    clear hc
    rcases hno with e1 | ⟨e1, e2⟩
    all_goals
      go_wp2_with fail
      refine (r_int _ _ _ _ hR11).mono ?_
      rintro e w12 ⟨rfl, hR12, hm12⟩
      have hie := int_enc n [] Hn.out.1 Hn.out.2
      rw [List.append_nil] at hie
      rw [hie] at hR12 ⊢
      clear hie
      have hm12' : Mod (Since N) w w12 := hm11'.trans hm12 (fun k _ h => by unfold Since; omega)
      go_wp2_with fail
      refine (r_done _ _ _ _ hR12).mono ?_
      rintro e w' ⟨rfl, rfl⟩
      rw [show RS.done ⟨[], 0⟩ = 0 from rfl]
      go_wp2_with fail
      refine (wakes_any _).mono ?_
      rintro e w13 ⟨rfl, hE13⟩
      have hF := Hfin.out w13 (hm12'.ext hE13)
      go_wp2
      go_ret
      exact hF
  · rw [(float_hib x _ Hx.out).2 hc] at hR11 ⊢
    have hno : (FloatKind.f64.format.order x x != some Ordering.eq) = true := by
      rcases hnn : isNaN x with _ | _
      · exact absurd (canon_no hnn) hc
      · exact hnn
    have hne : ((x : Int) != 9221120237041090561) = true := by
      rw [bne_iff_ne]
      intro e
      apply hc
      have : x = theNaN := by unfold theNaN; omega
      rw [this]; exact canon_yes nan_nan
    clear hc
    go_wp2_with fail
    refine (r_int _ _ _ _ hR11).mono ?_
    rintro e w12 ⟨rfl, hR12, hm12⟩
    rw [int_bad (r := ⟨hib 8 x ++ encInt n, 3⟩) (by simp)] at hR12 ⊢
    have hm12' : Mod (Since N) w w12 := hm11'.trans hm12 (fun k _ h => by unfold Since; omega)
    go_wp2_with fail
    refine (r_done _ _ _ _ hR12).mono ?_
    rintro e w' ⟨rfl, rfl⟩
    rw [show RS.done ⟨hib 8 x ++ encInt n, 3⟩ = 3 from by simp [RS.done]]
    go_wp2_with fail
    refine (wakes_any _).mono ?_
    rintro e w13 ⟨rfl, hE13⟩
    have hF := Hfin.out w13 (hm12'.ext hE13)
    go_wp2
    go_ret
    exact hF
end Go.Proofs.Ytmndoppeoinkcaa
