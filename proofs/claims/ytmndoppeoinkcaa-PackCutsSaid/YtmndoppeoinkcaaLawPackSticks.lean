/-
  PackSticks: whatever bytes and kinds come in, skerrylaw02.PackSticks returns true, and its arguments read as before. Conditions: none.
-/
import Derived.Test.YtmndoppeoinkcaaLawPackOnly
namespace Go.Proofs.Ytmndoppeoinkcaa
open Go.RowKit Go.ChangeShapes Go.WideShapes Go.ChangeAt Go.Deep

theorem int_bad {r : RS} (h : r.e ≠ 0) : r.int = (0, r) := by simp [RS.int, h]
theorem text_bad {r : RS} (h : r.e ≠ 0) : r.text = ([], r) := by rw [text_eq, int_bad h]; simp [h]
theorem mark_left (r : RS) : r.mark.2.left.length ≤ r.left.length := by
  obtain ⟨l, e⟩ := r
  unfold RS.mark
  split
  · simp
  · rcases l with _ | ⟨c, l⟩
    · simp
    · simp only; split <;> simp
theorem float_left (r : RS) : r.float.2.left.length ≤ r.left.length := by
  unfold RS.float
  split
  · simp
  · split
    · simp
    · split
      · simp
      · simp
theorem text_left (r : RS) : r.text.2.left.length ≤ r.left.length := by
  have := int_left_le r
  rw [text_eq]
  split
  · exact this
  · split
    · exact this
    · split
      · exact this
      · simp; omega
theorem zeroF : (FloatKind.f64.format.order 0 0 == some Ordering.eq) = true := by kernel_rfl
theorem sticks_three (r r' : RS) (hl : r'.left.length ≤ r.left.length) (he : r.e = 0) :
    (decide (r.leftN < r'.leftN) = false) ∧ ((r'.leftN = 0 ∧ r'.done = r'.e ∧ (r'.e != 0) = true) ∨ (r'.leftN = 0 ∧ r'.done = 0 ∧ r'.e = 0) ∨ ((r'.leftN == 0) = false ∧ r'.e = 0)) := by
  have e1 : r.leftN = r.left.length := by unfold RS.leftN; rw [if_neg (by omega)]
  rw [e1]
  by_cases h : r'.e = 0
  · have e2 : r'.leftN = r'.left.length := by unfold RS.leftN; rw [if_neg (by omega)]
    rw [e2]
    refine ⟨by simp; omega, .inr ?_⟩
    rcases Nat.eq_zero_or_pos r'.left.length with h0 | h0
    · exact .inl ⟨by omega, by unfold RS.done; rw [if_neg (by omega), h], h⟩
    · exact .inr ⟨by simp; intro e; rw [e] at h0; simp at h0, h⟩
  · have e2 : r'.leftN = 0 := by unfold RS.leftN; rw [if_pos h]
    rw [e2]
    exact ⟨by simp, .inl ⟨rfl, by unfold RS.done; rw [if_neg (by omega)], by simp [h]⟩⟩

/-- What holds at the head of every round: the error that is kept is the reader's. -/
structure SticksInv (w : World) (N N1 rb : Nat) (x : Int) (wr : World) : Prop where
  ex : ∃ r : RS, Rd wr (Btw N N1) rb r ∧ r.e = x
  mod : Mod (Since N) w wr
  hi : N1 ≤ wr.heap.size

set_option maxRecDepth 100000 in
set_option maxHeartbeats 2000000 in
theorem packSticks_walk (w : World) (v0 v1 : Value) (l0 : List UInt8) (l1 : List Int) (h0 : Byt w (fun g => g < w.heap.size) v0 l0) (h1 : Sl w (fun g => g < w.heap.size) 1 v1 l1.length (l1.map (Value.int .i64)))
    (_hb1 : ∀ n ∈ l1, -9223372036854775808 ≤ n ∧ n ≤ 9223372036854775807) :
    Calls Try.prog 5 #[v0, v1] w (LawOk w) := by
  obtain ⟨N, hN⟩ : ∃ N, w.heap.size = N := ⟨_, rfl⟩
  rw [hN] at h0 h1
  obtain ⟨n0, hn0⟩ : ∃ n, l0.length = n := ⟨_, rfl⟩
  obtain ⟨n, hn⟩ : ∃ n, l1.length = n := ⟨_, rfl⟩
  unfold Byt at h0
  rw [hn0] at h0
  rw [hn] at h1
  obtain ⟨A, c, rfl⟩ := h0.form
  obtain ⟨A1, c1, rfl⟩ := h1.form
  have hle := h0.le
  have hle1 := h1.le
  unfold maxLen at hle hle1
  have Hn := Lib.hid hn
  have Hn0 := Lib.hid hn0
  have HN := Lib.hid hN
  have hfin : ∀ w', Mod (Since N) w w' → LawOk w (.returned (.bool true)) w' := fun w' hm => ⟨rfl, hm.below (by have := HN.out; omega) (fun k hk => by have := HN.out; unfold Since; omega)⟩
  have Hfin := Lib.hid hfin
  clear hn hn0 hfin hN
  by_cases g0 : 32768 < n0
  · have d0 : decide ((32768 : Int) < (n0 : Int)) = true := by simp; omega
    go_enter Try.func5, Try.ntmps5
    go_wp2
    go_ret
    exact Hfin.out _ (Mod.refl _ _)
  · have d0 : decide ((32768 : Int) < (n0 : Int)) = false := by simp; omega
    by_cases g1 : 200 < n
    · have d1 : decide ((200 : Int) < (n : Int)) = true := by simp; omega
      go_enter Try.func5, Try.ntmps5
      go_wp2
      go_ret
      exact Hfin.out _ (Mod.refl _ _)
    · have d1 : decide ((200 : Int) < (n : Int)) = false := by simp; omega
      go_enter Try.func5, Try.ntmps5
      go_wp2_with fail
      refine (r_new _ _ _ l0 (by unfold Byt; rw [Hn0.out]; exact h0) (by rw [Hn0.out]; omega)).mono ?_
      rintro e w1 ⟨b, rfl, hbs, hR, hE⟩
      have hR := hR.cap
      rw [HN.out] at hR hbs
      obtain ⟨N1, hN1⟩ : ∃ N, w1.heap.size = N := ⟨_, rfl⟩
      have hNN : N ≤ N1 := by have := hE.size; have := HN.out; omega
      rw [hN1] at hR
      have hstart : SticksInv w N N1 b 0 w1 := ⟨⟨⟨l0, 0⟩, hR, rfl⟩, hE.mod _, by omega⟩
      have Hst := Lib.hid hstart
      clear hstart hR d0 d1 hN1
      go_wp2
      go_loopw [6, 7] (fun xv iv wr => ∃ (i : Nat) (x : Int), i ≤ n ∧ iv = .int .i64 i ∧ xv = .int .i64 x ∧ SticksInv w N N1 b x wr) (fun _ iv _ => n - (intOf iv).toNat)
      case atStart => exact ⟨0, 0, by omega, rfl, rfl, Hst.out⟩
      case round =>
        obtain ⟨i, x, hin, rfl, rfl, ⟨⟨r, hR, hx⟩, hm, hi1⟩⟩ := hrel
        clear Hst
        have hk1 := h1.mod hm (fun g hg h => by unfold Since at h; omega)
        by_cases hi : i < n
        · obtain ⟨g, off, k, rfl, hcell⟩ : ∃ g off k, A1 = some ⟨g, off, none⟩ ∧ wr.cell? ⟨g, off + i, none⟩ = some (.int .i64 k) := by
            obtain ⟨hl, A', c', e, hn, hc, hx⟩ := hk1
            injection e with e1 _ e3; subst e1; subst e3
            obtain ⟨g, off, rfl, hT, hcell⟩ := hx (by omega)
            have hli : i < l1.length := by rw [Hn.out]; exact hi
            exact ⟨g, off, l1[i], rfl, hcell i _ (by simp [List.getElem?_eq_getElem hli])⟩
          have hkm := kind_mod k
          have hS1 : ∀ q, Btw N N1 q → q < wr.heap.size := fun q hq => by omega
          have HS1 := Lib.hid hS1
          clear hk1 hS1
          have h4 : k % 4 = 0 ∨ k % 4 = 1 ∨ k % 4 = 2 ∨ k % 4 = 3 := by omega
          by_cases hx0 : x = 0
          · subst hx0
            have Hx := Lib.hid hx
            clear hx
            go_wp2_with fail
            refine (r_left _ _ _ _ hR).mono ?_
            rintro e w' ⟨rfl, rfl⟩
            rcases h4 with h4 | h4 | h4 | h4 <;> rw [h4] at hkm <;> clear h4
            case' inl =>
              go_wp2_with fail
              refine (r_int _ _ _ _ hR).mono ?_
              rintro e w2 ⟨rfl, hR2, hm2⟩
              obtain ⟨r2, hr2⟩ : ∃ r2, r.int.2 = r2 := ⟨_, rfl⟩
              have hl2 : r2.left.length ≤ r.left.length := by rw [← hr2]; exact int_left_le r
              rw [hr2] at hR2
              clear hr2
            case' inr.inl =>
              go_wp2_with fail
              refine (r_mark _ _ _ _ hR).mono ?_
              rintro e w2 ⟨rfl, hR2, hm2⟩
              obtain ⟨r2, hr2⟩ : ∃ r2, r.mark.2 = r2 := ⟨_, rfl⟩
              have hl2 : r2.left.length ≤ r.left.length := by rw [← hr2]; exact mark_left r
              rw [hr2] at hR2
              clear hr2
            case' inr.inr.inl =>
              go_wp2_with fail
              refine (r_float _ _ _ _ hR).mono ?_
              rintro e w2 ⟨rfl, hR2, hm2⟩
              obtain ⟨r2, hr2⟩ : ∃ r2, r.float.2 = r2 := ⟨_, rfl⟩
              have hl2 : r2.left.length ≤ r.left.length := by rw [← hr2]; exact float_left r
              rw [hr2] at hR2
              clear hr2
            case' inr.inr.inr =>
              go_wp2_with fail
              refine (r_text _ _ _ _ hR HS1.out).mono ?_
              rintro e w2 ⟨v2, rfl, hN2, hR2, hm2⟩
              obtain ⟨r2, hr2⟩ : ∃ r2, r.text.2 = r2 := ⟨_, rfl⟩
              have hl2 : r2.left.length ≤ r.left.length := by rw [← hr2]; exact text_left r
              rw [hr2] at hR2
              obtain ⟨A5, c5, rfl⟩ := own_form hN2.1
              clear hr2
            all_goals
              obtain ⟨hd, h3⟩ := sticks_three r r2 hl2 Hx.out
              have hm4 := hm.trans hm2 (fun k _ h => h.1)
              have hs2 := hm2.size
              go_wp2_with fail
              refine (r_left _ _ _ _ hR2).mono ?_
              rintro e w' ⟨rfl, rfl⟩
              go_wp2_with fail
              refine (r_left _ _ _ _ hR2).mono ?_
              rintro e w' ⟨rfl, rfl⟩
              rcases h3 with ⟨q1, q2, q3⟩ | ⟨q1, q2, q3⟩ | ⟨q1, q3⟩
              · go_wp2_with fail
                refine (r_done _ _ _ _ hR2).mono ?_
                rintro e w' ⟨rfl, rfl⟩
                go_wp2_with fail
                refine (r_done _ _ _ _ hR2).mono ?_
                rintro e w' ⟨rfl, rfl⟩
                go_wp2
                exact ⟨⟨i + 1, r2.e, by omega, by go_num, rfl, ⟨⟨r2, hR2, rfl⟩, hm4, by omega⟩⟩, by simp [intOf]; omega⟩
              · go_wp2_with fail
                refine (r_done _ _ _ _ hR2).mono ?_
                rintro e w' ⟨rfl, rfl⟩
                go_wp2
                exact ⟨⟨i + 1, 0, by omega, by go_num, rfl, ⟨⟨r2, hR2, q3⟩, hm4, by omega⟩⟩, by simp [intOf]; omega⟩
              · go_wp2
                exact ⟨⟨i + 1, 0, by omega, by go_num, rfl, ⟨⟨r2, hR2, q3⟩, hm4, by omega⟩⟩, by simp [intOf]; omega⟩
          · have he : r.e ≠ 0 := by rw [hx]; exact hx0
            have e1 : (x != 0) = true := by simp [hx0]
            have e2 : (x != x) = false := by simp
            have e3 : (x == 0) = false := by simp [hx0]
            have e4 : r.leftN = 0 := by unfold RS.leftN; rw [if_pos he]
            have e5 : r.done = x := by unfold RS.done; rw [if_neg (by omega)]; exact hx
            have zF := zeroF
            have Hx := Lib.hid hx
            have He := Lib.hid he
            have Htb := Lib.hid (text_bad he)
            clear hx he hx0
            go_wp2_with fail
            refine (r_left _ _ _ _ hR).mono ?_
            rintro e w' ⟨rfl, rfl⟩
            rcases h4 with h4 | h4 | h4 | h4 <;> rw [h4] at hkm <;> clear h4
            case' inl =>
              go_wp2_with fail
              refine (r_int_bad _ _ _ _ hR He.out).mono ?_
              rintro e w2 ⟨rfl, rfl⟩
              have hR2 := hR
              have hm4 := hm
            case' inr.inl =>
              go_wp2_with fail
              refine (r_mark_bad _ _ _ _ hR He.out).mono ?_
              rintro e w2 ⟨rfl, rfl⟩
              have hR2 := hR
              have hm4 := hm
            case' inr.inr.inl =>
              go_wp2_with fail
              refine (r_float_bad _ _ _ _ hR He.out).mono ?_
              rintro e w2 ⟨rfl, rfl⟩
              have hR2 := hR
              have hm4 := hm
            case' inr.inr.inr =>
              go_wp2_with fail
              refine (r_text _ _ _ _ hR HS1.out).mono ?_
              rintro e w2 ⟨v2, rfl, hN2, hR2, hm2⟩
              rw [Htb.out] at hR2 hN2
              obtain ⟨A5, c5, rfl⟩ := own_form hN2.1
              have hm4 := hm.trans hm2 (fun k _ h => h.1)
              have hi1 : N1 ≤ w2.heap.size := by have := hm2.size; omega
              simp only [List.length_nil] at *
            all_goals
              go_wp2_with fail
              refine (r_left _ _ _ _ hR2).mono ?_
              rintro e w' ⟨rfl, rfl⟩
              go_wp2_with fail
              refine (r_done _ _ _ _ hR2).mono ?_
              rintro e w' ⟨rfl, rfl⟩
              go_wp2_with fail
              refine (r_left _ _ _ _ hR2).mono ?_
              rintro e w' ⟨rfl, rfl⟩
              go_wp2
              exact ⟨⟨i + 1, x, by omega, by go_num, rfl, ⟨⟨r, hR2, Hx.out⟩, hm4, by omega⟩⟩, by simp [intOf]; omega⟩
        · go_wp2_with fail
          refine (wakes_any _).mono ?_
          rintro e w4 ⟨rfl, hE4⟩
          have hF := Hfin.out w4 (hm.ext hE4)
          go_wp2
          go_ret
          exact hF
end Go.Proofs.Ytmndoppeoinkcaa
