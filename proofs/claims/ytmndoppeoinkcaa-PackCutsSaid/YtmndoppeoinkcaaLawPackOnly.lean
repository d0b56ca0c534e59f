/-
  PackOnly: whatever bytes and kinds come in, skerrylaw02.PackOnly returns true, and its arguments read as before. Conditions: none.
-/
import Derived.Test.YtmndoppeoinkcaaLawPackBack
namespace Go.Proofs.Ytmndoppeoinkcaa
open Go.RowKit Go.ChangeShapes Go.WideShapes Go.ChangeAt Go.Deep

/-- What is read by a kind, as the bytes that are written of it, and the reader behind it. -/
def rdk (k : Int) (r : RS) : List UInt8 × RS :=
  if k % 4 = 0 then (encInt r.int.1, r.int.2) else if k % 4 = 1 then (encMark r.mark.1, r.mark.2) else if k % 4 = 2 then (encFloat r.float.1, r.float.2) else (encText r.text.1, r.text.2)
theorem mark_e (r : RS) : r.mark.2.e = 0 → r.e = 0 := by
  unfold RS.mark
  split
  · exact id
  · intro _; rename_i h; omega
theorem float_e (r : RS) : r.float.2.e = 0 → r.e = 0 := by
  unfold RS.float
  split
  · exact id
  · intro _; rename_i h; omega
theorem text_len (r : RS) : r.text.1.length ≤ 16384 := by
  rw [text_eq]
  split
  · simp
  · split
    · simp
    · split
      · simp
      · rw [List.length_take]; omega
theorem rs_eta (r : RS) (h : r.e = 0) : r = ⟨r.left, 0⟩ := by cases r; simp at h; subst h; rfl
theorem rdk_inv (k : Int) (r : RS) (h : (rdk k r).2.e = 0) : r.e = 0 ∧ r.left = (rdk k r).1 ++ (rdk k r).2.left := by
  unfold rdk at h ⊢
  split
  · rename_i h4; rw [if_pos h4] at h
    have h0 := int_e r h
    rw [rs_eta r h0] at h ⊢
    exact ⟨rfl, enc_int (rs_eta _ h)⟩
  · rename_i h4; rw [if_neg h4] at h
    split
    · rename_i h5; rw [if_pos h5] at h
      have h0 := mark_e r h
      rw [rs_eta r h0] at h ⊢
      exact ⟨rfl, enc_mark (rs_eta _ h)⟩
    · rename_i h5; rw [if_neg h5] at h
      split
      · rename_i h6; rw [if_pos h6] at h
        have h0 := float_e r h
        rw [rs_eta r h0] at h ⊢
        exact ⟨rfl, (enc_float (rs_eta _ h)).1⟩
      · rename_i h6; rw [if_neg h6] at h
        have h0 := text_e r h
        rw [rs_eta r h0] at h ⊢
        exact ⟨rfl, (enc_text (rs_eta _ h)).1⟩
theorem rdk_len (k : Int) (r : RS) : (rdk k r).1.length ≤ 16400 := by
  unfold rdk
  split
  · have := encInt_len r.int.1; simp; omega
  · split
    · simp [encMark]; split <;> simp
    · split
      · have := encFloat_len r.float.1; simp; omega
      · have h1 := encInt_len r.text.1.length; have h2 := text_len r; simp [encText]; omega

/-- Blocks from a on, below b. -/
abbrev Btw (a b : Nat) : Nat → Prop := fun k => a ≤ k ∧ k < b
theorem Wr.btw {w w1 : World} {a b c : Nat} {bs : List UInt8} {long : Bool} (h : Wr w (Nw (Btw a b) w1) c bs long) (ha : a ≤ w1.heap.size) : Wr w (Btw a w.heap.size) c bs long :=
  h.mono fun _ hk h => ⟨h.elim (·.1) (fun h => Nat.le_trans ha h), hk⟩

/-- What holds at the head of every round. -/
structure OnlyInv (w : World) (N N1 rb : Nat) (l0 : List UInt8) (i : Nat) (wr : World) : Prop where
  ex : ∃ (r : RS) (bs : List UInt8), Rd wr (Btw N N1) rb r ∧ Wr wr (Btw N1 wr.heap.size) N1 bs false ∧ bs.length ≤ i * 16400 ∧ (r.e = 0 → l0 = bs ++ r.left)
  mod : Mod (Since N) w wr
  lo : N ≤ N1
  hi : N1 ≤ wr.heap.size

set_option maxRecDepth 100000 in
set_option maxHeartbeats 1000000 in
theorem packOnly_walk (w : World) (v0 v1 : Value) (l0 : List UInt8) (l1 : List Int) (h0 : Byt w (fun g => g < w.heap.size) v0 l0) (h1 : Sl w (fun g => g < w.heap.size) 1 v1 l1.length (l1.map (Value.int .i64)))
    (hb1 : ∀ n ∈ l1, -9223372036854775808 ≤ n ∧ n ≤ 9223372036854775807) :
    Calls Try.prog 6 #[v0, v1] w (LawOk w) := by
  obtain ⟨N, hN⟩ : ∃ N, w.heap.size = N := ⟨_, rfl⟩
  rw [hN] at h0 h1
  obtain ⟨n0, hn0⟩ : ∃ n, l0.length = n := ⟨_, rfl⟩
  obtain ⟨n, hn⟩ : ∃ n, l1.length = n := ⟨_, rfl⟩
  unfold Byt at h0
  rw [hn0] at h0
  rw [hn] at h1
  obtain ⟨A, c, rfl⟩ := h0.form
  obtain ⟨A1, c1, rfl⟩ := h1.form
  have hle := h0.le
  have hle1 := h1.le
  unfold maxLen at hle hle1
  have Hn := Lib.hid hn
  have Hn0 := Lib.hid hn0
  have HN := Lib.hid hN
  have Hb1 := Lib.hid hb1
  have hfin : ∀ w', Mod (Since N) w w' → LawOk w (.returned (.bool true)) w' := fun w' hm => ⟨rfl, hm.below (by have := HN.out; omega) (fun k hk => by have := HN.out; unfold Since; omega)⟩
  have Hfin := Lib.hid hfin
  clear hn hn0 hb1 hfin hN
  by_cases g0 : 32768 < n0
  · have d0 : decide ((32768 : Int) < (n0 : Int)) = true := by simp; omega
    go_enter Try.func6, Try.ntmps6
    go_wp2
    go_ret
    exact Hfin.out _ (Mod.refl _ _)
  · have d0 : decide ((32768 : Int) < (n0 : Int)) = false := by simp; omega
    by_cases g1 : 200 < n
    · have d1 : decide ((200 : Int) < (n : Int)) = true := by simp; omega
      go_enter Try.func6, Try.ntmps6
      go_wp2
      go_ret
      exact Hfin.out _ (Mod.refl _ _)
    · have d1 : decide ((200 : Int) < (n : Int)) = false := by simp; omega
      go_enter Try.func6, Try.ntmps6
      go_wp2_with fail
      refine (r_new _ _ _ l0 (by unfold Byt; rw [Hn0.out]; exact h0) (by rw [Hn0.out]; omega)).mono ?_
      rintro e w1 ⟨b, rfl, hbs, hR, hE⟩
      have hR := hR.cap
      rw [HN.out] at hR hbs
      obtain ⟨N1, hN1⟩ : ∃ N, w1.heap.size = N := ⟨_, rfl⟩
      have hNN : N ≤ N1 := by have := hE.size; have := HN.out; omega
      rw [hN1] at hR
      have hW := Wr.new w1 27
      rw [hN1] at hW
      have HN1 := Lib.hid hN1
      have hstart : OnlyInv w N N1 b l0 0 (w1.alloc (.cells #[.slice none 0 0, .bool false] 27)) :=
        ⟨⟨⟨l0, 0⟩, [], hR.mod ((Mod.refl (fun _ => False) w1).alloc _) (fun _ _ => id), hW.mono (fun k hk h => ⟨h, hk⟩), by simp, fun _ => by simp⟩, (hE.mod _).alloc _, hNN, by simp; omega⟩
      have Hst := Lib.hid hstart
      clear hstart hR hW d0 d1
      go_wp2
      go_loopw [7] (fun iv wr => ∃ i : Nat, i ≤ n ∧ iv = .int .i64 i ∧ OnlyInv w N N1 b l0 i wr) (fun iv _ => n - (intOf iv).toNat)
      case atStart => exact ⟨0, by omega, rfl, Hst.out⟩
      case round =>
        obtain ⟨i, hin, rfl, ⟨⟨r, bs, hR, hW, hlen, hinv⟩, hm, _, hi1⟩⟩ := hrel
        have Hinv := Lib.hid hinv
        clear hinv Hst
        have hk1 := h1.mod hm (fun g hg h => by unfold Since at h; omega)
        by_cases hi : i < n
        · obtain ⟨g, off, k, rfl, hkk, hcell⟩ : ∃ g off k, A1 = some ⟨g, off, none⟩ ∧ l1[i]? = some k ∧ wr.cell? ⟨g, off + i, none⟩ = some (.int .i64 k) := by
            obtain ⟨hl, A', c', e, hn, hc, hx⟩ := hk1
            injection e with e1 _ e3; subst e1; subst e3
            obtain ⟨g, off, rfl, hT, hcell⟩ := hx (by omega)
            have hli : i < l1.length := by rw [Hn.out]; exact hi
            exact ⟨g, off, l1[i], rfl, List.getElem?_eq_getElem hli, hcell i _ (by simp [List.getElem?_eq_getElem hli])⟩
          have hkm := kind_mod k
          have hstep : ∀ w', Rd w' (Btw N N1) b (rdk k r).2 → Wr w' (Btw N1 w'.heap.size) N1 (bs ++ (rdk k r).1) false → Mod (Since N) w w' → N1 ≤ w'.heap.size → OnlyInv w N N1 b l0 (i + 1) w' := by
            intro w' a1 a2 a3 a4
            refine ⟨⟨_, _, a1, a2, by have := rdk_len k r; simp; omega, fun he => ?_⟩, a3, hNN, a4⟩
            obtain ⟨e1, e2⟩ := rdk_inv k r he
            rw [Hinv.out e1, e2, List.append_assoc]
          have Hstep := Lib.hid hstep
          have hle9 : bs.length ≤ 900000000 := by omega
          have hdis : ∀ g, Btw N1 wr.heap.size g → ¬ Btw N N1 g := fun g h1 h2 => by omega
          have hdis2 : ∀ g, Btw N N1 g → ¬ Btw N1 wr.heap.size g := fun g h1 h2 => by omega
          clear hstep hkk hk1
          have : k % 4 = 0 ∨ k % 4 = 1 ∨ k % 4 = 2 ∨ k % 4 = 3 := by omega
          rcases this with h4 | h4 | h4 | h4
          · rw [h4] at hkm
            have Hr : Hid (rdk k r = (encInt r.int.1, r.int.2)) := Lib.hid (by simp [rdk, h4])
            clear h4
            go_wp2_with fail
            refine (r_int _ _ _ _ hR).mono ?_
            rintro e w2 ⟨rfl, hR2, hm2⟩
            have hW2 := hW.mod hm2 hdis
            have hir := int_range r
            go_wp2_with fail
            refine (w_int _ _ _ _ _ _ hW2 (by omega) hir.1 hir.2).mono ?_
            rintro e w3 ⟨rfl, hW3, hm3⟩
            have hs2 := hm2.size
            have hs3 := hm3.size
            have hF := Hstep.out w3 (by rw [Hr.out]; exact hR2.mod hm3 hdis2) (by rw [Hr.out]; exact hW3.btw (by omega)) ((hm.trans hm2 (fun k _ h => h.1)).trans hm3 (fun k _ h => by unfold Since; omega)) (by omega)
            go_wp2
            exact ⟨⟨i + 1, by omega, by go_num, hF⟩, by simp [intOf]; omega⟩
          · rw [h4] at hkm
            have Hr : Hid (rdk k r = (encMark r.mark.1, r.mark.2)) := Lib.hid (by simp [rdk, h4])
            clear h4
            go_wp2_with fail
            refine (r_mark _ _ _ _ hR).mono ?_
            rintro e w2 ⟨rfl, hR2, hm2⟩
            have hW2 := hW.mod hm2 hdis
            go_wp2_with fail
            refine (w_mark _ _ _ _ _ _ hW2 (by omega)).mono ?_
            rintro e w3 ⟨rfl, hW3, hm3⟩
            have hs2 := hm2.size
            have hs3 := hm3.size
            have hF := Hstep.out w3 (by rw [Hr.out]; exact hR2.mod hm3 hdis2) (by rw [Hr.out]; exact hW3.btw (by omega)) ((hm.trans hm2 (fun k _ h => h.1)).trans hm3 (fun k _ h => by unfold Since; omega)) (by omega)
            go_wp2
            exact ⟨⟨i + 1, by omega, by go_num, hF⟩, by simp [intOf]; omega⟩
          · rw [h4] at hkm
            have Hr : Hid (rdk k r = (encFloat r.float.1, r.float.2)) := Lib.hid (by simp [rdk, h4])
            clear h4
            go_wp2_with fail
            refine (r_float _ _ _ _ hR).mono ?_
            rintro e w2 ⟨rfl, hR2, hm2⟩
            have hW2 := hW.mod hm2 hdis
            go_wp2_with fail
            refine (w_float _ _ _ _ _ _ hW2 (by omega)).mono ?_
            rintro e w3 ⟨rfl, hW3, hm3⟩
            have hs2 := hm2.size
            have hs3 := hm3.size
            have hF := Hstep.out w3 (by rw [Hr.out]; exact hR2.mod hm3 hdis2) (by rw [Hr.out]; exact hW3.btw (by omega)) ((hm.trans hm2 (fun k _ h => h.1)).trans hm3 (fun k _ h => by unfold Since; omega)) (by omega)
            go_wp2
            exact ⟨⟨i + 1, by omega, by go_num, hF⟩, by simp [intOf]; omega⟩
          · rw [h4] at hkm
            have Hr : Hid (rdk k r = (encText r.text.1, r.text.2)) := Lib.hid (by simp [rdk, h4])
            clear h4
            go_wp2_with fail
            refine (r_text _ _ _ _ hR (fun k hk => by omega)).mono ?_
            rintro e w2 ⟨v2, rfl, hN2, hR2, hm2⟩
            have hW2 := hW.mod hm2 hdis
            go_wp2_with fail
            refine (w_text _ _ (Since wr.heap.size) _ _ _ _ _ hW2 (by omega) hN2.sl (fun g a1 a2 => by unfold Since at a1; omega) (text_len r)).mono ?_
            rintro e w3 ⟨rfl, hW3, hm3⟩
            have hs2 := hm2.size
            have hs3 := hm3.size
            have hF := Hstep.out w3 (by rw [Hr.out]; exact hR2.mod hm3 hdis2) (by rw [Hr.out]; exact hW3.btw (by omega)) ((hm.trans hm2 (fun k _ h => h.1)).trans hm3 (fun k _ h => by unfold Since; omega)) (by omega)
            go_wp2
            exact ⟨⟨i + 1, by omega, by go_num, hF⟩, by simp [intOf]; omega⟩
        · by_cases hd : r.done = 0
          · have he : r.e = 0 ∧ r.left = [] := by
              unfold RS.done at hd
              split at hd
              · omega
              · rename_i hne
                exact ⟨hd, List.eq_nil_of_length_eq_zero (by omega)⟩
            have heq := Hinv.out he.1
            rw [he.2, List.append_nil] at heq
            have Heq := Lib.hid heq
            clear heq he
            go_wp2_with fail
            refine (r_done _ _ _ _ hR).mono ?_
            rintro e w' ⟨rfl, rfl⟩
            rw [hd]
            clear hd
            go_wp2_with fail
            refine (w_bytes _ _ _ _ hW (by omega)).mono ?_
            rintro e w2 ⟨v2, rfl, hN2, hE2⟩
            have hm2 := hm.ext hE2
            go_wp2_with fail
            refine (k_bytes _ _ _ _ _ bs l0 hN2.sl (by unfold Byt; rw [Hn0.out]; exact h0.mod hm2 (fun g hg h => by unfold Since at h; omega))).mono ?_
            rintro e w3 ⟨rfl, hE3⟩
            rw [show (bs == l0) = true from by rw [Heq.out]; simp]
            go_wp2_with fail
            refine (wakes_any _).mono ?_
            rintro e w4 ⟨rfl, hE4⟩
            have hF := Hfin.out w4 ((hm2.ext hE3).ext hE4)
            go_wp2
            go_ret
            exact hF
          · have hd' : (r.done != 0) = true := by simp [hd]
            clear hd
            go_wp2_with fail
            refine (r_done _ _ _ _ hR).mono ?_
            rintro e w' ⟨rfl, rfl⟩
            go_wp2_with fail
            refine (wakes_any _).mono ?_
            rintro e w4 ⟨rfl, hE4⟩
            have hF := Hfin.out w4 (hm.ext hE4)
            go_wp2
            go_ret
            exact hF
end Go.Proofs.Ytmndoppeoinkcaa
