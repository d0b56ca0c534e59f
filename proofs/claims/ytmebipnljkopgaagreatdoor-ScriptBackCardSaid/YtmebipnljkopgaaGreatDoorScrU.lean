/-
 Layer 27 (script): strconv.ParseUint at base 16, of 64 bits: what is needed of it. Conditions: the text is no longer than 100000 bytes; the package variables are as start-up lays them (Glb).
-/
import Derived.Test.YtmebipnljkopgaaGreatDoorScrG
import Derived.Test.YtmebipnljkopgaaGreatDoorScrB
import Derived.Laws.BitsAllLaws
namespace Go.Proofs.YtmebipnljkopgaaGreatDoor
set_option linter.unusedSimpArgs false
set_option linter.unusedVariables false
open Go.RowKit
/-- What a byte is to ParseUint: the digit that it counts as, and the same for lower case alone. -/
theorem low_fin : ∀ n : Fin 256, ∃ q : Fin 256, bits .or .u8 (n.val : Int) 32 = (q.val : Int) ∧
  ((48 ≤ n.val ∧ n.val ≤ 57 ∧ hexV (UInt8.ofNat n.val) = some (n.val - 48)) ∨
   (¬ (48 ≤ n.val ∧ n.val ≤ 57) ∧ n.val ≠ 95 ∧ 97 ≤ q.val ∧ q.val ≤ 122 ∧ (hexV (UInt8.ofNat n.val) = none ∨ (q.val ≤ 102 ∧ hexV (UInt8.ofNat n.val) = some (q.val - 87)))) ∨
   (¬ (48 ≤ n.val ∧ n.val ≤ 57) ∧ ¬ (97 ≤ q.val ∧ q.val ≤ 122) ∧ hexV (UInt8.ofNat n.val) = none)) := by decide +kernel
theorem low_of (c : UInt8) : ∃ n q : Nat, c.toNat = n ∧ n < 256 ∧ q < 256 ∧ bits .or .u8 (n : Int) 32 = (q : Int) ∧
  ((∃ d : Nat, n = 48 + d ∧ d < 10 ∧ hexV c = some d) ∨
   (∃ d : Nat, ¬ (48 ≤ n ∧ n ≤ 57) ∧ n ≠ 95 ∧ q = 97 + d ∧ d < 26 ∧ (hexV c = none ∨ (d < 6 ∧ hexV c = some (d + 10)))) ∨
   (¬ (48 ≤ n ∧ n ≤ 57) ∧ ¬ (97 ≤ q ∧ q ≤ 122) ∧ hexV c = none)) := by
 obtain ⟨q, h1, h2⟩ := low_fin ⟨c.toNat, c.toNat_lt⟩
 have e : UInt8.ofNat c.toNat = c := by simp
 simp only [e] at h1 h2
 refine ⟨c.toNat, q.val, rfl, c.toNat_lt, q.isLt, h1, ?_⟩
 rcases h2 with ⟨a, b, h⟩ | ⟨a, a95, b, b', h⟩ | h
 · exact .inl ⟨c.toNat - 48, by omega, by omega, h⟩
 · refine .inr (.inl ⟨q.val - 97, a, a95, by omega, by omega, ?_⟩)
   rcases h with h | ⟨h, h'⟩
   · exact .inl h
   exact .inr ⟨by omega, by rw [h']; congr 1; omega⟩
 exact .inr (.inr h)
/-- The state in the loop. -/
def PuAt (l : List UInt8) (k n : Nat) : Prop := (hexF 0 l = hexF n (l.drop k) ∨ hexF 0 l = none) ∧ n < 18446744073709551616 ∧ (k ≤ 15 → n < 16 ^ k)
theorem puAt_zero (l : List UInt8) : PuAt l 0 0 := ⟨.inl rfl, by omega, fun _ => by simp⟩
theorem puAt_bad {l : List UInt8} {k n : Nat} {c : UInt8} (h : PuAt l k n) (hc : l[k]? = some c) (hv : hexV c = none) : hexF 0 l = none := by
 rcases h.1 with h | h
 · obtain ⟨h1, rfl⟩ := List.getElem?_eq_some_iff.1 hc
   rw [h, List.drop_eq_getElem_cons h1]
   simp only [hexF, hv]
 exact h
theorem puAt_far {l : List UInt8} {k n : Nat} {c : UInt8} (h : PuAt l k n) (hc : l[k]? = some c) (hn : 1152921504606846976 ≤ n) : l.length ≠ 16 := by
 intro hl
 have h1 := (List.getElem?_eq_some_iff.1 hc).1
 have h2 := h.2.2 (by omega)
 have h3 := Nat.pow_le_pow_right (n := 16) (by omega) (show k ≤ 15 by omega)
 have h4 : (16 : Nat) ^ 15 = 1152921504606846976 := by decide
 omega
theorem puAt_step {l : List UInt8} {k n d : Nat} {c : UInt8} (h : PuAt l k n) (hc : l[k]? = some c) (hn : ¬ 1152921504606846976 ≤ n) (hd : d < 16) (hv : hexV c = some d ∨ hexV c = none) : PuAt l (k + 1) (n * 16 + d) := by
 have h1 := (List.getElem?_eq_some_iff.1 hc).1
 refine ⟨?_, by omega, fun hk => ?_⟩
 · rcases hv with hv | hv
   · rcases h.1 with h2 | h2
     · refine .inl ?_
       obtain ⟨h1, rfl⟩ := List.getElem?_eq_some_iff.1 hc
       rw [h2, List.drop_eq_getElem_cons h1]
       simp only [hexF, hv]
       rw [Nat.mul_comm]
     exact .inr h2
   exact .inr (puAt_bad h hc hv)
 have := h.2.2 (by omega)
 rw [Nat.pow_succ]; omega
def PuIn (w : World) (l : List UInt8) (e : Ending) (w' : World) : Prop := Ext w w' ∧
  ((∃ n : Nat, n < 18446744073709551616 ∧ e = .returned (.tuple #[.int .u64 n, .nilIface]) ∧ (hexF 0 l = some n ∨ hexF 0 l = none)) ∨
   (∃ n c : Nat, n < 18446744073709551616 ∧ (c = 1 ∨ c = 2) ∧ e = .returned (.tuple #[.int .u64 n, .iface 127 (.int .i64 c)]) ∧ (hexF 0 l = none ∨ l.length ≠ 16)))
set_option maxRecDepth 100000 in
set_option maxHeartbeats 1000000 in
theorem c_pui (s : ByteArray) (w : World) (hs : s.size ≤ 100000) : Calls Tryz.prog 113 #[.string s, .int .i64 16, .int .i64 64] w (PuIn w (bsOf s)) := by
 obtain ⟨l, hl⟩ : ∃ l, bsOf s = l := ⟨_, rfl⟩
 have hsz : s.size = l.length := by rw [← hl]; rfl
 rw [hl]
 rcases hll : l with _ | ⟨x0, r0⟩
 · subst hll
   obtain rfl : s = ⟨#[]⟩ := bsOf_inj hl
   clear hl hsz
   go_enter Tryz.func113, Tryz.ntmps113
   go_wp2
   go_ret2
   exact ⟨Mod.refl _ _, .inr ⟨0, 2, by omega, .inr rfl, rfl, .inr (by simp)⟩⟩
 rw [← hll]
 have hne : s.toList.isEmpty = false := by
  rw [ByteArray.toList_eq]
  show (bsOf s).isEmpty = false
  rw [hl, hll]; rfl
 have hw1 : IntKind.u64.wrap 18446744073709551616 = 0 := by decide +kernel
 have hw2 : IntKind.u64.wrap (-1) = 18446744073709551615 := by decide +kernel
 obtain ⟨n, hn⟩ : ∃ n, s.size = n := ⟨_, rfl⟩
 have Hln : Hid (l.length = n) := Lib.hid (by omega)
 have hn1 : n ≤ 100000 := by omega
 have hcv := conv_sb s w
 have hbw := bw_byt w 5 s (by unfold maxLen; omega)
 have hEw := bw_ext w 5 s
 rw [hl, hn] at hbw
 rw [hn] at hcv
 clear hsz hs hll hl
 obtain ⟨W1, hW1⟩ : ∃ W1, Lib.bytesWorld w 5 s = W1 := ⟨_, rfl⟩
 obtain ⟨b, hb⟩ : ∃ b, w.heap.size = b := ⟨_, rfl⟩
 obtain ⟨cp, hcp⟩ : ∃ cp, grownCap w n 0 5 = cp := ⟨_, rfl⟩
 rw [hW1, hb, hcp] at hbw hcv
 rw [hW1] at hEw
 clear hW1 hcp
 have Hb := Lib.hid hb
 have Hbw := Lib.hid hbw
 have HE := Lib.hid hEw
 clear hb hbw hEw
 go_enter Tryz.func113, Tryz.ntmps113
 go_wp2_with fail
 go_loopw [12, 13, 101] (fun uv nv iv wr => ∃ (k m : Nat) (M : Int), (m : Int) = M ∧ uv = .bool false ∧ nv = .int .u64 M ∧ iv = .int .i64 k ∧ k ≤ n ∧ PuAt l k m ∧ wr = W1) (fun _ _ iv _ => n - (intOf iv).toNat)
 case atStart => exact ⟨0, 0, 0, rfl, rfl, rfl, rfl, by omega, puAt_zero l, rfl⟩
 case round =>
  obtain ⟨k, m, M, hmM, rfl, rfl, rfl, hk, hP, rfl⟩ := hrel
  have hM0 : 0 ≤ M := by omega
  have hM1 : M < 18446744073709551616 := by have := hP.2.1; omega
  have HmM := Lib.hid hmM
  clear hmM
  have HP := Lib.hid hP
  clear hP
  by_cases hlt : k < n
  · obtain ⟨c, hc⟩ : ∃ c, l[k]? = some c := ⟨_, List.getElem?_eq_getElem (by rw [Hln.out]; exact hlt)⟩
    have hld : wr.cell? ⟨b, k, none⟩ = some (.int .u8 c.toNat) := by
     obtain ⟨_, A, c', hA, _, _, hcell⟩ := Hbw.out
     injection hA with hA
     subst hA
     obtain ⟨g, off, hg, hgb, hcell⟩ := hcell (by have := Hln.out; omega)
     injection hg with hg
     injection hg with hg1 hg2
     subst hg1; subst hg2
     have := hcell k (B c) (by rw [List.getElem?_map, hc]; rfl)
     rw [Nat.zero_add] at this
     exact this
    obtain ⟨x, q, hx, hx256, hq256, hor, hcase⟩ := low_of c
    rw [hx] at hld
    have hlow := fun W => Tryz.internal_strconv_lower (x : Int) W
    rw [hor] at hlow
    have Hc := Lib.hid hc
    clear hx hor hc
    have Hcase := Lib.hid hcase
    clear hcase hcv hw1 hw2 hne
    rcases Hcase.out with ⟨d, hx48, hd10, hv⟩ | ⟨d, hnd, hn95, hq97, hd26, hv⟩ | ⟨hnd, hnq, hv⟩
    · subst hx48
      have Hv := Lib.hid hv
      clear hv Hcase hlow
      push_cast at hld
      by_cases hcut : 1152921504606846976 ≤ M
      · have Hcut := Lib.hid hcut
        go_wp2
        all_goals go_ret2
        all_goals exact ⟨HE.out, .inr ⟨18446744073709551615, 1, by omega, .inl rfl, rfl, .inr (puAt_far HP.out Hc.out (by have := HmM.out; omega))⟩⟩
      have Hst := Lib.hid (puAt_step (d := d) HP.out Hc.out (by have := HmM.out; omega) (by omega) (.inl Hv.out))
      go_wp2
      all_goals exact ⟨⟨k + 1, m * 16 + (d), _, rfl, rfl, by have := HmM.out; congr 1; omega, by push_cast; rfl, by omega, Hst.out, trivial⟩, by simp [intOf] <;> omega⟩
    · subst hq97
      have Hv := Lib.hid hv
      clear hv Hcase
      push_cast at hlow
      by_cases hd6 : d < 6
      · have HV : Hid (hexV c = some (d + 10) ∨ hexV c = none) := Lib.hid (by rcases Hv.out with h | h; exact .inr h; exact .inl h.2)
        clear Hv
        by_cases hcut : 1152921504606846976 ≤ M
        · have Hcut := Lib.hid hcut
          go_wp2_with (go_at_call 127; refine (hlow _).mono ?_; rintro e w1 ⟨rfl, rfl⟩)
          all_goals go_ret2
          all_goals exact ⟨HE.out, .inr ⟨18446744073709551615, 1, by omega, .inl rfl, rfl, .inr (puAt_far HP.out Hc.out (by have := HmM.out; omega))⟩⟩
        have Hst := Lib.hid (puAt_step (d := d + 10) HP.out Hc.out (by have := HmM.out; omega) (by omega) (HV.out))
        go_wp2_with (go_at_call 127; refine (hlow _).mono ?_; rintro e w1 ⟨rfl, rfl⟩)
        all_goals exact ⟨⟨k + 1, m * 16 + (d + 10), _, rfl, rfl, by have := HmM.out; congr 1; omega, by push_cast; rfl, by omega, Hst.out, trivial⟩, by simp [intOf] <;> omega⟩
      have HV : Hid (hexV c = none) := Lib.hid (by rcases Hv.out with h | h; exact h; exact absurd h.1 hd6)
      go_wp2_with (go_at_call 127; refine (hlow _).mono ?_; rintro e w1 ⟨rfl, rfl⟩)
      all_goals go_ret2
      all_goals exact ⟨HE.out, .inr ⟨0, 2, by omega, .inr rfl, rfl, .inl (puAt_bad HP.out Hc.out HV.out)⟩⟩
    · have HV := Lib.hid hv
      clear hv Hcase
      by_cases h95 : x = 95
      · subst h95
        have hlow' : ∀ W, Calls Tryz.prog 127 #[.int .u8 95] W fun e w' => e = .returned (.int .u8 (q : Int)) ∧ w' = W := hlow
        clear hlow
        have hlow := hlow'
        clear hlow'
        rcases (by omega : q < 97 ∨ 122 < q) with hq | hq
        · go_wp2_with (go_at_call 127; refine (hlow _).mono ?_; rintro e w1 ⟨rfl, rfl⟩)
          all_goals go_ret2
          all_goals exact ⟨HE.out, .inr ⟨0, 2, by omega, .inr rfl, rfl, .inl (puAt_bad HP.out Hc.out HV.out)⟩⟩
        go_wp2_with (go_at_call 127; refine (hlow _).mono ?_; rintro e w1 ⟨rfl, rfl⟩)
        all_goals go_ret2
        all_goals exact ⟨HE.out, .inr ⟨0, 2, by omega, .inr rfl, rfl, .inl (puAt_bad HP.out Hc.out HV.out)⟩⟩
      rcases (by omega : q < 97 ∨ 122 < q) with hq | hq
      · go_wp2_with (go_at_call 127; refine (hlow _).mono ?_; rintro e w1 ⟨rfl, rfl⟩)
        all_goals go_ret2
        all_goals exact ⟨HE.out, .inr ⟨0, 2, by omega, .inr rfl, rfl, .inl (puAt_bad HP.out Hc.out HV.out)⟩⟩
      go_wp2_with (go_at_call 127; refine (hlow _).mono ?_; rintro e w1 ⟨rfl, rfl⟩)
      all_goals go_ret2
      all_goals exact ⟨HE.out, .inr ⟨0, 2, by omega, .inr rfl, rfl, .inl (puAt_bad HP.out Hc.out HV.out)⟩⟩
  · obtain rfl : k = n := by omega
    go_wp2
    go_ret2
    refine ⟨HE.out, .inl ⟨m, by have := HmM.out; omega, by have := HmM.out; subst this; rfl, ?_⟩⟩
    have := HP.out.1
    rw [List.drop_eq_nil_of_le (by rw [Hln.out]; exact Nat.le_refl _)] at this
    exact this
end Go.Proofs.YtmebipnljkopgaaGreatDoor
