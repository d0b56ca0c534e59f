/-
 Layer 27 (script): strconv.ParseUint at base 16, num.Parse and the page's Parse of a float: parseF. Conditions: the text is no longer than 100000 bytes; the package variables are as start-up lays them (Glb).
-/
import Derived.Test.YtmebipnljkopgaaGreatDoorScrU
import Derived.Test.YtmebipnljkopgaaGreatDoorScrN
import Derived.Test.YtmebipnljkopgaaGreatDoorScrI
import Derived.Test.YtmebipnljkopgaaGreatDoorKvVal
namespace Go.Proofs.YtmebipnljkopgaaGreatDoor
set_option linter.unusedSimpArgs false
set_option linter.unusedVariables false
open Go.RowKit
attribute [local go_sem] call_frombits call_bits
def PubIn (w : World) (l : List UInt8) (e : Ending) (w' : World) : Prop := Ext w w' ∧
  ((∃ n : Nat, n < 18446744073709551616 ∧ e = .returned (.tuple #[.int .u64 n, .nilIface]) ∧ (hexF 0 l = some n ∨ hexF 0 l = none)) ∨
   (∃ (n : Nat) (T : TypeId) (p : Value), n < 18446744073709551616 ∧ e = .returned (.tuple #[.int .u64 n, .iface T p]) ∧ (hexF 0 l = none ∨ l.length ≠ 16)))
set_option maxRecDepth 100000 in
set_option maxHeartbeats 400000 in
theorem c_pub (s : ByteArray) (w : World) (hg : Glb w) (hs : s.size ≤ 100000) : Calls Tryz.prog 102 #[.string s, .int .i64 16, .int .i64 64] w (PubIn w (bsOf s)) := by
 have Hg := Lib.hid hg
 clear hg
 go_enter Tryz.func102, Tryz.ntmps102
 go_wp2_with fail
 refine (c_pui s w hs).mono ?_
 rintro e w1 ⟨hE1, ⟨n, hn, rfl, hh⟩ | ⟨n, c, hn, hc, rfl, hh⟩⟩
 · have Hh := Lib.hid hh
   have Hn := Lib.hid hn
   clear hh hn
   go_wp2
   go_ret2
   exact ⟨hE1, .inl ⟨n, Hn.out, rfl, Hh.out⟩⟩
 have Hh := Lib.hid hh
 have Hn := Lib.hid hn
 clear hh hn
 have hG1 := Hg.out.ext hE1
 have HE1 := Lib.hid hE1
 clear hE1
 rcases hc with rfl | rfl
 · obtain ⟨t, p, he⟩ := hG1.er
   have hto := Tryz.strconv_toError_range ⟨#[80, 97, 114, 115, 101, 85, 105, 110, 116]⟩ s 16 64 _ w1 (by omega) he (.inr ⟨t, p, rfl⟩)
   clear hG1 he
   go_wp2_with fail
   refine hto.mono ?_
   rintro e w2 ⟨N, rfl, _, _, hb⟩
   have HE2 := Lib.hid (Ext.of_below hb)
   clear hb
   go_wp2
   go_ret2
   exact ⟨HE1.out.ext HE2.out, .inr ⟨n, _, _, Hn.out, rfl, Hh.out⟩⟩
 obtain ⟨t, p, he⟩ := hG1.es
 have hto := Tryz.strconv_toError_syntax ⟨#[80, 97, 114, 115, 101, 85, 105, 110, 116]⟩ s 16 64 _ w1 (by omega) he (.inr ⟨t, p, rfl⟩)
 clear hG1 he
 go_wp2_with fail
 refine hto.mono ?_
 rintro e w2 ⟨N, rfl, _, _, hb⟩
 have HE2 := Lib.hid (Ext.of_below hb)
 clear hb
 go_wp2
 go_ret2
 exact ⟨HE1.out.ext HE2.out, .inr ⟨n, _, _, Hn.out, rfl, Hh.out⟩⟩
theorem parseF_bad {s : ByteArray} (h : hexF 0 (bsOf s) = none ∨ (bsOf s).length ≠ 16) : parseF s = none := by
 unfold parseF
 split
 · rename_i hs
   rcases h with h | h
   · rw [h]
   exact absurd hs h
 rfl
theorem parseF_yes {s : ByteArray} {n : Nat} (hn : n < 18446744073709551616) (h : hexF 0 (bsOf s) = some n ∨ hexF 0 (bsOf s) = none) (he : bA (textF n) = s) : parseF s = some n := by
 have he' : textF n = bsOf s := by rw [← he, bA_bs]
 obtain ⟨h1, h2⟩ := parseF_of hn he'
 rcases h with h | h
 · unfold parseF; rw [if_pos h1, h]; simp only; rw [if_pos he']
 rw [h] at h2; cases h2
theorem parseF_no {s : ByteArray} {n : Nat} (h : hexF 0 (bsOf s) = some n ∨ hexF 0 (bsOf s) = none) (he : bA (textF n) ≠ s) : parseF s = none := by
 unfold parseF
 split
 · rcases h with h | h
   · rw [h]; simp only; rw [if_neg]; intro e; exact he (by rw [e, bs_bA])
   rw [h]
 rfl
def ParseOut (w : World) (o : Option Nat) (ok : Nat → Ending) (no : Ending) (e : Ending) (w' : World) : Prop := (e = match o with | some n => ok n | none => no) ∧ Ext w w'
theorem bs_ne {z u : ByteArray} (h : z ≠ u) : (z.toList == u.toList) = false := by
 rw [beq_eq_false_iff_ne]; intro e; rw [ByteArray.toList_eq, ByteArray.toList_eq] at e; exact h (bsOf_inj e)
set_option maxRecDepth 100000 in
set_option maxHeartbeats 400000 in
theorem n_parse (s : ByteArray) (w : World) (hg : Glb w) (hs : s.size ≤ 100000) : Calls Tryz.prog 74 #[.string s] w (ParseOut w (parseF s) (fun n => .returned (.tuple #[.float .f64 n, .int .i64 0])) (.returned (.tuple #[.float .f64 0, .int .i64 3]))) := by
 have Hg := Lib.hid hg
 clear hg
 go_enter Tryz.func74, Tryz.ntmps74
 go_wp2_with fail
 refine (c_pub s w Hg.out hs).mono ?_
 rintro e w1 ⟨hE1, ⟨n, hn, rfl, hh⟩ | ⟨n, T, p, hn, rfl, hh⟩⟩
 · have hnt := n_text n hn
   obtain ⟨z, hz⟩ : ∃ z, bA (textF n) = z := ⟨_, rfl⟩
   rw [hz] at hnt
   have hG1 := Lib.hid (Hg.out.ext hE1)
   have HE1 := Lib.hid hE1
   have hnt' := hnt w1 hG1.out
   clear hE1 hnt
   by_cases hzs : z = s
   · have Hp := Lib.hid (parseF_yes hn hh (hz.trans hzs))
     subst hzs
     clear hn hh hz
     go_wp2_with (go_at_call 103; refine hnt'.mono ?_; rintro e w2 ⟨rfl, hE2⟩)
     go_ret2
     exact ⟨by rw [Hp.out]; rfl, HE1.out.ext hE2⟩
   have Hp := Lib.hid (parseF_no hh (fun e => hzs (hz.symm.trans e)))
   have hd := bs_ne hzs
   clear hn hh hz hzs
   go_wp2_with (go_at_call 103; refine hnt'.mono ?_; rintro e w2 ⟨rfl, hE2⟩)
   go_ret2
   exact ⟨by rw [Hp.out]; rfl, HE1.out.ext hE2⟩
 have Hp := Lib.hid (parseF_bad hh)
 have HE1 := Lib.hid hE1
 clear hE1 hn hh
 go_wp2
 go_ret2
 exact ⟨by rw [Hp.out]; rfl, HE1.out⟩
theorem or_nib (m d : Nat) (hm : m < 1152921504606846976) (hd : d < 16) : bits .or .u64 ((m : Int) * 16) (d : Int) = ((m * 16 + d : Nat) : Int) := by
 have h := u64_or_nat (m * 16) d (by omega) (by omega)
 rw [nat_join 4 (m * 16) d (by omega) (by omega)] at h
 push_cast at h ⊢
 exact h
/-- The page's loop. -/
def PgAt (l : List UInt8) (i m : Nat) : Prop := hexF 0 l = hexF m (l.drop i) ∧ m < 16 ^ i
theorem pgAt_step {l : List UInt8} {i m d : Nat} {c : UInt8} (h : PgAt l i m) (hc : l[i]? = some c) (hd : hexV c = some d) : PgAt l (i + 1) (m * 16 + d) := by
 obtain ⟨h1, rfl⟩ := List.getElem?_eq_some_iff.1 hc
 refine ⟨?_, ?_⟩
 · rw [h.1, List.drop_eq_getElem_cons h1]
   simp only [hexF, hd]
   rw [Nat.mul_comm]
 have := hexV_lt hd
 have := h.2
 rw [Nat.pow_succ]; omega
theorem pgAt_bad {l : List UInt8} {i m : Nat} {c : UInt8} (h : PgAt l i m) (hc : l[i]? = some c) (hd : hexV c = none) : hexF 0 l = none := by
 obtain ⟨h1, rfl⟩ := List.getElem?_eq_some_iff.1 hc
 rw [h.1, List.drop_eq_getElem_cons h1]
 simp only [hexF, hd]
theorem pgAt_lt {l : List UInt8} {i m : Nat} (h : PgAt l i m) (hi : i < 16) : m < 1152921504606846976 := by
 have h3 := Nat.pow_le_pow_right (n := 16) (by omega) (show i ≤ 15 by omega)
 have h4 : (16 : Nat) ^ 15 = 1152921504606846976 := by decide
 have := h.2
 omega
set_option maxRecDepth 100000 in
set_option maxHeartbeats 1000000 in
theorem r_parse (s : ByteArray) (w : World) (hg : Glb w) (hs : s.size ≤ 100000) : Calls Tryz.prog 80 #[.string s] w (ParseOut w (parseF s) (fun n => .returned (.tuple #[.float .f64 n, .bool true])) (.returned (.tuple #[.float .f64 0, .bool false]))) := by
 by_cases h16 : s.size ≠ 16
 · have Hp := Lib.hid (parseF_bad (s := s) (.inr h16))
   have hd : ((s.size : Int) != 16) = true := by simp; omega
   go_enter Tryz.func80, Tryz.ntmps80
   go_wp2
   go_ret2
   exact ⟨by rw [Hp.out]; rfl, Mod.refl _ _⟩
 have h16' : s.size = 16 := by omega
 obtain ⟨l, hl⟩ : ∃ l, bsOf s = l := ⟨_, rfl⟩
 have Hln : Hid (l.length = 16) := Lib.hid (by rw [← hl]; exact h16')
 have Hl := Lib.hid hl
 have Hg := Lib.hid hg
 clear hl hg h16 hs
 go_enter Tryz.func80, Tryz.ntmps80
 go_wp2
 go_loopw [4, 5] (fun bv iv wr => ∃ (i m : Nat) (M : Int), (m : Int) = M ∧ bv = .int .u64 M ∧ iv = .int .i64 i ∧ i ≤ 16 ∧ PgAt l i m ∧ wr = w) (fun _ iv _ => 16 - (intOf iv).toNat)
 case atStart => exact ⟨0, 0, 0, rfl, rfl, rfl, by omega, ⟨rfl, by simp⟩, rfl⟩
 case round =>
  obtain ⟨i, m, M, hmM, rfl, rfl, hi, hP, rfl⟩ := hrel
  have HP := Lib.hid hP
  have HmM := Lib.hid hmM
  clear hP hmM
  by_cases hlt : i < 16
  · obtain ⟨c, hc⟩ : ∃ c, l[i]? = some c := ⟨_, List.getElem?_eq_getElem (by rw [Hln.out]; exact hlt)⟩
    have x1 := run_ix Hl.out hc .i64
    rcases hexI_cases c with ⟨pa, va⟩ | ⟨x, hx, pa, va⟩
    · have ca := r_dig pa
      have Hp := Lib.hid (parseF_bad (s := s) (.inl (by rw [Hl.out]; exact pgAt_bad HP.out hc va)))
      clear pa va hc
      go_wp2_with (go_at_call 78; refine (ca _).mono ?_; rintro e w1 ⟨rfl, rfl⟩)
      go_ret2
      exact ⟨by rw [Hp.out]; rfl, Mod.refl _ _⟩
    have ca := r_dig pa
    have Hst := Lib.hid (pgAt_step HP.out hc va)
    have hml := pgAt_lt HP.out hlt
    have hor := or_nib m x hml hx
    have hM0 : 0 ≤ M := by have := HmM.out; omega
    have hM1 : M < 1152921504606846976 := by have := HmM.out; omega
    rw [HmM.out] at hor
    obtain ⟨R, hR⟩ : ∃ R : Int, ((m * 16 + x : Nat) : Int) = R := ⟨_, rfl⟩
    rw [hR] at hor
    have HR := Lib.hid hR
    clear pa va hc hml hR
    go_wp2_with (go_at_call 78; refine (ca _).mono ?_; rintro e w1 ⟨rfl, rfl⟩)
    exact ⟨⟨i + 1, m * 16 + x, R, HR.out, rfl, by push_cast; rfl, by omega, Hst.out, trivial⟩, by simp [intOf] <;> omega⟩
  obtain rfl : i = 16 := by omega
  have hm : m < 18446744073709551616 := by have := HP.out.2; simpa using this
  have hh : hexF 0 (bsOf s) = some m := by rw [Hl.out, HP.out.1, List.drop_eq_nil_of_le (by rw [Hln.out]; exact Nat.le_refl _)]; rfl
  have hnt := r_text m hm
  obtain ⟨z, hz⟩ : ∃ z, bA (textF m) = z := ⟨_, rfl⟩
  rw [hz] at hnt
  have hMt : M.toNat = m := by have := HmM.out; omega
  by_cases hzs : z = s
  · have Hp := Lib.hid (parseF_yes hm (.inl hh) (hz.trans hzs))
    subst hzs
    have hnt' := hnt wr Hg.out
    clear hm hh hz hnt
    go_wp2_with (go_at_call 64; refine hnt'.mono ?_; rintro e w2 ⟨rfl, hE2⟩)
    go_ret2
    exact ⟨by rw [Hp.out]; rfl, hE2⟩
  have Hp := Lib.hid (parseF_no (.inl hh) (fun e => hzs (hz.symm.trans e)))
  have hd := bs_ne hzs
  have hnt' := hnt wr Hg.out
  clear hm hh hz hnt hzs
  go_wp2_with (go_at_call 64; refine hnt'.mono ?_; rintro e w2 ⟨rfl, hE2⟩)
  go_ret2
  exact ⟨by rw [Hp.out]; rfl, hE2⟩
end Go.Proofs.YtmebipnljkopgaaGreatDoor
