/-
 Layer 27 (script): the page's digits of sixteen: Digit, Unhex. Conditions: the text is no longer than 100000 bytes.
-/
import Derived.Test.YtmebipnljkopgaaGreatDoorScrH
namespace Go.Proofs.YtmebipnljkopgaaGreatDoor
set_option linter.unusedSimpArgs false
set_option linter.unusedVariables false
open Go.RowKit
theorem nib_add : ∀ x y : Fin 16, (x.val : Int) * 16 + (y.val : Int) = ((UInt8.ofNat (16 * x.val + y.val)).toNat : Int) := by decide +kernel
theorem hexI_val (c : UInt8) : hexI c = if 48 ≤ (c.toNat : Int) ∧ (c.toNat : Int) ≤ 57 then (c.toNat : Int) - 48 else if 97 ≤ (c.toNat : Int) ∧ (c.toNat : Int) ≤ 102 then (c.toNat : Int) - 87 else -1 := by
 unfold hexI hexV
 by_cases h1 : 48 ≤ c.toNat ∧ c.toNat ≤ 57
 · rw [if_pos h1, if_pos (show 48 ≤ (c.toNat : Int) ∧ (c.toNat : Int) ≤ 57 by omega)]; simp only; omega
 rw [if_neg h1, if_neg (show ¬ (48 ≤ (c.toNat : Int) ∧ (c.toNat : Int) ≤ 57) by omega)]
 by_cases h2 : 97 ≤ c.toNat ∧ c.toNat ≤ 102
 · rw [if_pos h2, if_pos (show 97 ≤ (c.toNat : Int) ∧ (c.toNat : Int) ≤ 102 by omega)]; simp only; omega
 rw [if_neg h2, if_neg (show ¬ (97 ≤ (c.toNat : Int) ∧ (c.toNat : Int) ≤ 102) by omega)]
set_option maxRecDepth 100000 in
set_option maxHeartbeats 400000 in
theorem r_digit (c : UInt8) (w : World) : Calls Tryz.prog 78 #[.int .u8 c.toNat] w fun e w' => e = .returned (.int .i64 (hexI c)) ∧ w' = w := by
 have hc := c.toNat_lt
 rw [hexI_val]
 obtain ⟨n, hn⟩ : ∃ n : Nat, c.toNat = n := ⟨_, rfl⟩
 rw [hn] at hc ⊢
 clear hn
 have hc' : n < 256 := hc
 go_enter Tryz.func78, Tryz.ntmps78
 go_wp2
 all_goals go_ret
 all_goals refine ⟨ret_int ?_, rfl⟩
 all_goals simp_all
 all_goals omega
theorem r_dig {c : UInt8} {p : Int} (h : hexI c = p) (w : World) :
  Calls Tryz.prog 78 #[.int .u8 c.toNat] w fun e w' => e = .returned (.int .i64 p) ∧ w' = w := by
 subst h; exact r_digit c w
set_option maxRecDepth 100000 in
set_option maxHeartbeats 1000000 in
theorem r_unhex (s : ByteArray) (w : World) (hs : s.size ≤ 100000) : Calls Tryz.prog 50 #[.string s] w (UnhexOut w (bsOf s)) := by
 obtain ⟨i0, hi, hz0, hz1, hz2⟩ := info_parts info_u8
 obtain ⟨l, hl⟩ : ∃ l, bsOf s = l := ⟨_, rfl⟩
 have hsz : s.size = l.length := by rw [← hl]; rfl
 obtain ⟨n, hn⟩ : ∃ n, s.size = n := ⟨_, rfl⟩
 have Hln : Hid (l.length = n) := Lib.hid (by omega)
 clear hsz
 have Hl := Lib.hid hl
 rw [hl]
 clear hl
 have hn1 : n ≤ 100000 := by omega
 clear hs
 by_cases hodd : n % 2 ≠ 0
 · have d : ((n : Int) % 2 != 0) = true := by simp; omega
   go_enter Tryz.func50, Tryz.ntmps50
   go_wp2
   go_ret2
   exact ⟨by rw [unhexL_odd l (by rw [Hln.out]; exact hodd)]; rfl, Mod.refl _ _⟩
 have d : ((n : Int) % 2 != 0) = false := by simp; omega
 go_enter Tryz.func50, Tryz.ntmps50
 go_wp2
 go_loopw [4, 5] (fun v iv wr => ∃ (i : Nat) (pre : List UInt8), iv = .int .i64 i ∧ i ≤ n ∧ i % 2 = 0 ∧ unhexL l = (unhexL (l.drop i)).map (pre ++ ·) ∧ pre.length ≤ i ∧ NewB w wr v pre ∧ Ext w wr) (fun _ iv _ => n - (intOf iv).toNat)
 case atStart => exact ⟨0, [], rfl, by omega, rfl, by simp, by simp, NewB.nil w, Mod.refl _ _⟩
 case round =>
  obtain ⟨i, pre, rfl, hin, hev, hun, hpl, hB, hE⟩ := hrel
  have Hun := Lib.hid hun
  clear hun
  by_cases hlt : i < n
  · have hlt2 : i + 1 < n := by omega
    obtain ⟨a, ha⟩ : ∃ a, l[i]? = some a := ⟨_, List.getElem?_eq_getElem (by rw [Hln.out]; exact hlt)⟩
    obtain ⟨b, hb⟩ : ∃ a, l[i + 1]? = some a := ⟨_, List.getElem?_eq_getElem (by rw [Hln.out]; exact hlt2)⟩
    have x1 := run_ix Hl.out ha .i64
    have x2 := run_ix Hl.out hb .i64
    have Hdr := Lib.hid (unhexL_drop ha hb)
    clear ha hb
    push_cast at x2
    have hw1 : IntKind.i64.wrap ((i : Int) + 1) = (i : Int) + 1 := by rw [IntKind.wrap_i64]; omega
    go_wp2_with fail
    rcases hexI_cases a with ⟨pa, va⟩ | ⟨x, hx, pa, va⟩
    · have Hbad := Lib.hid (unhex_bad Hun.out Hdr.out (.inl va))
      obtain ⟨pb, hpb⟩ : ∃ pb, hexI b = pb := ⟨_, rfl⟩
      have ca := r_dig pa
      have cb := r_dig hpb
      clear pa va hpb
      go_quiet (first | (go_at_call_of 78 (a.toNat); exact Calls.quiet_of_same (ca _)) | (go_at_call_of 78 (b.toNat); exact Calls.quiet_of_same (cb _)))
      clear ca cb
      go_wp2
      go_ret2
      exact ⟨by rw [Hbad.out]; rfl, hE.drewN _⟩
    rcases hexI_cases b with ⟨pb, vb⟩ | ⟨y, hy, pb, vb⟩
    · have Hbad := Lib.hid (unhex_bad Hun.out Hdr.out (.inr vb))
      have ca := r_dig pa
      have cb := r_dig pb
      clear pa va pb vb
      go_quiet (first | (go_at_call_of 78 (a.toNat); exact Calls.quiet_of_same (ca _)) | (go_at_call_of 78 (b.toNat); exact Calls.quiet_of_same (cb _)))
      clear ca cb
      go_wp2
      go_ret2
      exact ⟨by rw [Hbad.out]; rfl, hE.drewN _⟩
    have Hst := Lib.hid (unhex_step Hun.out Hdr.out va vb)
    have ca := r_dig pa
    have cb := r_dig pb
    clear pa va pb vb
    go_quiet (first | (go_at_call_of 78 (a.toNat); exact Calls.quiet_of_same (ca _)) | (go_at_call_of 78 (b.toNat); exact Calls.quiet_of_same (cb _)))
    clear ca cb x1 x2 hw1
    have hnib := nib_add ⟨x, hx⟩ ⟨y, hy⟩
    simp only at hnib
    have Hnib := Lib.hid hnib
    clear hnib
    have hBq := hB.ext ((Mod.refl _ wr).drewN nq)
    have hEq := hE.drewN nq
    clear hB hE
    obtain ⟨wq, hwq⟩ : ∃ wq, wr.drewN nq = wq := ⟨_, rfl⟩
    rw [hwq] at hBq hEq ⊢
    clear hwq
    obtain ⟨m, hm⟩ : ∃ m, pre.length = m := ⟨_, rfl⟩
    have ho := hBq.1
    rw [hm] at ho hpl
    have Hm := Lib.hid hm
    clear hm
    obtain ⟨A, c, rfl⟩ := own_form ho
    have HB := Lib.hid hBq
    clear hBq
    go_wp2_with (at_builtin; go_must (refine wpList_app _ rfl _ _ 29 rfl 5 i0 _ 1 1 Tryz.underlying29 hi hz0 hz1 hz2 rfl (by omega) _ m (pre.map B) rfl (ho.alloc _) _ _ 1 _ rfl (Sl.one wq _ _) (by simp [Value.oneCell']) (by simp only [maxLen]; omega) (by omega) ?_))
    intro v' w1 ho1 hgr hat
    obtain ⟨hB1, hE1⟩ := NewB.app (cs := pre ++ [UInt8.ofNat (16 * x + y)]) HB.out hEq ((Mod.refl _ wq).alloc _) (by rw [Hnib.out]; simp [B]) ho1 hgr hat (by have := hEq.size; omega)
    clear ho1 hgr hat ho
    go_wp2
    exact ⟨⟨i + 2, _, by push_cast; rfl, by omega, by omega, Hst.out, by simp [Hm.out]; omega, hB1, hE1⟩, by simp [intOf] <;> omega⟩
  · obtain rfl : i = n := by omega
    have Hun2 : Hid (unhexL l = some pre) := Lib.hid (by rw [Hun.out, List.drop_eq_nil_of_le (by rw [Hln.out]; exact Nat.le_refl _)]; simp [unhexL])
    have hc := conv_bs hB.byt
    go_wp2
    go_ret2
    exact ⟨by rw [Hun2.out]; rfl, hE⟩
end Go.Proofs.YtmebipnljkopgaaGreatDoor
