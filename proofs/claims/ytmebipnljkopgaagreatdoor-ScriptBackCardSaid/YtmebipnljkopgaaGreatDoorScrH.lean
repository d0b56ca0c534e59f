/-
 Layer 27 (script): bytes of digits of sixteen: script.unhex and value.text. Conditions: the text is no longer than 100000 bytes.
-/
import Derived.Test.YtmebipnljkopgaaGreatDoorScrG
import Derived.Test.YtmebipnljkopgaaGreatDoorScrB
import Derived.Deep.QuietTactic
namespace Go.Proofs.YtmebipnljkopgaaGreatDoor
set_option linter.unusedSimpArgs false
set_option linter.unusedVariables false
open Go.RowKit
def UnhexOut (w : World) (s : List UInt8) (e : Ending) (w' : World) : Prop := e = .returned (.tuple #[.string (bA ((unhexL s).getD [])), .bool (unhexL s).isSome]) ∧ Ext w w'
theorem unhexL_drop {l : List UInt8} {i : Nat} {a b : UInt8} (ha : l[i]? = some a) (hb : l[i + 1]? = some b) : l.drop i = a :: b :: l.drop (i + 2) := by
 obtain ⟨h1, rfl⟩ := List.getElem?_eq_some_iff.1 ha
 obtain ⟨h2, rfl⟩ := List.getElem?_eq_some_iff.1 hb
 rw [List.drop_eq_getElem_cons h1, List.drop_eq_getElem_cons h2]
theorem nib_or : ∀ x y : Fin 16, bits .or .i64 ((x.val : Int) * 16) (y.val : Int) % 256 = ((UInt8.ofNat (16 * x.val + y.val)).toNat : Int) := by decide +kernel
theorem unhex_bad {l : List UInt8} {i : Nat} {pre : List UInt8} {a b : UInt8} (h : unhexL l = (unhexL (l.drop i)).map (pre ++ ·)) (hd : l.drop i = a :: b :: l.drop (i + 2)) (hv : hexV a = none ∨ hexV b = none) : unhexL l = none := by
 rw [h, hd]; unfold unhexL
 rcases hv with hv | hv
 · rw [hv]; rfl
 rw [hv]
 rcases hexV a with _ | x <;> rfl
theorem unhex_step {l : List UInt8} {i x y : Nat} {pre : List UInt8} {a b : UInt8} (h : unhexL l = (unhexL (l.drop i)).map (pre ++ ·)) (hd : l.drop i = a :: b :: l.drop (i + 2)) (ha : hexV a = some x) (hb : hexV b = some y) : unhexL l = (unhexL (l.drop (i + 2))).map (pre ++ [UInt8.ofNat (16 * x + y)] ++ ·) := by
 rw [h, hd]; rw [unhexL.eq_3, ha, hb]
 rcases unhexL (l.drop (i + 2)) with _ | t
 · rfl
 simp
theorem c_dig {c : UInt8} {p : Int} (h : hexI c = p) (w : World) :
  Calls Tryz.prog 72 #[.string (bA [48, 49, 50, 51, 52, 53, 54, 55, 56, 57, 97, 98, 99, 100, 101, 102]), .int .u8 c.toNat] w fun e w' => e = .returned (.int .i64 p) ∧ w' = w := by
 subst h; exact c_digit c w
theorem hexI_cases (c : UInt8) : (hexI c = -1 ∧ hexV c = none) ∨ ∃ x : Nat, x < 16 ∧ hexI c = x ∧ hexV c = some x := by
 unfold hexI
 rcases h : hexV c with _ | x
 · exact .inl ⟨rfl, rfl⟩
 exact .inr ⟨x, hexV_lt h, rfl, rfl⟩
set_option maxRecDepth 100000 in
set_option maxHeartbeats 1000000 in
theorem s_unhex (s : ByteArray) (w : World) (hs : s.size ≤ 100000) : Calls Tryz.prog 48 #[.string s] w (UnhexOut w (bsOf s)) := by
 obtain ⟨i0, hi, hz0, hz1, hz2⟩ := info_parts info_u8
 obtain ⟨l, hl⟩ : ∃ l, bsOf s = l := ⟨_, rfl⟩
 have hsz : s.size = l.length := by rw [← hl]; rfl
 obtain ⟨n, hn⟩ : ∃ n, s.size = n := ⟨_, rfl⟩
 have Hln : Hid (l.length = n) := Lib.hid (by omega)
 clear hsz
 have Hl := Lib.hid hl
 rw [hl]
 clear hl
 have hn1 : n ≤ 100000 := by omega
 clear hs
 by_cases hodd : n % 2 ≠ 0
 · have d : ((n : Int) % 2 != 0) = true := by simp; omega
   go_enter Tryz.func48, Tryz.ntmps48
   go_wp2
   go_ret2
   exact ⟨by rw [unhexL_odd l (by rw [Hln.out]; exact hodd)]; rfl, Mod.refl _ _⟩
 have d : ((n : Int) % 2 != 0) = false := by simp; omega
 go_enter Tryz.func48, Tryz.ntmps48
 go_wp2
 go_loopw [4, 5] (fun v iv wr => ∃ (i : Nat) (pre : List UInt8), iv = .int .i64 i ∧ i ≤ n ∧ i % 2 = 0 ∧ unhexL l = (unhexL (l.drop i)).map (pre ++ ·) ∧ pre.length ≤ i ∧ NewB w wr v pre ∧ Ext w wr) (fun _ iv _ => n - (intOf iv).toNat)
 case atStart => exact ⟨0, [], rfl, by omega, rfl, by simp, by simp, NewB.nil w, Mod.refl _ _⟩
 case round =>
  obtain ⟨i, pre, rfl, hin, hev, hun, hpl, hB, hE⟩ := hrel
  have Hun := Lib.hid hun
  clear hun
  by_cases hlt : i < n
  · have hlt2 : i + 1 < n := by omega
    obtain ⟨a, ha⟩ : ∃ a, l[i]? = some a := ⟨_, List.getElem?_eq_getElem (by rw [Hln.out]; exact hlt)⟩
    obtain ⟨b, hb⟩ : ∃ a, l[i + 1]? = some a := ⟨_, List.getElem?_eq_getElem (by rw [Hln.out]; exact hlt2)⟩
    have x1 := run_ix Hl.out ha .i64
    have x2 := run_ix Hl.out hb .i64
    have Hdr := Lib.hid (unhexL_drop ha hb)
    clear ha hb
    push_cast at x2
    have hw1 : IntKind.i64.wrap ((i : Int) + 1) = (i : Int) + 1 := by rw [IntKind.wrap_i64]; omega
    go_wp2_with fail
    rcases hexI_cases a with ⟨pa, va⟩ | ⟨x, hx, pa, va⟩
    · have Hbad := Lib.hid (unhex_bad Hun.out Hdr.out (.inl va))
      obtain ⟨pb, hpb⟩ : ∃ pb, hexI b = pb := ⟨_, rfl⟩
      have ca := c_dig pa
      have cb := c_dig hpb
      clear pa va hpb
      go_quiet (first | (go_at_call_of 72 (a.toNat); exact Calls.quiet_of_same (ca _)) | (go_at_call_of 72 (b.toNat); exact Calls.quiet_of_same (cb _)))
      clear ca cb
      go_wp2
      go_ret2
      exact ⟨by rw [Hbad.out]; rfl, hE.drewN _⟩
    rcases hexI_cases b with ⟨pb, vb⟩ | ⟨y, hy, pb, vb⟩
    · have Hbad := Lib.hid (unhex_bad Hun.out Hdr.out (.inr vb))
      have ca := c_dig pa
      have cb := c_dig pb
      clear pa va pb vb
      go_quiet (first | (go_at_call_of 72 (a.toNat); exact Calls.quiet_of_same (ca _)) | (go_at_call_of 72 (b.toNat); exact Calls.quiet_of_same (cb _)))
      clear ca cb
      go_wp2
      go_ret2
      exact ⟨by rw [Hbad.out]; rfl, hE.drewN _⟩
    have Hst := Lib.hid (unhex_step Hun.out Hdr.out va vb)
    have ca := c_dig pa
    have cb := c_dig pb
    clear pa va pb vb
    go_quiet (first | (go_at_call_of 72 (a.toNat); exact Calls.quiet_of_same (ca _)) | (go_at_call_of 72 (b.toNat); exact Calls.quiet_of_same (cb _)))
    clear ca cb x1 x2 hw1
    have hnib := nib_or ⟨x, hx⟩ ⟨y, hy⟩
    simp only at hnib
    have Hnib := Lib.hid hnib
    clear hnib
    have hBq := hB.ext ((Mod.refl _ wr).drewN nq)
    have hEq := hE.drewN nq
    clear hB hE
    obtain ⟨wq, hwq⟩ : ∃ wq, wr.drewN nq = wq := ⟨_, rfl⟩
    rw [hwq] at hBq hEq ⊢
    clear hwq
    obtain ⟨m, hm⟩ : ∃ m, pre.length = m := ⟨_, rfl⟩
    have ho := hBq.1
    rw [hm] at ho hpl
    have Hm := Lib.hid hm
    clear hm
    obtain ⟨A, c, rfl⟩ := own_form ho
    have HB := Lib.hid hBq
    clear hBq
    go_wp2_with (at_builtin; go_must (refine wpList_app _ rfl _ _ 29 rfl 5 i0 _ 1 1 Tryz.underlying29 hi hz0 hz1 hz2 rfl (by omega) _ m (pre.map B) rfl (ho.alloc _) _ _ 1 _ rfl (Sl.one wq _ _) (by simp [Value.oneCell']) (by simp only [maxLen]; omega) (by omega) ?_))
    intro v' w1 ho1 hgr hat
    obtain ⟨hB1, hE1⟩ := NewB.app (cs := pre ++ [UInt8.ofNat (16 * x + y)]) HB.out hEq ((Mod.refl _ wq).alloc _) (by rw [Hnib.out]; simp [B]) ho1 hgr hat (by have := hEq.size; omega)
    clear ho1 hgr hat ho
    go_wp2
    exact ⟨⟨i + 2, _, by push_cast; rfl, by omega, by omega, Hst.out, by simp [Hm.out]; omega, hB1, hE1⟩, by simp [intOf] <;> omega⟩
  · obtain rfl : i = n := by omega
    have Hun2 : Hid (unhexL l = some pre) := Lib.hid (by rw [Hun.out, List.drop_eq_nil_of_le (by rw [Hln.out]; exact Nat.le_refl _)]; simp [unhexL])
    have hc := conv_bs hB.byt
    go_wp2
    go_ret2
    exact ⟨by rw [Hun2.out]; rfl, hE⟩
set_option maxRecDepth 100000 in
set_option maxHeartbeats 1000000 in
theorem v_text (s : ByteArray) (w : World) (hs : s.size ≤ 100000) : Calls Tryz.prog 76 #[.string s] w (UnhexOut w (bsOf s)) := by
 obtain ⟨i0, hi, hz0, hz1, hz2⟩ := info_parts info_u8
 obtain ⟨l, hl⟩ : ∃ l, bsOf s = l := ⟨_, rfl⟩
 have hsz : s.size = l.length := by rw [← hl]; rfl
 obtain ⟨n, hn⟩ : ∃ n, s.size = n := ⟨_, rfl⟩
 have Hln : Hid (l.length = n) := Lib.hid (by omega)
 clear hsz
 have Hl := Lib.hid hl
 rw [hl]
 clear hl
 have hn1 : n ≤ 100000 := by omega
 clear hs
 by_cases hodd : n % 2 ≠ 0
 · have d : ((n : Int) % 2 != 0) = true := by simp; omega
   go_enter Tryz.func76, Tryz.ntmps76
   go_wp2
   go_ret2
   exact ⟨by rw [unhexL_odd l (by rw [Hln.out]; exact hodd)]; rfl, Mod.refl _ _⟩
 have d : ((n : Int) % 2 != 0) = false := by simp; omega
 go_enter Tryz.func76, Tryz.ntmps76
 go_wp2
 go_loopw [4, 5] (fun v iv wr => ∃ (i : Nat) (pre : List UInt8), iv = .int .i64 i ∧ i ≤ n ∧ i % 2 = 0 ∧ unhexL l = (unhexL (l.drop i)).map (pre ++ ·) ∧ pre.length ≤ i ∧ NewB w wr v pre ∧ Ext w wr) (fun _ iv _ => n - (intOf iv).toNat)
 case atStart => exact ⟨0, [], rfl, by omega, rfl, by simp, by simp, NewB.nil w, Mod.refl _ _⟩
 case round =>
  obtain ⟨i, pre, rfl, hin, hev, hun, hpl, hB, hE⟩ := hrel
  have Hun := Lib.hid hun
  clear hun
  by_cases hlt : i < n
  · have hlt2 : i + 1 < n := by omega
    obtain ⟨a, ha⟩ : ∃ a, l[i]? = some a := ⟨_, List.getElem?_eq_getElem (by rw [Hln.out]; exact hlt)⟩
    obtain ⟨b, hb⟩ : ∃ a, l[i + 1]? = some a := ⟨_, List.getElem?_eq_getElem (by rw [Hln.out]; exact hlt2)⟩
    have x1 := run_ix Hl.out ha .i64
    have x2 := run_ix Hl.out hb .i64
    have Hdr := Lib.hid (unhexL_drop ha hb)
    clear ha hb
    push_cast at x2
    have hw1 : IntKind.i64.wrap ((i : Int) + 1) = (i : Int) + 1 := by rw [IntKind.wrap_i64]; omega
    go_wp2_with fail
    rcases hexI_cases a with ⟨pa, va⟩ | ⟨x, hx, pa, va⟩
    · have Hbad := Lib.hid (unhex_bad Hun.out Hdr.out (.inl va))
      obtain ⟨pb, hpb⟩ : ∃ pb, hexI b = pb := ⟨_, rfl⟩
      have ca := c_dig pa
      have cb := c_dig hpb
      clear pa va hpb
      go_quiet (first | (go_at_call_of 72 (a.toNat); exact Calls.quiet_of_same (ca _)) | (go_at_call_of 72 (b.toNat); exact Calls.quiet_of_same (cb _)))
      clear ca cb
      go_wp2
      go_ret2
      exact ⟨by rw [Hbad.out]; rfl, hE.drewN _⟩
    rcases hexI_cases b with ⟨pb, vb⟩ | ⟨y, hy, pb, vb⟩
    · have Hbad := Lib.hid (unhex_bad Hun.out Hdr.out (.inr vb))
      have ca := c_dig pa
      have cb := c_dig pb
      clear pa va pb vb
      go_quiet (first | (go_at_call_of 72 (a.toNat); exact Calls.quiet_of_same (ca _)) | (go_at_call_of 72 (b.toNat); exact Calls.quiet_of_same (cb _)))
      clear ca cb
      go_wp2
      go_ret2
      exact ⟨by rw [Hbad.out]; rfl, hE.drewN _⟩
    have Hst := Lib.hid (unhex_step Hun.out Hdr.out va vb)
    have ca := c_dig pa
    have cb := c_dig pb
    clear pa va pb vb
    go_quiet (first | (go_at_call_of 72 (a.toNat); exact Calls.quiet_of_same (ca _)) | (go_at_call_of 72 (b.toNat); exact Calls.quiet_of_same (cb _)))
    clear ca cb x1 x2 hw1
    have hnib := nib_or ⟨x, hx⟩ ⟨y, hy⟩
    simp only at hnib
    have Hnib := Lib.hid hnib
    clear hnib
    have hBq := hB.ext ((Mod.refl _ wr).drewN nq)
    have hEq := hE.drewN nq
    clear hB hE
    obtain ⟨wq, hwq⟩ : ∃ wq, wr.drewN nq = wq := ⟨_, rfl⟩
    rw [hwq] at hBq hEq ⊢
    clear hwq
    obtain ⟨m, hm⟩ : ∃ m, pre.length = m := ⟨_, rfl⟩
    have ho := hBq.1
    rw [hm] at ho hpl
    have Hm := Lib.hid hm
    clear hm
    obtain ⟨A, c, rfl⟩ := own_form ho
    have HB := Lib.hid hBq
    clear hBq
    go_wp2_with (at_builtin; go_must (refine wpList_app _ rfl _ _ 29 rfl 5 i0 _ 1 1 Tryz.underlying29 hi hz0 hz1 hz2 rfl (by omega) _ m (pre.map B) rfl (ho.alloc _) _ _ 1 _ rfl (Sl.one wq _ _) (by simp [Value.oneCell']) (by simp only [maxLen]; omega) (by omega) ?_))
    intro v' w1 ho1 hgr hat
    obtain ⟨hB1, hE1⟩ := NewB.app (cs := pre ++ [UInt8.ofNat (16 * x + y)]) HB.out hEq ((Mod.refl _ wq).alloc _) (by rw [Hnib.out]; simp [B]) ho1 hgr hat (by have := hEq.size; omega)
    clear ho1 hgr hat ho
    go_wp2
    exact ⟨⟨i + 2, _, by push_cast; rfl, by omega, by omega, Hst.out, by simp [Hm.out]; omega, hB1, hE1⟩, by simp [intOf] <;> omega⟩
  · obtain rfl : i = n := by omega
    have Hun2 : Hid (unhexL l = some pre) := Lib.hid (by rw [Hun.out, List.drop_eq_nil_of_le (by rw [Hln.out]; exact Nat.le_refl _)]; simp [unhexL])
    have hc := conv_bs hB.byt
    go_wp2
    go_ret2
    exact ⟨by rw [Hun2.out]; rfl, hE⟩
end Go.Proofs.YtmebipnljkopgaaGreatDoor
