/-
 Contracts of the page's High, Float, Value. Conditions: as each theorem names them.
-/
import Derived.Test.YtfkacakbengboaaSesRef
namespace Go.Proofs.Ytfkacakbengboaa
set_option linter.unusedSimpArgs false
open Go.RowKit
attribute [local go_sem] call_frombits call_bits

theorem shr_pow (k : Nat) : (2 : Int) ^ (8 * k) = 256 ^ k := by
 have h : (2 : Nat) ^ (8 * k) = 256 ^ k := by rw [Nat.pow_mul]
 have := congrArg (fun n : Nat => (n : Int)) h
 simpa using this
set_option maxRecDepth 100000 in
set_option maxHeartbeats 1000000 in
theorem r2_high (w : World) (y : Nat) : Calls Try.prog 105 #[.int .u64 y, .int .i64 8] w fun e w' => ∃ v, e = .returned v ∧ NewB w w' v (hib 8 y) ∧ Ext w w' := by
 obtain ⟨i0, hi, hz0, hz1, hz2⟩ := info_parts info_u8
 go_enter Try.func105, Try.ntmps105
 go_wp2
 go_loopw [5, 6] (fun v kv wr => ∃ (k m : Nat) (pre : List UInt8), k ≤ 8 ∧ kv = .int .i64 ((k : Int) - 1) ∧ hib 8 y = pre ++ hib k y ∧ pre.length = m ∧ wr.ownsRow 0 5 1 v m (pre.map B) ∧ (∀ g, v.ownBlock = some g → w.heap.size ≤ g) ∧ Ext w wr) (fun _ kv _ => (intOf kv + 1).toNat)
 case atStart => exact ⟨8, 0, [], by omega, rfl, rfl, rfl, World.ownsRow_nil _ _ _ _, by simp [Value.ownBlock], Mod.refl _ _⟩
 case round =>
  obtain ⟨k, m, pre, hk, rfl, henc, hpm, hown, hfr, hE⟩ := hrel
  have hlp : m ≤ 8 := by have := congrArg List.length henc; simp [hib] at this; omega
  have Henc := Lib.hid henc
  have Hpm := Lib.hid hpm
  have Hfr := Lib.hid hfr
  have HE := Lib.hid hE
  clear henc hpm hfr hE
  rcases k with _ | k
  ·
   have Hf : Hid (hib 8 y = pre) := Lib.hid (by rw [Henc.out, hib]; simp)
   have Hown := Lib.hid hown
   clear hown
   go_wp2
   go_ret
   exact ⟨_, rfl, ⟨by rw [Hf.out, Hpm.out]; exact Hown.out, Hfr.out⟩, HE.out⟩
  ·
   rw [show (((k + 1 : Nat) : Int) - 1) = (k : Int) from by omega]
   have hsh := fun W => run_shr8 (P := Try.prog) y k (by omega) W
   go_wp2_with (at_builtin; refine wpList_app _ rfl _ _ 25 rfl 5 i0 _ 1 1 Try.underlying25 hi hz0 hz1 hz2 rfl (by omega) _ m (pre.map B) rfl (hown.alloc _) _ _ 1 _ rfl (Sl.one wr _ _) (by simp [Value.oneCell']) (by simp only [maxLen]; omega) (by omega) ?_)
   intro v' w1 ho hgr hat
   have hn' := own_step (w := wr) Hpm.out ho hgr hat Hfr.out HE.out (c := UInt8.ofNat (y / 256 ^ k % 256)) (by rw [← low8w, shr_pow]; simp [IntKind.wrap, IntKind.bits, IntKind.signed])
   have hstep : pre ++ hib (k + 1) y = (pre ++ [UInt8.ofNat (y / 256 ^ k % 256)]) ++ hib k y := by rw [hib]; simp
   have Hs := Lib.hid (Henc.out.trans hstep)
   have Hn' := Lib.hid hn'
   clear hstep hn' ho hgr hat hsh
   go_wp2
   go_roundw
   case rel => exact ⟨k, m + 1, pre ++ [UInt8.ofNat (y / 256 ^ k % 256)], by omega, by first | rfl | go_num, Hs.out, Hn'.out.1, Hn'.out.2.1, Hn'.out.2.2.1, Hn'.out.2.2.2⟩
   case measure => simp [intOf] <;> omega
set_option maxRecDepth 100000 in
set_option maxHeartbeats 1000000 in
theorem r2_float (w : World) (x : Nat) : Calls Try.prog 94 #[.float .f64 x] w fun e w' => ∃ v, e = .returned v ∧ NewB w w' v (encFloat x) ∧ Ext w w' := by
 unfold encFloat
 go_enter Try.func94, Try.ntmps94
 go_wp2_with fail
 refine (refcanon_any x _).mono ?_
 rintro e w1 ⟨rfl, rfl⟩
 go_wp2_with fail
 refine (r2_high w (canon x)).mono ?_
 rintro e w2 ⟨v, rfl, hN, hE⟩
 have HN := Lib.hid hN
 have HE := Lib.hid hE
 clear hN hE
 go_wp2
 go_ret
 exact ⟨v, rfl, HN.out, HE.out⟩
theorem intAt {w : World} {T : Nat → Prop} {A : Option Addr} {n c : Nat} {l : List Int} (hs : Sl w T 1 (.slice A n c) n (l.map (Value.int .i64))) {i : Nat} (hi : i < n) :
  ∃ g off x, A = some ⟨g, off, none⟩ ∧ l[i]? = some x ∧ w.cell? ⟨g, off + i, none⟩ = some (.int .i64 x) := by
 obtain ⟨hl, A', c', e, hn, hc, hx⟩ := hs
 injection e with e1 _ e3; subst e1; subst e3
 obtain ⟨g, off, rfl, hT, hcell⟩ := hx (by omega)
 have hli : i < l.length := by simp at hl; omega
 exact ⟨g, off, l[i], rfl, List.getElem?_eq_getElem hli, hcell i _ (by simp [List.getElem?_eq_getElem hli])⟩
theorem ints_len (l : List Int) : (l.flatMap encInt).length ≤ 10 * l.length := by
 induction l with
 | nil => simp
 | cons a l ih => have := encInt_len a; rw [List.flatMap_cons, List.length_append, List.length_cons]; omega
set_option maxRecDepth 100000 in
set_option maxHeartbeats 1000000 in
theorem r2_ints (w : World) (T : Nat → Prop) (v : Value) (l : List Int) (h : Sl w T 1 v l.length (l.map (Value.int .i64))) (hr : ∀ n ∈ l, I64 n) (hl : l.length ≤ 16) :
  Calls Try.prog 46 #[v] w fun e w' => ∃ v', e = .returned v' ∧ NewB w w' v' (l.flatMap encInt) ∧ Ext w w' := by
 obtain ⟨i0, hi, hz0, hz1, hz2⟩ := info_parts info_u8
 obtain ⟨n, hn⟩ : ∃ n, l.length = n := ⟨_, rfl⟩
 rw [hn] at h hl
 obtain ⟨A, c, rfl⟩ := h.form
 have Hn := Lib.hid hn
 have Hr := Lib.hid hr
 clear hn hr
 go_enter Try.func46, Try.ntmps46
 go_wp2
 go_loopw [3, 4] (fun v iv wr => ∃ (i m : Nat), i ≤ n ∧ iv = .int .i64 i ∧ ((l.take i).flatMap encInt).length = m ∧ NewB w wr v ((l.take i).flatMap encInt) ∧ Ext w wr) (fun _ iv _ => n - (intOf iv).toNat)
 case atStart => exact ⟨0, 0, by omega, rfl, by simp, ⟨World.ownsRow_nil _ _ _ _, by simp [Value.ownBlock]⟩, Mod.refl _ _⟩
 case round =>
  obtain ⟨i, m, hin, rfl, hm, hN, hE⟩ := hrel
  have hlm : m ≤ 160 := by have := ints_len (l.take i); rw [List.length_take] at this; have := Hn.out; omega
  have hr' := h.ext hE
  have HN := Lib.hid hN
  have HE := Lib.hid hE
  have Hm := Lib.hid hm
  clear hN hE hm
  by_cases hi' : i < n
  ·
   obtain ⟨g, off, x, rfl, hx, hcell⟩ := intAt hr' hi'
   have hxr := Hr.out x (List.mem_of_getElem? hx)
   have hi0 : (0 : Int) ≤ (i : Int) := by omega
   have hi1 : (i : Int) < (n : Int) := by omega
   have Hsn := Lib.hid (flat_snoc (f := encInt) hx)
   clear hx hr'
   go_wp2_with fail
   refine (r2_int wr x hxr).mono ?_
   rintro e w1 ⟨v1, rfl, hN1, hE1⟩
   have hlx := encInt_len x
   obtain ⟨k, hk⟩ : ∃ k, (encInt x).length = k := ⟨_, rfl⟩
   have hown := own_mod HN.out.1 hE1 (fun _ _ => id)
   rw [Hm.out] at hown
   have hb := hN1.sl
   unfold Byt at hb
   rw [hk] at hb hlx
   have hN0 : NewB w w1 _ _ := ⟨own_mod HN.out.1 hE1 (fun _ _ => id), HN.out.2⟩
   have Hk := Lib.hid hk
   clear hk
   go_wp2_with (at_builtin; refine wpList_app _ rfl _ _ 25 rfl 5 i0 _ 1 1 Try.underlying25 hi hz0 hz1 hz2 rfl (by omega) _ m (((l.take i).flatMap encInt).map B) rfl hown _ _ k ((encInt x).map B) rfl hb (B_one (encInt x)) (by simp only [maxLen]; omega) (by omega) ?_)
   intro v' w2 ho hgr hat
   have hF := Lib.hid (newB_app hN0 (HE.out.ext hE1) ho (by rw [List.length_append, Hm.out, Hk.out]) hgr hat)
   clear ho hgr hat hN0 hb hown hN1 hE1
   go_wp2
   exact ⟨⟨i + 1, m + k, by omega, by go_num, by rw [Hsn.out, List.length_append, Hm.out, Hk.out], by rw [Hsn.out]; exact hF.out.1, hF.out.2⟩, by simp [intOf]; omega⟩
  ·
   have hful : l.take i = l := List.take_of_length_le (by rw [Hn.out]; omega)
   have HF : Hid (NewB w wr _ (l.flatMap encInt)) := Lib.hid (by have := HN.out; rw [hful] at this; exact this)
   clear hful
   go_wp2
   go_ret
   exact ⟨_, rfl, HF.out, HE.out⟩
attribute [local go_sem high] conv_sb
set_option maxRecDepth 100000 in
set_option maxHeartbeats 1000000 in
theorem r5_value (w : World) (v : AVal) (hv : v.ok) (ht : v.text.size ≤ 1000000) : Calls Try.prog 73 #[.agg #[.int .i64 v.kind, .float .f64 v.num, .string v.text]] w fun e w' => ∃ v', e = .returned v' ∧ NewB w w' v' (encV v) ∧ Ext w w' := by
 obtain ⟨i0, hi, hz0, hz1, hz2⟩ := info_parts info_u8
 obtain ⟨hk, hx, htx⟩ := hv
 have hlk := encInt_len v.kind
 obtain ⟨q, hq⟩ : ∃ q, w.heap.size = q := ⟨_, rfl⟩
 obtain ⟨W, hW⟩ : ∃ W, W = w.alloc (.cells #[.int .i64 v.kind, .float .f64 v.num, .string v.text] 38) := ⟨_, rfl⟩
 have hE : Ext w W := by rw [hW]; exact (Mod.refl _ w).alloc _
 have hA : W.heap[q]? = some (.cells #[.int .i64 v.kind, .float .f64 v.num, .string v.text] 38 (0, 0)) := by rw [hW, ← hq]; exact heap_alloc_new w _
 have HW := Lib.hid hW
 have Hq := Lib.hid hq
 have HE := Lib.hid hE
 have HA := Lib.hid hA
 clear hW hq hE hA
 go_enter Try.func73, Try.ntmps73
 go_wp2_with fail
 rw [← HW.out, Hq.out]
 refine (r2_int W v.kind hk).mono ?_
 rintro e w1 ⟨v1, rfl, hN1, hE1⟩
 have hA1 := hE1.blk HA.out id
 obtain ⟨a0, a1, a2⟩ := cq3 hA1
 have hql : q < w1.heap.size := (Array.getElem?_eq_some_iff.1 hA1).1
 obtain ⟨m, hm⟩ : ∃ m, (encInt v.kind).length = m := ⟨_, rfl⟩
 have HN1 : Hid (NewB w w1 v1 (encInt v.kind)) := Lib.hid ⟨hN1.1, fun g hg => Nat.le_trans HE.out.size (hN1.2 g hg)⟩
 have HE1 := Lib.hid (HE.out.ext hE1)
 rw [hm] at hlk
 have Hm := Lib.hid hm
 clear hN1 hE1 hA1 hm
 by_cases e1 : v.kind = 1
 ·
  have d1 : (v.kind == 1) = true := by simp [e1]
  have Hen : Hid (encV v = encInt v.kind ++ encFloat v.num) := Lib.hid (by unfold encV; rw [if_pos e1])
  have Hk1 := Lib.hid e1
  clear e1
  go_wp2_with fail
  refine (r2_float w1 v.num).mono ?_
  rintro e w2 ⟨v2, rfl, hN2, hE2⟩
  have hown := own_mod HN1.out.1 hE2 (fun _ _ => id)
  rw [Hm.out] at hown
  have hf8 : (encFloat v.num).length = 8 := hib_len' 8 _
  have hb := hN2.sl
  unfold Byt at hb
  rw [hf8] at hb
  have hN0 : NewB w w2 _ _ := ⟨own_mod HN1.out.1 hE2 (fun _ _ => id), HN1.out.2⟩
  go_wp2_with (at_builtin; refine wpList_app _ rfl _ _ 25 rfl 5 i0 _ 1 1 Try.underlying25 hi hz0 hz1 hz2 rfl (by omega) _ m ((encInt v.kind).map B) rfl hown _ _ 8 ((encFloat v.num).map B) rfl hb (B_one (encFloat v.num)) (by simp only [maxLen]; omega) (by omega) ?_)
  intro v' w3 ho hgr hat
  have hF := Lib.hid (newB_app hN0 (HE1.out.ext hE2) ho (by rw [List.length_append, Hm.out, hf8]) hgr hat)
  clear ho hgr hat hN0 hb hown hN2 hE2
  go_wp2
  go_ret
  exact ⟨v', rfl, by rw [Hen.out]; exact hF.out.1, hF.out.2⟩
 have d1 : (v.kind == 1) = false := by simpa using e1
 by_cases e2 : v.kind = 2
 ·
  have d2 : (v.kind == 2) = true := by simp [e2]
  have Hen : Hid (encV v = encInt v.kind ++ encText (bsOf v.text)) := Lib.hid (by unfold encV; rw [if_neg e1, if_pos e2])
  have Hk1 := Lib.hid e1
  have Hk2 := Lib.hid e2
  clear e1 e2
  have hbe := bw_ext w1 5 v.text
  have hbb := bw_byt w1 5 v.text htx
  have hln : (bsOf v.text).length = v.text.size := rfl
  go_wp2_with fail
  refine (r2_text _ _ _ (bsOf v.text) hbb (by omega)).mono ?_
  rintro e w2 ⟨v2, rfl, hN2, hE2⟩
  have hEE := hbe.ext hE2
  have hown := own_mod HN1.out.1 hEE (fun _ _ => id)
  rw [Hm.out] at hown
  have hlt := encText_len' (bsOf v.text)
  obtain ⟨k, hk⟩ : ∃ k, (encText (bsOf v.text)).length = k := ⟨_, rfl⟩
  have hb := hN2.sl
  unfold Byt at hb
  rw [hk] at hb hlt
  have hN0 : NewB w w2 _ _ := ⟨own_mod HN1.out.1 hEE (fun _ _ => id), HN1.out.2⟩
  have Hkk := Lib.hid hk
  clear hk
  go_wp2_with (at_builtin; refine wpList_app _ rfl _ _ 25 rfl 5 i0 _ 1 1 Try.underlying25 hi hz0 hz1 hz2 rfl (by omega) _ m ((encInt v.kind).map B) rfl hown _ _ k ((encText (bsOf v.text)).map B) rfl hb (B_one (encText (bsOf v.text))) (by simp only [maxLen]; omega) (by omega) ?_)
  intro v' w3 ho hgr hat
  have hF := Lib.hid (newB_app hN0 (HE1.out.ext hEE) ho (by rw [List.length_append, Hm.out, Hkk.out]) hgr hat)
  clear ho hgr hat hN0 hb hown hN2 hE2 hEE hbb hbe
  go_wp2
  go_ret
  exact ⟨v', rfl, by rw [Hen.out]; exact hF.out.1, hF.out.2⟩
 ·
  have d2 : (v.kind == 2) = false := by simpa using e2
  have Hen : Hid (encV v = encInt v.kind) := Lib.hid (by unfold encV; rw [if_neg e1, if_neg e2, List.append_nil])
  have Hk1 := Lib.hid e1
  have Hk2 := Lib.hid e2
  clear e1 e2
  go_wp2
  go_ret
  exact ⟨v1, rfl, by rw [Hen.out]; exact HN1.out, HE1.out⟩
end Go.Proofs.Ytfkacakbengboaa
