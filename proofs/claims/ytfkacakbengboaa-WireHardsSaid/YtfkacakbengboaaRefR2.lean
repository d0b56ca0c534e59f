/-
 What the page's reader reads: a float, a text, whether it is done. Conditions: as each theorem names them.
-/
import Derived.Test.YtfkacakbengboaaRefR
namespace Go.Proofs.Ytfkacakbengboaa
set_option linter.unusedSimpArgs false
open Go.RowKit
attribute [local go_sem] call_frombits call_bits

set_option maxRecDepth 100000 in
set_option maxHeartbeats 400000 in
theorem p_done (w : World) (T : Nat → Prop) (b : Nat) (bs : List UInt8) (r : RS) (h : RpX w T b bs r) :
  Calls Try.prog 82 #[.pointer (some ⟨b, 0, none⟩)] w fun e w' => e = .returned (.int .i64 r.done) ∧ Ext w w' := by
 obtain ⟨a, v, hb, hs, hT, ha, hl⟩ := h
 obtain ⟨c0, c1, c2, f1, f2⟩ := rp_cells hb
 unfold Byt at hs
 obtain ⟨n, hn⟩ : ∃ n, bs.length = n := ⟨_, rfl⟩
 rw [hn] at hs ha
 obtain ⟨A, c, rfl⟩ := hs.form
 have hll : r.left.length = n - a := by rw [hl, List.length_drop, hn]
 clear hb hn hl
 by_cases he : r.e = 0
 ·
  have d1 : (r.e == 0) = true := by simp [he]
  rcases Nat.lt_or_ge a n with h1 | h1
  ·
   have hL : Hid (r.done = 3) := Lib.hid (by unfold RS.done; rw [if_pos ⟨he, by omega⟩])
   rw [hL.out]
   rw [he] at c2
   clear hll he d1
   go_enter Try.func82, Try.ntmps82
   go_wp2
   go_quiet (fail)
   go_wp2
   go_ret
   exact ⟨rfl, (Mod.refl _ _).drewN _⟩
  ·
   have hL : Hid (r.done = 0) := Lib.hid (by unfold RS.done; rw [if_neg (by omega)]; exact he)
   rw [hL.out]
   rw [he] at c2
   have d2 : decide (a < n) = false := by simp; omega
   clear hll he d1
   go_enter Try.func82, Try.ntmps82
   go_wp2
   go_quiet (fail)
   go_wp2
   go_ret
   exact ⟨rfl, (Mod.refl _ _).drewN _⟩
 ·
  have hL : Hid (r.done = r.e) := Lib.hid (by unfold RS.done; rw [if_neg (by omega)])
  rw [hL.out]
  have d1 : (r.e == 0) = false := by simp [he]
  clear hll he
  go_enter Try.func82, Try.ntmps82
  go_wp2
  go_quiet (fail)
  go_wp2
  go_ret
  exact ⟨rfl, (Mod.refl _ _).drewN _⟩

set_option maxRecDepth 100000 in
set_option maxHeartbeats 400000 in
theorem p_number (w : World) (T : Nat → Prop) (v : Value) (l : List UInt8) (h : Byt w T v l) (h8 : l.length ≤ 8) :
  Calls Try.prog 108 #[v] w fun e w' => e = .returned (.int .u64 (num8 l : Nat)) ∧ w = w' := by
 obtain ⟨n, hn⟩ : ∃ n, l.length = n := ⟨_, rfl⟩
 unfold Byt at h
 rw [hn] at h h8
 obtain ⟨A, c, rfl⟩ := h.form
 have Hn := Lib.hid hn
 clear hn
 go_enter Try.func108, Try.ntmps108
 go_wp2
 go_loop [3, 4] (fun xv iv => ∃ i : Nat, i ≤ n ∧ iv = .int .i64 i ∧ xv = .int .u64 (num8 (l.take i) : Nat)) (fun _ iv => n - (intOf iv).toNat)
 case atStart => exact ⟨0, by omega, rfl, rfl⟩
 case round =>
  obtain ⟨i, hi8, rfl, rfl⟩ := hrel
  by_cases hi : i < n
  ·
   obtain ⟨g, off, x, rfl, hx, hcell⟩ := cellB h hi
   have hxlt := byte_lt x
   have hor := or8 (num8 (l.take i)) x.toNat (by
    have h1 := num8_lt i (l.take i) (by rw [List.length_take, Hn.out]; omega)
    have h2 : 256 ^ i ≤ 256 ^ 7 := Nat.pow_le_pow_right (by omega) (by omega)
    omega) hxlt
   have e1 : num8 (l.take i) * 256 + x.toNat = num8 (l.take (i + 1)) := by rw [take_at hx, num8_snoc]
   rw [e1] at hor
   clear hx e1
   go_wp2
   exact ⟨⟨i + 1, by omega, by go_num, rfl⟩, by simp [intOf]; omega⟩
  ·
   have e : l.take i = l := List.take_of_length_le (by rw [Hn.out]; omega)
   rw [e]
   clear e
   go_wp2
   go_ret
   exact ⟨rfl, rfl⟩

/-- A call that leaves the world as it is, in a quiet region behind another one. -/
theorem q_keep {P : Program} {f : FuncId} {args : Array Value} {w : World} {a n : Nat} {v : Value} (h : ∀ W : World, W = w.drewN (a + n) → Calls P f args W fun e w' => e = .returned v ∧ W = w') :
  Calls P f args (w.drewN (a + n)) fun e w'' => e = .returned v ∧ ∃ m, w'' = w.drewN (a + m) :=
 (h _ rfl).mono fun _ _ ⟨he, hm⟩ => ⟨he, n, hm.symm⟩
def PFloatOk (w : World) (T : Nat → Prop) (b : Nat) (bs : List UInt8) (r : RS) (e : Ending) (w' : World) : Prop := e = .returned (.float .f64 r.float.1) ∧ RpX w' T b bs r.float.2 ∧ Mod (fun k => k = b) w w'
set_option maxRecDepth 100000 in
set_option maxHeartbeats 1000000 in
theorem p_float_ok (w : World) (T : Nat → Prop) (b : Nat) (bs : List UInt8) (a : Nat) (l : List UInt8) (h : Rp w T b bs a ⟨l, 0⟩) :
  Calls Try.prog 97 #[.pointer (some ⟨b, 0, none⟩)] w (PFloatOk w T b bs ⟨l, 0⟩) := by
 obtain ⟨v, hb, hs, hT, ha, hl⟩ := h
 obtain ⟨c0, c1, c2, f1, f2⟩ := rp_cells hb
 obtain ⟨A, c, rfl⟩ := hs.form
 have hlen : bs.length ≤ maxLen := hs.le
 unfold maxLen at hlen
 obtain ⟨n, hn⟩ : ∃ n, bs.length = n := ⟨_, rfl⟩
 simp only at hl c2 hb
 unfold Byt at hs
 simp only [hn] at hs ha hlen hb c0
 have hnc : n ≤ c := by obtain ⟨_, A', c', e, h1, _⟩ := hs; injection e with _ _ e3; omega
 have hll : l.length = n - a := by rw [hl, List.length_drop, hn]
 have Hn := Lib.hid hn
 have Hb := Lib.hid hb
 have Hl := Lib.hid hl
 have Hll := Lib.hid hll
 clear hb hn hl hll
 have hfail : RS.float ⟨l, 0⟩ = (0, ⟨l, 3⟩) → ∀ q w', Rp w' T b bs a (RS.fail ⟨l, 0⟩ 3) → Mod (fun k => k = b) (w.drewN q) w' → PFloatOk w T b bs ⟨l, 0⟩ (.returned (.float .f64 0)) w' := by
  intro h q w' h1 h2
  unfold PFloatOk
  rw [h]
  exact ⟨rfl, ⟨a, h1⟩, Mod.trans ((Mod.refl _ w).drewN q) h2 (fun _ _ e => e)⟩
 have hrp : ∀ q, Rp (w.drewN q) T b bs a ⟨l, 0⟩ := fun q => ⟨_, Hb.out, by unfold Byt; rw [Hn.out]; exact hs.drewN q, hT, by rw [Hn.out]; exact ha, Hl.out⟩
 have Hrp := Lib.hid hrp
 have Hfail := Lib.hid hfail
 clear hfail hrp
 have hw1 : IntKind.i64.wrap ((n : Int) - (a : Int)) = ((n - a : Nat) : Int) := by rw [IntWalk.i64_in _ (by omega)]; omega
 obtain ⟨k, hk⟩ : ∃ k, n - a = k := ⟨_, rfl⟩
 rw [hk] at hw1
 by_cases h8 : k < 8
 ·
  have d8 : decide ((k : Int) < 8) = true := by simp; omega
  have Hq := Lib.hid (float_few (l := l) (by rw [Hll.out]; omega))
  clear hk
  go_enter Try.func97, Try.ntmps97
  go_wp2
  go_quiet (fail)
  go_wp2_with fail
  refine (p_none _ T b bs a ⟨l, 0⟩ 3 (Hrp.out _)).mono ?_
  rintro e w1 ⟨rfl, hR, hmd⟩
  go_wp2
  go_ret
  exact Hfail.out Hq.out _ _ hR hmd
 have d8 : decide ((k : Int) < 8) = false := by simp; omega
 have h9 : a + 8 ≤ n := by omega
 have hw2 : IntKind.i64.wrap ((a : Int) + 8) = (a : Int) + 8 := IntWalk.i64_in _ (by omega)
 have ha0 : (0 : Int) ≤ (a : Int) := by omega
 have ha1 : (a : Int) ≤ (a : Int) + 8 := by omega
 have ha2 : (a : Int) + 8 ≤ (c : Int) := by omega
 have ha3 : ((a : Int) + 8).toNat = a + 8 := by omega
 have hcut := (hs.upto (m := a + 8) (by omega)).cutA (m := a) (by omega)
 have e8 : a + 8 - a = 8 := by omega
 have el : ((bs.map B).take ((a + 8) * 1)).drop (a * 1) = (l.take 8).map B := by
  rw [Hl.out, Nat.mul_one, Nat.mul_one, ← List.map_take, ← List.map_drop, List.drop_take, e8]
 rw [el, e8] at hcut
 have hl8 : (l.take 8).length = 8 := by rw [List.length_take, Hll.out]; omega
 have hcut2 : ∀ q, Byt (w.drewN q) T (.slice (cutA A a c 1) 8 (c - a)) (l.take 8) := fun q => by unfold Byt; rw [hl8]; exact hcut.drewN q
 have Hcut := Lib.hid hcut2
 have Hl8 := Lib.hid hl8
 clear hcut hcut2 el hl8 hk
 have hnum : ∀ q, Calls Try.prog 108 #[.slice (cutA A a c 1) 8 (c - a)] (w.drewN q) fun e w' => e = .returned (.int .u64 (num8 (l.take 8) : Nat)) ∧ w.drewN q = w' := fun q => p_number _ T _ _ (Hcut.out q) (by rw [Hl8.out]; omega)
 obtain ⟨y, hy⟩ : ∃ y, num8 (l.take 8) = y := ⟨_, rfl⟩
 rw [hy] at hnum
 have Hy := Lib.hid hy
 have Hnum := Lib.hid hnum
 have hput : canon y = y → ∀ q, PFloatOk w T b bs ⟨l, 0⟩ (.returned (.float .f64 y)) ((w.drewN q).setCell ⟨b, 1, none⟩ (.int .i64 ((a : Int) + 8))) := by
  intro hc q
  unfold PFloatOk
  rw [float_yes (by rw [Hll.out]; omega) (by rw [hy]; exact hc), hy]
  obtain ⟨p1, p2⟩ := rp_at (w := w.drewN q) ((a : Int) + 8) Hb.out
  have p3 := Mod.trans ((Mod.refl (fun k => k = b) w).drewN q) p2 (fun _ _ e => e)
  refine ⟨rfl, ⟨a + 8, .slice A n c, ?_, ?_, hT, by rw [Hn.out]; omega, ?_⟩, p3⟩
  ·
   rw [p1]; simp
  ·
   unfold Byt
   rw [Hn.out]
   exact hs.mod p3 (fun g hg e => hT (e ▸ hg))
  ·
   rw [Hl.out, List.drop_drop]
 have Hput := Lib.hid hput
 have hbad : canon y ≠ y → RS.float ⟨l, 0⟩ = (0, ⟨l, 3⟩) := fun hc => float_nan (by rw [Hll.out]; omega) (by rw [Hy.out]; exact hc)
 have Hbad := Lib.hid hbad
 clear hy hnum hput hbad
 have hyn : (y : Int).toNat = y := by omega
 have e1 : (FloatKind.f64.format.order y y != some Ordering.eq) = isNaN y := rfl
 rcases hn : isNaN y with _ | _
 ·
  have HP : Hid (∀ q, PFloatOk w T b bs ⟨l, 0⟩ (.returned (.float .f64 y)) ((w.drewN q).setCell ⟨b, 1, none⟩ (.int .i64 ((a : Int) + 8)))) := Lib.hid (Hput.out (canon_no hn))
  rw [hn] at e1
  clear hn
  go_enter Try.func97, Try.ntmps97
  go_wp2
  go_quiet (fail)
  go_wp2
  go_quiet ((go_at_call 108; exact q_keep (fun W e => by subst e; exact Hnum.out _)))
  go_wp2
  go_ret
  exact HP.out _
 rw [hn] at e1
 by_cases hq : y = theNaN
 ·
  have HP : Hid (∀ q, PFloatOk w T b bs ⟨l, 0⟩ (.returned (.float .f64 y)) ((w.drewN q).setCell ⟨b, 1, none⟩ (.int .i64 ((a : Int) + 8)))) := Lib.hid (Hput.out (by rw [canon_yes hn, hq]))
  have d1 : ((y : Int) != 9221120237041090561) = false := by unfold theNaN at hq; simp; omega
  clear hn hq
  go_enter Try.func97, Try.ntmps97
  go_wp2
  go_quiet (fail)
  go_wp2
  go_quiet ((go_at_call 108; exact q_keep (fun W e => by subst e; exact Hnum.out _)))
  go_wp2
  go_ret
  exact HP.out _
 ·
  have Hq := Lib.hid (Hbad.out (by rw [canon_yes hn]; exact fun e => hq e.symm))
  have d1 : ((y : Int) != 9221120237041090561) = true := by unfold theNaN at hq; simp; omega
  clear hn hq
  go_enter Try.func97, Try.ntmps97
  go_wp2
  go_quiet (fail)
  go_wp2
  go_quiet ((go_at_call 108; exact q_keep (fun W e => by subst e; exact Hnum.out _)))
  go_wp2_with fail
  refine (p_none _ T b bs a ⟨l, 0⟩ 3 (Hrp.out _)).mono ?_
  rintro e w1 ⟨rfl, hR, hmd⟩
  go_wp2
  go_ret
  exact Hfail.out Hq.out _ _ hR hmd
theorem p_float (w : World) (T : Nat → Prop) (b : Nat) (bs : List UInt8) (r : RS) (h : RpX w T b bs r) :
  Calls Try.prog 97 #[.pointer (some ⟨b, 0, none⟩)] w (PFloatOk w T b bs r) := by
 obtain ⟨a, h⟩ := h
 obtain ⟨l, x⟩ := r
 by_cases he : x = 0
 ·
  subst he; exact p_float_ok w T b bs a l h
 ·
  have H := Lib.hid h
  obtain ⟨v, hb, hs, hT, ha, hl⟩ := h
  obtain ⟨c0, c1, c2, f1, f2⟩ := rp_cells hb
  have he2 : (x != 0) = true := by simp [he]
  have Hi : Hid (RS.float ⟨l, x⟩ = (0, ⟨l, x⟩)) := Lib.hid (by simp [RS.float, he])
  simp only at c2
  clear hb hs hl
  go_enter Try.func97, Try.ntmps97
  go_wp2
  go_ret
  unfold PFloatOk
  rw [Hi.out]
  exact ⟨rfl, ⟨a, H.out⟩, Mod.refl _ _⟩

/-- What Text hands back: new bytes, known whole. -/
def PTextOk (w : World) (T : Nat → Prop) (b : Nat) (bs : List UInt8) (r : RS) (e : Ending) (w' : World) : Prop := ∃ v, e = .returned v ∧ NewB w w' v r.text.1 ∧ RpX w' T b bs r.text.2 ∧ Mod (fun k => k = b) w w'
set_option maxRecDepth 100000 in
set_option maxHeartbeats 1000000 in
theorem p_text (w : World) (T : Nat → Prop) (b : Nat) (bs : List UInt8) (r : RS) (h : RpX w T b bs r) :
  Calls Try.prog 55 #[.pointer (some ⟨b, 0, none⟩)] w (PTextOk w T b bs r) := by
 obtain ⟨i0, hi, hz0, hz1, hz2⟩ := info_parts info_u8
 have hR0 := int_range r
 have ht := text_eq r
 go_enter Try.func55, Try.ntmps55
 go_wp2_with fail
 refine (p_int w T b bs r h).mono ?_
 rintro e w1 ⟨rfl, ⟨a, hR⟩, hmd⟩
 obtain ⟨⟨l, x⟩, hrr⟩ : ∃ r1, r.int.2 = r1 := ⟨_, rfl⟩
 obtain ⟨k, hk⟩ : ∃ k, r.int.1 = k := ⟨_, rfl⟩
 rw [hrr] at hR
 rw [hrr, hk] at ht
 rw [hk] at hR0 ⊢
 have Ht := Lib.hid ht
 have H := Lib.hid hR
 clear ht hrr hk
 have hfail : ∀ y, r.text = ([], ⟨l, y⟩) → ∀ q w', Rp w' T b bs a ⟨l, y⟩ → Mod (fun k => k = b) (w1.drewN q) w' → PTextOk w T b bs r (.returned (.slice none 0 0)) w' := by
  intro y h q w' h1 h2
  unfold PTextOk
  rw [h]
  exact ⟨_, rfl, ⟨World.ownsRow_nil _ _ _ _, by simp [Value.ownBlock]⟩, ⟨a, h1⟩, (hmd.drewN q).trans h2 (fun _ _ h => h)⟩
 have Hfail := Lib.hid hfail
 obtain ⟨v, hb, hs, hT, ha, hl⟩ := hR
 obtain ⟨c0, c1, c2, f1, f2⟩ := rp_cells hb
 obtain ⟨A, c, rfl⟩ := hs.form
 have hlen : bs.length ≤ maxLen := hs.le
 unfold maxLen at hlen
 obtain ⟨n, hn⟩ : ∃ n, bs.length = n := ⟨_, rfl⟩
 simp only at hl c2 hb
 unfold Byt at hs
 simp only [hn] at hs ha hlen hb c0
 have hnc : n ≤ c := by obtain ⟨_, A', c', e, h1, _⟩ := hs; injection e with _ _ e3; omega
 have hll : l.length = n - a := by rw [hl, List.length_drop, hn]
 have Hn := Lib.hid hn
 have Hb := Lib.hid hb
 have Hl := Lib.hid hl
 have Hll := Lib.hid hll
 have Hmd := Lib.hid hmd
 clear hb hn hl hll hfail hmd
 by_cases hx : x = 0
 ·
  subst hx
  have hrp : ∀ q, Rp (w1.drewN q) T b bs a ⟨l, 0⟩ := fun q => ⟨_, Hb.out, by unfold Byt; rw [Hn.out]; exact hs.drewN q, hT, by rw [Hn.out]; exact ha, Hl.out⟩
  have Hrp := Lib.hid hrp
  clear hrp
  by_cases h2 : k < 0
  ·
   have Hq : Hid (r.text = ([], ⟨l, 3⟩)) := Lib.hid (by rw [Ht.out]; simp [h2]; omega)
   have d1 : decide (k < 0) = true := by simp [h2]
   go_wp2_with fail
   refine (p_none w1 T b bs a ⟨l, 0⟩ 3 H.out).mono ?_
   rintro e w2 ⟨rfl, hR2, hm2⟩
   go_wp2
   go_ret
   exact Hfail.out 3 Hq.out 0 _ hR2 hm2
  have d1 : decide (k < 0) = false := by simp; omega
  by_cases h1 : 16384 < k
  ·
   have Hq : Hid (r.text = ([], ⟨l, 2⟩)) := Lib.hid (by rw [Ht.out]; simp [h1])
   have d2 : decide (k > 16384) = true := by simp; omega
   go_wp2_with fail
   refine (p_none w1 T b bs a ⟨l, 0⟩ 2 H.out).mono ?_
   rintro e w2 ⟨rfl, hR2, hm2⟩
   go_wp2
   go_ret
   exact Hfail.out 2 Hq.out 0 _ hR2 hm2
  obtain ⟨m, rfl⟩ := Int.eq_ofNat_of_zero_le (show 0 ≤ k by omega)
  have d2 : decide ((m : Int) > 16384) = false := by simp; omega
  have hw1 : IntKind.i64.wrap ((n : Int) - (a : Int)) = ((n - a : Nat) : Int) := by rw [IntWalk.i64_in _ (by omega)]; omega
  obtain ⟨k2, hk2⟩ : ∃ k, n - a = k := ⟨_, rfl⟩
  rw [hk2] at hw1
  by_cases h3 : k2 < m
  ·
   have Hq : Hid (r.text = ([], ⟨l, 3⟩)) := Lib.hid (by rw [Ht.out]; simp [h1, Hll.out]; omega)
   have d3 : decide ((m : Int) > (k2 : Int)) = true := by simp; omega
   have d4 : decide (k2 < m) = true := by simp; omega
   clear hk2
   go_wp2
   go_quiet (fail)
   go_wp2_with fail
   refine (p_none _ T b bs a ⟨l, 0⟩ 3 (Hrp.out _)).mono ?_
   rintro e w2 ⟨rfl, hR2, hm2⟩
   go_wp2
   go_ret
   exact Hfail.out 3 Hq.out _ _ hR2 hm2
  ·
   have Hq : Hid (r.text = (l.take m, ⟨l.drop m, 0⟩)) := Lib.hid (by rw [Ht.out]; simp [h1, Hll.out]; omega)
   have d3 : decide ((m : Int) > (k2 : Int)) = false := by simp; omega
   have d4 : decide (k2 < m) = false := by simp; omega
   have hcut := (hs.upto (m := a + m) (by omega)).cutA (m := a) (by omega)
   have e8 : a + m - a = m := by omega
   have el : ((bs.map B).take ((a + m) * 1)).drop (a * 1) = (l.take m).map B := by
    rw [Hl.out, Nat.mul_one, Nat.mul_one, ← List.map_take, ← List.map_drop, List.drop_take, e8]
   rw [el, e8] at hcut
   have Hcut := Lib.hid hcut
   have hw2 : IntKind.i64.wrap ((a : Int) + (m : Int)) = (a : Int) + (m : Int) := IntWalk.i64_in _ (by omega)
   have ha1 : (a : Int) ≤ (a : Int) + (m : Int) := by omega
   have ha2 : (a : Int) + (m : Int) ≤ (c : Int) := by omega
   have ha3 : ((a : Int) + (m : Int)).toNat = a + m := by omega
   have hk3 : m ≤ n - a := by omega
   clear hcut el hk2
   have hq0 : (Value.slice none 0 0).ownBlock = none := rfl
   go_wp2
   go_quiet (fail)
   go_wp2_with fail
   go_region_law
    ((refine step_app _ rfl _ _ 25 rfl 5 i0 _ 1 1 Try.underlying25 hi hz0 hz1 hz2 rfl (by omega) (.slice none 0 0) 0 [] rfl (World.ownsRow_nil _ _ _ _) T (.slice (cutA A a c 1) m (c - a)) m ((l.take m).map B) rfl (by first | exact Hcut.out.drewN _ | exact (Hcut.out.drewN _).drew | exact Hcut.out.drew) (B_one _) (by simp only [maxLen]; omega) (by omega) ?_
      intro v' w2 ho hgr hat
      rw [Nat.zero_add, List.nil_append] at ho
      have hE : Ext w1 w2 := ((Mod.refl _ w1).drewN _).grown hgr (by simp [Value.ownBlock])
      have hown : ∀ g, v'.ownBlock = some g → w1.heap.size ≤ g := fun g hg => by
        rcases hat with e | e <;> rw [e] at hg <;> simp [Value.ownBlock] at hg <;> omega
      have hb2 := hE.blk Hb.out id
      obtain ⟨d0, d1', d2', g1, g2⟩ := rp_cells hb2
      have hfin : PTextOk w T b bs r (.returned v') (w2.setCell ⟨b, 1, none⟩ (.int .i64 ((a : Int) + (m : Int)))) := by
        unfold PTextOk
        rw [Hq.out]
        obtain ⟨p1, p2⟩ := rp_at (w := w2) ((a : Int) + (m : Int)) hb2
        have hbl : b < w1.heap.size := (Array.getElem?_eq_some_iff.1 Hb.out).1
        have e1 : (l.take m).length = m := by rw [List.length_take, Hll.out]; omega
        have hN : w2.ownsRow 0 5 1 v' (l.take m).length ((l.take m).map B) := by rw [e1]; exact ho
        refine ⟨v', rfl, ⟨own_mod hN p2 (fun g h1 h2 => by have := hown g h1; omega), fun g hg => by have := hown g hg; have := Hmd.out.size; omega⟩, ⟨a + m, .slice A n c, ?_, ?_, hT, by rw [Hn.out]; omega, ?_⟩, (Hmd.out.ext hE).trans p2 (fun _ _ e => e)⟩
        · rw [p1]; simp
        · unfold Byt
          rw [Hn.out]
          exact (hs.ext hE).mod p2 (fun g hg e => hT (e ▸ hg))
        · rw [Hl.out, List.drop_drop]
      have HF := Lib.hid hfin
      obtain ⟨A1, cc1, rfl⟩ := own_form ho
      clear hfin hb2 hown hE ho hgr hat))
   all_goals go_wp2
   all_goals go_ret
   all_goals exact HF.out
 ·
  have hx1 : (x != 0) = true := by simp [hx]
  have Hq : Hid (r.text = ([], ⟨l, x⟩)) := Lib.hid (by rw [Ht.out]; simp [hx])
  go_wp2
  go_ret
  exact Hfail.out x Hq.out 0 _ H.out (Mod.refl _ _)
end Go.Proofs.Ytfkacakbengboaa
