/-
  What the page's reader reads: a float, a text, whether it is done. Conditions: as each theorem names them.
-/
import Derived.Test.YtjhnlncgmejkcaaGreatS18
import Derived.Test.YtjhnlncgmejkcaaGreatS3
import Derived.Test.YtjhnlncgmejkcaaGreatS10
import Derived.Test.YtjhnlncgmejkcaaGreatS11
set_option maxRecDepth 100000
set_option maxHeartbeats 2000000
namespace Go.Proofs.YtjhnlncgmejkcaaGreat
set_option linter.unusedSimpArgs false
open Go.RowKit
attribute [local go_sem] yP jA
theorem zp1 (w : World) (T : Nat → Prop) (b : Nat) (bs : List UInt8) (r : RS) (h : RpX w T b bs r) :
  Calls Tryz.prog 120 #[.pointer (some ⟨b, 0, none⟩)] w fun e w' => e = .returned (.int .i64 r.done) ∧ Ext w w' := by
 obtain ⟨a, v, hb, hs, hT, ha, hl⟩ := h
 obtain ⟨c0, c1, c2, f1, f2⟩ := za8 hb
 unfold Byt at hs
 obtain ⟨n, hn⟩ : ∃ n, bs.length = n := ⟨_, rfl⟩
 rw [hn] at hs ha
 obtain ⟨A, c, rfl⟩ := hs.form
 have hll : r.left.length = n - a := by rw [hl, List.length_drop, hn]
 clear hb hn hl
 by_cases he : r.e = 0
 ·
  have d1 : (r.e == 0) = true := by simp [he]
  rcases Nat.lt_or_ge a n with h1 | h1
  focus
   have hL : Hid (r.done = 3) := hJ (by unfold RS.done; rw [if_pos ⟨he, by omega⟩])
   rw [hL.out]
   rw [he] at c2
  rotate_left
  focus
   have hL : Hid (r.done = 0) := hJ (by unfold RS.done; rw [if_neg (by omega)]; exact he)
   rw [hL.out]
   rw [he] at c2
   have d2 : decide (a < n) = false := by simp; omega
  all_goals
   clear hll he d1
   go_enter Tryz.func120, Tryz.ntmps120
   go_wp2
   go_quiet (fail)
   go_wp2
   go_ret
   exact ⟨rfl, (Mod.refl _ _).drewN _⟩
 have hL : Hid (r.done = r.e) := hJ (by unfold RS.done; rw [if_neg (by omega)])
 rw [hL.out]
 have d1 : (r.e == 0) = false := by simp [he]
 clear hll he
 go_enter Tryz.func120, Tryz.ntmps120
 go_wp2
 go_quiet (fail)
 go_wp2
 go_ret
 exact ⟨rfl, (Mod.refl _ _).drewN _⟩
theorem zd9 (w : World) (T : Nat → Prop) (v : Value) (l : List UInt8) (h : Byt w T v l) (h8 : l.length ≤ 8) :
  Calls Tryz.prog 152 #[v] w fun e w' => e = .returned (.int .u64 (zaZ l : Nat)) ∧ w = w' := by
 obtain ⟨n, hn⟩ : ∃ n, l.length = n := ⟨_, rfl⟩
 unfold Byt at h
 rw [hn] at h h8
 obtain ⟨A, c, rfl⟩ := h.form
 have Hn := hJ hn
 clear hn
 go_enter Tryz.func152, Tryz.ntmps152
 go_wp2
 go_loop [3, 4] (fun xv iv => ∃ i : Nat, i ≤ n ∧ iv = .int .i64 i ∧ xv = .int .u64 (zaZ (l.take i) : Nat)) (fun _ iv => n - (intOf iv).toNat)
 case atStart => exact ⟨0, by omega, rfl, rfl⟩
 obtain ⟨i, hi8, rfl, rfl⟩ := hrel
 by_cases hi : i < n
 ·
  obtain ⟨g, off, x, rfl, hx, hcell⟩ := zb0 h hi
  have hxlt := zhU x
  have hor := or8 (zaZ (l.take i)) x.toNat (by
   have h1 := zhS i (l.take i) (by rw [List.length_take, Hn.out]; omega)
   have h2 : 256 ^ i ≤ 256 ^ 7 := Nat.pow_le_pow_right (by omega) (by omega)
   omega) hxlt
  have e1 : zaZ (l.take i) * 256 + x.toNat = zaZ (l.take (i + 1)) := by rw [zhT hx, zfI]
  rw [e1] at hor
  clear hx e1
  go_wp2
  exact ⟨⟨i + 1, by omega, by go_num, rfl⟩, by simp [intOf]; omega⟩
 have e : l.take i = l := List.take_of_length_le (by rw [Hn.out]; omega)
 rw [e]
 clear e
 go_wp2
 go_ret
 exact ⟨rfl, rfl⟩
theorem zp2 {P : Program} {f : FuncId} {args : Array Value} {w : World} {a n : Nat} {v : Value} (h : ∀ W : World, W = w.drewN (a + n) → Calls P f args W fun e w' => e = .returned v ∧ W = w') :
  Calls P f args (w.drewN (a + n)) fun e w'' => e = .returned v ∧ ∃ m, w'' = w.drewN (a + m) :=
 (h _ rfl).mono fun _ _ ⟨he, hm⟩ => ⟨he, n, hm.symm⟩
def za9 (w : World) (T : Nat → Prop) (b : Nat) (bs : List UInt8) (r : RS) (e : Ending) (w' : World) : Prop := e = .returned (.float .f64 r.float.1) ∧ RpX w' T b bs r.float.2 ∧ Mod (fun k => k = b) w w'
theorem znE (w : World) (T : Nat → Prop) (b : Nat) (bs : List UInt8) (a : Nat) (l : List UInt8) (h : Rp w T b bs a ⟨l, 0⟩) :
  Calls Tryz.prog 198 #[.pointer (some ⟨b, 0, none⟩)] w (za9 w T b bs ⟨l, 0⟩) := by
 obtain ⟨v, hb, hs, hT, ha, hl⟩ := h
 obtain ⟨c0, c1, c2, f1, f2⟩ := za8 hb
 obtain ⟨A, c, rfl⟩ := hs.form
 have hlen : bs.length ≤ maxLen := hs.le
 unfold maxLen at hlen
 obtain ⟨n, hn⟩ : ∃ n, bs.length = n := ⟨_, rfl⟩
 simp only at hl c2 hb
 unfold Byt at hs
 simp only [hn] at hs ha hlen hb c0
 have hnc : n ≤ c := by obtain ⟨_, A', c', e, h1, _⟩ := hs; injection e with _ _ e3; omega
 have hll : l.length = n - a := by rw [hl, List.length_drop, hn]
 have Hn := hJ hn
 have Hb := hJ hb
 have Hl := hJ hl
 have Hll := hJ hll
 clear hb hn hl hll
 have hfail : RS.float ⟨l, 0⟩ = (0, ⟨l, 3⟩) → ∀ q w', Rp w' T b bs a (RS.fail ⟨l, 0⟩ 3) → Mod (fun k => k = b) (w.drewN q) w' → za9 w T b bs ⟨l, 0⟩ (.returned (.float .f64 0)) w' := by
  intro h q w' h1 h2
  unfold za9
  rw [h]
  exact ⟨rfl, ⟨a, h1⟩, Mod.trans ((Mod.refl _ w).drewN q) h2 (fun _ _ e => e)⟩
 have hrp : ∀ q, Rp (w.drewN q) T b bs a ⟨l, 0⟩ := fun q => ⟨_, Hb.out, by unfold Byt; rw [Hn.out]; exact hs.drewN q, hT, by rw [Hn.out]; exact ha, Hl.out⟩
 have Hrp := hJ hrp
 have Hfail := hJ hfail
 clear hfail hrp
 have hw1 : IntKind.i64.wrap ((n : Int) - (a : Int)) = ((n - a : Nat) : Int) := by rw [IntWalk.i64_in _ (by omega)]; omega
 obtain ⟨k, hk⟩ : ∃ k, n - a = k := ⟨_, rfl⟩
 rw [hk] at hw1
 by_cases h8 : k < 8
 ·
  have d8 : decide ((k : Int) < 8) = true := by simp; omega
  have Hq := hJ (ziQ (l := l) (by rw [Hll.out]; omega))
  clear hk
  go_enter Tryz.func198, Tryz.ntmps198
  go_wp2
  go_quiet (fail)
  go_wp2_with fail
  refine (zcT _ T b bs a ⟨l, 0⟩ 3 (Hrp.out _)).mono ?_
  rintro e w1 ⟨rfl, hR, hmd⟩
  go_wp2
  go_ret
  exact Hfail.out Hq.out _ _ hR hmd
 have d8 : decide ((k : Int) < 8) = false := by simp; omega
 have h9 : a + 8 ≤ n := by omega
 have hw2 : IntKind.i64.wrap ((a : Int) + 8) = (a : Int) + 8 := IntWalk.i64_in _ (by omega)
 have ha0 : (0 : Int) ≤ (a : Int) := by omega
 have ha1 : (a : Int) ≤ (a : Int) + 8 := by omega
 have ha2 : (a : Int) + 8 ≤ (c : Int) := by omega
 have ha3 : ((a : Int) + 8).toNat = a + 8 := by omega
 have hcut := (hs.upto (m := a + 8) (by omega)).cutA (m := a) (by omega)
 have e8 : a + 8 - a = 8 := by omega
 have el : ((bs.map B).take ((a + 8) * 1)).drop (a * 1) = (l.take 8).map B := by
  rw [Hl.out, Nat.mul_one, Nat.mul_one, ← List.map_take, ← List.map_drop, List.drop_take, e8]
 rw [el, e8] at hcut
 have hl8 : (l.take 8).length = 8 := by rw [List.length_take, Hll.out]; omega
 have hcut2 : ∀ q, Byt (w.drewN q) T (.slice (cutA A a c 1) 8 (c - a)) (l.take 8) := fun q => by unfold Byt; rw [hl8]; exact hcut.drewN q
 have Hcut := hJ hcut2
 have Hl8 := hJ hl8
 clear hcut hcut2 el hl8 hk
 have hnum : ∀ q, Calls Tryz.prog 152 #[.slice (cutA A a c 1) 8 (c - a)] (w.drewN q) fun e w' => e = .returned (.int .u64 (zaZ (l.take 8) : Nat)) ∧ w.drewN q = w' := fun q => zd9 _ T _ _ (Hcut.out q) (by rw [Hl8.out]; omega)
 obtain ⟨y, hy⟩ : ∃ y, zaZ (l.take 8) = y := ⟨_, rfl⟩
 rw [hy] at hnum
 have Hy := hJ hy
 have Hnum := hJ hnum
 have hput : yU y = y → ∀ q, za9 w T b bs ⟨l, 0⟩ (.returned (.float .f64 y)) ((w.drewN q).setCell ⟨b, 1, none⟩ (.int .i64 ((a : Int) + 8))) := by
  intro hc q
  unfold za9
  rw [zfL (by rw [Hll.out]; omega) (by rw [hy]; exact hc), hy]
  obtain ⟨p1, p2⟩ := rp_at (w := w.drewN q) ((a : Int) + 8) Hb.out
  have p3 := Mod.trans ((Mod.refl (fun k => k = b) w).drewN q) p2 (fun _ _ e => e)
  refine ⟨rfl, ⟨a + 8, .slice A n c, ?_, ?_, hT, by rw [Hn.out]; omega, ?_⟩, p3⟩
  · rw [p1]; simp
  · unfold Byt
    rw [Hn.out]
    exact hs.mod p3 (fun g hg e => hT (e ▸ hg))
  rw [Hl.out, List.drop_drop]
 have Hput := hJ hput
 have hbad : yU y ≠ y → RS.float ⟨l, 0⟩ = (0, ⟨l, 3⟩) := fun hc => ziR (by rw [Hll.out]; omega) (by rw [Hy.out]; exact hc)
 have Hbad := hJ hbad
 clear hy hnum hput hbad
 have hyn : (y : Int).toNat = y := by omega
 have e1 : (FloatKind.f64.format.order y y != some Ordering.eq) = zaG y := rfl
 rcases hn : zaG y with _ | _
 ·
  have HP : Hid (∀ q, za9 w T b bs ⟨l, 0⟩ (.returned (.float .f64 y)) ((w.drewN q).setCell ⟨b, 1, none⟩ (.int .i64 ((a : Int) + 8)))) := hJ (Hput.out (zdM hn))
  rw [hn] at e1
  clear hn
  go_enter Tryz.func198, Tryz.ntmps198
  go_wp2
  go_quiet (fail)
  go_wp2
  go_quiet ((go_at_call 152; exact zp2 (fun W e => by subst e; exact Hnum.out _)))
  go_wp2
  go_ret
  exact HP.out _
 rw [hn] at e1
 by_cases hq : y = zaQ
 ·
  have HP : Hid (∀ q, za9 w T b bs ⟨l, 0⟩ (.returned (.float .f64 y)) ((w.drewN q).setCell ⟨b, 1, none⟩ (.int .i64 ((a : Int) + 8)))) := hJ (Hput.out (by rw [zbZ hn, hq]))
  have d1 : ((y : Int) != 9221120237041090561) = false := by unfold zaQ at hq; simp; omega
  clear hn hq
  go_enter Tryz.func198, Tryz.ntmps198
  go_wp2
  go_quiet (fail)
  go_wp2
  go_quiet ((go_at_call 152; exact zp2 (fun W e => by subst e; exact Hnum.out _)))
  go_wp2
  go_ret
  exact HP.out _
 have Hq := hJ (Hbad.out (by rw [zbZ hn]; exact fun e => hq e.symm))
 have d1 : ((y : Int) != 9221120237041090561) = true := by unfold zaQ at hq; simp; omega
 clear hn hq
 go_enter Tryz.func198, Tryz.ntmps198
 go_wp2
 go_quiet (fail)
 go_wp2
 go_quiet ((go_at_call 152; exact zp2 (fun W e => by subst e; exact Hnum.out _)))
 go_wp2_with fail
 refine (zcT _ T b bs a ⟨l, 0⟩ 3 (Hrp.out _)).mono ?_
 rintro e w1 ⟨rfl, hR, hmd⟩
 go_wp2
 go_ret
 exact Hfail.out Hq.out _ _ hR hmd
theorem p_float (w : World) (T : Nat → Prop) (b : Nat) (bs : List UInt8) (r : RS) (h : RpX w T b bs r) :
  Calls Tryz.prog 198 #[.pointer (some ⟨b, 0, none⟩)] w (za9 w T b bs r) := by
 obtain ⟨a, h⟩ := h
 obtain ⟨l, x⟩ := r
 by_cases he : x = 0
 · subst he; exact znE w T b bs a l h
 have H := hJ h
 obtain ⟨v, hb, hs, hT, ha, hl⟩ := h
 obtain ⟨c0, c1, c2, f1, f2⟩ := za8 hb
 have he2 : (x != 0) = true := by simp [he]
 have Hi : Hid (RS.float ⟨l, x⟩ = (0, ⟨l, x⟩)) := hJ (by simp [RS.float, he])
 simp only at c2
 clear hb hs hl
 go_enter Tryz.func198, Tryz.ntmps198
 go_wp2
 go_ret
 unfold za9
 rw [Hi.out]
 exact ⟨rfl, ⟨a, H.out⟩, Mod.refl _ _⟩
def zgF (w : World) (T : Nat → Prop) (b : Nat) (bs : List UInt8) (r : RS) (e : Ending) (w' : World) : Prop := ∃ v, e = .returned v ∧ yO w w' v r.text.1 ∧ RpX w' T b bs r.text.2 ∧ Mod (fun k => k = b) w w'
theorem zp3 (w : World) (T : Nat → Prop) (b : Nat) (bs : List UInt8) (r : RS) (h : RpX w T b bs r) :
  Calls Tryz.prog 155 #[.pointer (some ⟨b, 0, none⟩)] w (zgF w T b bs r) := by
 obtain ⟨i0, hi, hz0, hz1, hz2⟩ := info_parts jN
 have hR0 := zb1 r
 have ht := zeH r
 go_enter Tryz.func155, Tryz.ntmps155
 go_wp2_with fail
 refine (za3 w T b bs r h).mono ?_
 rintro e w1 ⟨rfl, ⟨a, hR⟩, hmd⟩
 obtain ⟨⟨l, x⟩, hrr⟩ : ∃ r1, r.int.2 = r1 := ⟨_, rfl⟩
 obtain ⟨k, hk⟩ : ∃ k, r.int.1 = k := ⟨_, rfl⟩
 rw [hrr] at hR
 rw [hrr, hk] at ht
 rw [hk] at hR0 ⊢
 have Ht := hJ ht
 have H := hJ hR
 clear ht hrr hk
 have hfail : ∀ y, r.text = ([], ⟨l, y⟩) → ∀ q w', Rp w' T b bs a ⟨l, y⟩ → Mod (fun k => k = b) (w1.drewN q) w' → zgF w T b bs r (.returned (.slice none 0 0)) w' := by
  intro y h q w' h1 h2
  unfold zgF
  rw [h]
  exact ⟨_, rfl, ⟨World.ownsRow_nil _ _ _ _, by simp [Value.ownBlock]⟩, ⟨a, h1⟩, (hmd.drewN q).trans h2 (fun _ _ h => h)⟩
 have Hfail := hJ hfail
 obtain ⟨v, hb, hs, hT, ha, hl⟩ := hR
 obtain ⟨c0, c1, c2, f1, f2⟩ := za8 hb
 obtain ⟨A, c, rfl⟩ := hs.form
 have hlen : bs.length ≤ maxLen := hs.le
 unfold maxLen at hlen
 obtain ⟨n, hn⟩ : ∃ n, bs.length = n := ⟨_, rfl⟩
 simp only at hl c2 hb
 unfold Byt at hs
 simp only [hn] at hs ha hlen hb c0
 have hnc : n ≤ c := by obtain ⟨_, A', c', e, h1, _⟩ := hs; injection e with _ _ e3; omega
 have hll : l.length = n - a := by rw [hl, List.length_drop, hn]
 have Hn := hJ hn
 have Hb := hJ hb
 have Hl := hJ hl
 have Hll := hJ hll
 have Hmd := hJ hmd
 clear hb hn hl hll hfail hmd
 by_cases hx : x = 0
 ·
  subst hx
  have hrp : ∀ q, Rp (w1.drewN q) T b bs a ⟨l, 0⟩ := fun q => ⟨_, Hb.out, by unfold Byt; rw [Hn.out]; exact hs.drewN q, hT, by rw [Hn.out]; exact ha, Hl.out⟩
  have Hrp := hJ hrp
  clear hrp
  by_cases h2 : k < 0
  ·
   have Hq : Hid (r.text = ([], ⟨l, 3⟩)) := hJ (by rw [Ht.out]; simp [h2]; omega)
   have d1 : decide (k < 0) = true := by simp [h2]
   go_wp2_with fail
   refine (zcT w1 T b bs a ⟨l, 0⟩ 3 H.out).mono ?_
   rintro e w2 ⟨rfl, hR2, hm2⟩
   go_wp2
   go_ret
   exact Hfail.out 3 Hq.out 0 _ hR2 hm2
  have d1 : decide (k < 0) = false := by simp; omega
  by_cases h1 : 16384 < k
  ·
   have Hq : Hid (r.text = ([], ⟨l, 2⟩)) := hJ (by rw [Ht.out]; simp [h1])
   have d2 : decide (k > 16384) = true := by simp; omega
   go_wp2_with fail
   refine (zcT w1 T b bs a ⟨l, 0⟩ 2 H.out).mono ?_
   rintro e w2 ⟨rfl, hR2, hm2⟩
   go_wp2
   go_ret
   exact Hfail.out 2 Hq.out 0 _ hR2 hm2
  obtain ⟨m, rfl⟩ := Int.eq_ofNat_of_zero_le (show 0 ≤ k by omega)
  have d2 : decide ((m : Int) > 16384) = false := by simp; omega
  have hw1 : IntKind.i64.wrap ((n : Int) - (a : Int)) = ((n - a : Nat) : Int) := by rw [IntWalk.i64_in _ (by omega)]; omega
  obtain ⟨k2, hk2⟩ : ∃ k, n - a = k := ⟨_, rfl⟩
  rw [hk2] at hw1
  by_cases h3 : k2 < m
  ·
   have Hq : Hid (r.text = ([], ⟨l, 3⟩)) := hJ (by rw [Ht.out]; simp [h1, Hll.out]; omega)
   have d3 : decide ((m : Int) > (k2 : Int)) = true := by simp; omega
   have d4 : decide (k2 < m) = true := by simp; omega
   clear hk2
   go_wp2
   go_quiet (fail)
   go_wp2_with fail
   refine (zcT _ T b bs a ⟨l, 0⟩ 3 (Hrp.out _)).mono ?_
   rintro e w2 ⟨rfl, hR2, hm2⟩
   go_wp2
   go_ret
   exact Hfail.out 3 Hq.out _ _ hR2 hm2
  have Hq : Hid (r.text = (l.take m, ⟨l.drop m, 0⟩)) := hJ (by rw [Ht.out]; simp [h1, Hll.out]; omega)
  have d3 : decide ((m : Int) > (k2 : Int)) = false := by simp; omega
  have d4 : decide (k2 < m) = false := by simp; omega
  have hcut := (hs.upto (m := a + m) (by omega)).cutA (m := a) (by omega)
  have e8 : a + m - a = m := by omega
  have el : ((bs.map B).take ((a + m) * 1)).drop (a * 1) = (l.take m).map B := by
   rw [Hl.out, Nat.mul_one, Nat.mul_one, ← List.map_take, ← List.map_drop, List.drop_take, e8]
  rw [el, e8] at hcut
  have Hcut := hJ hcut
  have hw2 : IntKind.i64.wrap ((a : Int) + (m : Int)) = (a : Int) + (m : Int) := IntWalk.i64_in _ (by omega)
  have ha1 : (a : Int) ≤ (a : Int) + (m : Int) := by omega
  have ha2 : (a : Int) + (m : Int) ≤ (c : Int) := by omega
  have ha3 : ((a : Int) + (m : Int)).toNat = a + m := by omega
  have hk3 : m ≤ n - a := by omega
  clear hcut el hk2
  have hq0 : (Value.slice none 0 0).ownBlock = none := rfl
  go_wp2
  go_quiet (fail)
  go_wp2_with fail
  go_region_law
   ((refine ze6 _ rfl _ _ 25 rfl 5 i0 _ 1 1 Tryz.underlying25 hi hz0 hz1 hz2 rfl (by omega) (.slice none 0 0) 0 [] rfl (World.ownsRow_nil _ _ _ _) T (.slice (cutA A a c 1) m (c - a)) m ((l.take m).map B) rfl (by first | exact Hcut.out.drewN _ | exact (Hcut.out.drewN _).drew | exact Hcut.out.drew) (zdL _) (by simp only [maxLen]; omega) (by omega) ?_
     intro v' w2 ho hgr hat
     rw [Nat.zero_add, List.nil_append] at ho
     have hE : Ext w1 w2 := ((Mod.refl _ w1).drewN _).grown hgr (by simp [Value.ownBlock])
     have hown : ∀ g, v'.ownBlock = some g → w1.heap.size ≤ g := fun g hg => by
       rcases hat with e | e <;> rw [e] at hg <;> simp [Value.ownBlock] at hg <;> omega
     have hb2 := hE.blk Hb.out id
     obtain ⟨d0, d1', d2', g1, g2⟩ := za8 hb2
     have hfin : zgF w T b bs r (.returned v') (w2.setCell ⟨b, 1, none⟩ (.int .i64 ((a : Int) + (m : Int)))) := by
       unfold zgF
       rw [Hq.out]
       obtain ⟨p1, p2⟩ := rp_at (w := w2) ((a : Int) + (m : Int)) hb2
       have hbl : b < w1.heap.size := (Array.getElem?_eq_some_iff.1 Hb.out).1
       have e1 : (l.take m).length = m := by rw [List.length_take, Hll.out]; omega
       have hN : w2.ownsRow 0 5 1 v' (l.take m).length ((l.take m).map B) := by rw [e1]; exact ho
       refine ⟨v', rfl, ⟨zU hN p2 (fun g h1 h2 => by have := hown g h1; omega), fun g hg => by have := hown g hg; have := Hmd.out.size; omega⟩, ⟨a + m, .slice A n c, ?_, ?_, hT, by rw [Hn.out]; omega, ?_⟩, (Hmd.out.ext hE).trans p2 (fun _ _ e => e)⟩
       · rw [p1]; simp
       · unfold Byt
         rw [Hn.out]
         exact (hs.ext hE).mod p2 (fun g hg e => hT (e ▸ hg))
       · rw [Hl.out, List.drop_drop]
     have HF := hJ hfin
     obtain ⟨A1, cc1, rfl⟩ := zN ho
     clear hfin hb2 hown hE ho hgr hat))
  all_goals go_wp2
  all_goals go_ret
  all_goals exact HF.out
 have hx1 : (x != 0) = true := by simp [hx]
 have Hq : Hid (r.text = ([], ⟨l, x⟩)) := hJ (by rw [Ht.out]; simp [hx])
 go_wp2
 go_ret
 exact Hfail.out x Hq.out 0 _ H.out (Mod.refl _ _)
end Go.Proofs.YtjhnlncgmejkcaaGreat
namespace Go.Proofs.YtjhnlncgmejkcaaGreat
set_option linter.unusedSimpArgs false
open Go.RowKit
theorem zp4 (w : World) (T : Nat → Prop) (b : Nat) (bs : List UInt8) (r : RS) (h : RpX w T b bs r) (hT : ∀ k, T k → k < w.heap.size) (hb : b < w.heap.size) :
  Calls Tryz.prog 186 #[.pointer (some ⟨b, 0, none⟩)] w fun e w' => e = .returned (.agg #[.int .i64 r.valP.1.kind, .float .f64 r.valP.1.num, .string r.valP.1.text]) ∧ RpX w' T b bs r.valP.2 ∧ Mod (fun k => k = b) w w' := by
 obtain ⟨q, hq⟩ : ∃ q, w.heap.size = q := ⟨_, rfl⟩
 obtain ⟨W, hW⟩ : ∃ W, W = w.alloc (.cells #[.int .i64 0, .float .f64 0, .string ⟨#[]⟩] 50) := ⟨_, rfl⟩
 have hE : Ext w W := by rw [hW]; exact (Mod.refl _ w).alloc _
 have hA : W.heap[q]? = some (.cells #[.int .i64 0, .float .f64 0, .string ⟨#[]⟩] 50 (0, 0)) := by rw [hW, ← hq]; exact heap_alloc_new w _
 have hnq : ¬ q = b := by omega
 have hTq : ∀ g, T g → g < q := fun g hg => by have := hT g hg; omega
 have hRW := h.mod hE id (fun _ _ => id)
 have HW := hJ hW
 have Hq := hJ hq
 have HE := hJ hE
 have HTq := hJ hTq
 have hbq : b < q := by omega
 clear hW hq hE hT hTq hb
 go_enter Tryz.func186, Tryz.ntmps186
 go_wp2_with fail
 rw [← HW.out, Hq.out]
 refine (za3 W T b bs r hRW).mono ?_
 rintro e w1 ⟨rfl, hR1, hm1⟩
 obtain ⟨k, hk⟩ : ∃ k, r.int.1 = k := ⟨_, rfl⟩
 obtain ⟨r1, hr1⟩ : ∃ r1, r.int.2 = r1 := ⟨_, rfl⟩
 rw [hr1] at hR1
 rw [hk]
 have hA1 := hm1.blk hA hnq
 obtain ⟨W1, hW1⟩ : ∃ W1, W1 = w1.alloc (.cells #[.int .i64 k, .float .f64 0, .string ⟨#[]⟩] 50) := ⟨_, rfl⟩
 obtain ⟨u, hu⟩ : ∃ u, w1.heap.size = u := ⟨_, rfl⟩
 have hE1 : Ext w1 W1 := by rw [hW1]; exact (Mod.refl _ _).alloc _
 have hU : W1.heap[u]? = some (.cells #[.int .i64 k, .float .f64 0, .string ⟨#[]⟩] 50 (0, 0)) := by rw [hW1, ← hu]; exact heap_alloc_new w1 _
 have hqu : q < u := by rw [← hu]; exact (Array.getElem?_eq_some_iff.1 hA1).1
 have hnu : ¬ u = b := by omega
 have hR2 := hR1.mod hE1 id (fun _ _ => id)
 have hA2 := hE1.blk hA1 id
 have HM : Hid (Mod (fun k => k = b) w W1) := hJ (((HE.out.mod _).self hm1).ext hE1)
 have HA1 := hJ hA1
 have HR1 := hJ hR1
 have HM1 : Hid (Mod (fun k => k = b) w w1) := hJ ((HE.out.mod _).self hm1)
 have HW1 := hJ hW1
 have Hu := hJ hu
 have HU := hJ hU
 have HA2 := hJ hA2
 have HR2 := hJ hR2
 have Hk := hJ hk
 have Hr1 := hJ hr1
 have ql1 : q < w1.heap.size := (Array.getElem?_eq_some_iff.1 hA1).1
 have f0 : w1.frozen? ⟨q, 0, none⟩ = false := zK 0 hA1
 have f1 : w1.frozen? ⟨q, 1, none⟩ = false := zK 1 hA1
 have f2 : w1.frozen? ⟨q, 2, none⟩ = false := zK 2 hA1
 obtain ⟨a0, a1, a2⟩ := cq3 hA1
 clear hA1 hW1 hu hU hA2 hR2 hE1 hm1 hR1 hA hRW hk hr1 h
 by_cases e0 : k = 0
 ·
  have d0 : (k == 0) = true := by simp [e0]
  have He0 := hJ e0
  have Hv : Hid (r.valP = (⟨k, 0, ⟨#[]⟩⟩, r1)) := hJ (by
   unfold RS.valP RS.val
   rw [Hk.out, Hr1.out, if_pos (.inl e0), if_neg (by omega), if_neg (by omega)])
  clear e0
  go_wp2_with fail
  refine bodyPost_ret (v := .agg #[.int .i64 k, .float .f64 0, .string ⟨#[]⟩]) (by simp [results, Tryz.results186, go_sem, a0, a1, a2, World.cell?_alloc_past, ql1]) rfl ⟨by rw [Hv.out], ?_, ?_⟩
  · rw [Hv.out]
    refine HR1.out.mod (S := fun k => k = q) ?_ (by omega) (fun g hg e => by have := HTq.out g hg; omega)
    repeat (with_reducible (first | exact Mod.refl _ _ | refine Mod.alloc ?_ _ | refine zO ?_ _ _))
  refine Mod.trans HM1.out (T := fun k => k = q) ?_ (fun g hg e => by have := Hq.out; omega)
  repeat (with_reducible (first | exact Mod.refl _ _ | refine Mod.alloc ?_ _ | refine zO ?_ _ _))
 have d0 : (k == 0) = false := by simpa using e0
 by_cases e1 : k = 1
 ·
  have d1 : (k == 1) = true := by simp [e1]
  have He1 := hJ e1
  clear e1
  have Hv : Hid (r.valP = (⟨1, r1.float.1, ⟨#[]⟩⟩, r1.float.2)) := hJ (by unfold RS.valP RS.val; rw [Hk.out, if_pos (.inr (.inl He1.out)), if_pos He1.out, Hr1.out])
  clear e0
  go_wp2_with fail
  rw [← HW1.out, Hu.out]
  refine (p_float W1 T b bs r1 HR2.out).mono ?_
  rintro e w2 ⟨rfl, hR3, hm3⟩
  clear a0 a1 a2 f0 f1 f2
  have hA3 := hm3.blk HA2.out hnq
  have hU3 := hm3.blk HU.out hnu
  have HR3 := hJ hR3
  have HM3 := hJ (HM.out.self hm3)
  obtain ⟨x, hx⟩ : ∃ x, r1.float.1 = x := ⟨_, rfl⟩
  have Hx := hJ hx
  rw [hx]
  have a0 : w2.cell? ⟨q, 0, none⟩ = some _ := zB hA3 rfl
  have f0 : w2.frozen? ⟨q, 0, none⟩ = false := zK 0 hA3
  have c0 : w2.cell? ⟨u, 0, none⟩ = some _ := zB hU3 rfl
  have g0 : w2.frozen? ⟨u, 0, none⟩ = false := zK 0 hU3
  have a1 : w2.cell? ⟨q, 1, none⟩ = some _ := zB hA3 rfl
  have f1 : w2.frozen? ⟨q, 1, none⟩ = false := zK 1 hA3
  have c1 : w2.cell? ⟨u, 1, none⟩ = some _ := zB hU3 rfl
  have g1 : w2.frozen? ⟨u, 1, none⟩ = false := zK 1 hU3
  have a2 : w2.cell? ⟨q, 2, none⟩ = some _ := zB hA3 rfl
  have f2 : w2.frozen? ⟨q, 2, none⟩ = false := zK 2 hA3
  have c2 : w2.cell? ⟨u, 2, none⟩ = some _ := zB hU3 rfl
  have g2 : w2.frozen? ⟨u, 2, none⟩ = false := zK 2 hU3
  have Hqu := hJ hqu
  have nqu : ¬ q = u := by omega
  have nuq : ¬ u = q := by omega
  have ql1 : q < w2.heap.size := (Array.getElem?_eq_some_iff.1 hA3).1
  have Hbq := hJ hbq
  clear hA3 hU3 hR3 hm3 hx hbq
  go_wp2
  refine bodyPost_ret (v := .agg #[.int .i64 k, .float .f64 x, .string ⟨#[]⟩]) (by simp [results, Tryz.results186, go_sem, a0, a1, a2, World.cell?_alloc_past, ql1]) rfl ⟨by rw [Hv.out, He1.out, Hx.out], ?_, ?_⟩
  focus
   rw [Hv.out]
   refine HR3.out.mod (S := fun k => k = q ∨ k = u) ?_ (by have := Hbq.out; have := Hqu.out; omega) (fun g hg e => by have := HTq.out g hg; have := Hqu.out; omega)
  rotate_left
  focus
   refine Mod.trans HM3.out (T := fun k => k = q ∨ k = u) ?_ (fun g hg e => by have := Hq.out; have := Hqu.out; omega)
  all_goals
   repeat (with_reducible (first | exact Mod.refl _ _ | refine Mod.alloc ?_ _ | refine Mod.setCell ?_ (.inr (.inl rfl)) _ | refine Mod.setCell ?_ (.inr (.inr rfl)) _))
 have d1 : (k == 1) = false := by simpa using e1
 by_cases e2 : k = 2
 ·
  have d2 : (k == 2) = true := by simp [e2]
  have He1 := hJ e1
  have He2 := hJ e2
  clear e0 e1 e2
  have Hv : Hid (r.valP = (⟨2, 0, ⟨r1.text.1.toArray⟩⟩, r1.text.2)) := hJ (by unfold RS.valP RS.val; rw [Hk.out, if_pos (.inr (.inr He2.out)), if_neg He1.out, if_pos He2.out, Hr1.out])
  go_wp2_with fail
  rw [← HW1.out, Hu.out]
  refine (zp3 W1 T b bs r1 HR2.out).mono ?_
  rintro e w2 ⟨vt, rfl, hNB, hR3, hm3⟩
  clear a0 a1 a2 f0 f1 f2
  obtain ⟨A5, c5, rfl⟩ := zN hNB.1
  have hcv := zeR hNB.sl
  have hA3 := hm3.blk HA2.out hnq
  have hU3 := hm3.blk HU.out hnu
  have HR3 := hJ hR3
  have HM3 := hJ (HM.out.self hm3)
  obtain ⟨x, hx⟩ : ∃ x, r1.text.1 = x := ⟨_, rfl⟩
  have Hx := hJ hx
  rw [hx] at hcv ⊢
  have a0 : w2.cell? ⟨q, 0, none⟩ = some _ := zB hA3 rfl
  have f0 : w2.frozen? ⟨q, 0, none⟩ = false := zK 0 hA3
  have c0 : w2.cell? ⟨u, 0, none⟩ = some _ := zB hU3 rfl
  have g0 : w2.frozen? ⟨u, 0, none⟩ = false := zK 0 hU3
  have a1 : w2.cell? ⟨q, 1, none⟩ = some _ := zB hA3 rfl
  have f1 : w2.frozen? ⟨q, 1, none⟩ = false := zK 1 hA3
  have c1 : w2.cell? ⟨u, 1, none⟩ = some _ := zB hU3 rfl
  have g1 : w2.frozen? ⟨u, 1, none⟩ = false := zK 1 hU3
  have a2 : w2.cell? ⟨q, 2, none⟩ = some _ := zB hA3 rfl
  have f2 : w2.frozen? ⟨q, 2, none⟩ = false := zK 2 hA3
  have c2 : w2.cell? ⟨u, 2, none⟩ = some _ := zB hU3 rfl
  have g2 : w2.frozen? ⟨u, 2, none⟩ = false := zK 2 hU3
  have Hqu := hJ hqu
  have nqu : ¬ q = u := by omega
  have nuq : ¬ u = q := by omega
  have ql1 : q < w2.heap.size := (Array.getElem?_eq_some_iff.1 hA3).1
  have Hbq := hJ hbq
  clear hA3 hU3 hR3 hm3 hx hNB hbq
  go_wp2
  refine bodyPost_ret (v := .agg #[.int .i64 k, .float .f64 0, .string ⟨x.toArray⟩]) (by simp [results, Tryz.results186, go_sem, a0, a1, a2, World.cell?_alloc_past, ql1]) rfl ⟨by rw [Hv.out, He2.out, Hx.out], ?_, ?_⟩
  focus
   rw [Hv.out]
   refine HR3.out.mod (S := fun k => k = q ∨ k = u) ?_ (by have := Hbq.out; have := Hqu.out; omega) (fun g hg e => by have := HTq.out g hg; have := Hqu.out; omega)
  rotate_left
  focus
   refine Mod.trans HM3.out (T := fun k => k = q ∨ k = u) ?_ (fun g hg e => by have := Hq.out; have := Hqu.out; omega)
  all_goals
   repeat (with_reducible (first | exact Mod.refl _ _ | refine Mod.alloc ?_ _ | refine Mod.setCell ?_ (.inr (.inl rfl)) _ | refine Mod.setCell ?_ (.inr (.inr rfl)) _))
 have d2 : (k == 2) = false := by simpa using e2
 have Hv : Hid (r.valP = (⟨k, 0, ⟨#[]⟩⟩, r1.fail 3)) := hJ (by unfold RS.valP; rw [Hk.out, if_neg (by omega), Hr1.out])
 clear e0 e1 e2
 go_wp2_with fail
 rw [← HW1.out, Hu.out]
 obtain ⟨aa, hRa⟩ := HR2.out
 refine (zcT W1 T b bs aa r1 3 hRa).mono ?_
 rintro e w2 ⟨rfl, hR3, hm3⟩
 clear a0 a1 a2 f0 f1 f2 hRa
 have hA3 := hm3.blk HA2.out hnq
 have hU3 := hm3.blk HU.out hnu
 have HR3 : Hid (RpX w2 T b bs (r1.fail 3)) := hJ ⟨aa, hR3⟩
 have HM3 := hJ (HM.out.self hm3)
 have a0 : w2.cell? ⟨q, 0, none⟩ = some _ := zB hA3 rfl
 have f0 : w2.frozen? ⟨q, 0, none⟩ = false := zK 0 hA3
 have c0 : w2.cell? ⟨u, 0, none⟩ = some _ := zB hU3 rfl
 have g0 : w2.frozen? ⟨u, 0, none⟩ = false := zK 0 hU3
 have a1 : w2.cell? ⟨q, 1, none⟩ = some _ := zB hA3 rfl
 have f1 : w2.frozen? ⟨q, 1, none⟩ = false := zK 1 hA3
 have c1 : w2.cell? ⟨u, 1, none⟩ = some _ := zB hU3 rfl
 have g1 : w2.frozen? ⟨u, 1, none⟩ = false := zK 1 hU3
 have a2 : w2.cell? ⟨q, 2, none⟩ = some _ := zB hA3 rfl
 have f2 : w2.frozen? ⟨q, 2, none⟩ = false := zK 2 hA3
 have c2 : w2.cell? ⟨u, 2, none⟩ = some _ := zB hU3 rfl
 have g2 : w2.frozen? ⟨u, 2, none⟩ = false := zK 2 hU3
 have Hqu := hJ hqu
 have nqu : ¬ q = u := by omega
 have nuq : ¬ u = q := by omega
 have ql1 : q < w2.heap.size := (Array.getElem?_eq_some_iff.1 hA3).1
 have Hbq := hJ hbq
 clear hA3 hU3 hR3 hm3 hbq
 go_wp2
 refine bodyPost_ret (v := .agg #[.int .i64 k, .float .f64 0, .string ⟨#[]⟩]) (by simp [results, Tryz.results186, go_sem, a0, a1, a2, World.cell?_alloc_past, ql1]) rfl ⟨by rw [Hv.out], ?_, ?_⟩
 focus
  rw [Hv.out]
  refine HR3.out.mod (S := fun k => k = q ∨ k = u) ?_ (by have := Hbq.out; have := Hqu.out; omega) (fun g hg e => by have := HTq.out g hg; have := Hqu.out; omega)
 rotate_left
 focus
  refine Mod.trans HM3.out (T := fun k => k = q ∨ k = u) ?_ (fun g hg e => by have := Hq.out; have := Hqu.out; omega)
 all_goals
  repeat (with_reducible (first | exact Mod.refl _ _ | refine Mod.alloc ?_ _ | refine Mod.setCell ?_ (.inr (.inl rfl)) _ | refine Mod.setCell ?_ (.inr (.inr rfl)) _))
end Go.Proofs.YtjhnlncgmejkcaaGreat
namespace Go.Proofs.YtjhnlncgmejkcaaGreat
set_option linter.unusedSimpArgs false
open Go.RowKit
theorem jI {w w1 w2 : World} {S : Nat → Prop} {p : Nat} (h : Mod S w w1) (hm : Mod (fun k => k = p) w1 w2) (hq : w.heap.size ≤ p) : Mod S w w2 :=
 h.trans hm (fun i hi e => absurd hi (by omega))
theorem p_Entry (x : zI) (hx : x.ok) (hs : x.small) (w : World) : Calls Tryz.prog 17 #[.agg #[.int .i64 x.term, .int .i64 x.kind, .int .i64 x.call.client, .int .i64 x.call.seq, .int .i64 x.call.cmd.kind, .string x.call.cmd.key, .int .i64 x.call.cmd.old.kind, .float .f64 x.call.cmd.old.num, .string x.call.cmd.old.text, .int .i64 x.call.cmd.val.kind, .float .f64 x.call.cmd.val.num, .string x.call.cmd.val.text, .int .i64 x.conf.full, .int .i64 x.conf.wit, .int .i64 x.conf.learn, .int .i64 x.conf.learnWit]] w fun e w' => ∃ v, e = .returned (.tuple #[v, .int .i64 (zc6 x).2]) ∧ yO w w' v (zc6 x).1 ∧ Ext w w' := by
 obtain ⟨q, hq⟩ : ∃ q, w.heap.size = q := ⟨_, rfl⟩
 obtain ⟨W, hW⟩ : ∃ W, W = w.alloc (.cells x.cells.toArray 56) := ⟨_, rfl⟩
 have hE : Ext w W := by rw [hW]; exact (Mod.refl _ w).alloc _
 have hA : W.heap[q]? = some (.cells x.cells.toArray 56 (0, 0)) := by rw [hW, ← hq]; exact heap_alloc_new w _
 have HW := hJ hW
 have Hq := hJ hq
 have HE := hJ hE
 have HA := hJ hA
 have Hx := hJ hx
 have Hs := hJ hs
 clear hW hq hE hA hx hs
 go_enter Tryz.func17, Tryz.ntmps17
 go_wp2_with fail
 rw [← HW.out, Hq.out]
 refine (p_entB x W).mono ?_
 rintro e w1 ⟨rfl, hE1⟩
 have HE1 := hJ hE1
 have HA1 := hJ (hE1.blk HA.out id)
 clear hE1
 rcases hb : zcK x with _ | _
 ·
  have He : Hid (zc6 x = ([], 3)) := hJ (by unfold zc6; rw [hb]; rfl)
  clear hb
  go_wp2
  go_ret2
  rw [He.out]
  exact ⟨_, rfl, ⟨World.ownsRow_nil _ _ _ _, by simp [Value.ownBlock]⟩, HE.out.ext HE1.out⟩
 have He : Hid (zc6 x = za0 (xT x)) := hJ (by unfold zc6; rw [hb]; rfl)
 clear hb
 have hld := zF (P := Tryz.prog) (o := 0) (cs := x.cells) zM HA1.out rfl (fun j u hu => by rw [Nat.zero_add]; exact hu)
 go_wp2_with (refine zG rfl 56 _ rfl _ _ rfl hld ?_)
 clear hld
 refine (zp0 x Hx.out Hs.out w1).mono ?_
 rintro e w2 ⟨v2, rfl, hN2, hE2⟩
 have HN2 := hJ (hN2.up (HE.out.ext HE1.out))
 have HE2 := hJ ((HE.out.ext HE1.out).ext hE2)
 obtain ⟨A, c, rfl⟩ := zN hN2.1
 have hle := hN2.sl.le
 obtain ⟨n, hn⟩ : ∃ n, (xT x).length = n := ⟨_, rfl⟩
 rw [hn] at hle HN2 ⊢
 have Hn := hJ hn
 clear hN2 hE2 hn
 have hn9 : n ≤ 1000000000 := by
  rw [← Hn.out]
  have h1 := Hs.out
  have h2 := jD [x.term, x.kind]
  have h3 := jD [x.call.client, x.call.seq, x.call.cmd.kind]
  have h4 := zaE (zaF x.call.cmd.key)
  have h5 := zc0 x.call.cmd.old
  have h6 := zc0 x.call.cmd.val
  have h7 : (zhY x.conf).length ≤ 40 := jD _
  have h8 : (zaF x.call.cmd.key).length = x.call.cmd.key.size := rfl
  obtain ⟨s1, s2, s3⟩ := h1
  unfold xT zlF
  split
  · simp only [List.length_append, List.length_cons, List.length_nil] at *; omega
  split
  · simp only [List.length_append, List.length_cons, List.length_nil] at *; omega
  simp only [List.length_append, List.length_cons, List.length_nil] at *; omega
 go_wp2_with fail
 refine (zpZ A n c w2 (by omega)).mono ?_
 rintro e w3 ⟨rfl, h3⟩
 rcases h3 with ⟨h3, rfl⟩ | ⟨h3, rfl⟩
 ·
  have H3 := hJ h3
  clear h3
  go_wp2
  go_ret2
  rw [He.out]
  have hz : za0 (xT x) = ([], 2) := by unfold za0; rw [if_pos (by rw [Hn.out]; exact H3.out)]
  rw [hz]
  exact ⟨_, rfl, ⟨World.ownsRow_nil _ _ _ _, by simp [Value.ownBlock]⟩, HE2.out⟩
 have H3 := hJ h3
 clear h3
 go_wp2
 go_ret2
 rw [He.out]
 have hz : za0 (xT x) = (xT x, 0) := by unfold za0; rw [if_neg (by rw [Hn.out]; have := H3.out; omega)]
 rw [hz]
 have hN := HN2.out
 exact ⟨_, rfl, hN, HE2.out⟩
theorem zp5 (w : World) (T : Nat → Prop) (b : Nat) (bs : List UInt8) (r : RS) (h : RpX w T b bs r) (hT : ∀ k, T k → k < w.heap.size) (hb : b < w.heap.size) :
  Calls Tryz.prog 154 #[.pointer (some ⟨b, 0, none⟩)] w (fun e w' => e = .returned (.agg #[.int .i64 r.confP.1.full, .int .i64 r.confP.1.wit, .int .i64 r.confP.1.learn, .int .i64 r.confP.1.learnWit]) ∧ RpX w' T b bs r.confP.2 ∧ Mod (fun k => k = b) w w') := by
 obtain ⟨q, hq⟩ : ∃ q, w.heap.size = q := ⟨_, rfl⟩
 obtain ⟨W, hW⟩ : ∃ W, W = w.alloc (.cells #[.int .i64 0, .int .i64 0, .int .i64 0, .int .i64 0] 23) := ⟨_, rfl⟩
 have hE : Ext w W := by rw [hW]; exact (Mod.refl _ w).alloc _
 have hA : W.heap[q]? = some (.cells #[.int .i64 0, .int .i64 0, .int .i64 0, .int .i64 0] 23 (0, 0)) := by rw [hW, ← hq]; exact heap_alloc_new w _
 have hnq : ¬ q = b := by omega
 have hnb : ¬ b = q := by omega
 have HTq : Hid (∀ g, T g → g < q) := hJ (fun g hg => by have := hT g hg; omega)
 have hbq : b < q := by omega
 have Hbq := hJ hbq
 have HR : Hid (RpX W T b bs r) := hJ (h.mod hE id (fun _ _ => id))
 have HM : Hid (Mod (fun k => k = b) w W) := hJ (hE.mod _)
 have HQ := hJ hA
 have HW := hJ hW
 have Hq := hJ hq
 clear hW hq hE hA hT hb h hbq
 go_enter Tryz.func154, Tryz.ntmps154
 go_wp2_with fail
 rw [← HW.out, Hq.out]
 clear HW
 refine (za3 W T b bs r HR.out).mono ?_
 rintro e w1 ⟨rfl, hR2, hm2⟩
 obtain ⟨k0, hk0⟩ : ∃ k, r.int.1 = k := ⟨_, rfl⟩
 obtain ⟨r1, hr1⟩ : ∃ s, r.int.2 = s := ⟨_, rfl⟩
 rw [hk0]
 rw [hr1] at hR2
 have Hk0 := hJ hk0
 have Hr1 := hJ hr1
 clear hk0 hr1
 replace HR := hJ hR2
 replace HM := hJ (HM.out.self hm2)
 replace HQ := hJ (hm2.blk HQ.out hnq)
 clear hR2 hm2
 go_wp2_with fail
 refine (za3 w1 T b bs r1 HR.out).mono ?_
 rintro e w2 ⟨rfl, hR2, hm2⟩
 obtain ⟨k1, hk1⟩ : ∃ k, r1.int.1 = k := ⟨_, rfl⟩
 obtain ⟨r2, hr2⟩ : ∃ s, r1.int.2 = s := ⟨_, rfl⟩
 rw [hk1]
 rw [hr2] at hR2
 have Hk1 := hJ hk1
 have Hr2 := hJ hr2
 clear hk1 hr2
 replace HR := hJ hR2
 replace HM := hJ (HM.out.self hm2)
 replace HQ := hJ (hm2.blk HQ.out hnq)
 clear hR2 hm2
 go_wp2_with fail
 refine (za3 w2 T b bs r2 HR.out).mono ?_
 rintro e w3 ⟨rfl, hR2, hm2⟩
 obtain ⟨k2, hk2⟩ : ∃ k, r2.int.1 = k := ⟨_, rfl⟩
 obtain ⟨r3, hr3⟩ : ∃ s, r2.int.2 = s := ⟨_, rfl⟩
 rw [hk2]
 rw [hr3] at hR2
 have Hk2 := hJ hk2
 have Hr3 := hJ hr3
 clear hk2 hr3
 replace HR := hJ hR2
 replace HM := hJ (HM.out.self hm2)
 replace HQ := hJ (hm2.blk HQ.out hnq)
 clear hR2 hm2
 go_wp2_with fail
 refine (za3 w3 T b bs r3 HR.out).mono ?_
 rintro e w4 ⟨rfl, hR2, hm2⟩
 obtain ⟨k3, hk3⟩ : ∃ k, r3.int.1 = k := ⟨_, rfl⟩
 obtain ⟨r4, hr4⟩ : ∃ s, r3.int.2 = s := ⟨_, rfl⟩
 rw [hk3]
 rw [hr4] at hR2
 have Hk3 := hJ hk3
 have Hr4 := hJ hr4
 clear hk3 hr4
 replace HR := hJ hR2
 replace HM := hJ (HM.out.self hm2)
 replace HQ := hJ (hm2.blk HQ.out hnq)
 clear hR2 hm2
 go_wp2_with (refine zD rfl 23 _ _ rfl 4 q 0 [.int .i64 k0, .int .i64 k1, .int .i64 k2, .int .i64 k3] rfl rfl xR _ _ [.int .i64 k0, .int .i64 k1, .int .i64 k2, .int .i64 k3] HQ.out rfl (by simp) (List.all_eq_true.1 rfl) rfl ?_)
 intro w5 hA4 hm4 _
 have HZ : Hid (w5.heap[q]? = some (.cells #[.int .i64 k0, .int .i64 k1, .int .i64 k2, .int .i64 k3] 23 (0, 0))) := hJ hA4
 replace HR := hJ (HR.out.mod hm4 hnb (fun g hg e => by have := HTq.out g hg; omega))
 replace HM := hJ (jI HM.out hm4 (by have := Hq.out; omega))
 clear hA4 hm4
 go_wp2
 obtain ⟨c0, c1, c2, c3⟩ := cq4 HZ.out
 refine bodyPost_ret (v := .agg #[.int .i64 k0, .int .i64 k1, .int .i64 k2, .int .i64 k3]) (by simp [results, Tryz.results154, go_sem, c0, c1, c2, c3]) rfl ?_
 have he : r.confP = (⟨k0, k1, k2, k3⟩, r4) := by unfold RS.confP; simp only [Hk0.out, Hr1.out, Hk1.out, Hr2.out, Hk2.out, Hr3.out, Hk3.out, Hr4.out]
 rw [he]
 exact ⟨rfl, HR.out, HM.out⟩
theorem p_over (w : World) (T : Nat → Prop) (b : Nat) (bs : List UInt8) (r : RS) (h : RpX w T b bs r) (A : Option Addr) (n c : Nat) (_ : n ≤ 1000000) :
  Calls Tryz.prog 157 #[.pointer (some ⟨b, 0, none⟩), .slice A n c] w fun e w' => e = .returned (.bool (r.done == 0 && decide (n ≤ 16384))) ∧ Ext w w' := by
 have H := hJ h
 clear h
 go_enter Tryz.func157, Tryz.ntmps157
 go_wp2_with fail
 refine (zp1 w T b bs r H.out).mono ?_
 rintro e w1 ⟨rfl, hE⟩
 have HE := hJ hE
 clear hE
 obtain ⟨d, hd⟩ : ∃ d, r.done = d := ⟨_, rfl⟩
 rw [hd]
 have Hd := hJ hd
 clear hd
 by_cases h0 : d = 0
 ·
  subst h0
  by_cases hn : n ≤ 16384
  ·
   have dn : decide ((n : Int) ≤ 16384) = true := by simp; omega
   have Hb : Hid ((r.done == 0 && decide (n ≤ 16384)) = true) := hJ (by rw [Hd.out]; simp [hn])
   go_wp2
   go_ret
   exact ⟨zP Hb.out.symm, HE.out⟩
  have dn : decide ((n : Int) ≤ 16384) = false := by simp; omega
  have Hb : Hid ((r.done == 0 && decide (n ≤ 16384)) = false) := hJ (by rw [Hd.out]; simp; omega)
  go_wp2
  go_ret
  exact ⟨zP Hb.out.symm, HE.out⟩
 have d0 : (d == 0) = false := by simp [h0]
 have Hb : Hid ((r.done == 0 && decide (n ≤ 16384)) = false) := hJ (by rw [Hd.out]; simp [d0])
 clear h0
 go_wp2
 go_ret
 exact ⟨zP Hb.out.symm, HE.out⟩
end Go.Proofs.YtjhnlncgmejkcaaGreat
