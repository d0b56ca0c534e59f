/-
  Contracts of the page's writing functions (skerryref02). Conditions: as each theorem names them.
-/
import Derived.Test.YtjhnlncgmejkcaaGreatS2
import Derived.Test.YtjhnlncgmejkcaaGreatS10
import Derived.Test.YtjhnlncgmejkcaaGreatTake
set_option maxRecDepth 100000
set_option maxHeartbeats 1000000
namespace Go.Proofs.YtjhnlncgmejkcaaGreat
set_option linter.unusedSimpArgs false
open Go.RowKit
theorem zc1 {w0 w w1 : World} {m : Nat} {pre : List UInt8} {v v' u : Value} {o : Obj} {c : UInt8} (hpm : pre.length = m) (ho : w1.ownsRow 0 5 1 v' (m + 1) (pre.map B ++ [u])) (hgr : (w.alloc o).grownBy w1 v.ownBlock)
  (hat : v'.ownBlock = v.ownBlock ∨ v'.ownBlock = some (w.heap.size + 1)) (hfr : ∀ g, v.ownBlock = some g → w0.heap.size ≤ g) (hE : Ext w0 w) (hu : u = B c) :
  (pre ++ [c]).length = m + 1 ∧ w1.ownsRow 0 5 1 v' (m + 1) ((pre ++ [c]).map B) ∧ (∀ g, v'.ownBlock = some g → w0.heap.size ≤ g) ∧ Ext w0 w1 := by
 subst hu
 refine ⟨by simp [hpm], by simpa using ho, fun g hg => ?_, (hE.alloc o).grown hgr (fun k hk => .inl (hfr k hk))⟩
 have := hE.size
 rcases hat with e | e
 · exact hfr g (by rw [← e]; exact hg)
 rw [e] at hg
 injection hg with hg
 omega
theorem zig_neg {n : Int} (h : n < 0) (h0 : -9223372036854775808 ≤ n) : IntKind.u64.wrap (IntKind.u64.wrap (IntKind.u64.wrap (wrap64 (-wrap64 (n + 1))) * 2) + 1) = (zig n : Int) := by
 have e1 : wrap64 (n + 1) = n + 1 := by unfold wrap64; omega
 have e2 : wrap64 (-(n + 1)) = -(n + 1) := by unfold wrap64; omega
 rw [e1, e2]
 unfold zig
 rw [if_pos h]
 simp only [qC]
 omega
theorem zig_nneg {n : Int} (h : ¬ n < 0) (h1 : n < 9223372036854775808) : IntKind.u64.wrap (IntKind.u64.wrap n * 2) = (zig n : Int) := by
 unfold zig
 rw [if_neg h]
 simp only [qC]
 omega
theorem zi9 (w : World) (n : Int) (hn : I64 n) : Calls Tryz.prog 113 #[.int .i64 n] w fun e w' => ∃ v, e = .returned v ∧ yO w w' v (zS n) ∧ Ext w w' := by
 obtain ⟨h0, h1⟩ := hn
 have Hzl := hJ (znX h0 (by omega))
 have hlen := zV n
 have H0 := hJ h0
 have H1 := hJ h1
 obtain ⟨i0, hi, hz0, hz1, hz2⟩ := info_parts jN
 by_cases hneg : n < 0
 ·
  have dn : decide (n < 0) = true := decide_eq_true hneg
  have Hneg := hJ hneg
  clear h0 h1 hneg
  go_enter Tryz.func113, Tryz.ntmps113
  go_wp2
  go_loopw [3, 4] (fun zv v wr => ∃ (z f m : Nat) (pre : List UInt8), zv = .int .u64 z ∧ z < 128 ^ (f + 1) ∧ z < 18446744073709551616 ∧ zS n = pre ++ uvF f z ∧ pre.length = m ∧ wr.ownsRow 0 5 1 v m (pre.map B) ∧ (∀ g, v.ownBlock = some g → w.heap.size ≤ g) ∧ Ext w wr) (fun zv _ _ => (intOf zv).toNat)
  case atStart => exact ⟨zig n, 9, 0, [], (by rw [zig_neg Hneg.out H0.out]), by have := Hzl.out; omega, Hzl.out, rfl, rfl, World.ownsRow_nil _ _ _ _, by simp [Value.ownBlock], Mod.refl _ _⟩
  obtain ⟨z, f, m, pre, rfl, hzf, hzz, henc, hpm, hown, hfr, hE⟩ := hrel
  have hlp : m ≤ 10 := by have := congrArg List.length henc; simp at this; omega
  have Henc := hJ henc
  have Hzf := hJ hzf
  have Hzz := hJ hzz
  have Hpm := hJ hpm
  have Hfr := hJ hfr
  have HE := hJ hE
  clear henc hzf hzz hpm hfr hE
  by_cases hz : 128 ≤ z
  ·
   have dz : decide ((z : Int) > 127) = true := by simp; omega
   go_wp2_with (at_builtin; refine yA _ rfl _ _ 25 rfl 5 i0 _ 1 1 Tryz.underlying25 hi hz0 hz1 hz2 rfl (by omega) _ m (pre.map B) rfl (hown.alloc _) _ _ 1 _ rfl (Sl.one wr _ _) (by simp [Value.oneCell']) (by simp only [maxLen]; omega) (by omega) ?_)
   intro v' w1 ho hgr hat
   obtain ⟨f, rfl⟩ : ∃ f', f = f' + 1 := ⟨f - 1, by
    have := Hzf.out
    rcases f with _ | f
    · omega
    omega⟩
   have hstep : pre ++ uvF (f + 1) z = (pre ++ [UInt8.ofNat (z % 128 + 128)]) ++ uvF f (z / 128) := by
    rw [uvF, if_neg (by omega)]; simp
   have hn' := zc1 (w := wr) Hpm.out ho hgr hat Hfr.out HE.out (c := UInt8.ofNat (z % 128 + 128)) (by have := low8 (z % 128 + 128) (by omega); rw [← this]; simp)
   have Hs := hJ hstep
   have Hn' := hJ hn'
   have hqz : IntKind.u64.wrap ((z : Int) / 128) = ((z / 128 : Nat) : Int) := by rw [qC]; have := Hzz.out; omega
   clear hstep hn' ho hgr hat
   go_wp2
   go_roundw
   case rel => exact ⟨z / 128, f, m + 1, pre ++ [UInt8.ofNat (z % 128 + 128)], by first | rfl | go_num, by have := Hzf.out; omega, by have := Hzz.out; omega, Henc.out.trans Hs.out, Hn'.out.1, Hn'.out.2.1, Hn'.out.2.2.1, Hn'.out.2.2.2⟩
   case measure => simp [intOf]; omega
  have dz : decide ((z : Int) > 127) = false := by simp; omega
  go_wp2_with (at_builtin; refine yA _ rfl _ _ 25 rfl 5 i0 _ 1 1 Tryz.underlying25 hi hz0 hz1 hz2 rfl (by omega) _ m (pre.map B) rfl (hown.alloc _) _ _ 1 _ rfl (Sl.one wr _ _) (by simp [Value.oneCell']) (by simp only [maxLen]; omega) (by omega) ?_)
  intro v' w1 ho hgr hat
  have hstep : pre ++ uvF f z = pre ++ [UInt8.ofNat z] := by
   rcases f with _ | f
   · rfl
   rw [uvF, if_pos (by omega)]
  have hn' := zc1 (w := wr) Hpm.out ho hgr hat Hfr.out HE.out (c := UInt8.ofNat z) (low8 z (by omega))
  have Hs := hJ (Henc.out.trans hstep)
  have Hn' := hJ hn'
  clear hstep hn' ho hgr hat
  go_wp2
  go_ret
  exact ⟨_, rfl, ⟨by rw [Hs.out, Hn'.out.1]; exact Hn'.out.2.1, Hn'.out.2.2.1⟩, Hn'.out.2.2.2⟩
 have dn : decide (n < 0) = false := decide_eq_false hneg
 have Hneg := hJ hneg
 clear h0 h1 hneg
 go_enter Tryz.func113, Tryz.ntmps113
 go_wp2
 go_loopw [3, 4] (fun zv v wr => ∃ (z f m : Nat) (pre : List UInt8), zv = .int .u64 z ∧ z < 128 ^ (f + 1) ∧ z < 18446744073709551616 ∧ zS n = pre ++ uvF f z ∧ pre.length = m ∧ wr.ownsRow 0 5 1 v m (pre.map B) ∧ (∀ g, v.ownBlock = some g → w.heap.size ≤ g) ∧ Ext w wr) (fun zv _ _ => (intOf zv).toNat)
 case atStart => exact ⟨zig n, 9, 0, [], (by rw [zig_nneg (by have := Hneg.out; omega) (by have := H1.out; omega)]), by have := Hzl.out; omega, Hzl.out, rfl, rfl, World.ownsRow_nil _ _ _ _, by simp [Value.ownBlock], Mod.refl _ _⟩
 obtain ⟨z, f, m, pre, rfl, hzf, hzz, henc, hpm, hown, hfr, hE⟩ := hrel
 have hlp : m ≤ 10 := by have := congrArg List.length henc; simp at this; omega
 have Henc := hJ henc
 have Hzf := hJ hzf
 have Hzz := hJ hzz
 have Hpm := hJ hpm
 have Hfr := hJ hfr
 have HE := hJ hE
 clear henc hzf hzz hpm hfr hE
 by_cases hz : 128 ≤ z
 ·
  have dz : decide ((z : Int) > 127) = true := by simp; omega
  go_wp2_with (at_builtin; refine yA _ rfl _ _ 25 rfl 5 i0 _ 1 1 Tryz.underlying25 hi hz0 hz1 hz2 rfl (by omega) _ m (pre.map B) rfl (hown.alloc _) _ _ 1 _ rfl (Sl.one wr _ _) (by simp [Value.oneCell']) (by simp only [maxLen]; omega) (by omega) ?_)
  intro v' w1 ho hgr hat
  obtain ⟨f, rfl⟩ : ∃ f', f = f' + 1 := ⟨f - 1, by
   have := Hzf.out
   rcases f with _ | f
   · omega
   omega⟩
  have hstep : pre ++ uvF (f + 1) z = (pre ++ [UInt8.ofNat (z % 128 + 128)]) ++ uvF f (z / 128) := by
   rw [uvF, if_neg (by omega)]; simp
  have hn' := zc1 (w := wr) Hpm.out ho hgr hat Hfr.out HE.out (c := UInt8.ofNat (z % 128 + 128)) (by have := low8 (z % 128 + 128) (by omega); rw [← this]; simp)
  have Hs := hJ hstep
  have Hn' := hJ hn'
  have hqz : IntKind.u64.wrap ((z : Int) / 128) = ((z / 128 : Nat) : Int) := by rw [qC]; have := Hzz.out; omega
  clear hstep hn' ho hgr hat
  go_wp2
  go_roundw
  case rel => exact ⟨z / 128, f, m + 1, pre ++ [UInt8.ofNat (z % 128 + 128)], by first | rfl | go_num, by have := Hzf.out; omega, by have := Hzz.out; omega, Henc.out.trans Hs.out, Hn'.out.1, Hn'.out.2.1, Hn'.out.2.2.1, Hn'.out.2.2.2⟩
  case measure => simp [intOf]; omega
 have dz : decide ((z : Int) > 127) = false := by simp; omega
 go_wp2_with (at_builtin; refine yA _ rfl _ _ 25 rfl 5 i0 _ 1 1 Tryz.underlying25 hi hz0 hz1 hz2 rfl (by omega) _ m (pre.map B) rfl (hown.alloc _) _ _ 1 _ rfl (Sl.one wr _ _) (by simp [Value.oneCell']) (by simp only [maxLen]; omega) (by omega) ?_)
 intro v' w1 ho hgr hat
 have hstep : pre ++ uvF f z = pre ++ [UInt8.ofNat z] := by
  rcases f with _ | f
  · rfl
  rw [uvF, if_pos (by omega)]
 have hn' := zc1 (w := wr) Hpm.out ho hgr hat Hfr.out HE.out (c := UInt8.ofNat z) (low8 z (by omega))
 have Hs := hJ (Henc.out.trans hstep)
 have Hn' := hJ hn'
 clear hstep hn' ho hgr hat
 go_wp2
 go_ret
 exact ⟨_, rfl, ⟨by rw [Hs.out, Hn'.out.1]; exact Hn'.out.2.1, Hn'.out.2.2.1⟩, Hn'.out.2.2.2⟩
theorem zdZ {w0 w w1 : World} {xs ys : List UInt8} {v v' : Value} {n : Nat} (h : yO w0 w v xs) (hE : Ext w0 w) (ho : w1.ownsRow 0 5 1 v' n (xs.map B ++ ys.map B)) (hn : n = (xs ++ ys).length) (hgr : w.grownBy w1 v.ownBlock)
  (hat : v'.ownBlock = v.ownBlock ∨ v'.ownBlock = some w.heap.size) : yO w0 w1 v' (xs ++ ys) ∧ Ext w0 w1 := by
 refine ⟨⟨by rw [← hn]; simpa using ho, fun g hg => ?_⟩, hE.grown hgr (fun k hk => .inl (h.2 k hk))⟩
 have := hE.size
 rcases hat with e | e
 · exact h.2 g (by rw [← e]; exact hg)
 rw [e] at hg
 injection hg with hg
 omega
theorem zkM (w : World) (T : Nat → Prop) (v : Value) (t : List UInt8) (h : Byt w T v t) (hl : t.length ≤ 1000000) : Calls Tryz.prog 87 #[v] w fun e w' => ∃ v', e = .returned v' ∧ yO w w' v' (yH t) ∧ Ext w w' := by
 obtain ⟨i0, hi, hz0, hz1, hz2⟩ := info_parts jN
 obtain ⟨n, hn⟩ : ∃ n, t.length = n := ⟨_, rfl⟩
 have Hen : Hid (yH t = zS n ++ t) := hJ (by unfold yH; rw [hn])
 have hlen := zV n
 unfold Byt at h
 rw [hn] at h hl
 have Hn := hJ hn
 clear hn
 obtain ⟨A, c, rfl⟩ := h.form
 go_enter Tryz.func87, Tryz.ntmps87
 go_wp2_with fail
 refine (zi9 w n ⟨by omega, by omega⟩).mono ?_
 rintro e w1 ⟨v1, rfl, hN, hE⟩
 obtain ⟨m, hm⟩ : ∃ m, (zS (n : Int)).length = m := ⟨_, rfl⟩
 have hown := hN.1
 rw [hm] at hown hlen
 have h1 := h.ext hE
 have Hm := hJ hm
 clear hm
 go_wp2_with (at_builtin; refine yA _ rfl _ _ 25 rfl 5 i0 _ 1 1 Tryz.underlying25 hi hz0 hz1 hz2 rfl (by omega) _ m ((zS (n : Int)).map B) rfl hown T _ n (t.map B) rfl h1 (zdL t) (by simp only [maxLen]; omega) (by omega) ?_)
 intro v' w2 ho hgr hat
 have hF := hJ (zdZ hN hE ho (by rw [List.length_append, Hm.out, Hn.out]) hgr hat)
 clear ho hgr hat
 go_wp2
 go_ret
 exact ⟨v', rfl, by rw [Hen.out]; exact hF.out.1, hF.out.2⟩
end Go.Proofs.YtjhnlncgmejkcaaGreat
namespace Go.Proofs.YtjhnlncgmejkcaaGreat
set_option linter.unusedSimpArgs false
open Go.RowKit
attribute [local go_sem] yP jA
theorem zpF (k : Nat) : (2 : Int) ^ (8 * k) = 256 ^ k := by
 have h : (2 : Nat) ^ (8 * k) = 256 ^ k := by rw [Nat.pow_mul]
 have := congrArg (fun n : Nat => (n : Int)) h
 simpa using this
theorem r2_high (w : World) (y : Nat) : Calls Tryz.prog 148 #[.int .u64 y, .int .i64 8] w fun e w' => ∃ v, e = .returned v ∧ yO w w' v (hib 8 y) ∧ Ext w w' := by
 obtain ⟨i0, hi, hz0, hz1, hz2⟩ := info_parts jN
 go_enter Tryz.func148, Tryz.ntmps148
 go_wp2
 go_loopw [5, 6] (fun v kv wr => ∃ (k m : Nat) (pre : List UInt8), k ≤ 8 ∧ kv = .int .i64 ((k : Int) - 1) ∧ hib 8 y = pre ++ hib k y ∧ pre.length = m ∧ wr.ownsRow 0 5 1 v m (pre.map B) ∧ (∀ g, v.ownBlock = some g → w.heap.size ≤ g) ∧ Ext w wr) (fun _ kv _ => (intOf kv + 1).toNat)
 case atStart => exact ⟨8, 0, [], by omega, rfl, rfl, rfl, World.ownsRow_nil _ _ _ _, by simp [Value.ownBlock], Mod.refl _ _⟩
 obtain ⟨k, m, pre, hk, rfl, henc, hpm, hown, hfr, hE⟩ := hrel
 have hlp : m ≤ 8 := by have := congrArg List.length henc; simp [hib] at this; omega
 have Henc := hJ henc
 have Hpm := hJ hpm
 have Hfr := hJ hfr
 have HE := hJ hE
 clear henc hpm hfr hE
 rcases k with _ | k
 ·
  have Hf : Hid (hib 8 y = pre) := hJ (by rw [Henc.out, hib]; simp)
  have Hown := hJ hown
  clear hown
  go_wp2
  go_ret
  exact ⟨_, rfl, ⟨by rw [Hf.out, Hpm.out]; exact Hown.out, Hfr.out⟩, HE.out⟩
 rw [show (((k + 1 : Nat) : Int) - 1) = (k : Int) from by omega]
 have hsh := fun W => zhR (P := Tryz.prog) y k (by omega) W
 go_wp2_with (at_builtin; refine yA _ rfl _ _ 25 rfl 5 i0 _ 1 1 Tryz.underlying25 hi hz0 hz1 hz2 rfl (by omega) _ m (pre.map B) rfl (hown.alloc _) _ _ 1 _ rfl (Sl.one wr _ _) (by simp [Value.oneCell']) (by simp only [maxLen]; omega) (by omega) ?_)
 intro v' w1 ho hgr hat
 have hn' := zc1 (w := wr) Hpm.out ho hgr hat Hfr.out HE.out (c := UInt8.ofNat (y / 256 ^ k % 256)) (by rw [← low8w, zpF]; simp [IntKind.wrap, IntKind.bits, IntKind.signed])
 have hstep : pre ++ hib (k + 1) y = (pre ++ [UInt8.ofNat (y / 256 ^ k % 256)]) ++ hib k y := by rw [hib]; simp
 have Hs := hJ (Henc.out.trans hstep)
 have Hn' := hJ hn'
 clear hstep hn' ho hgr hat hsh
 go_wp2
 go_roundw
 case rel => exact ⟨k, m + 1, pre ++ [UInt8.ofNat (y / 256 ^ k % 256)], by omega, by first | rfl | go_num, Hs.out, Hn'.out.1, Hn'.out.2.1, Hn'.out.2.2.1, Hn'.out.2.2.2⟩
 case measure => simp [intOf] <;> omega
theorem r2_float (w : World) (x : Nat) : Calls Tryz.prog 114 #[.float .f64 x] w fun e w' => ∃ v, e = .returned v ∧ yO w w' v (yT x) ∧ Ext w w' := by
 unfold yT
 go_enter Tryz.func114, Tryz.ntmps114
 go_wp2_with fail
 refine (zeW x _).mono ?_
 rintro e w1 ⟨rfl, rfl⟩
 go_wp2_with fail
 refine (r2_high w (yU x)).mono ?_
 rintro e w2 ⟨v, rfl, hN, hE⟩
 have HN := hJ hN
 have HE := hJ hE
 clear hN hE
 go_wp2
 go_ret
 exact ⟨v, rfl, HN.out, HE.out⟩
theorem intAt {w : World} {T : Nat → Prop} {A : Option Addr} {n c : Nat} {l : List Int} (hs : Sl w T 1 (.slice A n c) n (l.map (Value.int .i64))) {i : Nat} (hi : i < n) :
  ∃ g off x, A = some ⟨g, off, none⟩ ∧ l[i]? = some x ∧ w.cell? ⟨g, off + i, none⟩ = some (.int .i64 x) := by
 obtain ⟨hl, A', c', e, hn, hc, hx⟩ := hs
 injection e with e1 _ e3; subst e1; subst e3
 obtain ⟨g, off, rfl, hT, hcell⟩ := hx (by omega)
 have hli : i < l.length := by simp at hl; omega
 exact ⟨g, off, l[i], rfl, List.getElem?_eq_getElem hli, hcell i _ (by simp [List.getElem?_eq_getElem hli])⟩
theorem zl0 (l : List Int) : (l.flatMap zS).length ≤ 10 * l.length := by
 induction l with
 | nil => simp
 | cons a l ih => have := zV a; rw [List.flatMap_cons, List.length_append, List.length_cons]; omega
theorem zf5 (w : World) (T : Nat → Prop) (v : Value) (l : List Int) (h : Sl w T 1 v l.length (l.map (Value.int .i64))) (hr : ∀ n ∈ l, I64 n) (hl : l.length ≤ 16) :
  Calls Tryz.prog 86 #[v] w fun e w' => ∃ v', e = .returned v' ∧ yO w w' v' (l.flatMap zS) ∧ Ext w w' := by
 obtain ⟨i0, hi, hz0, hz1, hz2⟩ := info_parts jN
 obtain ⟨n, hn⟩ : ∃ n, l.length = n := ⟨_, rfl⟩
 rw [hn] at h hl
 obtain ⟨A, c, rfl⟩ := h.form
 have Hn := hJ hn
 have Hr := hJ hr
 clear hn hr
 go_enter Tryz.func86, Tryz.ntmps86
 go_wp2
 go_loopw [3, 4] (fun v iv wr => ∃ (i m : Nat), i ≤ n ∧ iv = .int .i64 i ∧ ((l.take i).flatMap zS).length = m ∧ yO w wr v ((l.take i).flatMap zS) ∧ Ext w wr) (fun _ iv _ => n - (intOf iv).toNat)
 case atStart => exact ⟨0, 0, by omega, rfl, by simp, ⟨World.ownsRow_nil _ _ _ _, by simp [Value.ownBlock]⟩, Mod.refl _ _⟩
 obtain ⟨i, m, hin, rfl, hm, hN, hE⟩ := hrel
 have hlm : m ≤ 160 := by have := zl0 (l.take i); rw [List.length_take] at this; have := Hn.out; omega
 have hr' := h.ext hE
 have HN := hJ hN
 have HE := hJ hE
 have Hm := hJ hm
 clear hN hE hm
 by_cases hi' : i < n
 ·
  obtain ⟨g, off, x, rfl, hx, hcell⟩ := intAt hr' hi'
  have hxr := Hr.out x (List.mem_of_getElem? hx)
  have hi0 : (0 : Int) ≤ (i : Int) := by omega
  have hi1 : (i : Int) < (n : Int) := by omega
  have Hsn := hJ (zi7 (f := zS) hx)
  clear hx hr'
  go_wp2_with fail
  refine (zi9 wr x hxr).mono ?_
  rintro e w1 ⟨v1, rfl, hN1, hE1⟩
  have hlx := zV x
  obtain ⟨k, hk⟩ : ∃ k, (zS x).length = k := ⟨_, rfl⟩
  have hown := zU HN.out.1 hE1 (fun _ _ => id)
  rw [Hm.out] at hown
  have hb := hN1.sl
  unfold Byt at hb
  rw [hk] at hb hlx
  have hN0 : yO w w1 _ _ := ⟨zU HN.out.1 hE1 (fun _ _ => id), HN.out.2⟩
  have Hk := hJ hk
  clear hk
  go_wp2_with (at_builtin; refine yA _ rfl _ _ 25 rfl 5 i0 _ 1 1 Tryz.underlying25 hi hz0 hz1 hz2 rfl (by omega) _ m (((l.take i).flatMap zS).map B) rfl hown _ _ k ((zS x).map B) rfl hb (zdL (zS x)) (by simp only [maxLen]; omega) (by omega) ?_)
  intro v' w2 ho hgr hat
  have hF := hJ (zdZ hN0 (HE.out.ext hE1) ho (by rw [List.length_append, Hm.out, Hk.out]) hgr hat)
  clear ho hgr hat hN0 hb hown hN1 hE1
  go_wp2
  exact ⟨⟨i + 1, m + k, by omega, by go_num, by rw [Hsn.out, List.length_append, Hm.out, Hk.out], by rw [Hsn.out]; exact hF.out.1, hF.out.2⟩, by simp [intOf]; omega⟩
 have hful : l.take i = l := List.take_of_length_le (by rw [Hn.out]; omega)
 have HF : Hid (yO w wr _ (l.flatMap zS)) := hJ (by have := HN.out; rw [hful] at this; exact this)
 clear hful
 go_wp2
 go_ret
 exact ⟨_, rfl, HF.out, HE.out⟩
attribute [local go_sem high] zpE
theorem zl1 (w : World) (v : jY) (hv : v.ok) (ht : v.text.size ≤ 1000000) : Calls Tryz.prog 88 #[.agg #[.int .i64 v.kind, .float .f64 v.num, .string v.text]] w fun e w' => ∃ v', e = .returned v' ∧ yO w w' v' (zcY v) ∧ Ext w w' := by
 obtain ⟨i0, hi, hz0, hz1, hz2⟩ := info_parts jN
 obtain ⟨hk, hx, htx⟩ := hv
 have hlk := zV v.kind
 obtain ⟨q, hq⟩ : ∃ q, w.heap.size = q := ⟨_, rfl⟩
 obtain ⟨W, hW⟩ : ∃ W, W = w.alloc (.cells #[.int .i64 v.kind, .float .f64 v.num, .string v.text] 50) := ⟨_, rfl⟩
 have hE : Ext w W := by rw [hW]; exact (Mod.refl _ w).alloc _
 have hA : W.heap[q]? = some (.cells #[.int .i64 v.kind, .float .f64 v.num, .string v.text] 50 (0, 0)) := by rw [hW, ← hq]; exact heap_alloc_new w _
 have HW := hJ hW
 have Hq := hJ hq
 have HE := hJ hE
 have HA := hJ hA
 clear hW hq hE hA
 go_enter Tryz.func88, Tryz.ntmps88
 go_wp2_with fail
 rw [← HW.out, Hq.out]
 refine (zi9 W v.kind hk).mono ?_
 rintro e w1 ⟨v1, rfl, hN1, hE1⟩
 have hA1 := hE1.blk HA.out id
 obtain ⟨a0, a1, a2⟩ := cq3 hA1
 have hql : q < w1.heap.size := (Array.getElem?_eq_some_iff.1 hA1).1
 obtain ⟨m, hm⟩ : ∃ m, (zS v.kind).length = m := ⟨_, rfl⟩
 have HN1 : Hid (yO w w1 v1 (zS v.kind)) := hJ ⟨hN1.1, fun g hg => Nat.le_trans HE.out.size (hN1.2 g hg)⟩
 have HE1 := hJ (HE.out.ext hE1)
 rw [hm] at hlk
 have Hm := hJ hm
 clear hN1 hE1 hA1 hm
 by_cases e1 : v.kind = 1
 ·
  have d1 : (v.kind == 1) = true := by simp [e1]
  have Hen : Hid (zcY v = zS v.kind ++ yT v.num) := hJ (by unfold zcY; rw [if_pos e1])
  have Hk1 := hJ e1
  clear e1
  go_wp2_with fail
  refine (r2_float w1 v.num).mono ?_
  rintro e w2 ⟨v2, rfl, hN2, hE2⟩
  have hown := zU HN1.out.1 hE2 (fun _ _ => id)
  rw [Hm.out] at hown
  have hf8 : (yT v.num).length = 8 := zlY 8 _
  have hb := hN2.sl
  unfold Byt at hb
  rw [hf8] at hb
  have hN0 : yO w w2 _ _ := ⟨zU HN1.out.1 hE2 (fun _ _ => id), HN1.out.2⟩
  go_wp2_with (at_builtin; refine yA _ rfl _ _ 25 rfl 5 i0 _ 1 1 Tryz.underlying25 hi hz0 hz1 hz2 rfl (by omega) _ m ((zS v.kind).map B) rfl hown _ _ 8 ((yT v.num).map B) rfl hb (zdL (yT v.num)) (by simp only [maxLen]; omega) (by omega) ?_)
  intro v' w3 ho hgr hat
  have hF := hJ (zdZ hN0 (HE1.out.ext hE2) ho (by rw [List.length_append, Hm.out, hf8]) hgr hat)
  clear ho hgr hat hN0 hb hown hN2 hE2
  go_wp2
  go_ret
  exact ⟨v', rfl, by rw [Hen.out]; exact hF.out.1, hF.out.2⟩
 have d1 : (v.kind == 1) = false := by simpa using e1
 by_cases e2 : v.kind = 2
 ·
  have d2 : (v.kind == 2) = true := by simp [e2]
  have Hen : Hid (zcY v = zS v.kind ++ yH (zaF v.text)) := hJ (by unfold zcY; rw [if_neg e1, if_pos e2])
  have Hk1 := hJ e1
  have Hk2 := hJ e2
  clear e1 e2
  have hbe := bw_ext w1 5 v.text
  have hbb := bw_byt w1 5 v.text htx
  have hln : (zaF v.text).length = v.text.size := rfl
  go_wp2_with fail
  refine (zkM _ _ _ (zaF v.text) hbb (by omega)).mono ?_
  rintro e w2 ⟨v2, rfl, hN2, hE2⟩
  have hEE := hbe.ext hE2
  have hown := zU HN1.out.1 hEE (fun _ _ => id)
  rw [Hm.out] at hown
  have hlt := zaE (zaF v.text)
  obtain ⟨k, hk⟩ : ∃ k, (yH (zaF v.text)).length = k := ⟨_, rfl⟩
  have hb := hN2.sl
  unfold Byt at hb
  rw [hk] at hb hlt
  have hN0 : yO w w2 _ _ := ⟨zU HN1.out.1 hEE (fun _ _ => id), HN1.out.2⟩
  have Hkk := hJ hk
  clear hk
  go_wp2_with (at_builtin; refine yA _ rfl _ _ 25 rfl 5 i0 _ 1 1 Tryz.underlying25 hi hz0 hz1 hz2 rfl (by omega) _ m ((zS v.kind).map B) rfl hown _ _ k ((yH (zaF v.text)).map B) rfl hb (zdL (yH (zaF v.text))) (by simp only [maxLen]; omega) (by omega) ?_)
  intro v' w3 ho hgr hat
  have hF := hJ (zdZ hN0 (HE1.out.ext hEE) ho (by rw [List.length_append, Hm.out, Hkk.out]) hgr hat)
  clear ho hgr hat hN0 hb hown hN2 hE2 hEE hbb hbe
  go_wp2
  go_ret
  exact ⟨v', rfl, by rw [Hen.out]; exact hF.out.1, hF.out.2⟩
 have d2 : (v.kind == 2) = false := by simpa using e2
 have Hen : Hid (zcY v = zS v.kind) := hJ (by unfold zcY; rw [if_neg e1, if_neg e2, List.append_nil])
 have Hk1 := hJ e1
 have Hk2 := hJ e2
 clear e1 e2
 go_wp2
 go_ret
 exact ⟨v1, rfl, by rw [Hen.out]; exact HN1.out, HE1.out⟩
end Go.Proofs.YtjhnlncgmejkcaaGreat
namespace Go.Proofs.YtjhnlncgmejkcaaGreat
set_option linter.unusedSimpArgs false
open Go.RowKit
theorem yO.up {w0 w1 w' : World} {v : Value} {xs : List UInt8} (h : yO w1 w' v xs) (hE : Ext w0 w1) : yO w0 w' v xs := ⟨h.1, fun g hg => Nat.le_trans hE.size (h.2 g hg)⟩
theorem yO.ext {w0 w w' : World} {v : Value} {xs : List UInt8} (h : yO w0 w v xs) (hE : Ext w w') : yO w0 w' v xs := ⟨zU h.1 hE (fun _ _ => id), h.2⟩
section
variable {ops : Array Oper} {rest : List Oper} {o : Oper} {a : Act} {w0 w : World} {Q : Exit → Act → World → Prop} {xs ys : List UInt8} {v xv : Value}
theorem appB (hN : yO w0 w v xs) (hE : Ext w0 w) {n : Nat} {w' : World} {v' : Value} (ho : w'.ownsRow 0 5 1 v' (xs.length + ys.length) (xs.map B ++ ys.map B)) (hgr : w.grownBy w' v.ownBlock) (hat : v'.ownBlock = v.ownBlock ∨ v'.ownBlock = some w.heap.size) (hn : n = (xs ++ ys).length) :
  ∃ A c, v' = .slice A n c ∧ yO w0 w' (.slice A n c) (xs ++ ys) ∧ Ext w0 w' ∧ Mod (fun k => v.ownBlock = some k) w w' ∧ (∀ g, (Value.slice A n c).ownBlock = some g → v.ownBlock = some g ∨ w.heap.size ≤ g) := by
 have hF := zdZ hN hE ho (by rw [List.length_append]) hgr hat
 obtain ⟨A, c, rfl⟩ := zN hF.1.1
 subst hn
 refine ⟨A, c, rfl, hF.1, hF.2, (Mod.refl _ w).grown hgr (fun k_ e => .inr e), fun g hg => ?_⟩
 rcases hat with e | e
 · exact .inl (by rw [← e]; exact hg)
 rw [e] at hg
 injection hg with hg
 exact .inr (by omega)
theorem zW (hgd : o.guard = none) (s x : Operand) (ho : o.op = .call { callee := .builtin .append, args := #[s, x], argTypes := #[25, 25] }) 
  (v : Value) (xs : List UInt8) (w0 : World) (hs : a.eval s = v) (hN : yO w0 w v xs) (hE : Ext w0 w) (T : Nat → Prop) (xv : Value) (ys : List UInt8) (hx : a.eval x = xv) (hb : Byt w T xv ys) (hl : xs.length + ys.length ≤ 1000000000)
  (h : ∀ A n c w', n = (xs ++ ys).length → yO w0 w' (.slice A n c) (xs ++ ys) → Ext w0 w' → Mod (fun k => v.ownBlock = some k) w w' → (∀ g, (Value.slice A n c).ownBlock = some g → v.ownBlock = some g ∨ w.heap.size ≤ g) → wpList Tryz.prog ops Q rest (a.put o.dst (.slice A n c)) w') : wpList Tryz.prog ops Q (o :: rest) a w := by
 obtain ⟨i0, hi, hz0, hz1, hz2⟩ := info_parts jN
 refine yA _ hgd s x 25 ho 5 i0 _ 1 1 Tryz.underlying25 hi hz0 hz1 hz2 rfl (by omega) v xs.length (xs.map B) hs hN.1 T xv ys.length (ys.map B) hx hb (zdL ys) (by simp only [maxLen]; omega) (by omega) ?_
 intro v' w' ho' hgr hat
 obtain ⟨A, c, rfl, h1, h2, h3, h4⟩ := appB hN hE ho' hgr hat rfl
 exact h A _ c w' rfl h1 h2 h3 h4
theorem zcQ {K : Act → World → Prop} {E : Prop} (hgd : o.guard = none) (s x : Operand) (ho : o.op = .call { callee := .builtin .append, args := #[s, x], argTypes := #[25, 25] })
  (v : Value) (xs : List UInt8) (w0 : World) (hs : a.eval s = v) (hN : yO w0 w v xs) (hE : Ext w0 w) (T : Nat → Prop) (xv : Value) (ys : List UInt8) (hx : a.eval x = xv) (hb : Byt w T xv ys) (hl : xs.length + ys.length ≤ 1000000000)
  (h : ∀ A n c w', n = (xs ++ ys).length → yO w0 w' (.slice A n c) (xs ++ ys) → Ext w0 w' → Mod (fun k => v.ownBlock = some k) w w' → (∀ g, (Value.slice A n c).ownBlock = some g → v.ownBlock = some g ∨ w.heap.size ≤ g) → K (a.put o.dst (.slice A n c)) w') :
  if Region.wanted o (yielded ops a.tmps) = true then Oper.wp Tryz.prog o a w K Q else E := by
 obtain ⟨i0, hi, hz0, hz1, hz2⟩ := info_parts jN
 refine ze6 _ hgd s x 25 ho 5 i0 _ 1 1 Tryz.underlying25 hi hz0 hz1 hz2 rfl (by omega) v xs.length (xs.map B) hs hN.1 T xv ys.length (ys.map B) hx hb (zdL ys) (by simp only [maxLen]; omega) (by omega) ?_
 intro v' w' ho' hgr hat
 obtain ⟨A, c, rfl, h1, h2, h3, h4⟩ := appB hN hE ho' hgr hat rfl
 exact h A _ c w' rfl h1 h2 h3 h4
end
end Go.Proofs.YtjhnlncgmejkcaaGreat
