/-
 Contracts of the page's writing functions (skerryref02). Conditions: as each theorem names them.
-/
import Derived.Test.YtfkacakbengboaaPackW
import Derived.Test.YtfkacakbengboaaEncB
import Derived.Test.YtfkacakbengboaaPackBits
namespace Go.Proofs.Ytfkacakbengboaa
set_option linter.unusedSimpArgs false
open Go.RowKit

theorem own_step {w0 w w1 : World} {m : Nat} {pre : List UInt8} {v v' u : Value} {o : Obj} {c : UInt8} (hpm : pre.length = m) (ho : w1.ownsRow 0 5 1 v' (m + 1) (pre.map B ++ [u])) (hgr : (w.alloc o).grownBy w1 v.ownBlock)
  (hat : v'.ownBlock = v.ownBlock ∨ v'.ownBlock = some (w.heap.size + 1)) (hfr : ∀ g, v.ownBlock = some g → w0.heap.size ≤ g) (hE : Ext w0 w) (hu : u = B c) :
  (pre ++ [c]).length = m + 1 ∧ w1.ownsRow 0 5 1 v' (m + 1) ((pre ++ [c]).map B) ∧ (∀ g, v'.ownBlock = some g → w0.heap.size ≤ g) ∧ Ext w0 w1 := by
 subst hu
 refine ⟨by simp [hpm], by simpa using ho, fun g hg => ?_, (hE.alloc o).grown hgr (fun k hk => .inl (hfr k hk))⟩
 have := hE.size
 rcases hat with e | e
 ·
  exact hfr g (by rw [← e]; exact hg)
 ·
  rw [e] at hg
  injection hg with hg
  omega
theorem zig_neg {n : Int} (h : n < 0) (h0 : -9223372036854775808 ≤ n) : IntKind.u64.wrap (IntKind.u64.wrap (IntKind.u64.wrap (wrap64 (-wrap64 (n + 1))) * 2) + 1) = (zig n : Int) := by
 have e1 : wrap64 (n + 1) = n + 1 := by unfold wrap64; omega
 have e2 : wrap64 (-(n + 1)) = -(n + 1) := by unfold wrap64; omega
 rw [e1, e2]
 unfold zig
 rw [if_pos h]
 simp only [wrap_u64]
 omega
theorem zig_nneg {n : Int} (h : ¬ n < 0) (h1 : n < 9223372036854775808) : IntKind.u64.wrap (IntKind.u64.wrap n * 2) = (zig n : Int) := by
 unfold zig
 rw [if_neg h]
 simp only [wrap_u64]
 omega
set_option maxRecDepth 100000 in
set_option maxHeartbeats 1000000 in
theorem r2_int (w : World) (n : Int) (hn : I64 n) : Calls Try.prog 84 #[.int .i64 n] w fun e w' => ∃ v, e = .returned v ∧ NewB w w' v (encInt n) ∧ Ext w w' := by
 obtain ⟨h0, h1⟩ := hn
 have Hzl := Lib.hid (zig_lt h0 (by omega))
 have hlen := encInt_len n
 have H0 := Lib.hid h0
 have H1 := Lib.hid h1
 obtain ⟨i0, hi, hz0, hz1, hz2⟩ := info_parts info_u8
 by_cases hneg : n < 0
 ·
  have dn : decide (n < 0) = true := decide_eq_true hneg
  have Hneg := Lib.hid hneg
  clear h0 h1 hneg
  go_enter Try.func84, Try.ntmps84
  go_wp2
  go_loopw [3, 4] (fun zv v wr => ∃ (z f m : Nat) (pre : List UInt8), zv = .int .u64 z ∧ z < 128 ^ (f + 1) ∧ z < 18446744073709551616 ∧ encInt n = pre ++ uvF f z ∧ pre.length = m ∧ wr.ownsRow 0 5 1 v m (pre.map B) ∧ (∀ g, v.ownBlock = some g → w.heap.size ≤ g) ∧ Ext w wr) (fun zv _ _ => (intOf zv).toNat)
  case atStart => exact ⟨zig n, 9, 0, [], (by rw [zig_neg Hneg.out H0.out]), by have := Hzl.out; omega, Hzl.out, rfl, rfl, World.ownsRow_nil _ _ _ _, by simp [Value.ownBlock], Mod.refl _ _⟩
  case round =>
   obtain ⟨z, f, m, pre, rfl, hzf, hzz, henc, hpm, hown, hfr, hE⟩ := hrel
   have hlp : m ≤ 10 := by have := congrArg List.length henc; simp at this; omega
   have Henc := Lib.hid henc
   have Hzf := Lib.hid hzf
   have Hzz := Lib.hid hzz
   have Hpm := Lib.hid hpm
   have Hfr := Lib.hid hfr
   have HE := Lib.hid hE
   clear henc hzf hzz hpm hfr hE
   by_cases hz : 128 ≤ z
   ·
    have dz : decide ((z : Int) > 127) = true := by simp; omega
    go_wp2_with (at_builtin; refine wpList_app _ rfl _ _ 25 rfl 5 i0 _ 1 1 Try.underlying25 hi hz0 hz1 hz2 rfl (by omega) _ m (pre.map B) rfl (hown.alloc _) _ _ 1 _ rfl (Sl.one wr _ _) (by simp [Value.oneCell']) (by simp only [maxLen]; omega) (by omega) ?_)
    intro v' w1 ho hgr hat
    obtain ⟨f, rfl⟩ : ∃ f', f = f' + 1 := ⟨f - 1, by
     have := Hzf.out
     rcases f with _ | f
     ·
      omega
     ·
      omega⟩
    have hstep : pre ++ uvF (f + 1) z = (pre ++ [UInt8.ofNat (z % 128 + 128)]) ++ uvF f (z / 128) := by
     rw [uvF, if_neg (by omega)]; simp
    have hn' := own_step (w := wr) Hpm.out ho hgr hat Hfr.out HE.out (c := UInt8.ofNat (z % 128 + 128)) (by have := low8 (z % 128 + 128) (by omega); rw [← this]; simp)
    have Hs := Lib.hid hstep
    have Hn' := Lib.hid hn'
    have hqz : IntKind.u64.wrap ((z : Int) / 128) = ((z / 128 : Nat) : Int) := by rw [wrap_u64]; have := Hzz.out; omega
    clear hstep hn' ho hgr hat
    go_wp2
    go_roundw
    case rel => exact ⟨z / 128, f, m + 1, pre ++ [UInt8.ofNat (z % 128 + 128)], by first | rfl | go_num, by have := Hzf.out; omega, by have := Hzz.out; omega, Henc.out.trans Hs.out, Hn'.out.1, Hn'.out.2.1, Hn'.out.2.2.1, Hn'.out.2.2.2⟩
    case measure => simp [intOf]; omega
   ·
    have dz : decide ((z : Int) > 127) = false := by simp; omega
    go_wp2_with (at_builtin; refine wpList_app _ rfl _ _ 25 rfl 5 i0 _ 1 1 Try.underlying25 hi hz0 hz1 hz2 rfl (by omega) _ m (pre.map B) rfl (hown.alloc _) _ _ 1 _ rfl (Sl.one wr _ _) (by simp [Value.oneCell']) (by simp only [maxLen]; omega) (by omega) ?_)
    intro v' w1 ho hgr hat
    have hstep : pre ++ uvF f z = pre ++ [UInt8.ofNat z] := by
     rcases f with _ | f
     ·
      rfl
     ·
      rw [uvF, if_pos (by omega)]
    have hn' := own_step (w := wr) Hpm.out ho hgr hat Hfr.out HE.out (c := UInt8.ofNat z) (low8 z (by omega))
    have Hs := Lib.hid (Henc.out.trans hstep)
    have Hn' := Lib.hid hn'
    clear hstep hn' ho hgr hat
    go_wp2
    go_ret
    exact ⟨_, rfl, ⟨by rw [Hs.out, Hn'.out.1]; exact Hn'.out.2.1, Hn'.out.2.2.1⟩, Hn'.out.2.2.2⟩
 ·
  have dn : decide (n < 0) = false := decide_eq_false hneg
  have Hneg := Lib.hid hneg
  clear h0 h1 hneg
  go_enter Try.func84, Try.ntmps84
  go_wp2
  go_loopw [3, 4] (fun zv v wr => ∃ (z f m : Nat) (pre : List UInt8), zv = .int .u64 z ∧ z < 128 ^ (f + 1) ∧ z < 18446744073709551616 ∧ encInt n = pre ++ uvF f z ∧ pre.length = m ∧ wr.ownsRow 0 5 1 v m (pre.map B) ∧ (∀ g, v.ownBlock = some g → w.heap.size ≤ g) ∧ Ext w wr) (fun zv _ _ => (intOf zv).toNat)
  case atStart => exact ⟨zig n, 9, 0, [], (by rw [zig_nneg (by have := Hneg.out; omega) (by have := H1.out; omega)]), by have := Hzl.out; omega, Hzl.out, rfl, rfl, World.ownsRow_nil _ _ _ _, by simp [Value.ownBlock], Mod.refl _ _⟩
  case round =>
   obtain ⟨z, f, m, pre, rfl, hzf, hzz, henc, hpm, hown, hfr, hE⟩ := hrel
   have hlp : m ≤ 10 := by have := congrArg List.length henc; simp at this; omega
   have Henc := Lib.hid henc
   have Hzf := Lib.hid hzf
   have Hzz := Lib.hid hzz
   have Hpm := Lib.hid hpm
   have Hfr := Lib.hid hfr
   have HE := Lib.hid hE
   clear henc hzf hzz hpm hfr hE
   by_cases hz : 128 ≤ z
   ·
    have dz : decide ((z : Int) > 127) = true := by simp; omega
    go_wp2_with (at_builtin; refine wpList_app _ rfl _ _ 25 rfl 5 i0 _ 1 1 Try.underlying25 hi hz0 hz1 hz2 rfl (by omega) _ m (pre.map B) rfl (hown.alloc _) _ _ 1 _ rfl (Sl.one wr _ _) (by simp [Value.oneCell']) (by simp only [maxLen]; omega) (by omega) ?_)
    intro v' w1 ho hgr hat
    obtain ⟨f, rfl⟩ : ∃ f', f = f' + 1 := ⟨f - 1, by
     have := Hzf.out
     rcases f with _ | f
     ·
      omega
     ·
      omega⟩
    have hstep : pre ++ uvF (f + 1) z = (pre ++ [UInt8.ofNat (z % 128 + 128)]) ++ uvF f (z / 128) := by
     rw [uvF, if_neg (by omega)]; simp
    have hn' := own_step (w := wr) Hpm.out ho hgr hat Hfr.out HE.out (c := UInt8.ofNat (z % 128 + 128)) (by have := low8 (z % 128 + 128) (by omega); rw [← this]; simp)
    have Hs := Lib.hid hstep
    have Hn' := Lib.hid hn'
    have hqz : IntKind.u64.wrap ((z : Int) / 128) = ((z / 128 : Nat) : Int) := by rw [wrap_u64]; have := Hzz.out; omega
    clear hstep hn' ho hgr hat
    go_wp2
    go_roundw
    case rel => exact ⟨z / 128, f, m + 1, pre ++ [UInt8.ofNat (z % 128 + 128)], by first | rfl | go_num, by have := Hzf.out; omega, by have := Hzz.out; omega, Henc.out.trans Hs.out, Hn'.out.1, Hn'.out.2.1, Hn'.out.2.2.1, Hn'.out.2.2.2⟩
    case measure => simp [intOf]; omega
   ·
    have dz : decide ((z : Int) > 127) = false := by simp; omega
    go_wp2_with (at_builtin; refine wpList_app _ rfl _ _ 25 rfl 5 i0 _ 1 1 Try.underlying25 hi hz0 hz1 hz2 rfl (by omega) _ m (pre.map B) rfl (hown.alloc _) _ _ 1 _ rfl (Sl.one wr _ _) (by simp [Value.oneCell']) (by simp only [maxLen]; omega) (by omega) ?_)
    intro v' w1 ho hgr hat
    have hstep : pre ++ uvF f z = pre ++ [UInt8.ofNat z] := by
     rcases f with _ | f
     ·
      rfl
     ·
      rw [uvF, if_pos (by omega)]
    have hn' := own_step (w := wr) Hpm.out ho hgr hat Hfr.out HE.out (c := UInt8.ofNat z) (low8 z (by omega))
    have Hs := Lib.hid (Henc.out.trans hstep)
    have Hn' := Lib.hid hn'
    clear hstep hn' ho hgr hat
    go_wp2
    go_ret
    exact ⟨_, rfl, ⟨by rw [Hs.out, Hn'.out.1]; exact Hn'.out.2.1, Hn'.out.2.2.1⟩, Hn'.out.2.2.2⟩

/-- Bytes behind bytes of one's own. -/
theorem newB_app {w0 w w1 : World} {xs ys : List UInt8} {v v' : Value} {n : Nat} (h : NewB w0 w v xs) (hE : Ext w0 w) (ho : w1.ownsRow 0 5 1 v' n (xs.map B ++ ys.map B)) (hn : n = (xs ++ ys).length) (hgr : w.grownBy w1 v.ownBlock)
  (hat : v'.ownBlock = v.ownBlock ∨ v'.ownBlock = some w.heap.size) : NewB w0 w1 v' (xs ++ ys) ∧ Ext w0 w1 := by
 refine ⟨⟨by rw [← hn]; simpa using ho, fun g hg => ?_⟩, hE.grown hgr (fun k hk => .inl (h.2 k hk))⟩
 have := hE.size
 rcases hat with e | e
 ·
  exact h.2 g (by rw [← e]; exact hg)
 ·
  rw [e] at hg
  injection hg with hg
  omega
set_option maxRecDepth 100000 in
set_option maxHeartbeats 1000000 in
theorem r2_text (w : World) (T : Nat → Prop) (v : Value) (t : List UInt8) (h : Byt w T v t) (hl : t.length ≤ 1000000) : Calls Try.prog 48 #[v] w fun e w' => ∃ v', e = .returned v' ∧ NewB w w' v' (encText t) ∧ Ext w w' := by
 obtain ⟨i0, hi, hz0, hz1, hz2⟩ := info_parts info_u8
 obtain ⟨n, hn⟩ : ∃ n, t.length = n := ⟨_, rfl⟩
 have Hen : Hid (encText t = encInt n ++ t) := Lib.hid (by unfold encText; rw [hn])
 have hlen := encInt_len n
 unfold Byt at h
 rw [hn] at h hl
 have Hn := Lib.hid hn
 clear hn
 obtain ⟨A, c, rfl⟩ := h.form
 go_enter Try.func48, Try.ntmps48
 go_wp2_with fail
 refine (r2_int w n ⟨by omega, by omega⟩).mono ?_
 rintro e w1 ⟨v1, rfl, hN, hE⟩
 obtain ⟨m, hm⟩ : ∃ m, (encInt (n : Int)).length = m := ⟨_, rfl⟩
 have hown := hN.1
 rw [hm] at hown hlen
 have h1 := h.ext hE
 have Hm := Lib.hid hm
 clear hm
 go_wp2_with (at_builtin; refine wpList_app _ rfl _ _ 25 rfl 5 i0 _ 1 1 Try.underlying25 hi hz0 hz1 hz2 rfl (by omega) _ m ((encInt (n : Int)).map B) rfl hown T _ n (t.map B) rfl h1 (B_one t) (by simp only [maxLen]; omega) (by omega) ?_)
 intro v' w2 ho hgr hat
 have hF := Lib.hid (newB_app hN hE ho (by rw [List.length_append, Hm.out, Hn.out]) hgr hat)
 clear ho hgr hat
 go_wp2
 go_ret
 exact ⟨v', rfl, by rw [Hen.out]; exact hF.out.1, hF.out.2⟩
end Go.Proofs.Ytfkacakbengboaa
