/-
  Contracts of the document's own bytes (skerryref02: High, Int, Mark, Float, Text). Conditions: as each theorem names them.
-/
import Derived.Test.YtmndoppeoinkcaaKeep
namespace Go.Proofs.Ytmndoppeoinkcaa
open Go.RowKit
attribute [local go_sem] call_frombits call_bits

/-- Bytes of one's own that are new since w, in the making. -/
theorem NewB.nil (w : World) : NewB w w (.slice none 0 0) [] := ⟨World.ownsRow_nil _ _ _ _, by simp [Value.ownBlock]⟩
theorem NewB.app {w wr wa w1 : World} {v v' : Value} {bs cs : List UInt8} {n N : Nat} {zs : List Value} (h : NewB w wr v bs) (hE : Ext w wr) (ha : Ext wr wa) (he : zs = cs.map B) (ho : w1.ownsRow 0 5 1 v' n zs)
    (hg : wa.grownBy w1 v.ownBlock) (hat : v'.ownBlock = v.ownBlock ∨ v'.ownBlock = some N) (hN : w.heap.size ≤ N) : NewB w w1 v' cs ∧ Ext w w1 := by
  subst he
  obtain rfl : n = cs.length := by simpa using ho.1.symm
  refine ⟨⟨ho, fun g hgg => ?_⟩, (hE.ext ha).grown hg (fun k hk => .inl (h.2 k hk))⟩
  rcases hat with e | e
  · rw [e] at hgg; exact h.2 g hgg
  · rw [e] at hgg; injection hgg with hgg; omega

theorem low8p (y k : Nat) : Value.int .u8 ((y : Int) / 2 ^ (8 * k) % 256) = B (UInt8.ofNat (y / 256 ^ k % 256)) := by
  rw [← low8m]
  have e2 : (2 : Int) ^ (8 * k) = ((256 ^ k : Nat) : Int) := by rw [Int.pow_mul]; simp
  rw [e2]
  simp
def NewOk (w : World) (bs : List UInt8) (e : Ending) (w' : World) : Prop := ∃ v, e = .returned v ∧ NewB w w' v bs ∧ Ext w w'

set_option maxRecDepth 100000 in
set_option maxHeartbeats 400000 in
theorem ref_high (x : Nat) (w : World) : Calls Try.prog 25 #[.int .u64 x, .int .i64 8] w (NewOk w (hib 8 x)) := by
  obtain ⟨i0, hi, hz0, hz1, hz2⟩ := info_parts info_u8
  go_enter Try.func25, Try.ntmps25
  go_wp2
  go_loopw [5, 6] (fun ov kv wr => ∃ (k : Nat) (pre : List UInt8), k ≤ 8 ∧ kv = .int .i64 ((k : Int) - 1) ∧ hib 8 x = pre ++ hib k x ∧ NewB w wr ov pre ∧ Ext w wr) (fun _ kv _ => (intOf kv + 1).toNat)
  case atStart => exact ⟨8, [], by omega, rfl, rfl, NewB.nil w, Mod.refl _ _⟩
  case round =>
    obtain ⟨k, pre, hk, rfl, henc, hB, hE⟩ := hrel
    have hlp : pre.length ≤ 8 := by have := congrArg List.length henc; simp [hib] at this; omega
    have Henc := Lib.hid henc
    clear henc
    have ho := hB.1
    obtain ⟨m, hm⟩ : ∃ m, pre.length = m := ⟨_, rfl⟩
    rw [hm] at ho hlp
    clear hm
    rcases k with _ | k
    · have Hf : Hid (hib 8 x = pre) := Lib.hid (by rw [Henc.out, hib]; simp)
      go_wp2
      go_ret
      exact ⟨_, rfl, by rw [Hf.out]; exact hB, hE⟩
    · rw [show (((k + 1 : Nat) : Int) - 1) = (k : Int) from by omega]
      have hsh := fun W => run_shr8 (P := Try.prog) x k (by omega) W
      obtain ⟨A, c, rfl⟩ := own_form ho
      have HB := Lib.hid hB
      clear hB
      go_wp2_with (at_builtin; refine wpList_app _ rfl _ _ 25 rfl 5 i0 _ 1 1 Try.underlying25 hi hz0 hz1 hz2 rfl (by omega) _ m (pre.map B) rfl (ho.alloc _) _ _ 1 _ rfl (Sl.one wr _ _) (by simp [Value.oneCell']) (by simp only [maxLen]; omega) (by omega) ?_)
      intro v' w1 ho1 hgr hat
      obtain ⟨hB1, hE1⟩ := NewB.app (cs := pre ++ [UInt8.ofNat (x / 256 ^ k % 256)]) HB.out hE ((Mod.refl _ wr).alloc _) (by rw [low8p]; simp) ho1 hgr hat (by have := hE.size; omega)
      go_wp2
      exact ⟨⟨k, _, by omega, rfl, by rw [Henc.out, hib]; simp, hB1, hE1⟩, by simp [intOf] <;> omega⟩

set_option maxRecDepth 100000 in
set_option maxHeartbeats 400000 in
theorem ref_int (n : Int) (w : World) (h0 : -9223372036854775808 ≤ n) (h1 : n ≤ 9223372036854775807) : Calls Try.prog 26 #[.int .i64 n] w (NewOk w (encInt n)) := by
  obtain ⟨i0, hi, hz0, hz1, hz2⟩ := info_parts info_u8
  have Hzl := Lib.hid (zig_lt h0 h1)
  have hlen := encInt_len n
  have hs : n < 0 ∨ 0 ≤ n := by omega
  rcases hs with hn | hn
  all_goals
    go_enter Try.func26, Try.ntmps26
    go_wp2
    have H0 := Lib.hid h0
    have H1 := Lib.hid h1
    clear h0 h1
    go_loopw [3, 4] (fun zv ov wr => ∃ (z f : Nat) (pre : List UInt8), zv = .int .u64 z ∧ z < 128 ^ (f + 1) ∧ z < 18446744073709551616 ∧ encInt n = pre ++ uvF f z ∧ NewB w wr ov pre ∧ Ext w wr) (fun zv _ _ => (intOf zv).toNat)
    case atStart => exact ⟨zig n, 9, [], by congr 1; unfold zig; split <;> omega, by have := Hzl.out; omega, Hzl.out, rfl, NewB.nil w, Mod.refl _ _⟩
    case round =>
      obtain ⟨z, f, pre, rfl, hzf, hzz, henc, hB, hE⟩ := hrel
      have hlp : pre.length ≤ 10 := by have := congrArg List.length henc; simp at this; omega
      have Henc := Lib.hid henc
      have Hlen := Lib.hid hlen
      have Hzf := Lib.hid hzf
      have Hzz := Lib.hid hzz
      have Hhn := Lib.hid hn
      clear henc hlen hzf hn
      have ho := hB.1
      obtain ⟨m, hm⟩ : ∃ m, pre.length = m := ⟨_, rfl⟩
      rw [hm] at ho hlp
      clear hm
      obtain ⟨A, c, rfl⟩ := own_form ho
      have HB := Lib.hid hB
      clear hB
      by_cases hz : 127 < z
      · go_wp2_with (at_builtin; refine wpList_app _ rfl _ _ 25 rfl 5 i0 _ 1 1 Try.underlying25 hi hz0 hz1 hz2 rfl (by omega) _ m (pre.map B) rfl (ho.alloc _) _ _ 1 _ rfl (Sl.one wr _ _) (by simp [Value.oneCell']) (by simp only [maxLen]; omega) (by omega) ?_)
        intro v' w1 ho1 hgr hat
        obtain ⟨f, rfl⟩ : ∃ f', f = f' + 1 := ⟨f - 1, by
          have := Hzf.out
          rcases f with _ | f
          · omega
          · omega⟩
        obtain ⟨hB1, hE1⟩ := NewB.app (cs := pre ++ [UInt8.ofNat (z % 128 + 128)]) HB.out hE ((Mod.refl _ wr).alloc _) (by simp [B]; omega) ho1 hgr hat (by have := hE.size; omega)
        have Hs : Hid (pre ++ uvF (f + 1) z = (pre ++ [UInt8.ofNat (z % 128 + 128)]) ++ uvF f (z / 128)) := Lib.hid (by rw [uvF, if_neg (by omega)]; simp)
        go_wp2
        exact ⟨⟨z / 128, f, _, by go_num, by have := Hzf.out; omega, by have := Hzz.out; omega, Henc.out.trans Hs.out, hB1, hE1⟩, by simp [intOf]; omega⟩
      · go_wp2_with (at_builtin; refine wpList_app _ rfl _ _ 25 rfl 5 i0 _ 1 1 Try.underlying25 hi hz0 hz1 hz2 rfl (by omega) _ m (pre.map B) rfl (ho.alloc _) _ _ 1 _ rfl (Sl.one wr _ _) (by simp [Value.oneCell']) (by simp only [maxLen]; omega) (by omega) ?_)
        intro v' w1 ho1 hgr hat
        obtain ⟨hB1, hE1⟩ := NewB.app (cs := pre ++ [UInt8.ofNat z]) HB.out hE ((Mod.refl _ wr).alloc _) (by rw [low8 z (by omega)]; simp) ho1 hgr hat (by have := hE.size; omega)
        have Hs : Hid (pre ++ uvF f z = pre ++ [UInt8.ofNat z]) := Lib.hid (by
          rcases f with _ | f
          · rfl
          · rw [uvF, if_pos (by omega)])
        go_wp2
        go_ret
        exact ⟨_, rfl, by rw [Henc.out.trans Hs.out]; exact hB1, hE1⟩

set_option maxRecDepth 100000 in
set_option maxHeartbeats 400000 in
theorem ref_mark (x : Bool) (w : World) : Calls Try.prog 34 #[.bool x] w (NewOk w (encMark x)) := by
  cases x
  all_goals
    go_enter Try.func34, Try.ntmps34
    go_wp2
    go_ret
    exact ⟨_, rfl, ⟨World.ownsRow_lit w _ 1 (Nat.zero_le _) (by simp [maxLen]) rfl, fun g hg => by simp [Value.ownBlock] at hg; omega⟩, (Mod.refl _ w).alloc _⟩

set_option maxRecDepth 100000 in
set_option maxHeartbeats 400000 in
theorem ref_float (x : Nat) (w : World) : Calls Try.prog 35 #[.float .f64 x] w (NewOk w (encFloat x)) := by
  go_enter Try.func35, Try.ntmps35
  go_wp2_with (first | (go_at_call 40; refine (refcanon_any _ _).mono ?_; rintro e w' ⟨rfl, rfl⟩))
  refine (ref_high _ _).mono ?_
  rintro e w1 ⟨v, rfl, hB, hE⟩
  go_wp2
  go_ret
  exact ⟨v, rfl, hB, hE⟩

set_option maxRecDepth 100000 in
set_option maxHeartbeats 400000 in
theorem ref_text (w : World) (T : Nat → Prop) (v : Value) (t : List UInt8) (ht : Byt w T v t) (hl : t.length ≤ 1000000000) : Calls Try.prog 36 #[v] w (NewOk w (encText t)) := by
  obtain ⟨i0, hi, hz0, hz1, hz2⟩ := info_parts info_u8
  obtain ⟨n, hn⟩ : ∃ n, t.length = n := ⟨_, rfl⟩
  unfold Byt at ht
  rw [hn] at ht hl
  obtain ⟨A, c, rfl⟩ := ht.form
  have Hn := Lib.hid hn
  have hlen := encInt_len n
  clear hn
  go_enter Try.func36, Try.ntmps36
  go_wp2_with fail
  refine (ref_int n _ (by omega) (by omega)).mono ?_
  rintro e w1 ⟨v1, rfl, hB, hE⟩
  have ho := hB.1
  obtain ⟨m, hm⟩ : ∃ m, (encInt n).length = m := ⟨_, rfl⟩
  rw [hm] at ho hlen
  clear hm
  have ht1 := ht.ext hE
  have HB := Lib.hid hB
  clear hB
  go_wp2_with (at_builtin; refine wpList_app _ rfl _ _ 25 rfl 5 i0 _ 1 1 Try.underlying25 hi hz0 hz1 hz2 rfl (by omega) _ m ((encInt n).map B) rfl ho T _ n (t.map B) rfl ht1 (B_one t) (by simp only [maxLen]; omega) (by omega) ?_)
  intro v' w2 ho1 hgr hat
  obtain ⟨hB1, hE1⟩ := NewB.app (cs := encInt n ++ t) HB.out hE (Mod.refl _ w1) (by simp) ho1 hgr hat (by have := hE.size; omega)
  have Hs : Hid (encText t = encInt n ++ t) := Lib.hid (by unfold encText; rw [Hn.out])
  go_wp2
  go_ret
  exact ⟨_, rfl, by rw [Hs.out]; exact hB1, hE1⟩
end Go.Proofs.Ytmndoppeoinkcaa
