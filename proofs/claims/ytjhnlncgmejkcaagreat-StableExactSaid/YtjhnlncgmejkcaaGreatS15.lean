/-
  Contracts of package frame: put, get, sum. Conditions: as each theorem names them.
-/
import Derived.Test.YtjhnlncgmejkcaaGreatS14
import Derived.Test.YtjhnlncgmejkcaaGreatS13
import Derived.Deep.QuietTactic
import Derived.BigQuiet
import Derived.Test.YtjhnlncgmejkcaaGreatS8
import Derived.Deep.DeepCutAuto
import Derived.Deep.CutBlock
import Derived.Deep.RegionHeld3
import Derived.StillTailTactics
import Derived.Test.YtjhnlncgmejkcaaGreatS7
import Derived.Test.YtjhnlncgmejkcaaGreatKeep
set_option maxRecDepth 100000
set_option maxHeartbeats 2000000
namespace Go.Proofs.YtjhnlncgmejkcaaGreat
set_option linter.unusedSimpArgs false
open Go.RowKit
theorem byt_new (w : World) (l : List UInt8) (cs : Array Value) (n : Nat) (hl : l.length = n) (hn : n ≤ maxLen) (hc : cs = (l.map B).toArray) : Byt (w.alloc (.cells cs 5)) (fun g => g = w.heap.size) (.slice (some ⟨w.heap.size, 0, none⟩) n n) l := by
 subst hl; subst hc
 refine ⟨by simp, _, _, rfl, Nat.le_refl _, hn, fun _ => ⟨_, 0, rfl, rfl, fun j u hu => ?_⟩⟩
 rw [cell_of_row _ _ _ _ _ _ (heap_alloc_new w _)]
 simpa using hu
theorem hib4 (n : Nat) : hib 4 n = [UInt8.ofNat (n / 16777216 % 256), UInt8.ofNat (n / 65536 % 256), UInt8.ofNat (n / 256 % 256), UInt8.ofNat (n % 256)] := by
 simp [hib]
theorem B_nat (x : Nat) : B (UInt8.ofNat (x % 256)) = .int .u8 ((x % 256 : Nat) : Int) := by
 unfold B
 rw [UInt8.toNat_ofNat']
 simp
theorem fr_put (w0 w : World) (A : Option Addr) (m c : Nat) (xs : List UInt8) (n : Nat) (hn : n < 4294967296) (hN : yO w0 w (.slice A m c) xs) (hE : Ext w0 w) (hm : xs.length = m) (hl : m ≤ 100000) :
  Calls Tryz.prog 170 #[.slice A m c, .int .u32 (n : Int)] w fun e w' => ∃ A' c', e = .returned (.slice A' (m + 4) c') ∧ yO w0 w' (.slice A' (m + 4) c') (xs ++ hib 4 n) ∧ Ext w0 w' := by
 obtain ⟨w1, hw1⟩ : ∃ w1, w.alloc (.cells #[.int .u8 ((n : Int) / 16777216), .int .u8 ((n : Int) / 65536 % 256), .int .u8 ((n : Int) / 256 % 256), .int .u8 ((n : Int) % 256)] 5) = w1 := ⟨_, rfl⟩
 have hE1 : Ext w w1 := by rw [← hw1]; exact (Mod.refl _ w).alloc _
 have hb : Byt w1 (fun g => g = w.heap.size) (.slice (some ⟨w.heap.size, 0, none⟩) 4 4) (hib 4 n) := by
  rw [← hw1]
  refine byt_new w _ _ 4 (qH 4 n) (by decide) ?_
  rw [hib4]
  simp only [List.map_cons, List.map_nil, B_nat, Int.natCast_emod, Int.natCast_ediv]
  rw [Int.emod_eq_of_lt (a := ((n : Int) / ((16777216 : Nat) : Int))) (by omega) (by omega)]
  rfl
 have HN := hJ (hN.ext hE1)
 have HE := hJ (Mod.ext hE hE1)
 have Hb := hJ hb
 have Hw := hJ hw1
 have Hm := hJ hm
 have Hl := hJ (qH 4 n)
 clear hN hE hm hE1 hb hw1
 go_enter Tryz.func170, Tryz.ntmps170
 go_wp2_with (at_builtin; rw [Hw.out]; refine zW rfl _ _ rfl (.slice A m c) xs w0 rfl HN.out HE.out _ _ (hib 4 n) rfl Hb.out (by rw [Hm.out, Hl.out]; omega) ?_)
 rintro A' n' c' w2 hn' hN2 hE2 _ _
 rw [Hm.out, Hl.out] at hn'
 subst hn'
 go_wp2
 go_ret
 exact ⟨_, _, rfl, hN2, hE2⟩
theorem or4 (a b c d : Nat) (ha : a < 256) (hb : b < 256) (hc : c < 256) (hd : d < 256) :
  bits .or .u32 (bits .or .u32 (bits .or .u32 ((a : Int) * 16777216) ((b : Int) * 65536)) ((c : Int) * 256)) (d : Int) = ((((a * 256 + b) * 256 + c) * 256 + d : Nat) : Int) := by
 have e1 := u32_or_nat (a * 16777216) (b * 65536) (by omega) (by omega)
 rw [nat_join 24 _ _ (by omega) (by omega)] at e1
 have e2 := u32_or_nat (a * 16777216 + b * 65536) (c * 256) (by omega) (by omega)
 rw [nat_join 16 _ _ (by omega) (by omega)] at e2
 have e3 := u32_or_nat (a * 16777216 + b * 65536 + c * 256) d (by omega) (by omega)
 rw [nat_join 8 _ _ (by omega) (by omega)] at e3
 simp only [Int.natCast_mul, Int.natCast_add] at e1 e2 e3 ⊢
 rw [show ((16777216 : Nat) : Int) = 16777216 from rfl, show ((65536 : Nat) : Int) = 65536 from rfl] at e1
 rw [show ((16777216 : Nat) : Int) = 16777216 from rfl, show ((65536 : Nat) : Int) = 65536 from rfl, show ((256 : Nat) : Int) = 256 from rfl] at e2
 rw [show ((16777216 : Nat) : Int) = 16777216 from rfl, show ((65536 : Nat) : Int) = 65536 from rfl, show ((256 : Nat) : Int) = 256 from rfl] at e3
 rw [e1, e2, e3, show ((256 : Nat) : Int) = 256 from rfl]
 omega
theorem zl2 (w : World) (T : Nat → Prop) (A : Option Addr) (n c : Nat) (l : List UInt8) (h : Byt w T (.slice A n c) l) (hn : n = 4) (hl : l.length = 4) :
  Calls Tryz.prog 101 #[.slice A n c] w fun e w' => e = .returned (.int .u32 (zaZ l : Int)) ∧ Ext w w' := by
 subst hn
 have h : Sl w T 1 (.slice A 4 c) 4 (l.map B) := by unfold Byt at h; rw [hl] at h; exact h
 obtain ⟨g, off, x0, rfl, h0, c0⟩ := zb0 h (i := 0) (by omega)
 obtain ⟨_, _, x1, e1, h1, c1⟩ := zb0 h (i := 1) (by omega)
 obtain ⟨_, _, x2, e2, h2, c2⟩ := zb0 h (i := 2) (by omega)
 obtain ⟨_, _, x3, e3, h3, c3⟩ := zb0 h (i := 3) (by omega)
 injection e1 with e1; injection e1 with e1 e1'; subst e1; subst e1'
 injection e2 with e2; injection e2 with e2 e2'; subst e2; subst e2'
 injection e3 with e3; injection e3 with e3 e3'; subst e3; subst e3'
 rw [Nat.add_zero] at c0
 have hll : l = [x0, x1, x2, x3] := by
  match l, hl, h0, h1, h2, h3 with
  | [a, b, c, d], _, h0, h1, h2, h3 =>
   simp at h0 h1 h2 h3
   rw [h0, h1, h2, h3]
 have hs : zaZ l = ((x0.toNat * 256 + x1.toNat) * 256 + x2.toNat) * 256 + x3.toNat := by rw [hll]; simp [zaZ]
 have k0 := x0.toNat_lt
 have k1 := x1.toNat_lt
 have k2 := x2.toNat_lt
 have k3 := x3.toNat_lt
 have Ho := hJ (or4 x0.toNat x1.toNat x2.toNat x3.toNat k0 k1 k2 k3)
 have Hs := hJ hs
 clear hll hs h0 h1 h2 h3 hl
 obtain ⟨a0, ha0⟩ : ∃ a, x0.toNat = a := ⟨_, rfl⟩
 obtain ⟨a1, ha1⟩ : ∃ a, x1.toNat = a := ⟨_, rfl⟩
 obtain ⟨a2, ha2⟩ : ∃ a, x2.toNat = a := ⟨_, rfl⟩
 obtain ⟨a3, ha3⟩ : ∃ a, x3.toNat = a := ⟨_, rfl⟩
 rw [ha0, ha1, ha2, ha3] at Ho Hs
 rw [ha0] at c0 k0
 rw [ha1] at c1 k1
 rw [ha2] at c2 k2
 rw [ha3] at c3 k3
 clear h ha0 ha1 ha2 ha3
 go_enter Tryz.func101, Tryz.ntmps101
 go_wp2
 go_quiet (fail)
 go_wp2
 go_ret
 refine ⟨?_, (Mod.refl _ w).drewN _⟩
 rw [Hs.out, ← Ho.out]
 rfl
theorem zpG (y : Nat) (h : y < 4294967296) : 4294967295 ^^^ y = 4294967295 - y := by
 apply Nat.eq_of_testBit_eq
 intro i
 rw [Nat.testBit_xor, show 4294967295 - y = 2 ^ 32 - (y + 1) by omega, Nat.testBit_two_pow_sub_succ (by omega), show 4294967295 = 2 ^ 32 - 1 by omega, Nat.testBit_two_pow_sub_one]
 rcases hi : decide (i < 32) with _ | _
 ·
  have : y.testBit i = false := Nat.testBit_lt_two_pow (by
   have h1 : 32 ≤ i := by simpa using hi
   have := Nat.pow_le_pow_right (n := 2) (by omega) h1
   omega)
  simp [this]
 cases y.testBit i <;> rfl
theorem fr_sum (w : World) (T U : Nat → Prop) (A1 A2 : Option Addr) (n1 c1 n2 c2 : Nat) (a p : List UInt8) (ha : Byt w T (.slice A1 n1 c1) a) (hp : Byt w U (.slice A2 n2 c2) p) (hn1 : a.length = n1) (hn2 : p.length = n2) (h1 : n1 ≤ 1000000) (h2 : n2 ≤ 1000000) :
  Calls Tryz.prog 102 #[.slice A1 n1 c1, .slice A2 n2 c2] w fun e w' => e = .returned (.int .u32 (zc4 a p : Int)) ∧ Ext w w' := by
 go_enter Tryz.func102, Tryz.ntmps102
 go_wp2_with fail
 refine (zpD w T 4294967295 (by omega) A1 n1 c1 a ha hn1 h1).mono ?_
 rintro e w1 ⟨rfl, hE⟩
 obtain ⟨x, hx⟩ : ∃ x, xY 4294967295 a = x := ⟨_, rfl⟩
 have hxl : x < 4294967296 := by rw [← hx]; exact zeJ a _ (by omega)
 have Hx := hJ hx
 rw [hx]
 have hp1 := hp.ext hE
 have HE := hJ hE
 clear hx hE ha hp
 go_wp2_with fail
 refine (zpD w1 U x hxl A2 n2 c2 p hp1 hn2 h2).mono ?_
 rintro e w2 ⟨rfl, hE2⟩
 obtain ⟨y, hy⟩ : ∃ y, xY x p = y := ⟨_, rfl⟩
 have hyl : y < 4294967296 := by rw [← hy]; exact zeJ p _ hxl
 have Hy := hJ hy
 rw [hy]
 have HE2 := hJ (HE.out.ext hE2)
 clear hy hE2 hp1 HE
 have hs : IntKind.u32.signed = false := rfl
 go_wp2
 go_ret
 refine ⟨?_, HE2.out⟩
 have e : zc4 a p = 4294967295 - y := by unfold zc4; rw [Hx.out, Hy.out]
 rw [e]
 have h3 := u32_xor_nat 4294967295 y (by omega) hyl
 rw [zpG y hyl] at h3
 rw [← h3]
 rfl
theorem zf6 (w : World) (e : TypeId) (k n : Nat) (cs : List Value) (hc : cs.length = n * k) (hn : n ≤ maxLen) : (w.alloc (.cells cs.toArray e)).ownsRow 0 e k (.slice (some ⟨w.heap.size, 0, none⟩) n n) n cs :=
 ⟨hc, .inr ⟨w.heap.size, n, cs.toArray, rfl, Nat.zero_le _, heap_alloc_new w _, Nat.le_refl _, hn, by simpa using hc, by rw [← hc]; simp⟩⟩
theorem zfE (w : World) (bs : List UInt8) (n : Nat) (cs : Array Value) (hn : bs.length = n) (hm : n ≤ maxLen) (hc : cs = (bs.map B).toArray) : yO w (w.alloc (.cells cs 5)) (.slice (some ⟨w.heap.size, 0, none⟩) n n) bs := by
 subst hn; subst hc
 exact ⟨zf6 w _ 1 _ _ (by simp) hm, fun g hg => by simp [Value.ownBlock] at hg; omega⟩
theorem zcR {w : World} {T : Nat → Prop} {A : Option Addr} {n c i j : Nat} {l : List UInt8} (h : Byt w T (.slice A n c) l) (hn : l.length = n) (hij : i ≤ j) (hj : j ≤ n) (q : Nat) (hq : q = j - i) : Byt w T (.slice (cutA A i c 1) q (c - i)) ((l.drop i).take q) := by
 subst hn
 have h1 := Sl.cutA h (m := i) (by omega)
 have h2 := Sl.upto h1 (m := q) (by omega)
 have e : ((l.map B).drop (i * 1)).take (q * 1) = ((l.drop i).take q).map B := by simp [List.map_take, List.map_drop]
 rw [e] at h2
 unfold Byt
 rw [List.length_take, List.length_drop, show min q (l.length - i) = q by omega]
 exact h2
theorem qE {w : World} {T : Nat → Prop} {A : Option Addr} {n c : Nat} {xs : List UInt8} (h : Byt w T (.slice A n c) xs) : xs.length = n ∧ n ≤ c ∧ c ≤ maxLen ∧ (0 < n → ∃ g off, A = some ⟨g, off, none⟩ ∧ T g) := by
 obtain ⟨_, A', c', e, h1, h2, h3⟩ := h
 injection e with e1 e2 e3
 subst e1; subst e2; subst e3
 exact ⟨rfl, h1, h2, fun h => by obtain ⟨g, off, h4, h5, _⟩ := h3 h; exact ⟨g, off, h4, h5⟩⟩
theorem zjA (w : World) (A : Option Addr) (n c : Nat) (hl : 16384 < n) :
  Calls Tryz.prog 129 #[.slice A n c] w fun e w' => e = .returned (.tuple #[.slice none 0 0, .int .i64 2]) ∧ w = w' := by
 have h1 : (16384 : Int) < (n : Int) := by omega
 clear hl
 go_enter Tryz.func129, Tryz.ntmps129
 go_wp2
 go_ret2
 exact ⟨rfl, rfl⟩
theorem fr_seal (w : World) (T : Nat → Prop) (A : Option Addr) (n c : Nat) (l : List UInt8) (h : Byt w T (.slice A n c) l) (hn : l.length = n) (hl : n ≤ 16384) :
  Calls Tryz.prog 129 #[.slice A n c] w fun e w' => ∃ A' c', e = .returned (.tuple #[.slice A' (n + 9) c', .int .i64 0]) ∧ yO w w' (.slice A' (n + 9) c') (zR l) ∧ Ext w w' := by
 have hnl : ¬ (16384 : Int) < (n : Int) := by omega
 obtain ⟨w1, hw1⟩ : ∃ w1, w.alloc (.cells #[.int .u8 157] 5) = w1 := ⟨_, rfl⟩
 have hN1 : yO w w1 (.slice (some ⟨w.heap.size, 0, none⟩) 1 1) [157] := by rw [← hw1]; exact zfE w [157] 1 _ rfl (by decide) rfl
 have hE1 : Ext w w1 := by rw [← hw1]; exact (Mod.refl _ w).alloc _
 obtain ⟨a, ha⟩ : ∃ a, hib 4 n = a := ⟨_, rfl⟩
 have hal : a.length = 4 := by rw [← ha]; exact qH 4 n
 obtain ⟨x, hx⟩ : ∃ x, zc4 a l = x := ⟨_, rfl⟩
 have hxl : x < 4294967296 := by rw [← hx]; exact ze9 a l
 have hf : zR l = 157 :: (a ++ (hib 4 x ++ l)) := by unfold zR; rw [hn, ha, hx]
 have Hf := hJ hf
 have Ha := hJ ha
 have Hal := hJ hal
 have Hx := hJ hx
 have HN1 := hJ hN1
 have HE1 := hJ hE1
 have Hw1 := hJ hw1
 have Hn := hJ hn
 have H := hJ h
 clear hf ha hal hx hN1 hE1 hw1 hn h
 go_enter Tryz.func129, Tryz.ntmps129
 go_wp2_with fail
 rw [Hw1.out]
 refine (fr_put w w1 _ 1 1 [157] n (by omega) HN1.out HE1.out rfl (by omega)).mono ?_
 rintro e w2 ⟨A2, c2, rfl, hN2, hE2⟩
 rw [Ha.out] at hN2
 have hb2 : Byt w2 (zZ w.heap.size) (.slice A2 5 c2) ([157] ++ a) := hN2.sl
 obtain ⟨_, hc2, _, hA2⟩ := qE hb2
 obtain ⟨g, off, rfl, _⟩ := hA2 (by omega)
 have hs2 := zcR hb2 (by rw [List.length_append, Hal.out]; rfl) (i := 1) (j := 5) (by omega) (by omega) 4 rfl
 have hsa : (([157] ++ a).drop 1).take 4 = a := by
  show a.take 4 = a
  rw [← Hal.out, List.take_length]
 rw [hsa] at hs2
 have hl2 := H.out.ext hE2
 have HN2 := hJ hN2
 have HE2 := hJ hE2
 clear hN2 hE2 hb2 hsa HN1 HE1 Hw1
 have hcc : (5 : Nat) ≤ c2 := hc2
 go_wp2_with fail
 refine (fr_sum w2 _ T _ _ 4 _ n c a l hs2 hl2 Hal.out Hn.out (by omega) (by omega)).mono ?_
 rintro e w3 ⟨rfl, hE3⟩
 rw [Hx.out]
 have HN3 := hJ (HN2.out.ext hE3)
 have HE3 := hJ (HE2.out.ext hE3)
 clear hE3 HN2 HE2 hs2 hl2
 go_wp2_with fail
 refine (fr_put w w3 _ 5 c2 ([157] ++ a) x hxl HN3.out HE3.out (by rw [List.length_append, Hal.out]; rfl) (by omega)).mono ?_
 rintro e w4 ⟨A4, c4, rfl, hN4, hE4⟩
 have HN4 := hJ hN4
 have HE4 := hJ hE4
 have Hl4 := hJ (H.out.ext hE4)
 clear hN4 hE4 HN3 HE3
 go_wp2_with (at_builtin; refine zW rfl _ _ rfl (.slice A4 (5 + 4) c4) ([157] ++ a ++ hib 4 x) w rfl HN4.out HE4.out T _ l rfl Hl4.out (by rw [List.length_append, List.length_append, Hal.out, qH, Hn.out]; simp only [List.length_cons, List.length_nil]; omega) ?_)
 rintro A5 n5 c5 w5 hn5 hN5 hE5 _ _
 have e5 : n5 = n + 9 := by
  rw [hn5]
  simp only [List.length_append, Hal.out, qH, Hn.out, List.length_cons, List.length_nil]
  omega
 subst e5
 rw [← Hf.out] at hN5
 have HN5 := hJ hN5
 have HE5 := hJ hE5
 clear hN5 hE5 hn5
 go_wp2
 go_ret2
 exact ⟨_, _, rfl, HN5.out, HE5.out⟩
def zc7 (w : World) (l : List UInt8) (e : Ending) (w' : World) : Prop := Ext w w' ∧ match xD l with
 | none => e = .returned (.tuple #[.slice none 0 0, .int .i64 0, .int .i64 3])
 | some (p, n) => ∃ A k c, e = .returned (.tuple #[.slice A k c, .int .i64 (n : Int), .int .i64 0]) ∧ p.length = k ∧ n = 9 + k ∧ yO w w' (.slice A k c) p
theorem zc7.no {w : World} {l : List UInt8} {e : Ending} {w' : World} (h : xD l = none) (he : e = .returned (.tuple #[.slice none 0 0, .int .i64 0, .int .i64 3])) (hE : Ext w w') : zc7 w l e w' := by
 unfold zc7
 rw [h]
 exact ⟨hE, he⟩
theorem zhB {l : List UInt8} (h : l.length < 9) : xD l = none := by unfold xD; rw [if_pos (.inl h)]
theorem zhC {l : List UInt8} {x : UInt8} (hx : l[0]? = some x) (h : x.toNat ≠ 157) : xD l = none := by
 have hh : l[0]? ≠ some 157 := fun e => by
  rw [hx] at e
  injection e with e
  exact h (by rw [e]; rfl)
 unfold xD
 rw [if_pos (.inr hh)]
theorem zhD {l : List UInt8} (h9 : 9 ≤ l.length) {x : UInt8} (hx : l[0]? = some x) (h : x.toNat = 157) :
  xD l = if 16384 < zaZ ((l.drop 1).take 4) ∨ l.length - 9 < zaZ ((l.drop 1).take 4) then none else
   if zc4 ((l.drop 1).take 4) ((l.drop 9).take (zaZ ((l.drop 1).take 4))) ≠ zaZ ((l.drop 5).take 4) then none else some ((l.drop 9).take (zaZ ((l.drop 1).take 4)), 9 + zaZ ((l.drop 1).take 4)) := by
 have e : x = 157 := UInt8.toNat_inj.1 h
 conv => lhs; unfold xD
 rw [if_neg]
 rintro (h1 | h1)
 · omega
 exact h1 (by rw [hx, e])
theorem fr_first (w : World) (T : Nat → Prop) (A : Option Addr) (n c : Nat) (l : List UInt8) (h : Byt w T (.slice A n c) l) (hn : l.length = n) (hnl : n ≤ 1000000) :
  Calls Tryz.prog 71 #[.slice A n c] w (zc7 w l) := by
 by_cases h9 : n < 9
 ·
  have hi : (n : Int) < 9 := by omega
  have H1 := hJ (zhB (l := l) (by omega))
  clear h h9 hn
  go_enter Tryz.func71, Tryz.ntmps71
  go_wp2
  go_ret3
  exact zc7.no H1.out rfl (Mod.refl _ w)
 have hi : ¬ (n : Int) < 9 := by omega
 obtain ⟨_, hc, _, hA⟩ := qE h
 obtain ⟨g, off, rfl, hT⟩ := hA (by omega)
 have h' : Sl w T 1 (.slice (some ⟨g, off, none⟩) n c) n (l.map B) := by unfold Byt at h; rw [hn] at h; exact h
 obtain ⟨_, _, x, e1, hx, c0⟩ := zb0 h' (i := 0) (by omega)
 injection e1 with e1; injection e1 with e1 e2; subst e1; subst e2
 rw [Nat.add_zero] at c0
 clear h'
 by_cases hx7 : x.toNat = 157
 rotate_left
 ·
  have H1 := hJ (zhC hx hx7)
  have hxi : ((x.toNat : Int) == 157) = false := by simp; omega
  clear h h9 hn hx
  go_enter Tryz.func71, Tryz.ntmps71
  go_wp2
  go_ret3
  exact zc7.no H1.out rfl (Mod.refl _ w)
 have hr := zhD (by omega) hx hx7
 have h0 := h
 have hn0 := hn
 rw [hx7] at c0
 have hs1 := zcR h hn (i := 1) (j := 5) (by omega) (by omega) 4 rfl
 have hl1 : ((l.drop 1).take 4).length = 4 := by rw [List.length_take, List.length_drop]; omega
 have hs5 := zcR h hn (i := 5) (j := 9) (by omega) (by omega) 4 rfl
 have hl5 : ((l.drop 5).take 4).length = 4 := by rw [List.length_take, List.length_drop]; omega
 obtain ⟨q, hq⟩ : ∃ q, zaZ ((l.drop 1).take 4) = q := ⟨_, rfl⟩
 obtain ⟨a, ha⟩ : ∃ a, (l.drop 1).take 4 = a := ⟨_, rfl⟩
 rw [ha] at hq hr hs1 hl1
 rw [hq, hn] at hr
 have hq32 : q < 4294967296 := by
  rw [← hq]
  match a, hl1 with
  | [a, b, c, d], _ =>
   have := a.toNat_lt; have := b.toNat_lt; have := c.toNat_lt; have := d.toNat_lt
   simp [zaZ]
   omega
 have H := hJ h
 have Hq := hJ hq
 have Hl1 := hJ hl1
 have Hl5 := hJ hl5
 have Hr := hJ hr
 have Hn := hJ hn
 have hcc : (9 : Nat) ≤ c := by omega
 clear hx hq hl1 hl5 hr hn h ha
 by_cases hbig : 16384 < q
 ·
  have hb : (16384 : Int) < (q : Int) := by omega
  have H1 := hJ (show xD l = none by rw [Hr.out, if_pos (.inl hbig)])
  clear hbig
  go_enter Tryz.func71, Tryz.ntmps71
  go_wp2_with fail
  refine (zl2 w T _ 4 _ a hs1 rfl Hl1.out).mono ?_
  rintro e w1 ⟨rfl, hE⟩
  rw [Hq.out]
  have HE := hJ hE
  clear hE
  go_wp2
  go_ret3
  exact zc7.no H1.out rfl HE.out
 by_cases hsh : n - 9 < q
 ·
  have hb : ¬ (16384 : Int) < (q : Int) := by omega
  have hb2 : (n : Int) - 9 < (q : Int) := by omega
  have H1 := hJ (show xD l = none by rw [Hr.out, if_pos (.inr hsh)])
  clear hbig
  go_enter Tryz.func71, Tryz.ntmps71
  go_wp2_with fail
  refine (zl2 w T _ 4 _ a hs1 rfl Hl1.out).mono ?_
  rintro e w1 ⟨rfl, hE⟩
  rw [Hq.out]
  have HE := hJ hE
  clear hE
  go_wp2
  go_ret3
  exact zc7.no H1.out rfl HE.out
 have hb : ¬ (16384 : Int) < (q : Int) := by omega
 have hb2 : ¬ (n : Int) - 9 < (q : Int) := by omega
 have hs9 := zcR h0 hn0 (i := 9) (j := 9 + q) (by omega) (by omega) q (by omega)
 have hl9 : ((l.drop 9).take q).length = q := by rw [List.length_take, List.length_drop]; omega
 obtain ⟨p, hp⟩ : ∃ p, (l.drop 9).take q = p := ⟨_, rfl⟩
 obtain ⟨d, hd⟩ : ∃ d, (l.drop 5).take 4 = d := ⟨_, rfl⟩
 rw [hp] at hs9 hl9
 rw [hd] at hs5
 obtain ⟨y, hy⟩ : ∃ y, zaZ d = y := ⟨_, rfl⟩
 obtain ⟨z, hz⟩ : ∃ z, zc4 a p = z := ⟨_, rfl⟩
 have Hl9 := hJ hl9
 have Hl5' : Hid (d.length = 4) := hJ (by rw [← hd]; exact Hl5.out)
 have Hr2 : Hid (xD l = if z ≠ y then none else some (p, 9 + q)) := hJ (by rw [Hr.out, if_neg (by omega), hp, hd, hy, hz])
 have Hy := hJ hy
 have Hz := hJ hz
 clear hl9 hp hd hy hz h0 hn0
 have hq9 : (9 : Int) + (q : Int) ≤ (n : Int) := by omega
 go_enter Tryz.func71, Tryz.ntmps71
 go_wp2_with fail
 refine (zl2 w T _ 4 _ a hs1 rfl Hl1.out).mono ?_
 rintro e w1 ⟨rfl, hE⟩
 rw [Hq.out]
 have HE := hJ hE
 have t1 := hs1.ext hE
 have t5 := hs5.ext hE
 have t9 := hs9.ext hE
 clear hE hs1 hs5 hs9
 go_upto_region 7 with fail
 have i1 : (0 : Int) ≤ 1 := by omega
 have i2 : (1 : Int) ≤ 5 := by omega
 have i3 : (5 : Int) ≤ (c : Int) := by omega
 have i4 : (0 : Int) ≤ 9 := by omega
 have i5 : (9 : Int) ≤ 9 + (q : Int) := by omega
 have i6 : 9 + (q : Int) ≤ (c : Int) := by omega
 have i7 : (0 : Int) ≤ 5 := by omega
 have i8 : (5 : Int) ≤ 9 := by omega
 have i9 : (9 : Int) ≤ (c : Int) := by omega
 have e9 : (9 + (q : Int)).toNat - 9 = q := by omega
 go_cut [39] (fun s39 wx => s39 = .bool ((z : Int) != (y : Int)) ∧ Ext w1 wx)
 case first =>
  go_region_held3 (fun w2 => Ext w1 w2) (first | exact (Mod.refl _ _).drew | exact hX)
   (first
    | (go_at_call 102; refine Calls.mono (fr_sum _ T T _ _ 4 _ q _ a p (by first | exact t1.drew | exact t1.ext hX) (by first | exact t9.drew | exact t9.ext hX) Hl1.out Hl9.out (by omega) (by omega)) ?_; rintro e w3 ⟨rfl, hE3⟩; have hX : Ext w1 w3 := Mod.ext (by first | exact (Mod.refl _ _).drew | exact hX) hE3; rw [Hz.out])
    | (go_at_call 101; refine Calls.mono (zl2 _ T _ 4 _ d (by first | exact t5.drew | exact t5.ext hX) rfl Hl5'.out) ?_; rintro e w3 ⟨rfl, hE3⟩; have hX : Ext w1 w3 := Mod.ext (by first | exact (Mod.refl _ _).drew | exact hX) hE3; rw [Hy.out]))
  all_goals
   go_wp2_with fail
   go_meet
   exact ⟨rfl, hX⟩
 obtain ⟨rfl, hX⟩ := hcut
 have t9 := t9.ext hX
 have HE := hJ (HE.out.ext hX)
 clear hX t1 t5
 by_cases hzy : z = y
 rotate_left
 ·
  have hd : ((z : Int) != (y : Int)) = true := by simp; omega
  have H1 := hJ (show xD l = none by rw [Hr2.out, if_pos hzy])
  clear hzy
  rw [hd]
  go_wp2
  go_ret3
  exact zc7.no H1.out rfl HE.out
 have hd : ((z : Int) != (y : Int)) = false := by simp; omega
 have H1 := hJ (show xD l = some (p, 9 + q) by rw [Hr2.out, if_neg (by simpa using hzy)])
 clear hzy
 rw [hd]
 have hN : yO wc (wc.alloc (.cells #[] 5)) (.slice (some ⟨wc.heap.size, 0, none⟩) 0 0) [] := ⟨World.ownsRow_made wc #[] 0 (Nat.zero_le _) (by simp [maxLen]) rfl, fun g hg => by simp [Value.ownBlock] at hg; omega⟩
 have hE : Ext wc (wc.alloc (.cells #[] 5)) := (Mod.refl _ wc).alloc _
 have t9 := t9.ext hE
 go_wp2_with (at_builtin; refine zW rfl _ _ rfl (.slice (some ⟨wc.heap.size, 0, none⟩) 0 0) [] wc rfl hN hE _ _ p rfl t9 (by rw [Hl9.out]; simp only [List.length_nil]; omega) ?_)
 intro A4 n4 c4 w4 hn4 hN4 hX4 _ _
 have en : n4 = q := by rw [hn4]; exact Hl9.out
 subst en
 have HN4 := hJ (hN4.up HE.out)
 have HX4 := hJ (HE.out.ext hX4)
 clear hn4 hN4 hX4 hN hE t9
 go_wp2
 go_ret3
 unfold zc7
 rw [H1.out]
 exact ⟨HX4.out, _, _, _, rfl, Hl9.out, rfl, by simpa using HN4.out⟩
theorem zl3 : (Tryz.prog.info? 25).map (fun i => (i.zero, i.size, i.bytes)) = some (some (.slice none 0 0), 1, 24) := by kernel_rfl
def Pays (w0 w : World) (xs : List Value) (ps : List (List UInt8)) : Prop := xs.length = ps.length ∧ ∀ (i : Nat) (p : List UInt8), ps[i]? = some p → ∃ A k c, xs[i]? = some (Value.slice A k c) ∧ p.length = k ∧ yO w0 w (.slice A k c) p
def zd2 (w0 w : World) (v : Value) (xs : List Value) (ps : List (List UInt8)) : Prop := w.ownsRow 0 25 1 v ps.length xs ∧ (∀ g, v.ownBlock = some g → w0.heap.size ≤ g) ∧ Pays w0 w xs ps
theorem Pays.mod {w0 w w' : World} {S : Nat → Prop} {xs : List Value} {ps : List (List UInt8)} (h : Pays w0 w xs ps) (hm : Mod S w w') (hS : ∀ v p, yO w0 w v p → ∀ g, v.ownBlock = some g → ¬ S g) : Pays w0 w' xs ps :=
 ⟨h.1, fun i p hp => by
  obtain ⟨A, k, c, h1, h2, h3⟩ := h.2 i p hp
  exact ⟨A, k, c, h1, h2, zU h3.1 hm (hS _ _ h3), h3.2⟩⟩
theorem zd2.ext {w0 w w' : World} {v : Value} {xs : List Value} {ps : List (List UInt8)} (h : zd2 w0 w v xs ps) (hE : Ext w w') : zd2 w0 w' v xs ps :=
 ⟨zU h.1 hE (fun _ _ => id), h.2.1, h.2.2.mod hE (fun _ _ _ _ _ => id)⟩
theorem zjB (w0 w : World) : zd2 w0 w (.slice none 0 0) [] [] := ⟨World.ownsRow_nil _ _ _ _, by simp [Value.ownBlock], rfl, by simp⟩
theorem zjC {w0 w w' : World} {v v' : Value} {xs : List Value} {ps : List (List UInt8)} {A : Option Addr} {k c n : Nat} {p : List UInt8} (h : zd2 w0 w v xs ps) (hE : Ext w0 w) (hn : ps.length = n) (hp : yO w0 w (.slice A k c) p) (hk : p.length = k)
  (ho : w'.ownsRow 0 25 1 v' (n + 1) (xs ++ [Value.slice A k c])) (hgr : w.grownBy w' v.ownBlock) (hat : v'.ownBlock = v.ownBlock ∨ v'.ownBlock = some w.heap.size) :
  zd2 w0 w' v' (xs ++ [Value.slice A k c]) (ps ++ [p]) ∧ Ext w0 w' := by
 have hm : Mod (fun g => v.ownBlock = some g) w w' := (Mod.refl _ w).grown hgr (fun _ e => .inr e)
 have hS : ∀ u q, yO w0 w u q → ∀ g, u.ownBlock = some g → ¬ v.ownBlock = some g := fun u q hu g hg e => zbV hu.1 h.1 (by decide) hg e
 have hP := h.2.2.mod hm hS
 have hp' : yO w0 w' (.slice A k c) p := ⟨zU hp.1 hm (hS _ _ hp), hp.2⟩
 refine ⟨⟨by rw [List.length_append, hn]; exact ho, fun g hg => ?_, by rw [List.length_append, List.length_append, hP.1]; rfl, fun i q hq => ?_⟩, hE.trans hm (fun i hi e => ?_)⟩
 ·
  rcases hat with e | e <;> rw [e] at hg
  · exact h.2.1 g hg
  injection hg with hg
  have := hE.size
  omega
 ·
  have hl := hP.1
  rw [List.getElem?_append] at hq
  rw [List.getElem?_append]
  split at hq
  · rename_i hi
    rw [if_pos (by omega)]
    exact hP.2 i q hq
  rename_i hi
  rw [if_neg (by omega)]
  obtain ⟨j, hj⟩ : ∃ j, i - ps.length = j := ⟨_, rfl⟩
  rw [hj] at hq
  rw [hl, hj]
  cases j with
  | zero =>
   have e : p = q := by simpa using hq
   subst e
   exact ⟨A, k, c, rfl, hk, hp'⟩
  | succ j => simp at hq
 have := h.2.1 i e
 omega
theorem fr_scan (w : World) (T : Nat → Prop) (A : Option Addr) (n c : Nat) (l : List UInt8) (h : Byt w T (.slice A n c) l) (hn : l.length = n) (hnl : n ≤ 1000000) :
  Calls Tryz.prog 39 #[.slice A n c] w fun e w' => ∃ v xs, e = .returned (.tuple #[v, .int .i64 ((yY l).2 : Int)]) ∧ zd2 w w' v xs (yY l).1 ∧ Ext w w' := by
 obtain ⟨i0, hi, hz0, hz1, hz2⟩ := info_parts zl3
 obtain ⟨hln, hnc, hcm, _⟩ := qE h
 have Hn := hJ hn
 have H := hJ h
 clear hn h hln
 go_enter Tryz.func39, Tryz.ntmps39
 go_wp2_with fail
 go_loopw [2, 3] (fun v iv wr => ∃ (o k q : Nat) (A1 : Option Addr) (xs : List Value) (ps : List (List UInt8)), o ≤ n ∧ iv = .int .i64 o ∧ v = .slice A1 k q ∧ ps.length = k ∧ k ≤ o ∧ zd2 w wr (.slice A1 k q) xs ps ∧ Ext w wr ∧ yY l = (ps ++ (yY (l.drop o)).1, o + (yY (l.drop o)).2)) (fun _ iv _ => n - (intOf iv).toNat)
 case atStart => exact ⟨0, 0, 0, none, [], [], by omega, rfl, rfl, rfl, by omega, zjB w w, Mod.refl _ w, by simp⟩
 obtain ⟨o, k, q, A1, xs, ps, hon, rfl, rfl, hpk, hko, hN, hE, hsc⟩ := hrel
 have hb : Byt wr T (.slice (cutA A o c 1) (n - o) (c - o)) (l.drop o) := by
  have h1 := H.out.ext hE
  unfold Byt at h1 ⊢
  rw [Hn.out] at h1
  have h2 := Sl.cutA h1 (m := o) hon
  rw [List.length_drop, Hn.out, List.map_drop]
  simpa using h2
 have hdl : (l.drop o).length = n - o := by rw [List.length_drop, Hn.out]
 have j0 : (0 : Int) ≤ (o : Int) := by omega
 have j1 : (o : Int) ≤ (n : Int) := by omega
 have HN := hJ hN
 have HE := hJ hE
 have Hsc := hJ hsc
 have Hdl := hJ hdl
 have Hpk := hJ hpk
 clear hN hE hsc hdl hpk
 go_wp2_with fail
 refine (fr_first wr T _ _ _ _ hb Hdl.out (by omega)).mono ?_
 rintro e w1 ⟨hE1, he⟩
 have HE1 := hJ (HE.out.ext hE1)
 have HN1 := hJ (HN.out.ext hE1)
 clear hb
 rcases hf : xD (l.drop o) with _ | ⟨p, m⟩
 ·
  rw [hf] at he
  subst he
  have hs : yY l = (ps, o) := by rw [Hsc.out, zb2 hf]; simp
  have Hs := hJ hs
  clear hf hs
  go_wp2
  go_ret2
  exact ⟨.slice A1 k q, xs, by rw [Hs.out]; rfl, by rw [Hs.out]; exact HN1.out, HE1.out⟩
 rw [hf] at he
 obtain ⟨A2, k2, c2, rfl, hp2, hm2, hN2⟩ := he
 obtain ⟨_, hml, _⟩ := zaT hf
 rw [Hdl.out] at hml
 have hs : yY l = ((ps ++ [p]) ++ (yY (l.drop (o + m))).1, (o + m) + (yY (l.drop (o + m))).2) := by
  rw [Hsc.out, zb3 hf, List.drop_drop]
  simp only [List.append_assoc, List.singleton_append, Nat.add_assoc]
 have Hs := hJ hs
 have HN2 := hJ (hN2.up HE.out)
 have Hp2 := hJ hp2
 clear hf hs hN2 hp2 Hsc HN HE
 have Ha : Hid (Sl (w1.alloc (.cells #[.slice A2 k2 c2] 25)) (fun _ => True) 1 (.slice (some ⟨w1.heap.size, 0, none⟩) 1 1) 1 [.slice A2 k2 c2]) := hJ (Sl.of_own (zf6 w1 25 1 1 [.slice A2 k2 c2] rfl (by decide)) (fun _ _ => trivial))
 have HEa : Hid (Ext w1 (w1.alloc (.cells #[.slice A2 k2 c2] 25))) := hJ ((Mod.refl _ w1).alloc _)
 have Ho : Hid ((w1.alloc (.cells #[.slice A2 k2 c2] 25)).ownsRow 0 25 1 (.slice A1 k q) k xs) := hJ (by have h1 := (HN1.out.ext HEa.out).1; rw [Hpk.out] at h1; exact h1)
 go_wp2_with (at_builtin; go_must (refine yA _ rfl _ _ 90 rfl 25 i0 _ 1 24 Tryz.underlying90 hi hz0 hz1 hz2 rfl (by omega) (.slice A1 k q) k xs rfl Ho.out _ _ 1 [.slice A2 k2 c2] rfl Ha.out (by intro u hu; simp only [List.mem_singleton] at hu; subst hu; rfl) (by simp only [maxLen]; omega) (by omega) ?_))
 intro v3 w3 ho3 hgr3 hat3
 obtain ⟨hN3, hE3⟩ := zjC (HN1.out.ext HEa.out) (HE1.out.ext HEa.out) Hpk.out (HN2.out.ext HEa.out) Hp2.out ho3 hgr3 (by simpa using hat3)
 obtain ⟨A3, c3, rfl⟩ := zN ho3
 have HN3 := hJ hN3
 have HE3 := hJ hE3
 clear hN3 hE3 ho3 hgr3 hat3
 have iw : IntKind.i64.wrap ((o : Int) + (m : Int)) = ((o + m : Nat) : Int) := by rw [IntWalk.i64_in _ (by omega)]; omega
 go_wp2_with fail
 go_roundw
 case rel => exact ⟨o + m, k + 1, _, _, xs ++ [.slice A2 k2 c2], ps ++ [p], by omega, by go_num, rfl, by rw [List.length_append, Hpk.out]; rfl, by omega, HN3.out, HE3.out, Hs.out⟩
 case measure => simp [intOf]; omega
theorem zpH (W : World) (p b : Nat) (x : zI) (hx : x.ok) (hc : ∀ j u, x.cells[j]? = some u → W.cell? ⟨p, j, none⟩ = some u) (hs : St W (fun k => k = b) b [] false) :
  Calls Tryz.prog 142 #[.pointer (some ⟨b, 0, none⟩), .pointer (some ⟨p, 0, none⟩)] W (znQ W (fun k => k = b) b [] false (jR x)) := by
 have x0 := hc 0 _ rfl
 have x1 := hc 1 _ rfl
 have x2 := hc 2 _ rfl
 have x3 := hc 3 _ rfl
 have x4 := hc 4 _ rfl
 have x5 := hc 5 _ rfl
 have x6 := hc 6 _ rfl
 have x7 := hc 7 _ rfl
 have x8 := hc 8 _ rfl
 have x9 := hc 9 _ rfl
 have x10 := hc 10 _ rfl
 have x11 := hc 11 _ rfl
 have x12 := hc 12 _ rfl
 have x13 := hc 13 _ rfl
 have x14 := hc 14 _ rfl
 have x15 := hc 15 _ rfl
 have Hx := hJ hx
 clear hc hx
 go_enter Tryz.func142, Tryz.ntmps142
 go_wp2_with fail
 refine (zlQ W (fun k => k = b) b [] false x hs Hx.out (by simp)).mono ?_
 rintro e w1 ⟨hm, h1⟩
 rcases hV : jR x with _ | ⟨D, L⟩
 ·
  rw [hV] at h1
  subst h1
  exact ⟨rfl, xV (Mod.refl _ W) hm hV⟩
 rw [hV] at h1
 obtain ⟨rfl, S1, hS1, hg1⟩ := h1
 have HS1 := hJ hS1
 have Hg1 := hJ hg1
 have HV := hJ hV
 clear hS1 hg1 hV
 go_wp2
 go_end0
 exact jX (Mod.refl _ W) hm HS1.out Hg1.out HV.out
theorem zh7 (w : World) (x : zI) (hx : x.ok) :
  Calls Tryz.prog 109 #[.agg #[.int .i64 x.term, .int .i64 x.kind, .int .i64 x.call.client, .int .i64 x.call.seq, .int .i64 x.call.cmd.kind, .string x.call.cmd.key, .int .i64 x.call.cmd.old.kind, .float .f64 x.call.cmd.old.num, .string x.call.cmd.old.text, .int .i64 x.call.cmd.val.kind, .float .f64 x.call.cmd.val.num, .string x.call.cmd.val.text, .int .i64 x.conf.full, .int .i64 x.conf.wit, .int .i64 x.conf.learn, .int .i64 x.conf.learnWit]] w (zbK w (jR x)) := by
 have hmf : ∀ (fn : Fn) (first cap : Array Value) (w : World), (Instr.makeFunc fn first cap).run Tryz.prog w = .ok (.func fn first cap) w := fun _ _ _ _ => rfl
 obtain ⟨W, hW⟩ : ∃ W, W = w.alloc (.cells x.cells.toArray 56) := ⟨_, rfl⟩
 have hE : Ext w W := by rw [hW]; exact (Mod.refl _ w).alloc _
 have hc : ∀ j u, x.cells[j]? = some u → W.cell? ⟨w.heap.size, j, none⟩ = some u := by
  intro j u hu
  rw [hW, cell_of_row _ _ _ _ _ _ (heap_alloc_new w _)]
  simpa using hu
 have hsz : W.heap.size = w.heap.size + 1 := by rw [hW]; simp
 have HW := hJ hW
 have Hc := hJ hc
 have Hsz := hJ hsz
 have Hx := hJ hx
 clear hW hc hsz hx
 go_enter Tryz.func109, Tryz.ntmps109
 go_wp2_with fail
 rw [← HW.out]
 refine (zfY 142 w.heap.size W (jR x) (fun _ _ => by kernel_rfl) (fun d l h => by have := zg9 x d l h; omega) (fun W' b hE' hb hS => ?_)).mono ?_
 · exact zpH W' w.heap.size b x Hx.out (fun j u hu => hE'.cell (Hc.out j u hu) id) hS
 rintro e w1 ⟨v, rfl, hN, hE1⟩
 have HN := hJ hN
 have HE := hJ (Mod.ext hE hE1)
 clear hN hE1
 go_wp2
 go_ret2
 exact ⟨v, rfl, ⟨HN.out.1, fun g hg => by have := HN.out.2 g hg; have := Hsz.out; omega⟩, HE.out⟩
end Go.Proofs.YtjhnlncgmejkcaaGreat
