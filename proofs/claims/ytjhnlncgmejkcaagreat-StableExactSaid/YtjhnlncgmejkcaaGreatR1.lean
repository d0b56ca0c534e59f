/-
 The page's High, Sum, Seal (layers 2, 3). Conditions: as each theorem names them.
-/
import Derived.Test.YtjhnlncgmejkcaaGreatS15
import Derived.Test.YtjhnlncgmejkcaaGreatS13
import Derived.Test.YtjhnlncgmejkcaaGreatTakeI
import Derived.Test.YtjhnlncgmejkcaaGreatS19
import Derived.Test.YtjhnlncgmejkcaaGreatS21
import Derived.Test.YtjhnlncgmejkcaaGreatR5
import Derived.Test.YtjhnlncgmejkcaaGreatWireH2
set_option maxRecDepth 100000
set_option maxHeartbeats 1000000
namespace Go.Proofs.YtjhnlncgmejkcaaGreat
set_option linter.unusedSimpArgs false
open Go.RowKit
theorem zpI (a b : Nat) : (a ^^^ b) % 2 = (a + b) % 2 := by
 have h := @Nat.xor_mod_two_pow a b 1
 rw [Nat.pow_one] at h
 rw [h]
 rcases Nat.mod_two_eq_zero_or_one a with h1 | h1 <;> rcases Nat.mod_two_eq_zero_or_one b with h2 | h2 <;> rw [h1, h2] <;> simp <;> omega
theorem zl4 (a b : Nat) : (a ^^^ b) / 2 = a / 2 ^^^ b / 2 := by
 have h := @Nat.xor_div_two a b
 exact h
theorem zjD : ∀ (k a b : Nat), zhW k (a ^^^ b * 2 ^ k) = zhW k a ^^^ b
 | 0, a, b => by simp [zhW]
 | k + 1, a, b => by
  have h : jO (a ^^^ b * 2 ^ (k + 1)) = jO a ^^^ b * 2 ^ k := by
   have e : b * 2 ^ (k + 1) = 2 * (b * 2 ^ k) := by rw [Nat.pow_succ]; simp only [Nat.mul_comm, Nat.mul_left_comm]
   rw [e]
   unfold jO
   rw [zpI, zl4, show 2 * (b * 2 ^ k) / 2 = b * 2 ^ k by omega, show (a + 2 * (b * 2 ^ k)) % 2 = a % 2 by omega]
   split
   · rw [Nat.xor_assoc, Nat.xor_assoc, Nat.xor_comm (b * 2 ^ k)]
   rfl
  rw [zhW, h, zjD k, zhW]
theorem low_high (s : Nat) : s % 256 ^^^ s / 256 * 2 ^ 8 = s := by
 apply Nat.eq_of_testBit_eq
 intro i
 rw [Nat.testBit_xor, Nat.testBit_mul_two_pow, show 256 = 2 ^ 8 by rfl, Nat.testBit_mod_two_pow, Nat.testBit_div_two_pow]
 by_cases h : i < 8
 · have : ¬ 8 ≤ i := by omega
   simp [h, this]
 simp [h]
 rw [show i - 8 + 8 = i by omega]
 simp; omega
theorem crc_byte (s : Nat) (c : UInt8) : zhW 8 (s ^^^ c.toNat) = zaS s c := by
 unfold zaS zoB
 rw [← zjD 8]
 congr 1
 rw [Nat.xor_assoc, Nat.xor_comm c.toNat, ← Nat.xor_assoc, low_high]
def bitS (c x k : Nat) : Nat := if (c % 2 + x / 2 ^ k % 2) % 2 = 1 then (c / 2) ^^^ 3988292384 else c / 2
theorem bit_step (y x k : Nat) : bitS (y ^^^ x / 2 ^ k) x k = jO y ^^^ x / 2 ^ (k + 1) := by
 have e : x / 2 ^ (k + 1) = x / 2 ^ k / 2 := by rw [Nat.pow_succ, Nat.div_div_eq_div_mul]
 rw [e]
 obtain ⟨z, hz⟩ : ∃ z, x / 2 ^ k = z := ⟨_, rfl⟩
 unfold bitS jO
 rw [hz, zpI, zl4, show ((y + z) % 2 + z % 2) % 2 = y % 2 by omega]
 split
 · rw [Nat.xor_assoc, Nat.xor_assoc, Nat.xor_comm (z / 2)]
 rfl
theorem crc_take {l : List UInt8} {i : Nat} {x : UInt8} (s : Nat) (h : l[i]? = some x) : xY s (l.take (i + 1)) = zaS (xY s (l.take i)) x := by
 show (l.take (i + 1)).foldl zaS s = _
 rw [List.take_add_one, h, List.foldl_append]
 rfl
theorem zpJ (a p : List UInt8) : 4294967295 - xY 4294967295 (a ++ p) = zc4 a p := by
 unfold zc4 xY
 rw [List.foldl_append]
theorem zh8 (w : World) (y : Nat) : Calls Tryz.prog 148 #[.int .u64 y, .int .i64 4] w fun e w' => ∃ v, e = .returned v ∧ yO w w' v (hib 4 y) ∧ Ext w w' := by
 obtain ⟨i0, hi, hz0, hz1, hz2⟩ := info_parts jN
 go_enter Tryz.func148, Tryz.ntmps148
 go_wp2
 go_loopw [5, 6] (fun v kv wr => ∃ (k m : Nat) (pre : List UInt8), k ≤ 4 ∧ kv = .int .i64 ((k : Int) - 1) ∧ hib 4 y = pre ++ hib k y ∧ pre.length = m ∧ wr.ownsRow 0 5 1 v m (pre.map B) ∧ (∀ g, v.ownBlock = some g → w.heap.size ≤ g) ∧ Ext w wr) (fun _ kv _ => (intOf kv + 1).toNat)
 case atStart => exact ⟨4, 0, [], by omega, rfl, rfl, rfl, World.ownsRow_nil _ _ _ _, by simp [Value.ownBlock], Mod.refl _ _⟩
 obtain ⟨k, m, pre, hk, rfl, henc, hpm, hown, hfr, hE⟩ := hrel
 have hlp : m ≤ 4 := by have := congrArg List.length henc; simp [hib] at this; omega
 have Henc := hJ henc
 have Hpm := hJ hpm
 have Hfr := hJ hfr
 have HE := hJ hE
 clear henc hpm hfr hE
 rcases k with _ | k
 ·
  have Hf : Hid (hib 4 y = pre) := hJ (by rw [Henc.out, hib]; simp)
  have Hown := hJ hown
  clear hown
  go_wp2
  go_ret
  exact ⟨_, rfl, ⟨by rw [Hf.out, Hpm.out]; exact Hown.out, Hfr.out⟩, HE.out⟩
 rw [show (((k + 1 : Nat) : Int) - 1) = (k : Int) from by omega]
 have hsh := fun W => zhR (P := Tryz.prog) y k (by omega) W
 go_wp2_with (at_builtin; refine yA _ rfl _ _ 25 rfl 5 i0 _ 1 1 Tryz.underlying25 hi hz0 hz1 hz2 rfl (by omega) _ m (pre.map B) rfl (hown.alloc _) _ _ 1 _ rfl (Sl.one wr _ _) (by simp [Value.oneCell']) (by simp only [maxLen]; omega) (by omega) ?_)
 intro v' w1 ho hgr hat
 have hn' := zc1 (w := wr) Hpm.out ho hgr hat Hfr.out HE.out (c := UInt8.ofNat (y / 256 ^ k % 256)) (by rw [← low8w, zpF]; simp [IntKind.wrap, IntKind.bits, IntKind.signed])
 have hstep : pre ++ hib (k + 1) y = (pre ++ [UInt8.ofNat (y / 256 ^ k % 256)]) ++ hib k y := by rw [hib]; simp
 have Hs := hJ (Henc.out.trans hstep)
 have Hn' := hJ hn'
 clear hstep hn' ho hgr hat hsh
 go_wp2
 go_roundw
 case rel => exact ⟨k, m + 1, pre ++ [UInt8.ofNat (y / 256 ^ k % 256)], by omega, by first | rfl | go_num, Hs.out, Hn'.out.1, Hn'.out.2.1, Hn'.out.2.2.1, Hn'.out.2.2.2⟩
 case measure => simp [intOf] <;> omega
theorem r2_sum (w : World) (T : Nat → Prop) (A : Option Addr) (n c : Nat) (l : List UInt8) (h : Byt w T (.slice A n c) l) (hn : l.length = n) (hnl : n ≤ 1000000) :
  Calls Tryz.prog 153 #[.slice A n c] w fun e w' => e = .returned (.int .u32 ((4294967295 - xY 4294967295 l : Nat) : Int)) ∧ w = w' := by
 have h : Sl w T 1 (.slice A n c) n (l.map B) := by unfold Byt at h; rw [hn] at h; exact h
 have Hn := hJ hn
 clear hn
 go_enter Tryz.func153, Tryz.ntmps153
 go_wp2
 go_loop [3, 4] (fun sv iv => ∃ i x : Nat, i ≤ n ∧ iv = .int .i64 i ∧ sv = .int .u32 (x : Int) ∧ x < 4294967296 ∧ x = xY 4294967295 (l.take i)) (fun _ iv => n - (intOf iv).toNat)
 case atStart => exact ⟨0, 4294967295, by omega, rfl, rfl, by omega, rfl⟩
 obtain ⟨i, x, hi, rfl, rfl, hx, hxe⟩ := hrel
 have Hxe := hJ hxe
 clear hxe
 by_cases hin : i < n
 ·
  obtain ⟨g, off, y, hv, hy, c0⟩ := zb0 h (i := i) hin
  subst hv
  have hi0 : (0 : Int) ≤ (i : Int) := by omega
  have hi1 : (i : Int) < (n : Int) := by omega
  have hylt := y.toNat_lt
  have Hst : Hid (zhW 8 (x ^^^ y.toNat) = xY 4294967295 (l.take (i + 1))) := hJ (by rw [crc_byte, crc_take _ hy, ← Hxe.out])
  obtain ⟨b, hb⟩ : ∃ b, y.toNat = b := ⟨_, rfl⟩
  rw [hb] at c0 hylt Hst
  clear hy hb Hxe
  go_wp2_with fail
  go_loop [3, 5] (fun sv kv => ∃ k z : Nat, k ≤ 8 ∧ kv = .int .i64 k ∧ sv = .int .u32 ((z ^^^ b / 2 ^ k : Nat) : Int) ∧ z < 4294967296 ∧ zhW (8 - k) z = zhW 8 (x ^^^ b)) (fun _ kv => 8 - (intOf kv).toNat)
  case atStart => exact ⟨0, x ^^^ b, by omega, rfl, by simp [Nat.xor_assoc], Nat.xor_lt_two_pow (n := 32) hx (by omega), rfl⟩
  obtain ⟨k, z, hk, rfl, rfl, hz, ht⟩ := hrel
  have Ht := hJ ht
  clear ht
  by_cases hk8 : k < 8
  ·
   have Hst2 : Hid (zhW (8 - (k + 1)) (jO z) = zhW 8 (x ^^^ b)) := hJ (by have := Ht.out; rw [show 8 - k = (8 - (k + 1)) + 1 by omega, zhW] at this; exact this)
   have Hzl := hJ (zeI hz)
   have Hbs := hJ (bit_step z b k)
   have hq : b / 2 ^ k < 256 := Nat.lt_of_le_of_lt (Nat.div_le_self _ _) hylt
   have hul : z ^^^ b / 2 ^ k < 4294967296 := Nat.xor_lt_two_pow (n := 32) hz (by omega)
   obtain ⟨u, hu⟩ : ∃ u, z ^^^ b / 2 ^ k = u := ⟨_, rfl⟩
   obtain ⟨q, hqe⟩ : ∃ q, b / 2 ^ k = q := ⟨_, rfl⟩
   have e1 : (b : Int) / 2 ^ k = (q : Int) := by rw [← hqe]; simp
   rw [hu] at hul Hbs ⊢
   rw [hqe] at hq
   have Hbd : Hid (bitS u b k = if (u % 2 + q % 2) % 2 = 1 then (u / 2) ^^^ 3988292384 else u / 2) := hJ (by unfold bitS; rw [hqe])
   have e2 : bits .and .u32 (u : Int) 1 = ((u % 2 : Nat) : Int) := by
    have := u32_and_nat u 1 (by omega) (by omega)
    rw [Nat.and_one_is_mod] at this
    exact this
   have e3 : bits .and .u32 (q : Int) 1 = ((q % 2 : Nat) : Int) := by
    have := u32_and_nat q 1 (by omega) (by omega)
    rw [Nat.and_one_is_mod] at this
    exact this
   have e4 := u32_xor_nat (u % 2) (q % 2) (by omega) (by omega)
   have Hx := hJ (u32_xor_nat (u / 2) 3988292384 (by omega) (by omega))
   have hk0 : (0 : Int) ≤ (k : Int) := by omega
   have hk1 : (k : Int) < 8 := by omega
   have hk2 : (k : Int) ≤ 8 := by omega
   have hpl : u % 2 < 2 := by omega
   have hql : q % 2 < 2 := by omega
   obtain ⟨p, hp⟩ : ∃ p, u % 2 = p := ⟨_, rfl⟩
   obtain ⟨r, hr⟩ : ∃ r, q % 2 = r := ⟨_, rfl⟩
   rw [hp] at e2 e4 hpl Hbd
   rw [hr] at e3 e4 hql Hbd
   clear hu hqe hp hr Ht
   by_cases hodd : (p + r) % 2 = 1
   ·
    have hpr : p ^^^ r = 1 := by
     have h1 : p = 0 ∧ r = 1 ∨ p = 1 ∧ r = 0 := by omega
     rcases h1 with ⟨rfl, rfl⟩ | ⟨rfl, rfl⟩ <;> rfl
    rw [hpr] at e4
    have Hf : Hid (jO z ^^^ b / 2 ^ (k + 1) = (u / 2) ^^^ 3988292384) := hJ (by rw [← Hbs.out, Hbd.out, if_pos hodd])
    clear hodd hpr Hbs Hbd
    go_wp2
    refine ⟨⟨k + 1, jO z, by omega, by go_num, ?_, Hzl.out, Hst2.out⟩, by simp [intOf]; omega⟩
    rw [Hf.out]
    have hx := Hx.out
    rw [Int.natCast_ediv] at hx
    rw [show ((3988292384 : Nat) : Int) = 3988292384 from rfl, show ((2 : Nat) : Int) = 2 from rfl] at hx
    rw [hx]
   have hpr : p ^^^ r = 0 := by
    have h1 : p = 0 ∧ r = 0 ∨ p = 1 ∧ r = 1 := by omega
    rcases h1 with ⟨rfl, rfl⟩ | ⟨rfl, rfl⟩ <;> rfl
   rw [hpr] at e4
   have Hf : Hid (jO z ^^^ b / 2 ^ (k + 1) = u / 2) := hJ (by rw [← Hbs.out, Hbd.out, if_neg hodd])
   clear hodd hpr Hbs Hbd
   go_wp2
   refine ⟨⟨k + 1, jO z, by omega, by go_num, ?_, Hzl.out, Hst2.out⟩, by simp [intOf]; omega⟩
   rw [Hf.out]
   go_num
  obtain rfl : k = 8 := by omega
  have hz8 : z ^^^ b / 2 ^ 8 = z := by rw [show b / 2 ^ 8 = 0 by omega]; simp
  have Hz8 : Hid (z = xY 4294967295 (l.take (i + 1))) := hJ (by have h1 := Ht.out; rw [show 8 - 8 = 0 by omega, zhW] at h1; rw [h1, Hst.out])
  rw [hz8]
  clear hz8 Ht
  go_wp2
  exact ⟨⟨i + 1, z, by omega, by go_num, rfl, hz, Hz8.out⟩, by simp [intOf]; omega⟩
 obtain rfl : i = n := by omega
 have hf : x = xY 4294967295 l := by rw [Hxe.out, ← Hn.out, List.take_length]
 have h3 := u32_xor_nat 4294967295 x (by omega) hx
 rw [zpG x hx] at h3
 have H3 := hJ h3
 have Hf := hJ hf
 clear h3 hf Hxe
 have hs : IntKind.u32.signed = false := rfl
 go_wp2
 go_ret
 refine ⟨?_, rfl⟩
 rw [← Hf.out, ← H3.out]
 rfl
theorem own_ltA {w : World} {e : TypeId} {k n g : Nat} {v : Value} {xs : List Value} (h : w.ownsRow 0 e k v n xs) (hg : v.ownBlock = some g) : g < w.heap.size := by
 rcases zbB h with ⟨rfl, _⟩ | ⟨g', cap, cur, rfl, hR, _⟩
 · simp [Value.ownBlock] at hg
 simp [Value.ownBlock] at hg
 subst hg
 exact (Array.getElem?_eq_some_iff.1 hR).1
theorem r2_seal (w : World) (T : Nat → Prop) (A : Option Addr) (n c : Nat) (l : List UInt8) (h : Byt w T (.slice A n c) l) (hn : l.length = n) (hl : n ≤ 16384) :
  Calls Tryz.prog 151 #[.slice A n c] w fun e w' => ∃ A' c', e = .returned (.slice A' (n + 9) c') ∧ yO w w' (.slice A' (n + 9) c') (zR l) ∧ Ext w w' := by
 obtain ⟨a, ha⟩ : ∃ a, hib 4 n = a := ⟨_, rfl⟩
 have hal : a.length = 4 := by rw [← ha]; exact qH 4 n
 obtain ⟨x, hx⟩ : ∃ x, zc4 a l = x := ⟨_, rfl⟩
 have hxl : x < 4294967296 := by rw [← hx]; exact ze9 a l
 have hf : zR l = 157 :: (a ++ (hib 4 x ++ l)) := by unfold zR; rw [hn, ha, hx]
 have hx2 : 4294967295 - xY 4294967295 (a ++ l) = x := by rw [zpJ, hx]
 have Hf := hJ hf
 have Ha := hJ ha
 have Hal := hJ hal
 have Hx := hJ hx2
 have Hn := hJ hn
 have H := hJ h
 have HN0 : Hid (yO w w (.slice none 0 0) []) := hJ ⟨World.ownsRow_nil _ _ _ _, by simp [Value.ownBlock]⟩
 clear hf ha hal hx hx2 hn h
 go_enter Tryz.func151, Tryz.ntmps151
 go_wp2_with fail
 refine (zh8 w n).mono ?_
 rintro e w1 ⟨v1, rfl, hN1, hE1⟩
 rw [Ha.out] at hN1
 have hb1 := hN1.sl
 clear hN1
 go_wp2_with (at_builtin; refine zW rfl _ _ rfl (.slice none 0 0) [] w rfl (HN0.out.ext hE1) hE1 _ _ a rfl hb1 (by rw [Hal.out]; simp) ?_)
 intro A2 n2 c2 w2 hn2 hN2 hX2 _ _
 have HN2 := hJ hN2
 have HX2 := hJ hX2
 obtain rfl : n2 = 4 := by rw [hn2]; exact Hal.out
 clear hN2 hX2 hn2 hb1 hE1
 go_wp2_with (at_builtin; refine zW rfl _ _ rfl (.slice A2 4 c2) a w rfl HN2.out HX2.out T _ l rfl (H.out.ext HX2.out) (by rw [Hal.out, Hn.out]; omega) ?_)
 intro A3 n3 c3 w3 hn3 hN3 hX3 _ _
 obtain rfl : n3 = 4 + n := by rw [hn3, Hal.out, Hn.out]
 have HB3 := hJ hN3
 have HX3 := hJ hX3
 clear hN3 hX3 hn3 HN2 HX2
 obtain ⟨W, hW⟩ : ∃ W, w3.alloc (.cells #[.int .u8 157] 5) = W := ⟨_, rfl⟩
 have hN4 : yO w W (.slice (some ⟨w3.heap.size, 0, none⟩) 1 1) [157] := by rw [← hW]; exact (zfE w3 [157] 1 _ rfl (by decide) rfl).up HX3.out
 have hX4 : Ext w3 W := by rw [← hW]; exact (Mod.refl _ w3).alloc _
 have HB4 := hJ (HB3.out.ext hX4)
 have HN4 := hJ hN4
 have HX4 := hJ (HX3.out.ext hX4)
 have Hlt3 : Hid (∀ g, (Value.slice A3 (4 + n) c3).ownBlock = some g → g < w3.heap.size) := hJ (fun g hg => own_ltA HB3.out.1 hg)
 have HW := hJ hW
 clear hW hN4 hX4 HB3 HX3
 go_wp2_with fail
 rw [HW.out]
 refine (zh8 W n).mono ?_
 rintro e w5 ⟨v5, rfl, hN5, hE5⟩
 rw [Ha.out] at hN5
 have hb5 := hN5.sl
 have HB5 := hJ (HB4.out.ext hE5)
 clear hN5
 go_wp2_with (at_builtin; refine zW rfl _ _ rfl _ [157] w rfl (HN4.out.ext hE5) (HX4.out.ext hE5) _ _ a rfl hb5 (by rw [Hal.out]; simp) ?_)
 intro A6 n6 c6 w6 hn6 hN6 hX6 hm6 hf6
 obtain rfl : n6 = 5 := by rw [hn6, Hal.out]
 have HN6 := hJ hN6
 have HX6 := hJ hX6
 have hN7 : yO w w6 (.slice A3 (4 + n) c3) (a ++ l) := ⟨zU HB5.out.1 hm6 (fun g hg e => by
  have h1 := Hlt3.out g hg
  simp only [Value.ownBlock, Option.some.injEq] at e
  omega), HB5.out.2⟩
 have HB7 := hJ (yO.sl (w := w) hN7)
 have Hln : Hid ((a ++ l).length = 4 + n) := hJ (by rw [List.length_append, Hal.out, Hn.out])
 clear hN7 hN6 hX6 hm6 hf6 hn6 HB4 HB5 HN4 HX4 hb5 hE5
 go_wp2_with fail
 refine (r2_sum w6 _ A3 (4 + n) c3 (a ++ l) HB7.out Hln.out (by omega)).mono ?_
 rintro e w7 ⟨rfl, rfl⟩
 rw [Hx.out]
 clear HB7 Hln
 go_wp2_with fail
 refine (zh8 w6 x).mono ?_
 rintro e w8 ⟨v8, rfl, hN8, hE8⟩
 have hb8 := hN8.sl
 have HN9 := hJ (HN6.out.ext hE8)
 have HX9 := hJ (HX6.out.ext hE8)
 clear hN8 hE8 HN6 HX6
 go_wp2_with (at_builtin; refine zW rfl _ _ rfl (.slice A6 5 c6) ([157] ++ a) w rfl HN9.out HX9.out _ _ (hib 4 x) rfl hb8 (by rw [List.length_append, Hal.out, qH]; simp) ?_)
 intro A10 n10 c10 w10 hn10 hN10 hX10 _ _
 obtain rfl : n10 = 9 := by rw [hn10, Hal.out, qH]
 have HN10 := hJ hN10
 have HX10 := hJ hX10
 clear hN10 hX10 hn10 hb8 HN9 HX9
 go_wp2_with (at_builtin; refine zW rfl _ _ rfl (.slice A10 9 c10) ([157] ++ a ++ hib 4 x) w rfl HN10.out HX10.out T _ l rfl (H.out.ext HX10.out) (by rw [List.length_append, List.length_append, Hal.out, qH, Hn.out]; simp only [List.length_cons, List.length_nil]; omega) ?_)
 intro A11 n11 c11 w11 hn11 hN11 hX11 _ _
 obtain rfl : n11 = n + 9 := by
  rw [hn11, Hal.out, qH, Hn.out]
  omega
 rw [← Hf.out] at hN11
 have HN11 := hJ hN11
 have HX11 := hJ hX11
 clear hN11 hX11 hn11
 go_wp2
 go_ret
 exact ⟨_, _, rfl, HN11.out, HX11.out⟩
end Go.Proofs.YtjhnlncgmejkcaaGreat
set_option maxRecDepth 100000
set_option maxHeartbeats 1000000
namespace Go.Proofs.YtjhnlncgmejkcaaGreat
set_option linter.unusedSimpArgs false
open Go.RowKit
theorem ext_eq {w w' : World} (h : w = w') : Ext w w' := by subst h; exact Mod.refl _ w
def zc8 (w : World) (l : List UInt8) (e : Ending) (w' : World) : Prop := Ext w w' ∧ match xD l with
 | none => e = .returned (.tuple #[.slice none 0 0, .int .i64 0, .bool false])
 | some (p, n) => ∃ A k c, e = .returned (.tuple #[.slice A k c, .int .i64 (n : Int), .bool true]) ∧ p.length = k ∧ n = 9 + k ∧ yO w w' (.slice A k c) p
theorem zc8.no {w : World} {l : List UInt8} {e : Ending} {w' : World} (h : xD l = none) (he : e = .returned (.tuple #[.slice none 0 0, .int .i64 0, .bool false])) (hE : Ext w w') : zc8 w l e w' := by
 unfold zc8
 rw [h]
 exact ⟨hE, he⟩
theorem r2_first (w : World) (T : Nat → Prop) (A : Option Addr) (n c : Nat) (l : List UInt8) (h : Byt w T (.slice A n c) l) (hn : l.length = n) (hnl : n ≤ 1000000) :
  Calls Tryz.prog 117 #[.slice A n c] w (zc8 w l) := by
 by_cases h9 : n < 9
 ·
  have hi : (n : Int) < 9 := by omega
  have H1 := hJ (zhB (l := l) (by omega))
  clear h h9 hn
  go_enter Tryz.func117, Tryz.ntmps117
  go_wp2
  go_ret3
  exact zc8.no H1.out rfl (Mod.refl _ w)
 have hi : ¬ (n : Int) < 9 := by omega
 obtain ⟨_, hc, _, hA⟩ := qE h
 obtain ⟨g, off, rfl, hT⟩ := hA (by omega)
 have h' : Sl w T 1 (.slice (some ⟨g, off, none⟩) n c) n (l.map B) := by unfold Byt at h; rw [hn] at h; exact h
 obtain ⟨_, _, x, e1, hx, c0⟩ := zb0 h' (i := 0) (by omega)
 injection e1 with e1; injection e1 with e1 e2; subst e1; subst e2
 rw [Nat.add_zero] at c0
 clear h'
 by_cases hx7 : x.toNat = 157
 rotate_left
 ·
  have H1 := hJ (zhC hx hx7)
  have hxi : ((x.toNat : Int) == 157) = false := by simp; omega
  clear h h9 hn hx
  go_enter Tryz.func117, Tryz.ntmps117
  go_wp2
  go_ret3
  exact zc8.no H1.out rfl (Mod.refl _ w)
 have hr := zhD (by omega) hx hx7
 have h0 := h
 have hn0 := hn
 rw [hx7] at c0
 have hs1 := zcR h hn (i := 1) (j := 5) (by omega) (by omega) 4 rfl
 have hl1 : ((l.drop 1).take 4).length = 4 := by rw [List.length_take, List.length_drop]; omega
 have hs5 := zcR h hn (i := 5) (j := 9) (by omega) (by omega) 4 rfl
 have hl5 : ((l.drop 5).take 4).length = 4 := by rw [List.length_take, List.length_drop]; omega
 obtain ⟨q, hq⟩ : ∃ q, zaZ ((l.drop 1).take 4) = q := ⟨_, rfl⟩
 obtain ⟨a, ha⟩ : ∃ a, (l.drop 1).take 4 = a := ⟨_, rfl⟩
 rw [ha] at hq hr hs1 hl1
 rw [hq, hn] at hr
 have hq32 : q < 4294967296 := by
  rw [← hq]
  match a, hl1 with
  | [a, b, c, d], _ =>
   have := a.toNat_lt; have := b.toNat_lt; have := c.toNat_lt; have := d.toNat_lt
   simp [zaZ]
   omega
 have H := hJ h
 have Hq := hJ hq
 have Hl1 := hJ hl1
 have Hl5 := hJ hl5
 have Hr := hJ hr
 have Hn := hJ hn
 have hcc : (9 : Nat) ≤ c := by omega
 clear hx hq hl1 hl5 hr hn h ha
 by_cases hbig : 16384 < q
 ·
  have hb : (16384 : Int) < (q : Int) := by omega
  have H1 := hJ (show xD l = none by rw [Hr.out, if_pos (.inl hbig)])
  clear hbig
  go_enter Tryz.func117, Tryz.ntmps117
  go_wp2_with fail
  refine (zd9 w T _ a hs1 (by rw [Hl1.out]; omega)).mono ?_
  rintro e w1 ⟨rfl, rfl⟩
  rw [Hq.out]
  go_wp2
  go_ret3
  exact zc8.no H1.out rfl (Mod.refl _ w)
 by_cases hsh : n - 9 < q
 ·
  have hb : ¬ (16384 : Int) < (q : Int) := by omega
  have hb2 : (n : Int) - 9 < (q : Int) := by omega
  have H1 := hJ (show xD l = none by rw [Hr.out, if_pos (.inr hsh)])
  clear hbig
  go_enter Tryz.func117, Tryz.ntmps117
  go_wp2_with fail
  refine (zd9 w T _ a hs1 (by rw [Hl1.out]; omega)).mono ?_
  rintro e w1 ⟨rfl, rfl⟩
  rw [Hq.out]
  go_wp2
  go_ret3
  exact zc8.no H1.out rfl (Mod.refl _ w)
 have hb : ¬ (16384 : Int) < (q : Int) := by omega
 have hb2 : ¬ (n : Int) - 9 < (q : Int) := by omega
 have hs9 := zcR h0 hn0 (i := 9) (j := 9 + q) (by omega) (by omega) q (by omega)
 have hl9 : ((l.drop 9).take q).length = q := by rw [List.length_take, List.length_drop]; omega
 obtain ⟨p, hp⟩ : ∃ p, (l.drop 9).take q = p := ⟨_, rfl⟩
 obtain ⟨d, hd⟩ : ∃ d, (l.drop 5).take 4 = d := ⟨_, rfl⟩
 rw [hp] at hs9 hl9
 rw [hd] at hs5
 obtain ⟨y, hy⟩ : ∃ y, zaZ d = y := ⟨_, rfl⟩
 obtain ⟨z, hz⟩ : ∃ z, zc4 a p = z := ⟨_, rfl⟩
 have Hl9 := hJ hl9
 have Hl5' : Hid (d.length = 4) := hJ (by rw [← hd]; exact Hl5.out)
 have Hr2 : Hid (xD l = if z ≠ y then none else some (p, 9 + q)) := hJ (by rw [Hr.out, if_neg (by omega), hp, hd, hy, hz])
 have Hy := hJ hy
 have Hz := hJ hz
 clear hl9 hp hd hy hz h0 hn0
 have HN0 : Hid (yO w w (.slice none 0 0) []) := hJ ⟨World.ownsRow_nil _ _ _ _, by simp [Value.ownBlock]⟩
 have i1 : (0 : Int) ≤ 1 := by omega
 have i2 : (1 : Int) ≤ 5 := by omega
 have i3 : (5 : Int) ≤ (c : Int) := by omega
 have i4 : (0 : Int) ≤ 9 := by omega
 have i5 : (9 : Int) ≤ (q : Int) + 9 := by omega
 have i6 : (q : Int) + 9 ≤ (c : Int) := by omega
 have i7 : (0 : Int) ≤ 5 := by omega
 have i8 : (5 : Int) ≤ 9 := by omega
 have i9 : (9 : Int) ≤ (c : Int) := by omega
 have e9 : ((q : Int) + 9).toNat - 9 = q := by omega
 have hz32 : z < 4294967296 := by rw [← Hz.out]; exact ze9 a p
 have Hwz : Hid (IntKind.u64.wrap (z : Int) = (z : Int)) := hJ (by simp [IntKind.wrap, IntKind.bits, IntKind.signed]; omega)
 have Hsum : Hid (4294967295 - xY 4294967295 (a ++ p) = z) := hJ (by rw [zpJ, Hz.out])
 go_enter Tryz.func117, Tryz.ntmps117
 go_wp2_with fail
 refine (zd9 w T _ a hs1 (by rw [Hl1.out]; omega)).mono ?_
 rintro e w1 ⟨rfl, rfl⟩
 rw [Hq.out]
 go_upto_region 8 with fail
 go_cut [7] (fun s7 wx => ∃ A3 c3, s7 = .slice A3 (4 + q) c3 ∧ Byt wx (zZ w.heap.size) (.slice A3 (4 + q) c3) (a ++ p) ∧ Ext w wx)
 case first =>
  refine wp_region_held_drew (S := (fun w2 : World => Ext w w2)) (by kernel_rfl) (Mod.refl _ w).drew (fun hS => ?_)
  iterate 6
   (first | refine tkI 0 (some 34) rfl rfl ?_ hS ?_ ?_ | refine tkI 1 (some 35) rfl rfl ?_ hS ?_ ?_ | refine tkI 2 (some 36) rfl rfl ?_ hS ?_ ?_ | refine tkI 4 (some 38) rfl rfl ?_ hS ?_ ?_ | refine tkI 5 (some 39) rfl rfl ?_ hS ?_ ?_ | refine tkI 6 (some 40) rfl rfl ?_ hS ?_ ?_); rotate_left; · rintro W' hm'; go_simp; try rfl
   try simp only [pL]
  refine xJ 3 rfl (fun K hK => ?_)
  refine zcQ rfl _ _ rfl (.slice none 0 0) [] w rfl (HN0.out.ext hS) hS T _ a rfl (hs1.ext hS) (by rw [Hl1.out]; simp) ?_
  intro A2 n2 c2 w2 hn2 hN2 hX2 _ _
  obtain rfl : n2 = 4 := by rw [hn2, List.nil_append]; exact Hl1.out
  have HN2 := hJ hN2
  clear hn2 hN2 hS
  refine hK.out _ _ (hX2) (fun hS => ?_)
  clear hK K
  try simp only [pL]
  refine xJ 7 rfl (fun K hK => ?_)
  refine zcQ rfl _ _ rfl (.slice A2 4 c2) a w rfl HN2.out hS T _ p rfl (hs9.ext hS) (by rw [Hl1.out, Hl9.out]; omega) ?_
  intro A3 n3 c3 w3 hn3 hN3 hX3 _ _
  obtain rfl : n3 = 4 + q := by rw [hn3, List.length_append, Hl1.out, Hl9.out]
  have HN3 := hJ hN3
  clear hn3 hN3 hS HN2 hX2
  refine hK.out _ _ (hX3) (fun hS => ?_)
  clear hK K
  try simp only [pL]
  refine tkH 8 (some 7) rfl rfl ?_ hS ?_ ?_; rotate_left; · rintro W' hm'; go_simp; try rfl
  try simp only [pL]
  refine wpAnyH_done (by kernel_rfl) ?_ _
  go_wp2_with fail
  go_meet
  exact ⟨A3, c3, rfl, HN3.out.sl, hS⟩
 obtain ⟨A3, c3, rfl, hB3, hS⟩ := hcut
 obtain ⟨w3, hw3⟩ : ∃ w3, wc = w3 := ⟨_, rfl⟩
 rw [hw3] at hB3 hS ⊢
 have HB3 := hJ hB3
 have HX3 := hJ hS
 have Hal : Hid ((a ++ p).length = 4 + q) := hJ (by rw [List.length_append, Hl1.out, Hl9.out])
 have t5 := hs5.ext hS
 have t9 := hs9.ext hS
 clear hs1 hs5 hs9 hS HN0 hB3 hw3
 go_upto_region 9 with fail
 go_cut [48] (fun s48 wx => s48 = .bool ((z : Int) != (y : Int)) ∧ Ext w3 wx)
 case first =>
  go_region_held3 (fun w2 => Ext w3 w2) (first | exact (Mod.refl _ _).drew | exact hX)
   (first
    | (go_at_call 153; refine Calls.mono (r2_sum _ _ _ _ _ (a ++ p) (by first | exact HB3.out.drew | exact HB3.out.ext hX) Hal.out (by omega)) ?_; rintro e w4 ⟨rfl, hE4⟩; have hX : Ext w3 w4 := Mod.ext (by first | exact (Mod.refl _ _).drew | exact hX) (ext_eq hE4); rw [Hsum.out])
    | (go_at_call 152; refine Calls.mono (zd9 _ T _ d (by first | exact t5.drew | exact t5.ext hX) (by rw [Hl5'.out]; omega)) ?_; rintro e w4 ⟨rfl, hE4⟩; have hX : Ext w3 w4 := Mod.ext (by first | exact (Mod.refl _ _).drew | exact hX) (ext_eq hE4); rw [Hy.out]))
  all_goals
   go_wp2_with fail
   go_meet
   exact ⟨by first | rfl | rw [Hwz.out], hX⟩
 obtain ⟨rfl, hX⟩ := hcut
 have t9 := t9.ext hX
 have HE := hJ (HX3.out.ext hX)
 clear hX t5 HB3
 by_cases hzy : z = y
 rotate_left
 ·
  have hd : ((z : Int) != (y : Int)) = true := by simp; omega
  have H1 := hJ (show xD l = none by rw [Hr2.out, if_pos hzy])
  clear hzy
  rw [hd]
  go_wp2
  go_ret3
  exact zc8.no H1.out rfl HE.out
 have hd : ((z : Int) != (y : Int)) = false := by simp; omega
 have H1 := hJ (show xD l = some (p, 9 + q) by rw [Hr2.out, if_neg (by simpa using hzy)])
 clear hzy
 rw [hd]
 have hN : yO wc wc (.slice none 0 0) [] := ⟨World.ownsRow_nil _ _ _ _, by simp [Value.ownBlock]⟩
 go_wp2_with (at_builtin; refine zW rfl _ _ rfl (.slice none 0 0) [] wc rfl hN (Mod.refl _ wc) _ _ p rfl t9 (by rw [Hl9.out]; simp only [List.length_nil]; omega) ?_)
 intro A4 n4 c4 w4 hn4 hN4 hX4 _ _
 have en : n4 = q := by rw [hn4]; exact Hl9.out
 subst en
 have HN4 := hJ (hN4.up HE.out)
 have HX4 := hJ (HE.out.ext hX4)
 clear hn4 hN4 hX4 hN t9
 go_wp2
 go_ret3
 unfold zc8
 rw [H1.out]
 exact ⟨HX4.out, A4, n4, c4, by show Ending.returned (.tuple #[.slice A4 n4 c4, .int .i64 ((n4 : Int) + 9), .bool true]) = _; rw [show (n4 : Int) + 9 = ((9 + n4 : Nat) : Int) by omega], Hl9.out, rfl, by simpa using HN4.out⟩
theorem r2_scan (w : World) (T : Nat → Prop) (A : Option Addr) (n c : Nat) (l : List UInt8) (h : Byt w T (.slice A n c) l) (hn : l.length = n) (hnl : n ≤ 1000000) :
  Calls Tryz.prog 92 #[.slice A n c] w fun e w' => ∃ v xs, e = .returned (.tuple #[v, .int .i64 ((yY l).2 : Int)]) ∧ zd2 w w' v xs (yY l).1 ∧ Ext w w' := by
 obtain ⟨i0, hi, hz0, hz1, hz2⟩ := info_parts zl3
 obtain ⟨hln, hnc, hcm, _⟩ := qE h
 have Hn := hJ hn
 have H := hJ h
 clear hn h hln
 go_enter Tryz.func92, Tryz.ntmps92
 go_wp2_with fail
 go_loopw [4, 5] (fun v iv wr => ∃ (o k q : Nat) (A1 : Option Addr) (xs : List Value) (ps : List (List UInt8)), o ≤ n ∧ iv = .int .i64 o ∧ v = .slice A1 k q ∧ ps.length = k ∧ k ≤ o ∧ zd2 w wr (.slice A1 k q) xs ps ∧ Ext w wr ∧ yY l = (ps ++ (yY (l.drop o)).1, o + (yY (l.drop o)).2)) (fun _ iv _ => n - (intOf iv).toNat)
 case atStart => exact ⟨0, 0, 0, none, [], [], by omega, rfl, rfl, rfl, by omega, zjB w w, Mod.refl _ w, by simp⟩
 obtain ⟨o, k, q, A1, xs, ps, hon, rfl, rfl, hpk, hko, hN, hE, hsc⟩ := hrel
 have hb : Byt wr T (.slice (cutA A o c 1) (n - o) (c - o)) (l.drop o) := by
  have h1 := H.out.ext hE
  unfold Byt at h1 ⊢
  rw [Hn.out] at h1
  have h2 := Sl.cutA h1 (m := o) hon
  rw [List.length_drop, Hn.out, List.map_drop]
  simpa using h2
 have hdl : (l.drop o).length = n - o := by rw [List.length_drop, Hn.out]
 have j0 : (0 : Int) ≤ (o : Int) := by omega
 have j1 : (o : Int) ≤ (n : Int) := by omega
 have HN := hJ hN
 have HE := hJ hE
 have Hsc := hJ hsc
 have Hdl := hJ hdl
 have Hpk := hJ hpk
 clear hN hE hsc hdl hpk
 go_wp2_with fail
 refine (r2_first wr T _ _ _ _ hb Hdl.out (by omega)).mono ?_
 rintro e w1 ⟨hE1, he⟩
 have HE1 := hJ (HE.out.ext hE1)
 have HN1 := hJ (HN.out.ext hE1)
 clear hb
 rcases hf : xD (l.drop o) with _ | ⟨p, m⟩
 ·
  rw [hf] at he
  subst he
  have hs : yY l = (ps, o) := by rw [Hsc.out, zb2 hf]; simp
  have Hs := hJ hs
  clear hf hs
  go_wp2
  go_ret2
  exact ⟨.slice A1 k q, xs, by rw [Hs.out]; rfl, by rw [Hs.out]; exact HN1.out, HE1.out⟩
 rw [hf] at he
 obtain ⟨A2, k2, c2, rfl, hp2, hm2, hN2⟩ := he
 obtain ⟨_, hml, _⟩ := zaT hf
 rw [Hdl.out] at hml
 have hs : yY l = ((ps ++ [p]) ++ (yY (l.drop (o + m))).1, (o + m) + (yY (l.drop (o + m))).2) := by
  rw [Hsc.out, zb3 hf, List.drop_drop]
  simp only [List.append_assoc, List.singleton_append, Nat.add_assoc]
 have Hs := hJ hs
 have HN2 := hJ (hN2.up HE.out)
 have Hp2 := hJ hp2
 clear hf hs hN2 hp2 Hsc HN HE
 have Ha : Hid (Sl (w1.alloc (.cells #[.slice A2 k2 c2] 25)) (fun _ => True) 1 (.slice (some ⟨w1.heap.size, 0, none⟩) 1 1) 1 [.slice A2 k2 c2]) := hJ (Sl.of_own (zf6 w1 25 1 1 [.slice A2 k2 c2] rfl (by decide)) (fun _ _ => trivial))
 have HEa : Hid (Ext w1 (w1.alloc (.cells #[.slice A2 k2 c2] 25))) := hJ ((Mod.refl _ w1).alloc _)
 have Ho : Hid ((w1.alloc (.cells #[.slice A2 k2 c2] 25)).ownsRow 0 25 1 (.slice A1 k q) k xs) := hJ (by have h1 := (HN1.out.ext HEa.out).1; rw [Hpk.out] at h1; exact h1)
 go_wp2_with (at_builtin; go_must (refine yA _ rfl _ _ 90 rfl 25 i0 _ 1 24 Tryz.underlying90 hi hz0 hz1 hz2 rfl (by omega) (.slice A1 k q) k xs rfl Ho.out _ _ 1 [.slice A2 k2 c2] rfl Ha.out (by intro u hu; simp only [List.mem_singleton] at hu; subst hu; rfl) (by simp only [maxLen]; omega) (by omega) ?_))
 intro v3 w3 ho3 hgr3 hat3
 obtain ⟨hN3, hE3⟩ := zjC (HN1.out.ext HEa.out) (HE1.out.ext HEa.out) Hpk.out (HN2.out.ext HEa.out) Hp2.out ho3 hgr3 (by simpa using hat3)
 obtain ⟨A3, c3, rfl⟩ := zN ho3
 have HN3 := hJ hN3
 have HE3 := hJ hE3
 clear hN3 hE3 ho3 hgr3 hat3
 have iw : IntKind.i64.wrap ((o : Int) + (m : Int)) = ((o + m : Nat) : Int) := by rw [IntWalk.i64_in _ (by omega)]; omega
 go_wp2_with fail
 go_roundw
 case rel => exact ⟨o + m, k + 1, _, _, xs ++ [.slice A2 k2 c2], ps ++ [p], by omega, by go_num, rfl, by rw [List.length_append, Hpk.out]; rfl, by omega, HN3.out, HE3.out, Hs.out⟩
 case measure => simp [intOf]; omega
end Go.Proofs.YtjhnlncgmejkcaaGreat
set_option maxRecDepth 100000
set_option maxHeartbeats 2000000
namespace Go.Proofs.YtjhnlncgmejkcaaGreat
set_option linter.unusedSimpArgs false
open Go.RowKit
theorem zkU {h : zC} (r : Right h) (ho : ∀ x ∈ h.log, x.ok) : hardP h.term h.vote h.base h.baseTerm h.conf h.snap h.log = if 16384 < h.enc.length then ([], 2) else (h.enc, 0) := by
 have ha : h.log.all zcK = true := List.all_eq_true.2 (fun x hx => (jB (jH r.r x hx) (ho x hx)).1.2.1)
 unfold hardP za0
 rw [if_pos ha]
 rfl
theorem zkV {h : zC} (r : Right h) (ho : ∀ x ∈ h.log, x.ok) : ∀ x ∈ h.log, x.small := fun x hx => by
 obtain ⟨_, _, h1, h2, h3⟩ := (jB (jH r.r x hx) (ho x hx)).1
 exact ⟨by omega, by omega, by omega⟩
theorem zp7 {h : zC} (r : Right h) (ho : ∀ x ∈ h.log, x.ok) : ∀ x ∈ h.log, (xT x).length ≤ 400 := fun x hx => by
 have h1 := (jB (jH r.r x hx) (ho x hx)).2
 omega
theorem zeA (w : World) (T : Nat → Prop) (A : Option Addr) (n c : Nat) (kv : Int) (k : UInt8) (b : List UInt8) (hk : kv = (k.toNat : Int)) (h : Byt w T (.slice A n c) b) (hn : b.length = n) (hnl : n ≤ 1000000) :
  Calls Tryz.prog 116 #[.int .u8 kv, .slice A n c] w fun e w' => ∃ v, e = .returned (.tuple #[v, .int .i64 (zeZ k b).2]) ∧ yO w w' v (zeZ k b).1 ∧ Ext w w' := by
 subst hk
 by_cases hL : 16384 < n + 1
 ·
  have Hr : Hid (zeZ k b = ([], 2)) := hJ (by unfold zeZ; rw [if_pos (by rw [hn]; exact hL)])
  have hd : decide ((16384 : Int) < (n : Int) + 1) = true := by simp; omega
  have hd2 : (16384 : Int) < (n : Int) + 1 := by omega
  clear h hn hL
  go_enter Tryz.func116, Tryz.ntmps116
  go_wp2
  go_ret2
  rw [Hr.out]
  exact ⟨_, rfl, ⟨World.ownsRow_nil _ _ _ _, by simp [Value.ownBlock]⟩, Mod.refl _ _⟩
 have Hr : Hid (zeZ k b = (zR (k :: b), 0)) := hJ (by unfold zeZ; rw [if_neg (by rw [hn]; exact hL)])
 have hd2 : ¬ (16384 : Int) < (n : Int) + 1 := by omega
 obtain ⟨w1, hw1⟩ : ∃ w1, w.alloc (.cells #[.int .u8 (k.toNat : Int)] 5) = w1 := ⟨_, rfl⟩
 have hN1 : yO w w1 (.slice (some ⟨w.heap.size, 0, none⟩) 1 1) [k] := by rw [← hw1]; exact zfE w [k] 1 _ rfl (by decide) rfl
 have hE1 : Ext w w1 := by rw [← hw1]; exact (Mod.refl _ w).alloc _
 have hN0 : yO w w1 (.slice none 0 0) [] := ⟨World.ownsRow_nil _ _ _ _, by simp [Value.ownBlock]⟩
 rw [← hw1] at hN1 hE1 hN0
 have HN1 := hJ (yO.sl (w := w) hN1)
 have HN0 := hJ hN0
 have HE1 := hJ hE1
 have Hn := hJ hn
 have H := hJ h
 clear hw1 hN1 hE1 hn h hN0
 go_enter Tryz.func116, Tryz.ntmps116
 go_wp2_with (at_builtin; refine zW rfl _ _ rfl (.slice none 0 0) [] w rfl HN0.out HE1.out _ _ [k] rfl HN1.out (by simp) ?_)
 rintro A4 n4 c4 w4 hn4 hN4 hE4 _ _
 obtain rfl : n4 = 1 := hn4
 have HN4 := hJ hN4
 have HE4 := hJ hE4
 have Hb := hJ (H.out.ext hE4)
 clear hN4 hE4
 go_wp2_with (at_builtin; refine zW rfl _ _ rfl (.slice A4 1 c4) [k] w rfl HN4.out HE4.out T _ b rfl Hb.out (by rw [Hn.out]; simp only [List.length_cons, List.length_nil]; omega) ?_)
 rintro A5 n5 c5 w5 hn5 hN5 hE5 _ _
 have hl5 : (k :: b).length = n5 := by rw [hn5]; rfl
 have hn6 : n5 = n + 1 := by rw [← hl5, List.length_cons, Hn.out]
 have hb5 : Byt w5 (zZ w.heap.size) (.slice A5 n5 c5) (k :: b) := yO.sl (w := w) hN5
 have HE5 := hJ hE5
 have Hl5 := hJ hl5
 have Hb5 := hJ hb5
 have Hn6 := hJ hn6
 clear hN5 hn5 hE5 hl5 hb5 hn6
 go_wp2_with fail
 refine (r2_seal w5 _ A5 n5 c5 (k :: b) Hb5.out Hl5.out (by have := Hn6.out; omega)).mono ?_
 rintro e w6 ⟨A6, c6, rfl, hN6, hE6⟩
 have HN6 := hJ (hN6.up HE5.out)
 have HE6 := hJ (HE5.out.ext hE6)
 clear hN6 hE6
 go_wp2
 go_ret2
 rw [Hr.out]
 exact ⟨_, rfl, HN6.out, HE6.out⟩
theorem zjJ (w : World) (T : Nat → Prop) (h : zC) (sv lv : Value) (hv : zY w T sv lv h) (hr : Right h) (hl : h.log.length ≤ 12700) :
  Calls Tryz.prog 90 #[.agg #[.int .i64 h.term, .int .i64 h.vote, .int .i64 h.base, .int .i64 h.baseTerm, .int .i64 h.conf.full, .int .i64 h.conf.wit, .int .i64 h.conf.learn, .int .i64 h.conf.learnWit, sv, lv]] w fun e w' => ∃ v, e = .returned (.tuple #[v, .int .i64 (zeU h).2]) ∧ yO w w' v (zeU h).1 ∧ Ext w w' := by
 obtain ⟨W, hW⟩ : ∃ W, w.alloc (.cells (h.cells sv lv).toArray 34) = W := ⟨_, rfl⟩
 have hE : Ext w W := by rw [← hW]; exact (Mod.refl _ w).alloc _
 have hA : W.heap[w.heap.size]? = some (.cells (h.cells sv lv).toArray 34 (0, 0)) := by rw [← hW]; exact heap_alloc_new w _
 have hld := zF (P := Tryz.prog) (o := 0) (cs := h.cells sv lv) zA hA rfl (fun j u hu => by rw [Nat.zero_add]; exact hu)
 have hv1 : zY W (fun g => T g ∧ g < W.heap.size) sv lv h := (hv.mod hE (fun _ _ => id)).cap
 have ht := zkU hr hv.2.2
 have Hsm := hJ (zkV hr hv.2.2)
 have Hsk := hJ (zp7 hr hv.2.2)
 have HW := hJ hW
 have HE := hJ hE
 have Ht := hJ ht
 have Hv1 := hJ hv1
 obtain ⟨As, cs, Al, cl, rfl, rfl⟩ := hv.forms
 obtain ⟨sl, hsl⟩ : ∃ n, h.snap.length = n := ⟨_, rfl⟩
 obtain ⟨ll, hll⟩ : ∃ n, h.log.length = n := ⟨_, rfl⟩
 have Hl := hJ hl
 rw [hsl, hll] at Hv1 HW hld ⊢
 clear hW hE hA ht hv hv1 hsl hll hl
 go_enter Tryz.func90, Tryz.ntmps90
 go_wp2_with (rw [HW.out]; refine zG rfl 34 _ rfl _ _ rfl hld ?_)
 clear hld
 refine (p_Hard W _ h _ _ Hv1.out hr.ok Hsm.out Hl.out 400 Hsk.out (by have h1 := Nat.mul_le_mul_right 400 Hl.out; omega) (fun g hg => hg.2)).mono ?_
 rintro e w1 ⟨v, rfl, hN1, hE1⟩
 rw [Ht.out] at hN1 ⊢
 by_cases hL : 16384 < h.enc.length
 ·
  rw [if_pos hL] at hN1 ⊢
  have Ha : Hid (zeU h = ([], 2)) := hJ (by unfold zeU; rw [if_pos (by omega)])
  have HE1 := hJ (HE.out.ext hE1)
  clear hN1 hE1 hL
  go_wp2
  go_ret2
  rw [Ha.out]
  exact ⟨_, rfl, ⟨World.ownsRow_nil _ _ _ _, by simp [Value.ownBlock]⟩, HE1.out⟩
 rw [if_neg hL] at hN1 ⊢
 obtain ⟨A1, c1, rfl⟩ := zN hN1.1
 have hb1 : Byt w1 (zZ W.heap.size) (.slice A1 h.enc.length c1) h.enc := yO.sl (w := W) hN1
 obtain ⟨n, hn⟩ : ∃ n, h.enc.length = n := ⟨_, rfl⟩
 rw [hn] at hb1 hL
 simp only [hn]
 have Hn := hJ hn
 have Hb1 := hJ hb1
 have HE1 := hJ (HE.out.ext hE1)
 clear hN1 hE1 hn hb1
 go_wp2_with fail
 refine (zeA w1 _ A1 n c1 1 1 h.enc rfl Hb1.out Hn.out (by omega)).mono ?_
 rintro e w2 ⟨v2, rfl, hN2, hE2⟩
 have Ha : Hid (zeZ 1 h.enc = zeU h) := hJ (by
  unfold zeZ zeU
  by_cases h1 : 16384 ≤ h.enc.length
  · rw [if_pos h1, if_pos (by omega)]
  rw [if_neg h1, if_neg (by omega)])
 rw [Ha.out] at hN2 ⊢
 have HN2 := hJ (hN2.up HE1.out)
 have HE2 := hJ (HE1.out.ext hE2)
 clear hN2 hE2
 go_wp2
 go_ret2
 exact ⟨_, rfl, HN2.out, HE2.out⟩
def QtB (w : World) (s d : Nat) (g : zC) (sv lv : Value) : Prop := w.heap[s]? = some (.cells #[.pointer (some ⟨d, 0, none⟩), .int .i64 g.term, .int .i64 g.vote, .int .i64 g.base, .int .i64 g.baseTerm, .int .i64 g.conf.full, .int .i64 g.conf.wit, .int .i64 g.conf.learn, .int .i64 g.conf.learnWit, sv, lv] 76 (0, 0))
theorem Qsk.ne {w : World} {d b : Nat} {fv : Value} {D : zJ} {t : TypeId} {cs : Array Value} {q : Nat × Nat} (h : Qsk w d fv D) (hb : w.heap[b]? = some (.cells cs t q)) (ht : t ≠ 67) : b ≠ d := fun e => by
 have h1 := h.1
 rw [← e, hb] at h1
 injection h1 with h1
 injection h1 with _ h1
 exact ht h1
theorem zmE (w : World) (T : Nat → Prop) (s d : Nat) (g h : zC) (gs gl sv lv fv : Value) (D : zJ) (hS : QtB w s d g gs gl) (hD : Qsk w d fv D) (hv : zY w T sv lv h) (hr : Right h) (hl : h.log.length ≤ 12700) :
  Calls Tryz.prog 122 #[.pointer (some ⟨s, 0, none⟩), .agg #[.int .i64 h.term, .int .i64 h.vote, .int .i64 h.base, .int .i64 h.baseTerm, .int .i64 h.conf.full, .int .i64 h.conf.wit, .int .i64 h.conf.learn, .int .i64 h.conf.learnWit, sv, lv]] w fun e w' => e = .returned (.int .i64 (xG D h).2) ∧ QM w d fv (xG D h).1 w' := by
 obtain ⟨W, hW⟩ : ∃ W, w.alloc (.cells (h.cells sv lv).toArray 34) = W := ⟨_, rfl⟩
 have hE : Ext w W := by rw [← hW]; exact (Mod.refl _ w).alloc _
 have hA : W.heap[w.heap.size]? = some (.cells (h.cells sv lv).toArray 34 (0, 0)) := by rw [← hW]; exact heap_alloc_new w _
 have hld := zF (P := Tryz.prog) (o := 0) (cs := h.cells sv lv) zA hA rfl (fun j u hu => by rw [Nat.zero_add]; exact hu)
 have hv1 : zY W T sv lv h := hv.mod hE (fun _ _ => id)
 have HW := hJ hW
 have HE := hJ hE
 have Hv1 := hJ hv1
 have HS := hJ hS
 have HD := hJ hD
 obtain ⟨As, cs, Al, cl, rfl, rfl⟩ := hv.forms
 obtain ⟨sl, hsl⟩ : ∃ n, h.snap.length = n := ⟨_, rfl⟩
 obtain ⟨ll, hll⟩ : ∃ n, h.log.length = n := ⟨_, rfl⟩
 have Hl := hJ hl
 have Ha := hJ (zgC D h)
 rw [hsl, hll] at Hv1 HW hld ⊢
 clear hW hE hA hv hv1 hsl hll hl hS hD
 go_enter Tryz.func122, Tryz.ntmps122
 go_wp2_with (rw [HW.out]; refine zG rfl 34 _ rfl _ _ rfl hld ?_)
 clear hld
 refine (zjJ W T h _ _ Hv1.out hr Hl.out).mono ?_
 rintro e w1 ⟨v, rfl, hN1, hE1⟩
 have HE1 := hJ (HE.out.ext hE1)
 have c0 : w1.cell? ⟨s, 0, none⟩ = some (.pointer (some ⟨d, 0, none⟩)) := zB (cs := [.pointer (some ⟨d, 0, none⟩), .int .i64 g.term, .int .i64 g.vote, .int .i64 g.base, .int .i64 g.baseTerm, .int .i64 g.conf.full, .int .i64 g.conf.wit, .int .i64 g.conf.learn, .int .i64 g.conf.learnWit, gs, gl]) (HE1.out.blk HS.out id) rfl
 by_cases hL : 16384 ≤ h.enc.length
 ·
  have Hp : Hid (zeU h = ([], 2)) := hJ (by unfold zeU; rw [if_pos hL])
  have Hq : Hid (xG D h = (D, 2)) := hJ (by rw [Ha.out, if_pos hL])
  rw [Hp.out] at hN1 ⊢
  clear hN1 hE1 hL
  go_wp2
  go_ret
  rw [Hq.out]
  exact ⟨rfl, QM.same HD.out HE1.out⟩
 have Hp : Hid (zeU h = (zR (1 :: h.enc), 0)) := hJ (by unfold zeU; rw [if_neg hL])
 have Hq : Hid (xG D h = D.replace (zR (1 :: h.enc))) := hJ (by rw [Ha.out, if_neg hL, Hp.out])
 rw [Hp.out] at hN1 ⊢
 have HN1 := hJ (yO.sl (w := W) hN1)
 obtain ⟨A1, c1, rfl⟩ := zN hN1.1
 have hbl : (zR (1 :: h.enc)).length ≤ 100000000 := by rw [yL, List.length_cons]; omega
 have hsd : d < W.heap.size := Nat.lt_of_lt_of_le HD.out.lt HE.out.size
 obtain ⟨fl, hfl⟩ : ∃ fl, (zR (1 :: h.enc)).length = fl := ⟨_, rfl⟩
 rw [hfl] at HN1
 simp only [hfl]
 clear hN1 hE1 hL
 go_wp2_with fail
 refine (zgD w1 d fv D (HD.out.ext HE1.out) _ _ (zR (1 :: h.enc)) HN1.out hbl (fun g hg e => by unfold zZ at hg; omega)).mono ?_
 rintro e w2 ⟨rfl, hM⟩
 have HM : Hid (QM w d fv (xG D h).1 w2) := hJ (by rw [Hq.out]; exact QM.trans (Ext.mod HE1.out _) (fun g hg => .inl hg) hM)
 rw [← Hq.out]
 clear hM
 go_wp2
 go_ret
 exact ⟨rfl, HM.out⟩
end Go.Proofs.YtjhnlncgmejkcaaGreat
