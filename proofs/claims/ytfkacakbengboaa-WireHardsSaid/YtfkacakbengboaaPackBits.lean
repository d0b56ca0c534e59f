/-
 Bits: what the walks of package pack leave, as plain numbers. No program is named here. Conditions: as each theorem names them.
-/
import Derived.Test.YtfkacakbengboaaGSpec
import Derived.Lib.Zigzag
import Derived.Lib.Varint
import Derived.Lib.VarintBits
import Derived.IntWalk
namespace Go.Proofs.Ytfkacakbengboaa

theorem wrap_u64 (n : Int) : IntKind.u64.wrap n = n % 18446744073709551616 := by simp [IntKind.wrap, IntKind.bits, IntKind.signed]

theorem zig_lt {n : Int} (h0 : -9223372036854775808 ≤ n) (h1 : n ≤ 9223372036854775807) : zig n < 18446744073709551616 := by
 unfold zig; split <;> omega

theorem zig_bits (n : Int) (h0 : -9223372036854775808 ≤ n) (h1 : n ≤ 9223372036854775807) :
  bits BinOp.xor IntKind.u64 (IntKind.u64.wrap (IntKind.u64.wrap n * 2)) (IntKind.u64.wrap (n / 9223372036854775808)) = (zig n : Int) := by
 simp only [wrap_u64]
 by_cases hn : n < 0
 ·
  have e1 : n / 9223372036854775808 = -1 := by omega
  have e2 : (n % 18446744073709551616 * 2) % 18446744073709551616 = ((18446744073709551616 - 2 * (-n).toNat : Nat) : Int) := by omega
  have e3 : (-1 : Int) % 18446744073709551616 = ((18446744073709551615 : Nat) : Int) := by decide
  rw [e1, e2, e3, u64_xor_nat _ _ (by omega) (by omega)]
  have := Lib.xor_ones64 (18446744073709551616 - 2 * (-n).toNat) (by omega)
  rw [Nat.xor_comm]
  have e4 : (2 : Nat) ^ 64 - 1 = 18446744073709551615 := by decide
  rw [e4] at this
  rw [this]
  unfold zig
  rw [if_pos hn]
  omega
 ·
  have e1 : n / 9223372036854775808 = 0 := by omega
  have e2 : (n % 18446744073709551616 * 2) % 18446744073709551616 = ((2 * n.toNat : Nat) : Int) := by omega
  have e3 : (0 : Int) % 18446744073709551616 = ((0 : Nat) : Int) := by decide
  rw [e1, e2, e3, u64_xor_nat _ _ (by omega) (by omega)]
  unfold zig
  rw [if_neg hn]
  simp
  omega

theorem int_none {l : List UInt8} (h : rdVar 0 0 l = none) : RS.int ⟨l, 0⟩ = (0, ⟨l, 3⟩) := by simp [RS.int, h]
theorem int_some {l r : List UInt8} {z : Nat} (h : rdVar 0 0 l = some (z, r)) : RS.int ⟨l, 0⟩ = (zag z, ⟨r, 0⟩) := by simp [RS.int, h]
theorem drop_at {l : List UInt8} {i : Nat} {x : UInt8} (h : l[i]? = some x) : l.drop i = x :: l.drop (i + 1) := by
 obtain ⟨hi, rfl⟩ := List.getElem?_eq_some_iff.1 h
 exact List.drop_eq_getElem_cons hi
theorem rd_none1 {l : List UInt8} {i z m : Nat} {x : UInt8} (h : l[i]? = some x) (hm : x.toNat = m) (h1 : i = 9 ∧ 1 < m ∨ m = 0 ∧ 0 < i) : rdVar i z (l.drop i) = none := by
 rw [drop_at h, rdVar, hm]
 rcases h1 with h1 | h1
 ·
  rw [if_pos h1]
 ·
  split
  ·
   rfl
  ·
   simp [h1]
theorem rd_end {l : List UInt8} {i z m : Nat} {x : UInt8} (h : l[i]? = some x) (hm : x.toNat = m) (h1 : ¬ (i = 9 ∧ 1 < m)) (h2 : ¬ (m = 0 ∧ 0 < i)) (h3 : m < 128) : rdVar i z (l.drop i) = some (z + m % 128 * 2 ^ (7 * i), l.drop (i + 1)) := by
 rw [drop_at h, rdVar, hm, if_neg h1, if_pos h3, if_neg h2]
theorem rd_more {l : List UInt8} {i z m : Nat} {x : UInt8} (h : l[i]? = some x) (hm : x.toNat = m) (h1 : ¬ (i = 9 ∧ 1 < m)) (h3 : 128 ≤ m) : rdVar i z (l.drop i) = rdVar (i + 1) (z + m % 128 * 2 ^ (7 * i)) (l.drop (i + 1)) := by
 rw [drop_at h, rdVar, hm, if_neg h1, if_neg (by omega)]

/-- The byte that 'byte(z)|0x80' is. -/
theorem or128 (z : Nat) : Value.int .u8 (bits BinOp.or IntKind.u8 ((z : Int) % 256) 128) = B (UInt8.ofNat (z % 128 + 128)) := by
 rw [Lib.u8_or128_any _ (by omega) (by omega)]
 unfold B
 simp
 omega
theorem low8 (z : Nat) (h : z < 256) : Value.int .u8 (z : Int) = B (UInt8.ofNat z) := by
 unfold B
 simp
 omega

theorem low8m (z : Nat) : Value.int .u8 ((z : Int) % 256) = B (UInt8.ofNat (z % 256)) := by
 unfold B
 simp
theorem low8w (y k : Nat) : Value.int .u8 (IntKind.u8.wrap ((y : Int) / 256 ^ k)) = B (UInt8.ofNat (y / 256 ^ k % 256)) := by
 rw [← low8m, IntKind.wrap_u8']
 have : ((y : Int) / 256 ^ k) = ((y / 256 ^ k : Nat) : Int) := by simp
 rw [this]
theorem wrap8k (k : Nat) (h : k ≤ 8) : IntKind.i64.wrap (8 * (k : Int)) = 8 * (k : Int) := IntWalk.i64_in _ (by omega)
theorem run_shr8 {P : Program} (y k : Nat) (h : k < 8) (W : World) : (Op.shift BinOp.shr .u64 (y : Int) .i64 (IntKind.i64.wrap (8 * (k : Int)))).run P W = .ok (.int .u64 ((y / 256 ^ k : Nat) : Int)) W := by
 rw [wrap8k k (by omega)]
 have e : min (8 * (k : Int)).toNat IntKind.u64.bits = 8 * k := by simp [IntKind.bits]; omega
 have e2 : (2 : Int) ^ (8 * k) = ((256 ^ k : Nat) : Int) := by rw [Int.pow_mul]; simp
 simp only [Op.shift]
 rw [if_neg (by omega)]
 simp only [e, e2]
 rw [Int.fdiv_eq_ediv_of_nonneg _ (Int.natCast_nonneg _)]
 rfl

open RowKit (wrap64)
theorem xor_comm_i64 (x y : Int) : bits .xor .i64 x y = bits .xor .i64 y x := by
 show IntKind.i64.wrap ((BitVec.ofInt 64 x ^^^ BitVec.ofInt 64 y).toNat : Int) = IntKind.i64.wrap ((BitVec.ofInt 64 y ^^^ BitVec.ofInt 64 x).toNat : Int)
 rw [BitVec.xor_comm]
theorem zag_bits (z : Nat) (h : z < 18446744073709551616) : bits .xor .i64 (wrap64 ((z : Int) / 2)) (wrap64 (-wrap64 (bits .and .u64 (z : Int) 1))) = zag z := by
 rw [Lib.u64_and1 _ (by omega) (by omega)]
 rw [IntWalk.wrap64_in ((z : Int) / 2) (by omega), IntWalk.wrap64_in ((z : Int) % 2) (by omega), IntWalk.wrap64_in (-((z : Int) % 2)) (by omega)]
 unfold zag
 rcases Nat.mod_two_eq_zero_or_one z with h2 | h2
 ·
  rw [if_neg (by omega)]
  have e : -((z : Int) % 2) = 0 := by omega
  have e1 : (z : Int) / 2 = ((z / 2 : Nat) : Int) := by omega
  rw [e, e1]
  show IntKind.i64.wrap ((BitVec.ofInt 64 ((z / 2 : Nat) : Int) ^^^ BitVec.ofInt 64 0).toNat : Int) = _
  have h3 : (BitVec.ofInt 64 ((z / 2 : Nat) : Int)).toNat = z / 2 := by
   rw [BitVec.ofInt_natCast, BitVec.toNat_ofNat]; exact Nat.mod_eq_of_lt (by omega)
  have h4 : (BitVec.ofInt 64 0).toNat = 0 := by decide
  rw [BitVec.toNat_xor, h3, h4, Nat.xor_zero, IntKind.wrap_i64]
  omega
 ·
  rw [if_pos h2]
  have e : -((z : Int) % 2) = -1 := by omega
  have e1 : (z : Int) / 2 = ((z / 2 : Nat) : Int) := by omega
  rw [e, e1, xor_comm_i64, Lib.i64_not _ (by omega)]
/-- One more byte of a number that is read. -/
theorem or_join (z m i : Nat) (hz : z < 2 ^ (7 * i)) (hm : m < 256) (hi : i ≤ 9) (hi9 : i = 9 → m ≤ 1) :
  bits .or .u64 (z : Int) (IntKind.u64.wrap (IntKind.u64.wrap (bits .and .u8 (m : Int) 127) * 2 ^ (7 * i))) = ((z + m % 128 * 2 ^ (7 * i) : Nat) : Int) ∧
  z + m % 128 * 2 ^ (7 * i) < 18446744073709551616 ∧ (i < 9 → z + m % 128 * 2 ^ (7 * i) < 2 ^ (7 * (i + 1))) := by
 have e0 : bits .and .u8 (m : Int) 127 = ((m % 128 : Nat) : Int) := by rw [u8_and127 (m : Int) (by omega) (by omega)]; omega
 rw [e0, wrap_u64, wrap_u64]
 have e1 : (((m % 128 : Nat) : Int) % 18446744073709551616 * 2 ^ (7 * i)) % 18446744073709551616 = ((m % 128 * 2 ^ (7 * i) : Nat) : Int) ∧ m % 128 * 2 ^ (7 * i) + z < 18446744073709551616 ∧ (i < 9 → z + m % 128 * 2 ^ (7 * i) < 2 ^ (7 * (i + 1))) := by
  have : i = 0 ∨ i = 1 ∨ i = 2 ∨ i = 3 ∨ i = 4 ∨ i = 5 ∨ i = 6 ∨ i = 7 ∨ i = 8 ∨ i = 9 := by omega
  rcases this with rfl | rfl | rfl | rfl | rfl | rfl | rfl | rfl | rfl | rfl <;> simp at hz hi9 ⊢ <;> omega
 obtain ⟨e1, e2, e3⟩ := e1
 rw [e1, u64_or_nat _ _ (by omega) (by omega)]
 refine ⟨?_, by omega, e3⟩
 rw [Nat.or_comm, nat_join (7 * i) _ _ (Nat.mul_mod_left _ _) hz, Nat.add_comm]

theorem or8 (x c : Nat) (hx : x < 72057594037927936) (hc : c < 256) : bits .or .u64 (IntKind.u64.wrap ((x : Int) * 256)) (c : Int) = ((x * 256 + c : Nat) : Int) := by
 rw [wrap_u64, show ((x : Int) * 256) % 18446744073709551616 = ((x * 256 : Nat) : Int) from by omega, u64_or_nat _ _ (by omega) (by omega)]
 rw [nat_join 8 _ _ (by omega) (by omega)]
theorem num8_snoc (l : List UInt8) (c : UInt8) : num8 (l ++ [c]) = num8 l * 256 + c.toNat := by simp [num8]
theorem num8_lt : ∀ (n : Nat) (l : List UInt8), l.length = n → num8 l < 256 ^ n
 | 0, l, h => by rw [List.eq_nil_of_length_eq_zero h]; decide
 | n + 1, l, h => by
  obtain ⟨l', c, rfl⟩ : ∃ l' c, l = l' ++ [c] := ⟨l.dropLast, l.getLast (by intro e; subst e; simp at h), (List.dropLast_concat_getLast _).symm⟩
  have := num8_lt n l' (by simpa using h)
  have hc := c.toNat_lt
  rw [num8_snoc, Nat.pow_succ]
  omega
theorem take_at {l : List UInt8} {i : Nat} {x : UInt8} (h : l[i]? = some x) : l.take (i + 1) = l.take i ++ [x] := by
 obtain ⟨hi, rfl⟩ := List.getElem?_eq_some_iff.1 h
 exact List.take_succ_eq_append_getElem hi

theorem uvF_len : ∀ f z, (uvF f z).length ≤ f + 1
 | 0, _ => by simp [uvF]
 | f + 1, z => by
  unfold uvF; split
  ·
   simp
  ·
   have := uvF_len f (z / 128); simp; omega
theorem encInt_len (n : Int) : (encInt n).length ≤ 10 := uvF_len 9 _
theorem uvF_pos : ∀ f z, 1 ≤ (uvF f z).length
 | 0, _ => by simp [uvF]
 | f + 1, z => by unfold uvF; split <;> simp

end Go.Proofs.Ytfkacakbengboaa
