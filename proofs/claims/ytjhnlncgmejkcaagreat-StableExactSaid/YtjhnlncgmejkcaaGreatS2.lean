/-
  Small words on memory. No program is named here. Conditions: as each theorem names them.
-/
import Derived.Test.YtjhnlncgmejkcaaGreatMem
import Derived.Test.YtjhnlncgmejkcaaGreatGSpec
import Derived.Lib.Zigzag
import Derived.Lib.Varint
import Derived.Lib.VarintBits
import Derived.IntWalk
import Derived.Test.YtjhnlncgmejkcaaGreatRows
import Derived.Test.YtjhnlncgmejkcaaGreatS1
import Derived.Deep.RegionHeld3
import Derived.Deep.RegionLaw
set_option maxRecDepth 100000
set_option maxHeartbeats 400000
namespace Go.Proofs.YtjhnlncgmejkcaaGreat
theorem zc3 {W w1 : World} (hb : Ext W w1) : (∀ b o, b < W.heap.size → w1.cell? ⟨b, o, none⟩ = W.cell? ⟨b, o, none⟩) ∧ (∀ b o, b < W.heap.size → w1.frozen? ⟨b, o, none⟩ = W.frozen? ⟨b, o, none⟩) :=
 ⟨fun b o h => hb.below.cell (p := ⟨b, o, none⟩) h, fun b o h => hb.below.frozen (p := ⟨b, o, none⟩) h⟩
end Go.Proofs.YtjhnlncgmejkcaaGreat
namespace Go.Proofs.YtjhnlncgmejkcaaGreat
theorem qC (n : Int) : IntKind.u64.wrap n = n % 18446744073709551616 := by simp [IntKind.wrap, IntKind.bits, IntKind.signed]
theorem znX {n : Int} (h0 : -9223372036854775808 ≤ n) (h1 : n ≤ 9223372036854775807) : zig n < 18446744073709551616 := by
 unfold zig; split <;> omega
theorem zig_bits (n : Int) (h0 : -9223372036854775808 ≤ n) (h1 : n ≤ 9223372036854775807) :
  bits BinOp.xor IntKind.u64 (IntKind.u64.wrap (IntKind.u64.wrap n * 2)) (IntKind.u64.wrap (n / 9223372036854775808)) = (zig n : Int) := by
 simp only [qC]
 by_cases hn : n < 0
 ·
  have e1 : n / 9223372036854775808 = -1 := by omega
  have e2 : (n % 18446744073709551616 * 2) % 18446744073709551616 = ((18446744073709551616 - 2 * (-n).toNat : Nat) : Int) := by omega
  have e3 : (-1 : Int) % 18446744073709551616 = ((18446744073709551615 : Nat) : Int) := by decide
  rw [e1, e2, e3, u64_xor_nat _ _ (by omega) (by omega)]
  have := Lib.xor_ones64 (18446744073709551616 - 2 * (-n).toNat) (by omega)
  rw [Nat.xor_comm]
  have e4 : (2 : Nat) ^ 64 - 1 = 18446744073709551615 := by decide
  rw [e4] at this
  rw [this]
  unfold zig
  rw [if_pos hn]
  omega
 have e1 : n / 9223372036854775808 = 0 := by omega
 have e2 : (n % 18446744073709551616 * 2) % 18446744073709551616 = ((2 * n.toNat : Nat) : Int) := by omega
 have e3 : (0 : Int) % 18446744073709551616 = ((0 : Nat) : Int) := by decide
 rw [e1, e2, e3, u64_xor_nat _ _ (by omega) (by omega)]
 unfold zig
 rw [if_neg hn]
 simp
 omega
theorem zlD {l : List UInt8} (h : zaY 0 0 l = none) : RS.int ⟨l, 0⟩ = (0, ⟨l, 3⟩) := by simp [RS.int, h]
theorem zhP {l r : List UInt8} {z : Nat} (h : zaY 0 0 l = some (z, r)) : RS.int ⟨l, 0⟩ = (zag z, ⟨r, 0⟩) := by simp [RS.int, h]
theorem zj5 {l : List UInt8} {i : Nat} {x : UInt8} (h : l[i]? = some x) : l.drop i = x :: l.drop (i + 1) := by
 obtain ⟨hi, rfl⟩ := List.getElem?_eq_some_iff.1 h
 exact List.drop_eq_getElem_cons hi
theorem zhQ {l : List UInt8} {i z m : Nat} {x : UInt8} (h : l[i]? = some x) (hm : x.toNat = m) (h1 : i = 9 ∧ 1 < m ∨ m = 0 ∧ 0 < i) : zaY i z (l.drop i) = none := by
 rw [zj5 h, zaY, hm]
 rcases h1 with h1 | h1
 · rw [if_pos h1]
 split
 · rfl
 simp [h1]
theorem rd_end {l : List UInt8} {i z m : Nat} {x : UInt8} (h : l[i]? = some x) (hm : x.toNat = m) (h1 : ¬ (i = 9 ∧ 1 < m)) (h2 : ¬ (m = 0 ∧ 0 < i)) (h3 : m < 128) : zaY i z (l.drop i) = some (z + m % 128 * 2 ^ (7 * i), l.drop (i + 1)) := by
 rw [zj5 h, zaY, hm, if_neg h1, if_pos h3, if_neg h2]
theorem znY {l : List UInt8} {i z m : Nat} {x : UInt8} (h : l[i]? = some x) (hm : x.toNat = m) (h1 : ¬ (i = 9 ∧ 1 < m)) (h3 : 128 ≤ m) : zaY i z (l.drop i) = zaY (i + 1) (z + m % 128 * 2 ^ (7 * i)) (l.drop (i + 1)) := by
 rw [zj5 h, zaY, hm, if_neg h1, if_neg (by omega)]
theorem or128 (z : Nat) : Value.int .u8 (bits BinOp.or IntKind.u8 ((z : Int) % 256) 128) = B (UInt8.ofNat (z % 128 + 128)) := by
 rw [Lib.u8_or128_any _ (by omega) (by omega)]
 unfold B
 simp
 omega
theorem low8 (z : Nat) (h : z < 256) : Value.int .u8 (z : Int) = B (UInt8.ofNat z) := by
 unfold B
 simp
 omega
theorem low8m (z : Nat) : Value.int .u8 ((z : Int) % 256) = B (UInt8.ofNat (z % 256)) := by
 unfold B
 simp
theorem low8w (y k : Nat) : Value.int .u8 (IntKind.u8.wrap ((y : Int) / 256 ^ k)) = B (UInt8.ofNat (y / 256 ^ k % 256)) := by
 rw [← low8m, IntKind.wrap_u8']
 have : ((y : Int) / 256 ^ k) = ((y / 256 ^ k : Nat) : Int) := by simp
 rw [this]
theorem wrap8k (k : Nat) (h : k ≤ 8) : IntKind.i64.wrap (8 * (k : Int)) = 8 * (k : Int) := IntWalk.i64_in _ (by omega)
theorem zhR {P : Program} (y k : Nat) (h : k < 8) (W : World) : (Op.shift BinOp.shr .u64 (y : Int) .i64 (IntKind.i64.wrap (8 * (k : Int)))).run P W = .ok (.int .u64 ((y / 256 ^ k : Nat) : Int)) W := by
 rw [wrap8k k (by omega)]
 have e : min (8 * (k : Int)).toNat IntKind.u64.bits = 8 * k := by simp [IntKind.bits]; omega
 have e2 : (2 : Int) ^ (8 * k) = ((256 ^ k : Nat) : Int) := by rw [Int.pow_mul]; simp
 simp only [Op.shift]
 rw [if_neg (by omega)]
 simp only [e, e2]
 rw [Int.fdiv_eq_ediv_of_nonneg _ (Int.natCast_nonneg _)]
 rfl
open RowKit (wrap64)
theorem ziO (x y : Int) : bits .xor .i64 x y = bits .xor .i64 y x := by
 show IntKind.i64.wrap ((BitVec.ofInt 64 x ^^^ BitVec.ofInt 64 y).toNat : Int) = IntKind.i64.wrap ((BitVec.ofInt 64 y ^^^ BitVec.ofInt 64 x).toNat : Int)
 rw [BitVec.xor_comm]
theorem zag_bits (z : Nat) (h : z < 18446744073709551616) : bits .xor .i64 (wrap64 ((z : Int) / 2)) (wrap64 (-wrap64 (bits .and .u64 (z : Int) 1))) = zag z := by
 rw [Lib.u64_and1 _ (by omega) (by omega)]
 rw [IntWalk.wrap64_in ((z : Int) / 2) (by omega), IntWalk.wrap64_in ((z : Int) % 2) (by omega), IntWalk.wrap64_in (-((z : Int) % 2)) (by omega)]
 unfold zag
 rcases Nat.mod_two_eq_zero_or_one z with h2 | h2
 ·
  rw [if_neg (by omega)]
  have e : -((z : Int) % 2) = 0 := by omega
  have e1 : (z : Int) / 2 = ((z / 2 : Nat) : Int) := by omega
  rw [e, e1]
  show IntKind.i64.wrap ((BitVec.ofInt 64 ((z / 2 : Nat) : Int) ^^^ BitVec.ofInt 64 0).toNat : Int) = _
  have h3 : (BitVec.ofInt 64 ((z / 2 : Nat) : Int)).toNat = z / 2 := by
   rw [BitVec.ofInt_natCast, BitVec.toNat_ofNat]; exact Nat.mod_eq_of_lt (by omega)
  have h4 : (BitVec.ofInt 64 0).toNat = 0 := by decide
  rw [BitVec.toNat_xor, h3, h4, Nat.xor_zero, IntKind.wrap_i64]
  omega
 rw [if_pos h2]
 have e : -((z : Int) % 2) = -1 := by omega
 have e1 : (z : Int) / 2 = ((z / 2 : Nat) : Int) := by omega
 rw [e, e1, ziO, Lib.i64_not _ (by omega)]
theorem zj6 (z m i : Nat) (hz : z < 2 ^ (7 * i)) (hm : m < 256) (hi : i ≤ 9) (hi9 : i = 9 → m ≤ 1) :
  bits .or .u64 (z : Int) (IntKind.u64.wrap (IntKind.u64.wrap (bits .and .u8 (m : Int) 127) * 2 ^ (7 * i))) = ((z + m % 128 * 2 ^ (7 * i) : Nat) : Int) ∧
  z + m % 128 * 2 ^ (7 * i) < 18446744073709551616 ∧ (i < 9 → z + m % 128 * 2 ^ (7 * i) < 2 ^ (7 * (i + 1))) := by
 have e0 : bits .and .u8 (m : Int) 127 = ((m % 128 : Nat) : Int) := by rw [u8_and127 (m : Int) (by omega) (by omega)]; omega
 rw [e0, qC, qC]
 have e1 : (((m % 128 : Nat) : Int) % 18446744073709551616 * 2 ^ (7 * i)) % 18446744073709551616 = ((m % 128 * 2 ^ (7 * i) : Nat) : Int) ∧ m % 128 * 2 ^ (7 * i) + z < 18446744073709551616 ∧ (i < 9 → z + m % 128 * 2 ^ (7 * i) < 2 ^ (7 * (i + 1))) := by
  have : i = 0 ∨ i = 1 ∨ i = 2 ∨ i = 3 ∨ i = 4 ∨ i = 5 ∨ i = 6 ∨ i = 7 ∨ i = 8 ∨ i = 9 := by omega
  rcases this with rfl | rfl | rfl | rfl | rfl | rfl | rfl | rfl | rfl | rfl <;> simp at hz hi9 ⊢ <;> omega
 obtain ⟨e1, e2, e3⟩ := e1
 rw [e1, u64_or_nat _ _ (by omega) (by omega)]
 refine ⟨?_, by omega, e3⟩
 rw [Nat.or_comm, nat_join (7 * i) _ _ (Nat.mul_mod_left _ _) hz, Nat.add_comm]
theorem or8 (x c : Nat) (hx : x < 72057594037927936) (hc : c < 256) : bits .or .u64 (IntKind.u64.wrap ((x : Int) * 256)) (c : Int) = ((x * 256 + c : Nat) : Int) := by
 rw [qC, show ((x : Int) * 256) % 18446744073709551616 = ((x * 256 : Nat) : Int) from by omega, u64_or_nat _ _ (by omega) (by omega)]
 rw [nat_join 8 _ _ (by omega) (by omega)]
theorem zfI (l : List UInt8) (c : UInt8) : zaZ (l ++ [c]) = zaZ l * 256 + c.toNat := by simp [zaZ]
theorem zhS : ∀ (n : Nat) (l : List UInt8), l.length = n → zaZ l < 256 ^ n
 | 0, l, h => by rw [List.eq_nil_of_length_eq_zero h]; decide
 | n + 1, l, h => by
  obtain ⟨l', c, rfl⟩ : ∃ l' c, l = l' ++ [c] := ⟨l.dropLast, l.getLast (by intro e; subst e; simp at h), (List.dropLast_concat_getLast _).symm⟩
  have := zhS n l' (by simpa using h)
  have hc := c.toNat_lt
  rw [zfI, Nat.pow_succ]
  omega
theorem zhT {l : List UInt8} {i : Nat} {x : UInt8} (h : l[i]? = some x) : l.take (i + 1) = l.take i ++ [x] := by
 obtain ⟨hi, rfl⟩ := List.getElem?_eq_some_iff.1 h
 exact List.take_succ_eq_append_getElem hi
theorem znZ : ∀ f z, (uvF f z).length ≤ f + 1
 | 0, _ => by simp [uvF]
 | f + 1, z => by
  unfold uvF; split
  · simp
  have := znZ f (z / 128); simp; omega
theorem zV (n : Int) : (zS n).length ≤ 10 := znZ 9 _
theorem zfJ : ∀ f z, 1 ≤ (uvF f z).length
 | 0, _ => by simp [uvF]
 | f + 1, z => by unfold uvF; split <;> simp
end Go.Proofs.YtjhnlncgmejkcaaGreat
namespace Go.Proofs.YtjhnlncgmejkcaaGreat
open Go.RowKit
theorem jN : (Tryz.prog.info? 5).map (fun i => (i.zero, i.size, i.bytes)) = some (some (.int .u8 0), 1, 1) := by kernel_rfl
def Wr (w : World) (S : Nat → Prop) (b : Nat) (bs : List UInt8) (long : Bool) : Prop :=
 ∃ v t, w.heap[b]? = some (.cells #[v, .bool long] t (0, 0)) ∧ w.ownsRow 0 5 1 v bs.length (bs.map B) ∧ S b ∧ ∀ g, v.ownBlock = some g → S g ∧ g ≠ b
abbrev Nw (S : Nat → Prop) (w : World) : Nat → Prop := fun k => S k ∨ w.heap.size ≤ k
theorem Sl.one (w : World) (u : Value) (e : TypeId) : Sl (w.alloc (.cells #[u] e)) (fun g => w.heap.size ≤ g) 1 (.slice (some ⟨w.heap.size, 0, none⟩) 1 1) 1 [u] :=
 ⟨rfl, _, _, rfl, Nat.le_refl _, by simp [maxLen], fun _ => ⟨_, _, rfl, Nat.le_refl _, fun j u' hu => by
  rcases j with _ | j
  · simp at hu; subst hu; simp
  simp at hu⟩⟩
theorem zlE {w wa w1 : World} {S : Nat → Prop} {b n : Nat} {v v' : Value} {t : TypeId} {long : Bool} {xs : List UInt8}
  (ha : Ext w wa) (hb : w.heap[b]? = some (.cells #[v, .bool long] t (0, 0))) (hS : S b) (hg : ∀ g, v.ownBlock = some g → S g ∧ g ≠ b)
  {zs : List Value} (he : zs = xs.map B) (ho : w1.ownsRow 0 5 1 v' n zs) (hgr : wa.grownBy w1 v.ownBlock) {N : Nat} (hat : v'.ownBlock = v.ownBlock ∨ v'.ownBlock = some N) (hN : w.heap.size ≤ N) :
  w1.cell? ⟨b, 0, none⟩ = some v ∧ w1.frozen? ⟨b, 0, none⟩ = false ∧ Wr (w1.setCell ⟨b, 0, none⟩ v') (Nw S w) b xs long ∧ Mod S w (w1.setCell ⟨b, 0, none⟩ v') := by
 subst he
 obtain rfl : n = xs.length := by simpa using ho.1.symm
 have hlt : b < w.heap.size := (Array.getElem?_eq_some_iff.1 hb).1
 have hba := ha.blk hb id
 have hb1 : w1.heap[b]? = some (.cells #[v, .bool long] t (0, 0)) := (hgr.block b (by have := ha.size; omega) (fun e => (hg b e.symm).2 rfl)).trans hba
 have hm : Mod S w w1 := (Mod.mono ha (fun _ _ h => h.elim)).grown hgr (fun k hk => .inr (hg k hk).1)
 have hne : ∀ g, v'.ownBlock = some g → Nw S w g ∧ g ≠ b := by
  intro g hgg
  rcases hat with e | e
  · rw [e] at hgg; exact ⟨.inl (hg g hgg).1, (hg g hgg).2⟩
  rw [e] at hgg
  injection hgg with hgg
  exact ⟨.inr (by omega), by omega⟩
 refine ⟨by simp [World.cell?, hb1], by simp [World.frozen?, hb1], ⟨v', t, ?_, ?_, .inl hS, hne⟩, hm.setCell (.inr hS) v'⟩
 · simp [World.setCell, Array.getElem?_modify, hb1]
 exact zU ho ((Mod.refl (fun k => k = b) w1).setCell (p := ⟨b, 0, none⟩) (.inr rfl) v') (fun g h1 h2 => (hne g h1).2 h2)
theorem qG {w : World} {b : Nat} {v x : Value} {t : TypeId} (hb : w.heap[b]? = some (.cells #[v, x] t (0, 0))) : w.cell? ⟨b, 0, none⟩ = some v ∧ w.cell? ⟨b, 1, none⟩ = some x ∧ w.frozen? ⟨b, 0, none⟩ = false ∧ w.frozen? ⟨b, 1, none⟩ = false := by
 simp [World.cell?, World.frozen?, hb]
theorem Wr.nw0 {w w0 : World} {S : Nat → Prop} {b : Nat} {bs : List UInt8} {long : Bool} (h : Wr w S b bs long) : Wr w (Nw S w0) b bs long := by
 obtain ⟨v, t, hb, ho, hS, hg⟩ := h
 exact ⟨v, t, hb, ho, .inl hS, fun g hgg => ⟨.inl (hg g hgg).1, (hg g hgg).2⟩⟩
theorem Wr.mono {w : World} {S T : Nat → Prop} {b : Nat} {bs : List UInt8} {long : Bool} (h : Wr w S b bs long) (hk : ∀ k, k < w.heap.size → S k → T k) : Wr w T b bs long := by
 obtain ⟨v, t, hb, ho, hS, hg⟩ := h
 refine ⟨v, t, hb, ho, hk _ (Array.getElem?_eq_some_iff.1 hb).1 hS, fun g hgg => ⟨hk _ (ho.lt g hgg).2 (hg g hgg).1, (hg g hgg).2⟩⟩
theorem Wr.nw {w w1 w' : World} {S : Nat → Prop} {b : Nat} {bs : List UInt8} {long : Bool} (h : Wr w' (Nw (Nw S w) w1) b bs long) (hs : w.heap.size ≤ w1.heap.size) : Wr w' (Nw S w) b bs long :=
 h.mono fun k _ h => by
  rcases h with h | h
  · exact h
  exact .inr (by omega)
theorem zn0 (w : World) (S : Nat → Prop) (b : Nat) (bs : List UInt8) (long : Bool) (n : Int) (h : Wr w S b bs long) (hl : bs.length ≤ 1000000000)
  (h0 : -9223372036854775808 ≤ n) (h1 : n ≤ 9223372036854775807) :
  Calls Tryz.prog 140 #[.pointer (some ⟨b, 0, none⟩), .int .i64 n] w fun e w' =>
   e = .returned (.tuple #[]) ∧ Wr w' (Nw S w) b (bs ++ zS n) long ∧ Mod S w w' := by
 have hz := zig_bits n h0 h1
 have Hzl := hJ (znX h0 h1)
 have hlen := zV n
 have H0 := hJ h0
 have H1 := hJ h1
 clear h0 h1
 obtain ⟨i0, hi, hz0, hz1, hz2⟩ := info_parts jN
 go_enter Tryz.func140, Tryz.ntmps140
 go_wp2
 go_loopw [4] (fun zv wr => ∃ (z f : Nat) (pre : List UInt8), zv = .int .u64 z ∧ z < 128 ^ (f + 1) ∧ z < 18446744073709551616 ∧ zS n = pre ++ uvF f z ∧ Wr wr (Nw S w) b (bs ++ pre) long ∧ Mod S w wr) (fun zv _ => (intOf zv).toNat)
 case atStart => exact ⟨zig n, 9, [], rfl, by have := Hzl.out; omega, Hzl.out, rfl, by simpa using h.nw0, Mod.refl _ _⟩
 obtain ⟨z, f, pre, rfl, hzf, hzz, henc, ⟨v, t, hb, hown, hS, hg⟩, hm⟩ := hrel
 have hlp : pre.length ≤ 10 := by have := congrArg List.length henc; simp at this; omega
 obtain ⟨hc0, _, hf0, _⟩ := qG hb
 have Hb := hJ hb
 have Henc := hJ henc
 have Hlen := hJ hlen
 have Hzf := hJ hzf
 have Hzz := hJ hzz
 clear hb henc hlen hz hzf hzz
 have hlen2 : (bs ++ pre).length ≤ 1000000010 := by simp; omega
 by_cases hz : 128 ≤ z
 ·
  go_wp2_with (at_builtin; refine yA _ rfl _ _ 25 rfl 5 i0 _ 1 1 Tryz.underlying25 hi hz0 hz1 hz2 rfl (by omega) v (bs ++ pre).length ((bs ++ pre).map B) rfl (hown.alloc _) _ _ 1 _ rfl (Sl.one wr _ _) (by simp [Value.oneCell']) (by simp only [maxLen]; omega) (by omega) ?_)
  intro v' w1 ho hgr hat
  obtain ⟨A1, c1, rfl⟩ := zN ho
  obtain ⟨f, rfl⟩ : ∃ f', f = f' + 1 := ⟨f - 1, by
   have := Hzf.out
   rcases f with _ | f
   · omega
   omega⟩
  obtain ⟨h1, h2, h3, h4⟩ := zlE (xs := bs ++ (pre ++ [UInt8.ofNat (z % 128 + 128)])) ((Mod.refl _ wr).alloc _) Hb.out hS hg (by rw [or128]; simp) ho hgr hat (by omega)
  have hstep : pre ++ uvF (f + 1) z = (pre ++ [UInt8.ofNat (z % 128 + 128)]) ++ uvF f (z / 128) := by
   rw [uvF, if_neg (by omega)]; simp
  have Hs := hJ hstep
  clear hstep
  go_wp2
  go_roundw
  case rel => exact ⟨z / 128, f, _, by go_num, by have := Hzf.out; omega, by have := Hzz.out; omega, Henc.out.trans Hs.out, (h3.nw hm.size), hm.trans h4 (fun _ _ h => h.elim id (fun h => by omega))⟩
  case measure => simp [intOf]; omega
 go_wp2_with (at_builtin; refine yA _ rfl _ _ 25 rfl 5 i0 _ 1 1 Tryz.underlying25 hi hz0 hz1 hz2 rfl (by omega) v (bs ++ pre).length ((bs ++ pre).map B) rfl (hown.alloc _) _ _ 1 _ rfl (Sl.one wr _ _) (by simp [Value.oneCell']) (by simp only [maxLen]; omega) (by omega) ?_)
 intro v' w1 ho hgr hat
 obtain ⟨A1, c1, rfl⟩ := zN ho
 obtain ⟨h1, h2, h3, h4⟩ := zlE (xs := bs ++ (pre ++ [UInt8.ofNat z])) ((Mod.refl _ wr).alloc _) Hb.out hS hg (by rw [low8 z (by omega)]; simp) ho hgr hat (by omega)
 have hstep : pre ++ uvF f z = pre ++ [UInt8.ofNat z] := by
  rcases f with _ | f
  · rfl
  rw [uvF, if_pos (by omega)]
 have Hs := hJ (Henc.out.trans hstep)
 clear hstep
 go_wp2
 go_end0
 exact ⟨rfl, by rw [Hs.out]; exact h3.nw hm.size, hm.trans h4 (fun _ _ h => h.elim id (fun h => by omega))⟩
attribute [local go_sem] yP jA
theorem w_float (w : World) (S : Nat → Prop) (b : Nat) (bs : List UInt8) (long : Bool) (x : Nat) (h : Wr w S b bs long) (hl : bs.length ≤ 1000000000) :
  Calls Tryz.prog 203 #[.pointer (some ⟨b, 0, none⟩), .float .f64 x] w fun e w' =>
   e = .returned (.tuple #[]) ∧ Wr w' (Nw S w) b (bs ++ yT x) long ∧ Mod S w w' := by
 unfold yT
 obtain ⟨i0, hi, hz0, hz1, hz2⟩ := info_parts jN
 go_enter Tryz.func203, Tryz.ntmps203
 go_wp2_with (go_at_call 199; refine (zbG _ _).mono ?_; rintro e w' ⟨rfl, rfl⟩)
 go_loopw [5] (fun kv wr => ∃ (k : Nat) (pre : List UInt8), k ≤ 8 ∧ kv = .int .i64 ((k : Int) - 1) ∧ hib 8 (yU x) = pre ++ hib k (yU x) ∧ Wr wr (Nw S w) b (bs ++ pre) long ∧ Mod S w wr) (fun kv _ => (intOf kv + 1).toNat)
 case atStart => exact ⟨8, [], by omega, rfl, rfl, by simpa using h.nw0, Mod.refl _ _⟩
 obtain ⟨k, pre, hk, rfl, henc, ⟨v, t, hb, hown, hS, hg⟩, hm⟩ := hrel
 have hlp : pre.length ≤ 8 := by have := congrArg List.length henc; simp [hib] at this; omega
 obtain ⟨hc0, _, hf0, _⟩ := qG hb
 have Hb := hJ hb
 have Henc := hJ henc
 clear hb henc 
 obtain ⟨n, hn⟩ : ∃ n, (bs ++ pre).length = n := ⟨_, rfl⟩
 have hlen2 : n ≤ 1000000010 := by rw [← hn]; simp; omega
 rw [hn] at hown
 have Hn := hJ hn
 clear hn
 rcases k with _ | k
 ·
  have Hf : Hid (hib 8 (yU x) = pre) := hJ (by rw [Henc.out, hib]; simp)
  have HW : Wr wr (Nw S w) b (bs ++ pre) long := ⟨v, t, Hb.out, by rw [Hn.out]; exact hown, hS, hg⟩
  go_wp2
  go_end0
  exact ⟨rfl, by rw [Hf.out]; exact HW, hm⟩
 rw [show (((k + 1 : Nat) : Int) - 1) = (k : Int) from by omega]
 have hblt : b < wr.heap.size := World.block_lt_of_cell? _ _ hc0
 have hsh := fun W => zhR (P := Tryz.prog) (yU x) k (by omega) W
 go_wp2_with fail
 go_region_law
  ((refine ze6 _ rfl _ _ 25 rfl 5 i0 _ 1 1 Tryz.underlying25 hi hz0 hz1 hz2 rfl (by omega) v n ((bs ++ pre).map B) rfl ((hown.alloc _).drew) _ _ 1 _ rfl ((Sl.one wr _ _).drew) (by simp [Value.oneCell']) (by simp only [maxLen]; omega) (by omega) ?_
    intro v' w1 ho hgr hat
    obtain ⟨A1, c1, rfl⟩ := zN ho
    obtain ⟨h1, h2, h3, h4⟩ := zlE (xs := bs ++ (pre ++ [UInt8.ofNat (yU x / 256 ^ k % 256)])) (((Mod.refl _ wr).alloc _).drew) Hb.out hS hg (by rw [low8w]; simp) ho hgr hat (by simp)))
 all_goals go_wp2
 all_goals exact ⟨⟨k, _, by omega, rfl, by rw [Henc.out, hib]; simp, h3.nw hm.size, hm.trans h4 (fun _ _ h => h.elim id (fun h => by omega))⟩, by simp [intOf] <;> omega⟩
theorem Sl.form {w : World} {T : Nat → Prop} {k n : Nat} {v : Value} {xs : List Value} (h : Sl w T k v n xs) : ∃ A c, v = .slice A n c := by
 obtain ⟨_, A, c, rfl, _⟩ := h; exact ⟨A, c, rfl⟩
theorem zn1 (w : World) (S T : Nat → Prop) (b : Nat) (bs t : List UInt8) (long : Bool) (v : Value) (h : Wr w S b bs long) (hl : bs.length ≤ 900000000)
  (ht : Byt w T v t) (hd : ∀ g, T g → ¬ S g) (hs : t.length ≤ 16384) :
  Calls Tryz.prog 168 #[.pointer (some ⟨b, 0, none⟩), v] w fun e w' =>
   e = .returned (.tuple #[]) ∧ Wr w' (Nw S w) b (bs ++ yH t) long ∧ Mod S w w' := by
 obtain ⟨i0, hi, hz0, hz1, hz2⟩ := info_parts jN
 obtain ⟨n, hn⟩ : ∃ n, t.length = n := ⟨_, rfl⟩
 have hlen := zV t.length
 have Hen : Hid (yH t = zS n ++ t) := hJ (by unfold yH; rw [hn])
 have hel : (zS n).length ≤ 10 := zV n
 unfold Byt at ht
 rw [hn] at ht hs
 have Hn := hJ hn
 clear hn hlen
 obtain ⟨A, c, rfl⟩ := ht.form
 go_enter Tryz.func168, Tryz.ntmps168
 go_wp2_with fail
 refine (zn0 w S b bs long n h (by omega) (by omega) (by omega)).mono ?_
 rintro e w1 ⟨rfl, hW, hm⟩
 have ht1 := ht.mod hm hd
 obtain ⟨v0, tt, hb, hown, hS, hg⟩ := hW
 obtain ⟨m, hmm⟩ : ∃ m, (bs ++ zS n).length = m := ⟨_, rfl⟩
 have hml : m ≤ 1000000000 := by rw [← hmm]; simp; omega
 rw [hmm] at hown
 obtain ⟨hc0, _, hf0, _⟩ := qG hb
 have Hb := hJ hb
 have Hmm := hJ hmm
 clear hb hmm
 go_wp2_with (at_builtin; refine yA _ rfl _ _ 25 rfl 5 i0 _ 1 1 Tryz.underlying25 hi hz0 hz1 hz2 rfl (by omega) v0 m ((bs ++ zS n).map B) rfl hown T _ n (t.map B) rfl ht1 (zdL t) (by simp only [maxLen]; omega) (by omega) ?_)
 intro v' w2 ho hgr hat
 obtain ⟨A1, c1, rfl⟩ := zN ho
 obtain ⟨h1, h2, h3, h4⟩ := zlE (xs := bs ++ yH t) (Mod.refl _ w1) Hb.out hS hg (by rw [Hen.out]; simp) ho hgr hat (by omega)
 go_wp2
 go_end0
 exact ⟨rfl, h3.nw hm.size, hm.trans h4 (fun _ _ h => h.elim id (fun h => by omega))⟩
theorem zdD (w : World) (S T : Nat → Prop) (b : Nat) (bs t : List UInt8) (long : Bool) (v : Value) (h : Wr w S b bs long)
  (ht : Byt w T v t) (hs : 16384 < t.length) :
  Calls Tryz.prog 168 #[.pointer (some ⟨b, 0, none⟩), v] w fun e w' =>
   e = .returned (.tuple #[]) ∧ Wr w' (Nw S w) b bs true ∧ Mod S w w' := by
 obtain ⟨n, hn⟩ : ∃ n, t.length = n := ⟨_, rfl⟩
 unfold Byt at ht
 rw [hn] at ht hs
 clear hn
 obtain ⟨A, c, rfl⟩ := ht.form
 obtain ⟨v0, tt, hb, hown, hS, hg⟩ := h
 obtain ⟨_, hc1, _, hf1⟩ := qG hb
 have h3 : Wr (w.setCell ⟨b, 1, none⟩ (.bool true)) (Nw S w) b bs true := by
  refine ⟨v0, tt, ?_, ?_, .inl hS, fun g h => ⟨.inl (hg g h).1, (hg g h).2⟩⟩
  · simp [World.setCell, Array.getElem?_modify, hb]
  exact zU hown ((Mod.refl (fun k => k = b) w).setCell (p := ⟨b, 1, none⟩) (.inr rfl) _) (fun g h1 h2 => (hg g h1).2 h2)
 have h4 : Mod S w (w.setCell ⟨b, 1, none⟩ (.bool true)) := (Mod.refl S w).setCell (p := ⟨b, 1, none⟩) (.inr hS) _
 clear hb
 go_enter Tryz.func168, Tryz.ntmps168
 go_wp2
 exact bodyPost_ret (v := .tuple #[]) (results_none rfl _ _ _) rfl ⟨rfl, h3, h4⟩
theorem ziP (w : World) (S : Nat → Prop) (b : Nat) (bs : List UInt8) (h : Wr w S b bs true) :
  Calls Tryz.prog 141 #[.pointer (some ⟨b, 0, none⟩)] w fun e w' =>
   e = .returned (.tuple #[.slice none 0 0, .int .i64 2]) ∧ w = w' := by
 obtain ⟨v0, tt, hb, hown, hS, hg⟩ := h
 obtain ⟨_, hc1, _, hf1⟩ := qG hb
 clear hb
 go_enter Tryz.func141, Tryz.ntmps141
 go_wp2
 go_ret2
 exact ⟨rfl, rfl⟩
def yO (w w' : World) (v : Value) (bs : List UInt8) : Prop :=
 w'.ownsRow 0 5 1 v bs.length (bs.map B) ∧ ∀ g, v.ownBlock = some g → w.heap.size ≤ g
theorem zn2 (w : World) (S : Nat → Prop) (b : Nat) (bs : List UInt8) (h : Wr w S b bs false) (hl : bs.length ≤ 1000000000) :
  Calls Tryz.prog 141 #[.pointer (some ⟨b, 0, none⟩)] w fun e w' =>
   ∃ v, e = .returned (.tuple #[v, .int .i64 0]) ∧ yO w w' v bs ∧ Ext w w' := by
 obtain ⟨i0, hi, hz0, hz1, hz2⟩ := info_parts jN
 obtain ⟨v0, tt, hb, hown, hS, hg⟩ := h
 obtain ⟨hc0, hc1, _, hf1⟩ := qG hb
 have hlt : b < w.heap.size := World.block_lt_of_cell? _ _ hc0
 obtain ⟨n, hn⟩ : ∃ n, bs.length = n := ⟨_, rfl⟩
 rw [hn] at hl hown
 have Hn := hJ hn
 clear hb hn
 go_enter Tryz.func141, Tryz.ntmps141
 go_wp2_with (at_builtin; refine yA _ rfl _ _ 25 rfl 5 i0 _ 1 1 Tryz.underlying25 hi hz0 hz1 hz2 rfl (by omega) _ 0 [] rfl (World.ownsRow_made w #[] 0 (Nat.zero_le _) (Nat.zero_le _) rfl) (fun _ => True) v0 n (bs.map B) rfl ((Sl.of_own hown (fun _ _ => trivial)).alloc _) (zdL bs) (by simp only [maxLen]; omega) (by omega) ?_)
 intro v' w1 ho hgr hat
 have hE : Ext w w1 := (Mod.alloc (Mod.refl _ w) _).grown hgr (by simp [Value.ownBlock])
 have hN : yO w w1 v' bs := by
  refine ⟨by rw [Hn.out]; simpa using ho, fun g hgg => ?_⟩
  rcases hat with e | e <;> rw [e] at hgg <;> simp [Value.ownBlock] at hgg <;> omega
 go_wp2
 go_ret2
 exact ⟨v', rfl, hN, hE⟩
theorem Wr.since {w w' : World} {N b : Nat} {bs : List UInt8} {long : Bool} (h : Wr w' (Nw (zZ N) w) b bs long) (hN : N ≤ w.heap.size) : Wr w' (zZ N) b bs long :=
 h.mono fun _ _ h => h.elim id (fun h => Nat.le_trans hN h)
theorem yO.sl {w w' : World} {v : Value} {bs : List UInt8} (h : yO w w' v bs) : Byt w' (zZ w.heap.size) v bs := Sl.of_own h.1 h.2
end Go.Proofs.YtjhnlncgmejkcaaGreat
