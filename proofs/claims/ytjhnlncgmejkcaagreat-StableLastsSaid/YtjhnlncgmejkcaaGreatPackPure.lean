/-
 Plain laws of what package pack writes and reads: what was written is read again, what was read is what is written of it, and so on. No program is walked here. Conditions: as each theorem names them.
-/
import Derived.Test.YtjhnlncgmejkcaaGreatGSpec
import Derived.Test.YtjhnlncgmejkcaaGreatPackR
namespace Go.Proofs.YtjhnlncgmejkcaaGreat

theorem pow_split (k : Nat) (h : k ≤ 9) : 2 ^ (7 * k) * 2 ^ (64 - 7 * k) = 18446744073709551616 := by
 rw [← Nat.pow_add, show 7 * k + (64 - 7 * k) = 64 from by omega]
/-- What was written as a number is read again. -/
theorem rd_uv : ∀ (f k z acc : Nat) (rest : List UInt8), k + f = 9 → z < 2 ^ (64 - 7 * k) → (0 < k → 0 < z) → rdVar k acc (uvF f z ++ rest) = some (acc + z * 2 ^ (7 * k), rest)
 | 0, k, z, acc, rest, hk, hz, hp => by
  obtain rfl : k = 9 := by omega
  have hz2 : z < 2 := by simpa using hz
  have e1 : (UInt8.ofNat z).toNat = z := by simp; omega
  simp only [uvF, List.cons_append, List.nil_append]
  rw [rdVar, e1, if_neg (by omega), if_pos (by omega), if_neg (by omega), Nat.mod_eq_of_lt (by omega)]
 | f + 1, k, z, acc, rest, hk, hz, hp => by
  by_cases h : z < 128
  ·
   have e1 : (UInt8.ofNat z).toNat = z := by simp; omega
   rw [uvF, if_pos h]
   simp only [List.cons_append, List.nil_append]
   rw [rdVar, e1, if_neg (by omega), if_pos h, if_neg (by omega), Nat.mod_eq_of_lt h]
  ·
   have e1 : (UInt8.ofNat (z % 128 + 128)).toNat = z % 128 + 128 := by simp; omega
   rw [uvF, if_neg h]
   simp only [List.cons_append]
   have hz' : z / 128 < 2 ^ (64 - 7 * (k + 1)) := by
    rw [Nat.div_lt_iff_lt_mul (by omega)]
    rw [show 64 - 7 * k = 64 - 7 * (k + 1) + 7 from by omega, Nat.pow_add] at hz
    exact hz
   rw [rdVar, e1, if_neg (by omega), if_neg (by omega), rd_uv f (k + 1) (z / 128) _ rest (by omega) hz' (by omega)]
   have e2 : (z % 128 + 128) % 128 = z % 128 := by omega
   rw [e2, show 7 * (k + 1) = 7 * k + 7 from by omega, Nat.pow_add]
   have e3 : z = z % 128 + z / 128 * 128 := by omega
   congr 2
   rw [Nat.add_assoc]
   congr 1
   conv => rhs; rw [e3]
   rw [Nat.add_mul, Nat.mul_comm (2 ^ (7 * k)) (2 ^ 7), ← Nat.mul_assoc]
/-- What is read as a number is just what is written of it. -/
theorem uv_rd : ∀ (l : List UInt8) (f k acc z' : Nat) (rest : List UInt8), k + f = 9 → rdVar k acc l = some (z', rest) → ∃ z, z' = acc + z * 2 ^ (7 * k) ∧ l = uvF f z ++ rest ∧ (0 < k → 0 < z) ∧ z < 2 ^ (64 - 7 * k)
 | [], f, k, acc, z', rest, hk, h => by simp [rdVar] at h
 | c :: l, f, k, acc, z', rest, hk, h => by
  have hc := c.toNat_lt
  have hcc : UInt8.ofNat c.toNat = c := by simp
  rw [rdVar] at h
  split at h
  ·
   cases h
  ·
   rename_i h9
   split at h
   ·
    rename_i h128
    split at h
    ·
     cases h
    ·
     rename_i h0
     simp only [Option.some.injEq, Prod.mk.injEq] at h
     obtain ⟨rfl, rfl⟩ := h
     refine ⟨c.toNat, by rw [Nat.mod_eq_of_lt h128], ?_, by omega, ?_⟩
     ·
      rcases f with _ | f
      ·
       simp [uvF]
      ·
       rw [uvF, if_pos h128, hcc]; simp
     ·
      by_cases hk9 : k = 9
      ·
       subst hk9; simp; omega
      ·
       have : 2 ^ 7 ≤ 2 ^ (64 - 7 * k) := Nat.pow_le_pow_right (by omega) (by omega)
       omega
   ·
    rename_i h128
    have hk9 : k ≠ 9 := by omega
    obtain ⟨f, rfl⟩ : ∃ f', f = f' + 1 := ⟨f - 1, by omega⟩
    obtain ⟨z, hz, hl, hp, hb⟩ := uv_rd l f (k + 1) _ z' rest (by omega) h
    have hz0 := hp (by omega)
    refine ⟨c.toNat % 128 + z * 128, ?_, ?_, by omega, ?_⟩
    ·
     rw [hz, show 7 * (k + 1) = 7 * k + 7 from by omega, Nat.pow_add, Nat.add_assoc, Nat.add_mul, Nat.mul_comm (2 ^ (7 * k)) (2 ^ 7), ← Nat.mul_assoc]
    ·
     rw [uvF, if_neg (by omega), hl]
     have e1 : (c.toNat % 128 + z * 128) / 128 = z := by omega
     have e2 : (c.toNat % 128 + z * 128) % 128 + 128 = c.toNat := by omega
     rw [e1, e2, hcc]; simp
    ·
     rw [show 64 - 7 * k = 64 - 7 * (k + 1) + 7 from by omega, Nat.pow_add]
     omega
/-- More behind it changes nothing of what is read. -/
theorem rd_more_behind : ∀ (l : List UInt8) (k acc z : Nat) (rest d : List UInt8), rdVar k acc l = some (z, rest) → rdVar k acc (l ++ d) = some (z, rest ++ d)
 | [], k, acc, z, rest, d, h => by simp [rdVar] at h
 | c :: l, k, acc, z, rest, d, h => by
  rw [rdVar] at h
  rw [List.cons_append, rdVar]
  split at h
  ·
   cases h
  ·
   rename_i h9
   rw [if_neg h9]
   split at h
   ·
    rename_i h1
    rw [if_pos h1]
    split at h
    ·
     cases h
    ·
     rename_i h0
     rw [if_neg h0]
     simp only [Option.some.injEq, Prod.mk.injEq] at h ⊢
     exact ⟨h.1, by rw [h.2]⟩
   ·
    rename_i h1
    rw [if_neg h1]
    exact rd_more_behind l (k + 1) _ z rest d h

theorem zag_zig (n : Int) : zag (zig n) = n := by unfold zag zig; split <;> split <;> omega
theorem zig_zag (z : Nat) : zig (zag z) = z := by unfold zag zig; split <;> split <;> omega

theorem int_enc (n : Int) (rest : List UInt8) (h0 : -9223372036854775808 ≤ n) (h1 : n ≤ 9223372036854775807) : RS.int ⟨encInt n ++ rest, 0⟩ = (n, ⟨rest, 0⟩) := by
 have := rd_uv 9 0 (zig n) 0 rest (by omega) (by have := zig_lt h0 h1; simpa using this) (by omega)
 rw [int_some (z := zig n) (r := rest) (by simpa [encInt] using this), zag_zig]
theorem enc_int {l l' : List UInt8} (h : (RS.int ⟨l, 0⟩).2 = ⟨l', 0⟩) : l = encInt (RS.int ⟨l, 0⟩).1 ++ l' := by
 rcases hr : rdVar 0 0 l with _ | ⟨z, r⟩
 ·
  rw [int_none hr] at h; simp at h
 ·
  rw [int_some hr] at h ⊢
  simp only [RS.mk.injEq, and_true] at h
  subst h
  obtain ⟨z1, hz, hl, _, _⟩ := uv_rd l 9 0 0 z r (by omega) hr
  simp only [Nat.mul_zero, Nat.pow_zero, Nat.mul_one, Nat.zero_add] at hz
  subst hz
  unfold encInt
  rw [zig_zag]; exact hl
theorem int_e (r : RS) : r.int.2.e = 0 → r.e = 0 := by
 unfold RS.int
 split
 ·
  exact id
 ·
  intro _; rename_i h; omega
theorem int_behind {l l' d : List UInt8} {n : Int} (h : RS.int ⟨l, 0⟩ = (n, ⟨l', 0⟩)) : RS.int ⟨l ++ d, 0⟩ = (n, ⟨l' ++ d, 0⟩) := by
 rcases hr : rdVar 0 0 l with _ | ⟨z, r⟩
 ·
  rw [int_none hr] at h; simp at h
 ·
  rw [int_some hr] at h
  simp only [Prod.mk.injEq, RS.mk.injEq, and_true] at h
  rw [int_some (rd_more_behind l 0 0 z r d hr), h.1, h.2]

theorem mark_enc (b : Bool) (rest : List UInt8) : RS.mark ⟨encMark b ++ rest, 0⟩ = (b, ⟨rest, 0⟩) := by cases b <;> simp [encMark, RS.mark]
theorem enc_mark {l l' : List UInt8} (h : (RS.mark ⟨l, 0⟩).2 = ⟨l', 0⟩) : l = encMark (RS.mark ⟨l, 0⟩).1 ++ l' := by
 rcases l with _ | ⟨c, l⟩
 ·
  simp [RS.mark] at h
 ·
  by_cases hc : 1 < c.toNat
  ·
   simp [RS.mark, hc] at h
  ·
   have e : RS.mark ⟨c :: l, 0⟩ = (c.toNat == 1, ⟨l, 0⟩) := by simp [RS.mark, hc]
   rw [e] at h ⊢
   simp only [RS.mk.injEq, and_true] at h
   subst h
   have : c.toNat = 0 ∨ c.toNat = 1 := by omega
   rcases this with h0 | h0
   ·
    have : c = 0 := UInt8.toNat_inj.1 (by simpa using h0)
    subst this; simp [encMark]
   ·
    have : c = 1 := UInt8.toNat_inj.1 (by simpa using h0)
    subst this; simp [encMark]
theorem mark_behind {l l' d : List UInt8} {b : Bool} (h : RS.mark ⟨l, 0⟩ = (b, ⟨l', 0⟩)) : RS.mark ⟨l ++ d, 0⟩ = (b, ⟨l' ++ d, 0⟩) := by
 rcases l with _ | ⟨c, l⟩
 ·
  simp [RS.mark] at h
 ·
  by_cases hc : 1 < c.toNat
  ·
   simp [RS.mark, hc] at h
  ·
   simp [RS.mark, hc] at h ⊢; exact ⟨h.1, by rw [h.2]⟩

theorem num8_append (a b : List UInt8) : num8 (a ++ b) = num8 a * 256 ^ b.length + num8 b := by
 unfold num8
 rw [List.foldl_append]
 generalize List.foldl (fun x c => x * 256 + c.toNat) 0 a = y
 induction b generalizing y with
 | nil => simp
 | cons c b ih =>
  simp only [List.foldl_cons, List.length_cons]
  rw [ih, ih (0 * 256 + c.toNat), Nat.pow_succ, Nat.add_mul, Nat.mul_assoc, Nat.mul_comm 256 (256 ^ b.length), Nat.zero_mul, Nat.zero_add]
  omega
theorem hib_len : ∀ k x, (hib k x).length = k
 | 0, _ => rfl
 | k + 1, x => by simp [hib, hib_len k x]
theorem num8_hib : ∀ k x, num8 (hib k x) = x % 256 ^ k
 | 0, x => by simp [hib, num8, Nat.mod_one]
 | k + 1, x => by
  have e : hib (k + 1) x = [UInt8.ofNat (x / 256 ^ k % 256)] ++ hib k x := rfl
  have e1 : (UInt8.ofNat (x / 256 ^ k % 256)).toNat = x / 256 ^ k % 256 := by simp
  rw [e, num8_append, num8_hib k x, hib_len]
  simp only [num8, List.foldl_cons, List.foldl_nil, e1, Nat.zero_mul, Nat.zero_add]
  rw [Nat.pow_succ, Nat.mod_mul, Nat.mul_comm, Nat.add_comm]
theorem hib_num8 : ∀ k (l : List UInt8) (y : Nat), l.length = k → hib k (y * 256 ^ k + num8 l) = l
 | 0, l, y, h => by rw [List.eq_nil_of_length_eq_zero h]; rfl
 | k + 1, [], y, h => by simp at h
 | k + 1, c :: l, y, h => by
  have hl : l.length = k := by simpa using h
  have hn := num8_lt k l hl
  have e : num8 (c :: l) = c.toNat * 256 ^ k + num8 l := by
   have := num8_append [c] l
   rw [hl] at this
   simpa [num8] using this
  have hc := c.toNat_lt
  have e2 : y * 256 ^ (k + 1) + num8 (c :: l) = (y * 256 + c.toNat) * 256 ^ k + num8 l := by
   rw [e, Nat.pow_succ, Nat.add_mul, Nat.mul_assoc, Nat.mul_comm 256 (256 ^ k), Nat.add_assoc]
  rw [e2, hib, hib_num8 k l _ hl]
  have e3 : ((y * 256 + c.toNat) * 256 ^ k + num8 l) / 256 ^ k = y * 256 + c.toNat := by
   rw [Nat.mul_comm, Nat.mul_add_div (Nat.pow_pos (by omega)), Nat.div_eq_of_lt hn, Nat.add_zero]
  rw [e3]
  have e4 : (y * 256 + c.toNat) % 256 = c.toNat := by omega
  rw [e4]; simp

theorem nan_nan : isNaN theNaN = true := by kernel_rfl
theorem canon_lt {x : Nat} (h : x < 18446744073709551616) : canon x < 18446744073709551616 := by
 unfold canon; split
 ·
  decide
 ·
  exact h
theorem canon_canon (x : Nat) : canon (canon x) = canon x := by
 rcases h : isNaN x with _ | _
 ·
  rw [canon_no h, canon_no h]
 ·
  rw [canon_yes h, canon_yes nan_nan]
theorem same_canon (x : Nat) : sameF (canon x) x = true := by
 rcases h : isNaN x with _ | _
 ·
  rw [canon_no h]; simp [sameF]
 ·
  rw [canon_yes h]; simp [sameF, nan_nan, h]
theorem float_enc (x : Nat) (rest : List UInt8) (h : x < 18446744073709551616) : RS.float ⟨encFloat x ++ rest, 0⟩ = (canon x, ⟨rest, 0⟩) := by
 have hl : (encFloat x).length = 8 := by simp [encFloat, hib]
 have e1 : (encFloat x ++ rest).take 8 = encFloat x := by rw [← hl, List.take_left]
 have e2 : (encFloat x ++ rest).drop 8 = rest := by rw [← hl, List.drop_left]
 have e3 : num8 (encFloat x) = canon x := by
  unfold encFloat
  rw [num8_hib, Nat.mod_eq_of_lt (by have := canon_lt h; simpa using this)]
 rw [float_yes (by simp [hl]) (by rw [e1, e3, canon_canon]), e1, e2, e3]
theorem enc_float {l l' : List UInt8} (h : (RS.float ⟨l, 0⟩).2 = ⟨l', 0⟩) : l = encFloat (RS.float ⟨l, 0⟩).1 ++ l' ∧ (RS.float ⟨l, 0⟩).1 < 18446744073709551616 := by
 by_cases h8 : l.length < 8
 ·
  rw [float_few h8] at h; simp at h
 ·
  by_cases hc : canon (num8 (l.take 8)) = num8 (l.take 8)
  ·
   rw [float_yes h8 hc] at h ⊢
   simp only [RS.mk.injEq, and_true] at h
   have hl : (l.take 8).length = 8 := by rw [List.length_take]; omega
   have := hib_num8 8 (l.take 8) 0 hl
   rw [Nat.zero_mul, Nat.zero_add] at this
   simp only
   unfold encFloat
   rw [hc, this, ← h, List.take_append_drop]
   exact ⟨rfl, by have := num8_lt 8 (l.take 8) hl; simpa using this⟩
  ·
   rw [float_nan h8 hc] at h; simp at h
theorem float_behind {l l' d : List UInt8} {x : Nat} (h : RS.float ⟨l, 0⟩ = (x, ⟨l', 0⟩)) : RS.float ⟨l ++ d, 0⟩ = (x, ⟨l' ++ d, 0⟩) := by
 by_cases h8 : l.length < 8
 ·
  rw [float_few h8] at h; simp at h
 ·
  have e1 : (l ++ d).take 8 = l.take 8 := List.take_append_of_le_length (by omega)
  have e2 : (l ++ d).drop 8 = l.drop 8 ++ d := List.drop_append_of_le_length (by omega)
  by_cases hc : canon (num8 (l.take 8)) = num8 (l.take 8)
  ·
   rw [float_yes h8 hc] at h
   rw [float_yes (by simp; omega) (by rw [e1]; exact hc), e1, e2]
   simp only [Prod.mk.injEq, RS.mk.injEq, and_true] at h ⊢
   exact ⟨h.1, by rw [h.2]⟩
  ·
   rw [float_nan h8 hc] at h; simp at h

theorem text_enc (t rest : List UInt8) (h : t.length ≤ 16384) : RS.text ⟨encText t ++ rest, 0⟩ = (t, ⟨rest, 0⟩) := by
 have := int_enc t.length (t ++ rest) (by omega) (by omega)
 rw [text_eq]
 unfold encText
 rw [List.append_assoc, this]
 simp only
 rw [if_neg (by simp), if_neg (by omega), if_neg (by simp; omega)]
 simp
theorem enc_text {l l' : List UInt8} (h : (RS.text ⟨l, 0⟩).2 = ⟨l', 0⟩) : l = encText (RS.text ⟨l, 0⟩).1 ++ l' ∧ (RS.text ⟨l, 0⟩).1.length ≤ 16384 := by
 rw [text_eq] at h ⊢
 obtain ⟨⟨l1, e1⟩, hr⟩ : ∃ r1, (RS.int ⟨l, 0⟩).2 = r1 := ⟨_, rfl⟩
 obtain ⟨n, hn⟩ : ∃ n, (RS.int ⟨l, 0⟩).1 = n := ⟨_, rfl⟩
 rw [hr, hn] at h ⊢
 simp only at h ⊢
 by_cases he : e1 = 0
 ·
  subst he
  rw [if_neg (by simp)] at h ⊢
  split at h
  ·
   simp at h
  ·
   rename_i h1
   rw [if_neg h1]
   split at h
   ·
    simp at h
   ·
    rename_i h2
    rw [if_neg h2]
    have hi := enc_int hr
    rw [hn] at hi
    simp only [RS.mk.injEq, and_true] at h
    have hlen : (l1.take n.toNat).length = n.toNat := by rw [List.length_take]; omega
    refine ⟨?_, by simp only [hlen]; omega⟩
    unfold encText
    simp only [hlen]
    rw [show ((n.toNat : Nat) : Int) = n from by omega, List.append_assoc, ← h, List.take_append_drop]
    exact hi
 ·
  rw [if_pos he] at h
  simp at h
  omega
theorem text_behind {l l' d t : List UInt8} (h : RS.text ⟨l, 0⟩ = (t, ⟨l', 0⟩)) : RS.text ⟨l ++ d, 0⟩ = (t, ⟨l' ++ d, 0⟩) := by
 have h2 := enc_text (l := l) (l' := l') (by rw [h])
 rw [h] at h2
 simp only at h2
 have := text_enc t (l' ++ d) h2.2
 rw [← List.append_assoc, ← h2.1] at this
 exact this
theorem text_e (r : RS) : r.text.2.e = 0 → r.e = 0 := by
 intro h
 apply int_e
 rw [text_eq] at h
 split at h
 ·
  exact h
 ·
  rename_i h1; omega
end Go.Proofs.YtjhnlncgmejkcaaGreat
