/-
 Plain laws of what package pack writes and reads: what was written is read again, what was read is what is written of it, and so on. No program is walked here. Conditions: as each theorem names them.
-/
import Derived.Test.YtjhnlncgmejkcaaGreatGSpec
import Derived.Test.YtjhnlncgmejkcaaGreatPackR
namespace Go.Proofs.YtjhnlncgmejkcaaGreat
theorem rd_uv : ∀ (f k z acc : Nat) (rest : List UInt8), k + f = 9 → z < 2 ^ (64 - 7 * k) → (0 < k → 0 < z) → zaY k acc (uvF f z ++ rest) = some (acc + z * 2 ^ (7 * k), rest)
 | 0, k, z, acc, rest, hk, hz, hp => by
  obtain rfl : k = 9 := by omega
  have hz2 : z < 2 := by simpa using hz
  have e1 : (UInt8.ofNat z).toNat = z := by simp; omega
  simp only [uvF, List.cons_append, List.nil_append]
  rw [zaY, e1, if_neg (by omega), if_pos (by omega), if_neg (by omega), Nat.mod_eq_of_lt (by omega)]
 | f + 1, k, z, acc, rest, hk, hz, hp => by
  by_cases h : z < 128
  ·
   have e1 : (UInt8.ofNat z).toNat = z := by simp; omega
   rw [uvF, if_pos h]
   simp only [List.cons_append, List.nil_append]
   rw [zaY, e1, if_neg (by omega), if_pos h, if_neg (by omega), Nat.mod_eq_of_lt h]
  have e1 : (UInt8.ofNat (z % 128 + 128)).toNat = z % 128 + 128 := by simp; omega
  rw [uvF, if_neg h]
  simp only [List.cons_append]
  have hz' : z / 128 < 2 ^ (64 - 7 * (k + 1)) := by
   rw [Nat.div_lt_iff_lt_mul (by omega)]
   rw [show 64 - 7 * k = 64 - 7 * (k + 1) + 7 from by omega, Nat.pow_add] at hz
   exact hz
  rw [zaY, e1, if_neg (by omega), if_neg (by omega), rd_uv f (k + 1) (z / 128) _ rest (by omega) hz' (by omega)]
  have e2 : (z % 128 + 128) % 128 = z % 128 := by omega
  rw [e2, show 7 * (k + 1) = 7 * k + 7 from by omega, Nat.pow_add]
  have e3 : z = z % 128 + z / 128 * 128 := by omega
  congr 2
  rw [Nat.add_assoc]
  congr 1
  conv => rhs; rw [e3]
  rw [Nat.add_mul, Nat.mul_comm (2 ^ (7 * k)) (2 ^ 7), ← Nat.mul_assoc]
theorem zag_zig (n : Int) : zag (zig n) = n := by unfold zag zig; split <;> split <;> omega
theorem xH (n : Int) (rest : List UInt8) (h0 : -9223372036854775808 ≤ n) (h1 : n ≤ 9223372036854775807) : RS.int ⟨zS n ++ rest, 0⟩ = (n, ⟨rest, 0⟩) := by
 have := rd_uv 9 0 (zig n) 0 rest (by omega) (by have := znX h0 h1; simpa using this) (by omega)
 rw [zhP (z := zig n) (r := rest) (by simpa [zS] using this), zag_zig]
theorem zj8 (a b : List UInt8) : zaZ (a ++ b) = zaZ a * 256 ^ b.length + zaZ b := by
 unfold zaZ
 rw [List.foldl_append]
 generalize List.foldl (fun x c => x * 256 + c.toNat) 0 a = y
 induction b generalizing y with
 | nil => simp
 | cons c b ih =>
  simp only [List.foldl_cons, List.length_cons]
  rw [ih, ih (0 * 256 + c.toNat), Nat.pow_succ, Nat.add_mul, Nat.mul_assoc, Nat.mul_comm 256 (256 ^ b.length), Nat.zero_mul, Nat.zero_add]
  omega
theorem qH : ∀ k x, (hib k x).length = k
 | 0, _ => rfl
 | k + 1, x => by simp [hib, qH k x]
theorem ze8 : ∀ k x, zaZ (hib k x) = x % 256 ^ k
 | 0, x => by simp [hib, zaZ, Nat.mod_one]
 | k + 1, x => by
  have e : hib (k + 1) x = [UInt8.ofNat (x / 256 ^ k % 256)] ++ hib k x := rfl
  have e1 : (UInt8.ofNat (x / 256 ^ k % 256)).toNat = x / 256 ^ k % 256 := by simp
  rw [e, zj8, ze8 k x, qH]
  simp only [zaZ, List.foldl_cons, List.foldl_nil, e1, Nat.zero_mul, Nat.zero_add]
  rw [Nat.pow_succ, Nat.mod_mul, Nat.mul_comm, Nat.add_comm]
theorem nan_nan : zaG zaQ = true := by kernel_rfl
theorem canon_lt {x : Nat} (h : x < 18446744073709551616) : yU x < 18446744073709551616 := by
 unfold yU; split
 · decide
 exact h
theorem zj9 (x : Nat) : yU (yU x) = yU x := by
 rcases h : zaG x with _ | _
 · rw [zdM h, zdM h]
 rw [zbZ h, zbZ nan_nan]
theorem zoA (x : Nat) (rest : List UInt8) (h : x < 18446744073709551616) : RS.float ⟨yT x ++ rest, 0⟩ = (yU x, ⟨rest, 0⟩) := by
 have hl : (yT x).length = 8 := by simp [yT, hib]
 have e1 : (yT x ++ rest).take 8 = yT x := by rw [← hl, List.take_left]
 have e2 : (yT x ++ rest).drop 8 = rest := by rw [← hl, List.drop_left]
 have e3 : zaZ (yT x) = yU x := by
  unfold yT
  rw [ze8, Nat.mod_eq_of_lt (by have := canon_lt h; simpa using this)]
 rw [zfL (by simp [hl]) (by rw [e1, e3, zj9]), e1, e2, e3]
theorem zhV (t rest : List UInt8) (h : t.length ≤ 16384) : RS.text ⟨yH t ++ rest, 0⟩ = (t, ⟨rest, 0⟩) := by
 have := xH t.length (t ++ rest) (by omega) (by omega)
 rw [zeH]
 unfold yH
 rw [List.append_assoc, this]
 simp only
 rw [if_neg (by simp), if_neg (by omega), if_neg (by simp; omega)]
 simp
end Go.Proofs.YtjhnlncgmejkcaaGreat
