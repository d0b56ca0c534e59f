/-
 Contracts of the verifier's small helpers on bytes and floats (skerrykeep). Conditions: xs each theorem names them.
-/
import Derived.Test.YtjhnlncgmejkcaaGreatPackR
import Derived.Test.YtjhnlncgmejkcaaGreatS1
set_option maxRecDepth 100000
set_option maxHeartbeats 400000
namespace Go.Proofs.YtjhnlncgmejkcaaGreat
open Go.RowKit
attribute [local go_sem] yP jA
theorem Byt.len {w : World} {T : Nat → Prop} {v : Value} {bs : List UInt8} (h : Byt w T v bs) : bs.length ≤ 9223372036854775807 := by have := Sl.le h; unfold maxLen at this; omega
theorem k_twin (w : World) (T : Nat → Prop) (v : Value) (bs : List UInt8) (h : Byt w T v bs) (hl : bs.length ≤ 1000000000) :
  Calls Tryz.prog 76 #[v] w fun e w' => ∃ v', e = .returned v' ∧ yO w w' v' bs ∧ Ext w w' := by
 obtain ⟨i0, hi, hz0, hz1, hz2⟩ := info_parts jN
 obtain ⟨n, hn⟩ : ∃ n, bs.length = n := ⟨_, rfl⟩
 unfold Byt at h
 rw [hn] at hl h
 have Hn := hJ hn
 clear hn
 obtain ⟨A, c, rfl⟩ := h.form
 go_enter Tryz.func76, Tryz.ntmps76
 go_wp2_with (at_builtin; refine yA _ rfl _ _ 25 rfl 5 i0 _ 1 1 Tryz.underlying25 hi hz0 hz1 hz2 rfl (by omega) _ 0 [] rfl (World.ownsRow_nil _ _ _ _) T _ n (bs.map B) rfl h (zdL bs) (by simp only [maxLen]; omega) (by omega) ?_)
 intro v' w1 ho hgr hat
 have hE : Ext w w1 := (Mod.refl _ w).grown hgr (by simp [Value.ownBlock])
 have hN : yO w w1 v' bs := by
  refine ⟨by rw [Hn.out]; simpa using ho, fun g hgg => ?_⟩
  rcases hat with e | e <;> rw [e] at hgg <;> simp [Value.ownBlock] at hgg <;> omega
 go_wp2
 go_ret
 exact ⟨v', rfl, hN, hE⟩
def SameB (w : World) (xs bs : List UInt8) (e : Ending) (w' : World) : Prop := e = .returned (.bool (xs == bs)) ∧ Ext w w'
theorem ziW {xs bs : List UInt8} {i : Nat} {x y : UInt8} (h : xs.take i = bs.take i) (hx : xs[i]? = some x) (hy : bs[i]? = some y) (e : x = y) : xs.take (i + 1) = bs.take (i + 1) := by
 rw [zhT hx, zhT hy, h, e]
theorem ziX {xs bs : List UInt8} {i : Nat} {x y : UInt8} (hx : xs[i]? = some x) (hy : bs[i]? = some y) (e : x ≠ y) : (xs == bs) = false := by
 rw [beq_eq_false_iff_ne]; intro h; subst h; rw [hx] at hy; injection hy with hy; exact e hy
theorem zkE (w : World) (T U : Nat → Prop) (va vb : Value) (xs bs : List UInt8) (ha : Byt w T va xs) (hb : Byt w U vb bs) :
  Calls Tryz.prog 29 #[va, vb] w (SameB w xs bs) := by
 have hla := ha.len
 have hlb := hb.len
 obtain ⟨n, hn⟩ : ∃ n, xs.length = n := ⟨_, rfl⟩
 obtain ⟨m, hm⟩ : ∃ m, bs.length = m := ⟨_, rfl⟩
 unfold Byt at ha hb
 rw [hn] at ha hla
 rw [hm] at hb hlb
 obtain ⟨A, c, rfl⟩ := ha.form
 obtain ⟨A', c', rfl⟩ := hb.form
 by_cases hnm : n = m
 ·
  subst hnm
  have hnb : ((n : Int) != (n : Int)) = false := by simp
  have Hn := hJ hn
  have Hm := hJ hm
  clear hn hm
  go_enter Tryz.func29, Tryz.ntmps29
  go_wp2
  go_loopw [5] (fun iv wr => ∃ i q : Nat, i ≤ n ∧ iv = .int .i64 i ∧ wr = w.drewN q ∧ xs.take i = bs.take i) (fun iv _ => n - (intOf iv).toNat)
  case atStart => exact ⟨0, 0, by omega, rfl, rfl, by simp⟩
  obtain ⟨i, q, hin, rfl, rfl, htk⟩ := hrel
  have Htk := hJ htk
  clear htk
  by_cases hi : i < n
  ·
   obtain ⟨g, off, x, rfl, hx, hcell⟩ := zb0 ha hi
   obtain ⟨g', off', y, rfl, hy, hcell'⟩ := zb0 hb hi
   have Hx := hJ hx
   have Hy := hJ hy
   clear hx hy
   have hi0 : (0 : Int) ≤ (i : Int) := by omega
   have hi1 : (i : Int) < (n : Int) := by omega
   obtain ⟨p, hp⟩ : ∃ p : Int, (x.toNat : Int) = p := ⟨_, rfl⟩
   obtain ⟨r, hr⟩ : ∃ r : Int, (y.toNat : Int) = r := ⟨_, rfl⟩
   rw [hp] at hcell
   rw [hr] at hcell'
   by_cases hxy : p = r
   ·
    have hne : (p != r) = false := by simp [hxy]
    have Hxy : Hid (x = y) := hJ (UInt8.toNat_inj.1 (by omega))
    have hpr : (p == r) = true := by simp [hxy]
    clear hp hr hxy
    go_wp2
    go_quiet (fail)
    go_wp2
    refine ⟨⟨i + 1, _, by omega, by go_num, rfl, ziW Htk.out Hx.out Hy.out Hxy.out⟩, by simp [intOf]; omega⟩
   have hne : (p != r) = true := by simp [hxy]
   have Hxy : Hid (x ≠ y) := hJ (fun e => by subst e; omega)
   have hpr : (p == r) = false := by simp [hxy]
   clear hp hr hxy
   go_wp2
   go_quiet (fail)
   go_wp2
   go_ret
   exact ⟨zP (ziX Hx.out Hy.out Hxy.out).symm, ((Mod.refl _ w).drewN _).drewN _⟩
  have Hf : Hid ((xs == bs) = true) := hJ (by
   have := Htk.out
   rw [List.take_of_length_le (by rw [Hn.out]; omega), List.take_of_length_le (by rw [Hm.out]; omega)] at this
   simp [this])
  go_wp2
  go_ret
  exact ⟨zP Hf.out.symm, (Mod.refl _ w).drewN _⟩
 have hnb : ((n : Int) != (m : Int)) = true := by simp; omega
 have Hf : Hid ((xs == bs) = false) := hJ (by rw [beq_eq_false_iff_ne]; intro e; subst e; omega)
 clear hn hm
 go_enter Tryz.func29, Tryz.ntmps29
 go_wp2
 go_ret
 exact ⟨zP Hf.out.symm, Mod.refl _ w⟩
end Go.Proofs.YtjhnlncgmejkcaaGreat
