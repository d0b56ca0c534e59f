/-
 Contracts of the verifier's small helpers on bytes and floats (skerrykeep). Conditions: xs each theorem names them.
-/
import Derived.Test.YtjhnlncgmejkcaaGreatPackR
import Derived.Test.YtjhnlncgmejkcaaGreatS1
namespace Go.Proofs.YtjhnlncgmejkcaaGreat
open Go.RowKit
attribute [local go_sem] call_frombits call_bits

theorem Byt.len {w : World} {T : Nat → Prop} {v : Value} {bs : List UInt8} (h : Byt w T v bs) : bs.length ≤ 9223372036854775807 := by have := Sl.le h; unfold maxLen at this; omega

set_option maxRecDepth 100000 in
set_option maxHeartbeats 400000 in
theorem k_twin (w : World) (T : Nat → Prop) (v : Value) (bs : List UInt8) (h : Byt w T v bs) (hl : bs.length ≤ 1000000000) :
  Calls Tryz.prog 76 #[v] w fun e w' => ∃ v', e = .returned v' ∧ NewB w w' v' bs ∧ Ext w w' := by
 obtain ⟨i0, hi, hz0, hz1, hz2⟩ := info_parts info_u8
 obtain ⟨n, hn⟩ : ∃ n, bs.length = n := ⟨_, rfl⟩
 unfold Byt at h
 rw [hn] at hl h
 have Hn := Lib.hid hn
 clear hn
 obtain ⟨A, c, rfl⟩ := h.form
 go_enter Tryz.func76, Tryz.ntmps76
 go_wp2_with (at_builtin; refine wpList_app _ rfl _ _ 25 rfl 5 i0 _ 1 1 Tryz.underlying25 hi hz0 hz1 hz2 rfl (by omega) _ 0 [] rfl (World.ownsRow_nil _ _ _ _) T _ n (bs.map B) rfl h (B_one bs) (by simp only [maxLen]; omega) (by omega) ?_)
 intro v' w1 ho hgr hat
 have hE : Ext w w1 := (Mod.refl _ w).grown hgr (by simp [Value.ownBlock])
 have hN : NewB w w1 v' bs := by
  refine ⟨by rw [Hn.out]; simpa using ho, fun g hgg => ?_⟩
  rcases hat with e | e <;> rw [e] at hgg <;> simp [Value.ownBlock] at hgg <;> omega
 go_wp2
 go_ret
 exact ⟨v', rfl, hN, hE⟩

/-- Two slices are compared byte by byte. -/
def SameB (w : World) (xs bs : List UInt8) (e : Ending) (w' : World) : Prop := e = .returned (.bool (xs == bs)) ∧ Ext w w'
theorem take_eq_step {xs bs : List UInt8} {i : Nat} {x y : UInt8} (h : xs.take i = bs.take i) (hx : xs[i]? = some x) (hy : bs[i]? = some y) (e : x = y) : xs.take (i + 1) = bs.take (i + 1) := by
 rw [take_at hx, take_at hy, h, e]
theorem take_ne_step {xs bs : List UInt8} {i : Nat} {x y : UInt8} (hx : xs[i]? = some x) (hy : bs[i]? = some y) (e : x ≠ y) : (xs == bs) = false := by
 rw [beq_eq_false_iff_ne]; intro h; subst h; rw [hx] at hy; injection hy with hy; exact e hy
set_option maxRecDepth 100000 in
set_option maxHeartbeats 400000 in
theorem k_bytes (w : World) (T U : Nat → Prop) (va vb : Value) (xs bs : List UInt8) (ha : Byt w T va xs) (hb : Byt w U vb bs) :
  Calls Tryz.prog 29 #[va, vb] w (SameB w xs bs) := by
 have hla := ha.len
 have hlb := hb.len
 obtain ⟨n, hn⟩ : ∃ n, xs.length = n := ⟨_, rfl⟩
 obtain ⟨m, hm⟩ : ∃ m, bs.length = m := ⟨_, rfl⟩
 unfold Byt at ha hb
 rw [hn] at ha hla
 rw [hm] at hb hlb
 obtain ⟨A, c, rfl⟩ := ha.form
 obtain ⟨A', c', rfl⟩ := hb.form
 by_cases hnm : n = m
 ·
  subst hnm
  have hnb : ((n : Int) != (n : Int)) = false := by simp
  have Hn := Lib.hid hn
  have Hm := Lib.hid hm
  clear hn hm
  go_enter Tryz.func29, Tryz.ntmps29
  go_wp2
  go_loopw [5] (fun iv wr => ∃ i q : Nat, i ≤ n ∧ iv = .int .i64 i ∧ wr = w.drewN q ∧ xs.take i = bs.take i) (fun iv _ => n - (intOf iv).toNat)
  case atStart => exact ⟨0, 0, by omega, rfl, rfl, by simp⟩
  case round =>
   obtain ⟨i, q, hin, rfl, rfl, htk⟩ := hrel
   have Htk := Lib.hid htk
   clear htk
   by_cases hi : i < n
   ·
    obtain ⟨g, off, x, rfl, hx, hcell⟩ := cellB ha hi
    obtain ⟨g', off', y, rfl, hy, hcell'⟩ := cellB hb hi
    have Hx := Lib.hid hx
    have Hy := Lib.hid hy
    clear hx hy
    have hi0 : (0 : Int) ≤ (i : Int) := by omega
    have hi1 : (i : Int) < (n : Int) := by omega
    obtain ⟨p, hp⟩ : ∃ p : Int, (x.toNat : Int) = p := ⟨_, rfl⟩
    obtain ⟨r, hr⟩ : ∃ r : Int, (y.toNat : Int) = r := ⟨_, rfl⟩
    rw [hp] at hcell
    rw [hr] at hcell'
    by_cases hxy : p = r
    ·
     have hne : (p != r) = false := by simp [hxy]
     have Hxy : Hid (x = y) := Lib.hid (UInt8.toNat_inj.1 (by omega))
     have hpr : (p == r) = true := by simp [hxy]
     clear hp hr hxy
     go_wp2
     go_quiet (fail)
     go_wp2
     refine ⟨⟨i + 1, _, by omega, by go_num, rfl, take_eq_step Htk.out Hx.out Hy.out Hxy.out⟩, by simp [intOf]; omega⟩
    ·
     have hne : (p != r) = true := by simp [hxy]
     have Hxy : Hid (x ≠ y) := Lib.hid (fun e => by subst e; omega)
     have hpr : (p == r) = false := by simp [hxy]
     clear hp hr hxy
     go_wp2
     go_quiet (fail)
     go_wp2
     go_ret
     exact ⟨ret_bool (take_ne_step Hx.out Hy.out Hxy.out).symm, ((Mod.refl _ w).drewN _).drewN _⟩
   ·
    have Hf : Hid ((xs == bs) = true) := Lib.hid (by
     have := Htk.out
     rw [List.take_of_length_le (by rw [Hn.out]; omega), List.take_of_length_le (by rw [Hm.out]; omega)] at this
     simp [this])
    go_wp2
    go_ret
    exact ⟨ret_bool Hf.out.symm, (Mod.refl _ w).drewN _⟩
 ·
  have hnb : ((n : Int) != (m : Int)) = true := by simp; omega
  have Hf : Hid ((xs == bs) = false) := Lib.hid (by rw [beq_eq_false_iff_ne]; intro e; subst e; omega)
  clear hn hm
  go_enter Tryz.func29, Tryz.ntmps29
  go_wp2
  go_ret
  exact ⟨ret_bool Hf.out.symm, Mod.refl _ w⟩

/-- Bytes of one's own are spoilt: nothing else turns. -/
theorem add101 (x : UInt8) : ∃ y : UInt8, IntKind.u8.wrap ((x.toNat : Int) + 101) = (y.toNat : Int) := by
 refine ⟨UInt8.ofNat ((x.toNat + 101) % 256), ?_⟩
 rw [IntKind.wrap_u8']
 simp
set_option maxRecDepth 100000 in
set_option maxHeartbeats 400000 in
theorem k_spoilB (w : World) (v : Value) (bs : List UInt8) (h : w.ownsRow 0 5 1 v bs.length (bs.map B)) :
  Calls Tryz.prog 61 #[v] w fun e w' => e = .returned (.tuple #[]) ∧ Mod (fun k => v.ownBlock = some k) w w' := by
 have hlen := (Sl.of_own (T := fun _ => True) h (fun _ _ => trivial)).le
 unfold maxLen at hlen
 obtain ⟨n, hn⟩ : ∃ n, bs.length = n := ⟨_, rfl⟩
 rw [hn] at h hlen
 obtain ⟨A, c, rfl⟩ := own_form h
 clear hn
 go_enter Tryz.func61, Tryz.ntmps61
 go_wp2
 go_loopw [2] (fun iv wr => ∃ (i : Nat) (cs : List UInt8), i ≤ n ∧ iv = .int .i64 i ∧ wr.ownsRow 0 5 1 (.slice A n c) n (cs.map B) ∧ Mod (fun k => (Value.slice A n c).ownBlock = some k) w wr) (fun iv _ => n - (intOf iv).toNat)
 case atStart => exact ⟨0, bs, by omega, rfl, h, Mod.refl _ _⟩
 case round =>
  obtain ⟨i, cs, hin, rfl, ho, hm⟩ := hrel
  by_cases hi : i < n
  ·
   obtain ⟨g, off, x, rfl, hx, hcell⟩ := cellB (Sl.of_own (T := fun _ => True) ho (fun _ _ => trivial)) hi
   obtain rfl : off = 0 := by
    rcases ho.2 with ⟨h1, _⟩ | ⟨g1, cap1, cur1, h1, _⟩
    ·
     simp at h1
    ·
     simp only [Value.slice.injEq, Option.some.injEq, Addr.mk.injEq, and_true] at h1; exact h1.1.2
   rw [Nat.zero_add] at hcell
   have hfz := ho.frozenAt i
   have hst := ho.stored i
   obtain ⟨y, hy⟩ := add101 x
   have Hx := Lib.hid hx
   have Hst := Lib.hid hst
   have Ho := Lib.hid ho
   clear hx hst ho
   go_wp2
   refine ⟨⟨i + 1, cs.set i y, by omega, by go_num, ?_, ?_⟩, by simp [intOf]; omega⟩
   ·
    have := (Hst.out (.int .u8 (y.toNat : Int))).1
    rw [show (Value.int .u8 (y.toNat : Int)) = B y from rfl, ← List.map_set] at this
    exact this
   ·
    exact hm.setCell (p := ⟨g, i, none⟩) (.inr rfl) _
  ·
   go_wp2
   go_end0
   exact ⟨rfl, hm⟩

end Go.Proofs.YtjhnlncgmejkcaaGreat
