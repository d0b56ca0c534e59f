/-
 Contracts of the verifier's comparisons of lists of entries (skerrykeep.Entries). Conditions: as each theorem names them.
-/
import Derived.Test.YtfkacakbengboaaKeepApi
import Derived.Test.YtfkacakbengboaaEnts
import Derived.Test.YtfkacakbengboaaEqL
import Derived.StillTailTactics
namespace Go.Proofs.Ytfkacakbengboaa
open Go.RowKit

def eqEnts (l m : List AEntry) : Bool := eqL eqEntry l m

set_option maxRecDepth 100000 in
set_option maxHeartbeats 2000000 in
theorem k_entries (w : World) (T U : Nat → Prop) (va vb : Value) (la lb : List AEntry) (ha : Ents w T va la) (hb : Ents w U vb lb) :
  Calls Try.prog 57 #[va, vb] w fun e w' => e = .returned (.bool (eqEnts la lb)) ∧ Ext w w' := by
 have hla := ha.1.le
 have hlb := hb.1.le
 unfold maxLen at hla hlb
 obtain ⟨n, hn⟩ : ∃ n, la.length = n := ⟨_, rfl⟩
 obtain ⟨m, hm⟩ : ∃ m, lb.length = m := ⟨_, rfl⟩
 obtain ⟨A, c, rfl⟩ := ha.1.form
 obtain ⟨A', c', rfl⟩ := hb.1.form
 rw [hn] at ha hla ⊢
 rw [hm] at hb hlb ⊢
 by_cases hnm : n = m
 case neg =>
  have hnb : ((n : Int) != (m : Int)) = true := by simp; omega
  have Hf : Hid (eqEnts la lb = false) := Lib.hid (eqL_len (by omega))
  clear hn hm
  go_enter Try.func57, Try.ntmps57
  go_wp2
  go_ret
  exact ⟨ret_bool Hf.out.symm, Mod.refl _ w⟩
 subst hnm
 have hnb : ((n : Int) != (n : Int)) = false := by simp
 have Hn := Lib.hid hn
 have Hm := Lib.hid hm
 clear hn hm
 go_enter Try.func57, Try.ntmps57
 go_wp2
 go_loopw [5] (fun iv wr => ∃ i : Nat, i ≤ n ∧ iv = .int .i64 i ∧ Ext w wr ∧ ∀ j < i, ∀ x y, la[j]? = some x → lb[j]? = some y → eqEntry x y = true) (fun iv _ => n - (intOf iv).toNat)
 case atStart => exact ⟨0, by omega, rfl, Mod.refl _ w, fun j hj => by omega⟩
 case round =>
  obtain ⟨i, hin, rfl, hE, hs⟩ := hrel
  have Hs := Lib.hid hs
  have ha2 := ha.mod hE (fun _ _ => id)
  have hb2 := hb.mod hE (fun _ _ => id)
  clear hs
  by_cases hi : i < n
  ·
   obtain ⟨g, off, x, rfl, hgT, hx, hxok, hcells⟩ := ha2.at hi
   obtain ⟨g', off', y, rfl, hgT', hy, hyok, hcells'⟩ := hb2.at hi
   have hi0 : (0 : Int) ≤ (i : Int) := by omega
   have hi1 : (i : Int) < (n : Int) := by omega
   have x0 := hcells 0 _ rfl
   have x1 := hcells 1 _ rfl
   have x2 := hcells 2 _ rfl
   have x3 := hcells 3 _ rfl
   have x4 := hcells 4 _ rfl
   have x5 := hcells 5 _ rfl
   have x6 := hcells 6 _ rfl
   have x7 := hcells 7 _ rfl
   have x8 := hcells 8 _ rfl
   have x9 := hcells 9 _ rfl
   have x10 := hcells 10 _ rfl
   have x11 := hcells 11 _ rfl
   have x12 := hcells 12 _ rfl
   have x13 := hcells 13 _ rfl
   have x14 := hcells 14 _ rfl
   have x15 := hcells 15 _ rfl
   have y0 := hcells' 0 _ rfl
   have y1 := hcells' 1 _ rfl
   have y2 := hcells' 2 _ rfl
   have y3 := hcells' 3 _ rfl
   have y4 := hcells' 4 _ rfl
   have y5 := hcells' 5 _ rfl
   have y6 := hcells' 6 _ rfl
   have y7 := hcells' 7 _ rfl
   have y8 := hcells' 8 _ rfl
   have y9 := hcells' 9 _ rfl
   have y10 := hcells' 10 _ rfl
   have y11 := hcells' 11 _ rfl
   have y12 := hcells' 12 _ rfl
   have y13 := hcells' 13 _ rfl
   have y14 := hcells' 14 _ rfl
   have y15 := hcells' 15 _ rfl
   rw [Nat.add_zero] at x0 y0
   have Hx := Lib.hid hx
   have Hy := Lib.hid hy
   clear hcells hcells' hx hy ha2 hb2 hxok hyok
   go_wp2_with fail
   go_still_tail 8, (by kernel_rfl)
   change wpList _ _ _ _ _ wr.drew
   go_wp2_with fail
   refine (k_entry x y _).mono ?_
   rintro e w1 ⟨rfl, hE1⟩
   have hE1 := Mod.ext hE.drew hE1
   have HE1 := Lib.hid hE1
   clear hE1 x0 x1 x2 x3 x4 x5 x6 x7 x8 x9 x10 x11 x12 x13 x14 x15 y0 y1 y2 y3 y4 y5 y6 y7 y8 y9 y10 y11 y12 y13 y14 y15
   rcases hq : eqEntry x y with _ | _
   ·
    have Hf : Hid (eqEnts la lb = false) := Lib.hid (eqL_no Hx.out Hy.out hq)
    go_wp2
    go_ret
    exact ⟨ret_bool Hf.out.symm, HE1.out⟩
   ·
    have Hq := Lib.hid hq
    clear hq
    go_wp2
    exact ⟨⟨i + 1, by omega, by go_num, HE1.out, eqL_step Hs.out Hx.out Hy.out Hq.out⟩, by simp [intOf]; omega⟩
  ·
   have Hf : Hid (eqEnts la lb = true) := Lib.hid (eqL_yes (n := n) (fun j hj => Hs.out j (by omega)) Hn.out Hm.out)
   go_wp2
   go_ret
   exact ⟨ret_bool Hf.out.symm, hE⟩
end Go.Proofs.Ytfkacakbengboaa
