/-
 What the calls of the page's reader (skerryref02.Reader) do: contracts. Conditions: as each theorem names them.
-/
import Derived.Test.YtfkacakbengboaaPackR
namespace Go.Proofs.Ytfkacakbengboaa
set_option linter.unusedSimpArgs false
open Go.RowKit

/-- The page's reader at the head of block b: the bytes bs lie in blocks of T, b is none of them; it stands at a. -/
def Rp (w : World) (T : Nat → Prop) (b : Nat) (bs : List UInt8) (a : Nat) (r : RS) : Prop :=
 ∃ v, w.heap[b]? = some (.cells #[v, .int .i64 (a : Int), .int .i64 r.e] 80 (0, 0)) ∧ Byt w T v bs ∧ ¬ T b ∧ a ≤ bs.length ∧ r.left = bs.drop a
def RpX (w : World) (T : Nat → Prop) (b : Nat) (bs : List UInt8) (r : RS) : Prop := ∃ a, Rp w T b bs a r
theorem Rp.mod {w w' : World} {S T : Nat → Prop} {b a : Nat} {bs : List UInt8} {r : RS} (h : Rp w T b bs a r) (hm : Mod S w w') (hb : ¬ S b) (hd : ∀ g, T g → ¬ S g) : Rp w' T b bs a r := by
 obtain ⟨v, hb', hs, hT, ha, hl⟩ := h
 exact ⟨v, hm.blk hb' hb, hs.mod hm hd, hT, ha, hl⟩
theorem RpX.mod {w w' : World} {S T : Nat → Prop} {b : Nat} {bs : List UInt8} {r : RS} (h : RpX w T b bs r) (hm : Mod S w w') (hb : ¬ S b) (hd : ∀ g, T g → ¬ S g) : RpX w' T b bs r := by
 obtain ⟨a, h⟩ := h
 exact ⟨a, h.mod hm hb hd⟩
theorem rp_cells {w : World} {b : Nat} {x y z : Value} {t : TypeId} (hb : w.heap[b]? = some (.cells #[x, y, z] t (0, 0))) :
  w.cell? ⟨b, 0, none⟩ = some x ∧ w.cell? ⟨b, 1, none⟩ = some y ∧ w.cell? ⟨b, 2, none⟩ = some z ∧ w.frozen? ⟨b, 1, none⟩ = false ∧ w.frozen? ⟨b, 2, none⟩ = false := by
 simp [World.cell?, World.frozen?, hb]
theorem rp_at {w : World} {b : Nat} {v y z : Value} {t : TypeId} (k : Int) (hb : w.heap[b]? = some (.cells #[v, y, z] t (0, 0))) :
  (w.setCell ⟨b, 1, none⟩ (.int .i64 k)).heap[b]? = some (.cells #[v, .int .i64 k, z] t (0, 0)) ∧ Mod (fun k => k = b) w (w.setCell ⟨b, 1, none⟩ (.int .i64 k)) :=
 ⟨by simp [World.setCell, Array.getElem?_modify, hb], (Mod.refl (fun k => k = b) w).setCell (p := ⟨b, 1, none⟩) (.inr rfl) _⟩
theorem rp_err {w : World} {b : Nat} {v y z : Value} {t : TypeId} (k : Int) (hb : w.heap[b]? = some (.cells #[v, y, z] t (0, 0))) :
  (w.setCell ⟨b, 2, none⟩ (.int .i64 k)).heap[b]? = some (.cells #[v, y, .int .i64 k] t (0, 0)) ∧ Mod (fun k => k = b) w (w.setCell ⟨b, 2, none⟩ (.int .i64 k)) :=
 ⟨by simp [World.setCell, Array.getElem?_modify, hb], (Mod.refl (fun k => k = b) w).setCell (p := ⟨b, 2, none⟩) (.inr rfl) _⟩

set_option maxRecDepth 100000 in
set_option maxHeartbeats 400000 in
theorem p_none (w : World) (T : Nat → Prop) (b : Nat) (bs : List UInt8) (a : Nat) (r : RS) (x : Int) (h : Rp w T b bs a r) :
  Calls Try.prog 81 #[.pointer (some ⟨b, 0, none⟩), .int .i64 x] w fun e w' => e = .returned (.tuple #[]) ∧ Rp w' T b bs a (r.fail x) ∧ Mod (fun k => k = b) w w' := by
 obtain ⟨v, hb, hs, hT, ha, hl⟩ := h
 obtain ⟨c0, c1, c2, f1, f2⟩ := rp_cells hb
 obtain ⟨h1, h2⟩ := rp_err x hb
 have Hb := Lib.hid hb
 clear hb
 by_cases he : r.e = 0
 ·
  have d1 : (r.e == 0) = true := by simp [he]
  have Hf : Hid (r.fail x = ⟨r.left, x⟩) := Lib.hid (by unfold RS.fail; rw [if_pos he])
  have H1 : Hid (Rp (w.setCell ⟨b, 2, none⟩ (.int .i64 x)) T b bs a (r.fail x)) := Lib.hid (by rw [Hf.out]; exact ⟨v, h1, hs.mod h2 (fun g hg e => hT (e ▸ hg)), hT, ha, hl⟩)
  have H2 := Lib.hid h2
  clear h1 h2 he
  go_enter Try.func81, Try.ntmps81
  go_wp2
  go_end0
  exact ⟨rfl, H1.out, H2.out⟩
 ·
  have d1 : (r.e == 0) = false := by simp [he]
  have Hf : Hid (r.fail x = r) := Lib.hid (by unfold RS.fail; rw [if_neg he])
  clear h1 h2 he
  go_enter Try.func81, Try.ntmps81
  go_wp2
  go_end0
  exact ⟨rfl, by rw [Hf.out]; exact ⟨v, Hb.out, hs, hT, ha, hl⟩, Mod.refl _ _⟩

def PIntOk (w : World) (T : Nat → Prop) (b : Nat) (bs : List UInt8) (r : RS) (e : Ending) (w' : World) : Prop := e = .returned (.int .i64 r.int.1) ∧ RpX w' T b bs r.int.2 ∧ Mod (fun k => k = b) w w'
theorem p_join (z m i : Nat) (hz : z < 2 ^ (7 * i)) (hm : m < 256) (hi : i ≤ 9) (hi9 : i = 9 → m ≤ 1) :
  IntKind.u64.wrap ((z : Int) + IntKind.u64.wrap ((m : Int) % 128 * 2 ^ (7 * i))) = ((z + m % 128 * 2 ^ (7 * i) : Nat) : Int) ∧
  z + m % 128 * 2 ^ (7 * i) < 18446744073709551616 ∧ (i < 9 → z + m % 128 * 2 ^ (7 * i) < 2 ^ (7 * (i + 1))) := by
 obtain ⟨_, h2, h3⟩ := or_join z m i hz hm hi hi9
 refine ⟨?_, h2, h3⟩
 rw [wrap_u64, wrap_u64]
 have e : ((m : Int) % 128 * 2 ^ (7 * i)) = ((m % 128 * 2 ^ (7 * i) : Nat) : Int) := by simp
 rw [e]
 omega
theorem p_even {z : Nat} (h : z < 18446744073709551616) (h2 : z % 2 = 0) : RowKit.wrap64 (IntKind.u64.wrap ((z : Int) / 2)) = zag z := by
 rw [wrap_u64, show ((z : Int) / 2) % 18446744073709551616 = ((z / 2 : Nat) : Int) by omega, IntWalk.wrap64_in _ (by omega)]
 unfold zag
 rw [if_neg (by omega)]
theorem p_odd {z : Nat} (h : z < 18446744073709551616) (h2 : z % 2 = 1) : RowKit.wrap64 (RowKit.wrap64 (-RowKit.wrap64 (IntKind.u64.wrap ((z : Int) / 2))) - 1) = zag z := by
 rw [wrap_u64, show ((z : Int) / 2) % 18446744073709551616 = ((z / 2 : Nat) : Int) by omega, IntWalk.wrap64_in ((z / 2 : Nat) : Int) (by omega), IntWalk.wrap64_in (-((z / 2 : Nat) : Int)) (by omega), IntWalk.wrap64_in _ (by omega)]
 unfold zag
 rw [if_pos h2]
set_option maxRecDepth 100000 in
set_option maxHeartbeats 1000000 in
theorem p_int_ok (w : World) (T : Nat → Prop) (b : Nat) (bs : List UInt8) (a : Nat) (l : List UInt8) (h : Rp w T b bs a ⟨l, 0⟩) :
  Calls Try.prog 53 #[.pointer (some ⟨b, 0, none⟩)] w (PIntOk w T b bs ⟨l, 0⟩) := by
 obtain ⟨v, hb, hs, hT, ha, hl⟩ := h
 obtain ⟨c0, c1, c2, f1, f2⟩ := rp_cells hb
 obtain ⟨A, c, rfl⟩ := hs.form
 have hlen : bs.length ≤ maxLen := hs.le
 unfold maxLen at hlen
 obtain ⟨n, hn⟩ : ∃ n, bs.length = n := ⟨_, rfl⟩
 simp only at hl c2 hb
 unfold Byt at hs
 simp only [hn] at hs ha hlen hb c0
 have Hn := Lib.hid hn
 have Hb := Lib.hid hb
 have Hl := Lib.hid hl
 clear hb hn hl
 go_enter Try.func53, Try.ntmps53
 go_wp2
 go_loopw [3, 4] (fun zv iv wr => ∃ i z q : Nat, i ≤ 9 ∧ a + i ≤ n ∧ iv = .int .i64 i ∧ zv = .int .u64 z ∧ wr = w.drewN q ∧ z < 2 ^ (7 * i) ∧ rdVar 0 0 l = rdVar i z (l.drop i)) (fun _ iv _ => 10 - (intOf iv).toNat)
 case atStart => exact ⟨0, 0, 0, by omega, by omega, rfl, rfl, rfl, by decide, rfl⟩
 case round =>
  obtain ⟨i, z, q, hi9, hin, rfl, rfl, rfl, hz, hrd⟩ := hrel
  have Hz := Lib.hid hz
  have Hrd := Lib.hid hrd
  clear hz hrd
  have hfail : rdVar i z (l.drop i) = none → ∀ q w', Rp w' T b bs a (RS.fail ⟨l, 0⟩ 3) → Mod (fun k => k = b) (w.drewN q) w' → PIntOk w T b bs ⟨l, 0⟩ (.returned (.int .i64 0)) w' := by
   intro h q w' h1 h2
   unfold PIntOk
   rw [int_none (Hrd.out.trans h)]
   exact ⟨rfl, ⟨a, h1⟩, Mod.trans ((Mod.refl _ w).drewN q) h2 (fun _ _ e => e)⟩
  have hrp : ∀ q, Rp (w.drewN q) T b bs a ⟨l, 0⟩ := fun q => ⟨_, Hb.out, by unfold Byt; rw [Hn.out]; exact hs.drewN q, hT, by rw [Hn.out]; exact ha, Hl.out⟩
  have Hrp := Lib.hid hrp
  have Hfail := Lib.hid hfail
  clear hfail hrp
  obtain ⟨j, hj⟩ : ∃ j, a + i = j := ⟨_, rfl⟩
  have hw1 : IntKind.i64.wrap ((a : Int) + (i : Int)) = (j : Int) := by rw [IntWalk.i64_in _ (by omega)]; omega
  have Hj := Lib.hid hj
  clear hj
  have i10 : decide ((i : Int) < 10) = true := by simp; omega
  by_cases hi : j < n
  ·
   have dj : decide (n ≤ j) = false := by simp; omega
   obtain ⟨g, off, x, rfl, hx, hcell⟩ := cellB hs hi
   have hxlt := byte_lt x
   obtain ⟨m, hm⟩ : ∃ m, x.toNat = m := ⟨_, rfl⟩
   rw [hm] at hcell hxlt
   have Hm := Lib.hid hm
   obtain ⟨mi, hmi⟩ : ∃ mi : Int, (m : Int) = mi := ⟨_, rfl⟩
   rw [hmi] at hcell
   have b1 : 0 ≤ mi := by omega
   have b2 : mi < 256 := by omega
   have HM := Lib.hid hmi
   have hx2 : l[i]? = some x := by
    rw [Hl.out, List.getElem?_drop, Hj.out]
    exact hx
   have Hx := Lib.hid hx2
   clear hx hm hx2 hmi
   have j0 : (0 : Int) ≤ (j : Int) := by omega
   have j1 : (j : Int) < (n : Int) := by omega
   by_cases hA : (i = 9 ∧ 1 < m) ∨ (m = 0 ∧ 0 < i)
   ·
    have hg : (((i : Int) == 9) = true ∧ decide (1 < mi) = true) ∨ (((i : Int) == 9) = false ∧ decide (0 < i) = true ∧ (mi == 0) = true) ∨ (((i : Int) == 9) = true ∧ decide (1 < mi) = false ∧ decide (0 < i) = true ∧ (mi == 0) = true) := by have := HM.out; simp; omega
    have Hbad := Lib.hid (rd_none1 (z := z) Hx.out Hm.out hA)
    clear hA
    rcases hg with ⟨g1, g2⟩ | ⟨g1, g2, g3⟩ | ⟨g1, g2, g3, g4⟩
    all_goals
     go_wp2
     go_quiet (fail)
     go_wp2
     go_quiet (fail)
     go_wp2_with fail
     refine (p_none _ T b bs a ⟨l, 0⟩ 3 (Hrp.out _)).mono ?_
     rintro e w1 ⟨rfl, hR, hmd⟩
     go_wp2
     go_ret
     exact Hfail.out Hbad.out _ _ hR hmd
   ·
    have h1 : ¬ (i = 9 ∧ 1 < m) := fun e => hA (.inl e)
    have h2 : ¬ (m = 0 ∧ 0 < i) := fun e => hA (.inr e)
    obtain ⟨hor, hz1, hz2⟩ := p_join z m i Hz.out hxlt hi9 (by omega)
    obtain ⟨z', hz'⟩ : ∃ z', z + m % 128 * 2 ^ (7 * i) = z' := ⟨_, rfl⟩
    rw [hz'] at hor hz1 hz2
    rw [HM.out] at hor
    have hg : (((i : Int) == 9) = false ∧ decide (0 < i) = false) ∨ (((i : Int) == 9) = false ∧ decide (0 < i) = true ∧ (mi == 0) = false) ∨ (((i : Int) == 9) = true ∧ decide (1 < mi) = false ∧ decide (0 < i) = true ∧ (mi == 0) = false) := by have := HM.out; simp; omega
    have Hz1 := Lib.hid hz1
    have Hz2 := Lib.hid hz2
    have Hz' := Lib.hid hz'
    have H1 := Lib.hid h1
    have H2 := Lib.hid h2
    clear hz1 hz2 hz' hA h1 h2
    by_cases hC : 128 ≤ m
    ·
     have hlt : decide (mi < 128) = false := by have := HM.out; simp; omega
     rcases hg with ⟨g1, g2⟩ | ⟨g1, g2, g3⟩ | ⟨g1, g2, g3, g4⟩
     all_goals
      go_wp2
      go_quiet (fail)
      go_wp2
      go_quiet (fail)
      go_wp2
      exact ⟨⟨i + 1, z', _, by have := H1.out; have := Hj.out; omega, by have := Hj.out; omega, by go_num, rfl, rfl, Hz2.out (by have := H1.out; omega), by rw [Hrd.out, rd_more Hx.out Hm.out H1.out hC, Hz'.out]⟩, by simp [intOf]; omega⟩
    ·
     have hlt : decide (mi < 128) = true := by have := HM.out; simp; omega
     have hput : ∀ q, PIntOk w T b bs ⟨l, 0⟩ (.returned (.int .i64 (zag z'))) ((w.drewN q).setCell ⟨b, 1, none⟩ (.int .i64 ((j : Int) + 1))) := by
      intro q
      unfold PIntOk
      rw [int_some (Hrd.out.trans ((rd_end Hx.out Hm.out H1.out H2.out (by omega)).trans (by rw [Hz'.out])))]
      obtain ⟨p1, p2⟩ := rp_at (w := w.drewN q) ((j : Int) + 1) Hb.out
      have p3 := Mod.trans ((Mod.refl (fun k => k = b) w).drewN q) p2 (fun _ _ e => e)
      refine ⟨rfl, ⟨a + i + 1, .slice (some ⟨g, off, none⟩) n c, ?_, ?_, hT, by rw [Hn.out, Hj.out]; omega, ?_⟩, p3⟩
      ·
       rw [p1, Hj.out]; simp
      ·
       unfold Byt
       rw [Hn.out]
       exact hs.mod p3 (fun g hg e => hT (e ▸ hg))
      ·
       rw [Hl.out, List.drop_drop, Nat.add_assoc]
     have HP := Lib.hid hput
     clear hput
     rcases hg with ⟨g1, g2⟩ | ⟨g1, g2, g3⟩ | ⟨g1, g2, g3, g4⟩
     all_goals
      rcases Nat.mod_two_eq_zero_or_one z' with h2 | h2
      ·
       go_wp2
       go_quiet (fail)
       go_wp2
       go_quiet (fail)
       go_wp2
       rw [p_even Hz1.out h2]
       go_ret
       exact HP.out _
      ·
       go_wp2
       go_quiet (fail)
       go_wp2
       go_quiet (fail)
       go_wp2
       rw [p_odd Hz1.out h2]
       go_ret
       exact HP.out _
  ·
   have dj : decide (n ≤ j) = true := by simp; omega
   have Hbad : Hid (rdVar i z (l.drop i) = none) := Lib.hid (by rw [Hl.out, List.drop_drop, Hj.out, List.drop_eq_nil_of_le (by rw [Hn.out]; omega)]; rfl)
   go_wp2
   go_quiet (fail)
   go_wp2_with fail
   refine (p_none _ T b bs a ⟨l, 0⟩ 3 (Hrp.out _)).mono ?_
   rintro e w1 ⟨rfl, hR, hmd⟩
   go_wp2
   go_ret
   exact Hfail.out Hbad.out _ _ hR hmd
theorem p_int (w : World) (T : Nat → Prop) (b : Nat) (bs : List UInt8) (r : RS) (h : RpX w T b bs r) :
  Calls Try.prog 53 #[.pointer (some ⟨b, 0, none⟩)] w (PIntOk w T b bs r) := by
 obtain ⟨a, h⟩ := h
 obtain ⟨l, x⟩ := r
 by_cases he : x = 0
 ·
  subst he; exact p_int_ok w T b bs a l h
 ·
  have H := Lib.hid h
  obtain ⟨v, hb, hs, hT, ha, hl⟩ := h
  obtain ⟨c0, c1, c2, f1, f2⟩ := rp_cells hb
  have he2 : (x != 0) = true := by simp [he]
  have Hi : Hid (RS.int ⟨l, x⟩ = (0, ⟨l, x⟩)) := Lib.hid (by simp [RS.int, he])
  simp only at c2
  clear hb hs hl
  go_enter Try.func53, Try.ntmps53
  go_wp2
  go_ret
  unfold PIntOk
  rw [Hi.out]
  exact ⟨rfl, ⟨a, H.out⟩, Mod.refl _ _⟩

end Go.Proofs.Ytfkacakbengboaa
