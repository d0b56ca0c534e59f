/-
 The page's replay (layer 11; printed by stbre.py). Conditions: as each theorem names them.
-/
import Derived.Test.YtjhnlncgmejkcaaGreatR1
import Derived.Test.YtjhnlncgmejkcaaGreatS22
import Derived.Test.YtjhnlncgmejkcaaGreatStbPu
import Derived.Test.YtjhnlncgmejkcaaGreatWireH4
import Derived.Test.YtjhnlncgmejkcaaGreatR7
set_option maxRecDepth 100000
set_option maxHeartbeats 4000000
namespace Go.Proofs.YtjhnlncgmejkcaaGreat
set_option linter.unusedSimpArgs false
open Go.RowKit
def zc9 : List (List UInt8) → Option zC
 | [] => some zC.zero
 | p :: ps => za6 (p :: ps)
def zk8 (o : Option zC) (l : List (List UInt8)) : Option zC := match o with
 | none => none
 | some g => xP g l
def oP (i : Nat) (h : zC) (p : List UInt8) : Option zC := if i = 0 then zaK p else yE h p
theorem rep_step {ps : List (List UInt8)} {p : List UInt8} {i : Nat} {h : zC} (hp : ps[i]? = some p) (hst : i = 0 ∧ h = zC.zero ∨ 0 < i ∧ Right h ∧ zc9 ps = xP h (ps.drop i)) : zc9 ps = zk8 (oP i h p) (ps.drop (i + 1)) := by
 have hd : ps.drop i = p :: ps.drop (i + 1) := by
  obtain ⟨h1, h2⟩ := List.getElem?_eq_some_iff.1 hp
  rw [List.drop_eq_getElem_cons h1, h2]
 rcases hst with ⟨rfl, rfl⟩ | ⟨h0, _, h1⟩
 ·
  rw [List.drop_zero] at hd
  rw [hd]
  show za6 (p :: ps.drop (0 + 1)) = zk8 (zaK p) _
  rw [za6]
  rfl
 rw [h1, hd, xP]
 unfold oP
 rw [if_neg (by omega)]
 rfl
theorem rep_end {ps : List (List UInt8)} {i : Nat} {h : zC} (hi : ps.length = i) (hst : i = 0 ∧ h = zC.zero ∨ 0 < i ∧ Right h ∧ zc9 ps = xP h (ps.drop i)) : zc9 ps = some h := by
 rcases hst with ⟨rfl, rfl⟩ | ⟨h0, _, h1⟩
 · rw [List.eq_nil_of_length_eq_zero hi]; rfl
 rw [h1, List.drop_of_length_le (by omega)]; rfl
theorem oP_nil (i : Nat) (h : zC) : oP i h [] = none := by unfold oP; split <;> rfl
theorem oP_bad {i : Nat} {x : UInt8} (h : zC) (bs : List UInt8) (e : ¬ (x.toNat = 1 ↔ i = 0)) : oP i h (x :: bs) = none := by
 unfold oP
 split
 ·
  rename_i h0
  show (if x.toNat = 1 then _ else none) = none
  rw [if_neg (fun h1 => e ⟨fun _ => h0, fun _ => h1⟩)]
 rename_i h0
 have h1 : x.toNat = 1 := Decidable.byContradiction (fun h1 => e ⟨fun h2 => absurd h2 h1, fun h2 => absurd h2 h0⟩)
 rw [yZ]
 unfold zaB
 rw [h1]
 rfl
theorem oP_one {i : Nat} {x : UInt8} {h : zC} {bs : List UInt8} (hi : i = 0) (hx : x.toNat = 1) : oP i h (x :: bs) = xE (yR bs) := by
 unfold oP
 rw [if_pos hi]
 show (if x.toNat = 1 then _ else none) = _
 rw [if_pos hx]
theorem oP_two {i : Nat} {x : UInt8} {h : zC} {bs : List UInt8} (hi : ¬ i = 0) (hx : x.toNat = 2) : oP i h (x :: bs) = if (decide ((RS.int ⟨bs, 0⟩).2.int.2.done = 0) && decide (h.term ≤ (RS.int ⟨bs, 0⟩).1)) = true then xE (some { h with term := (RS.int ⟨bs, 0⟩).1, vote := (RS.int ⟨bs, 0⟩).2.int.1 }) else none := by
 unfold oP
 rw [if_neg hi, yZ, hx]
 unfold zaB zf1
 by_cases hd : (RS.int ⟨bs, 0⟩).2.int.2.done = 0
 ·
  by_cases ht : h.term ≤ (RS.int ⟨bs, 0⟩).1
  · simp [hd, ht, Int.not_lt.2 ht]
  simp [hd, ht, Int.not_le.1 ht]
  rfl
 simp [hd]
 rfl
theorem oP_three {i : Nat} {x : UInt8} {h : zC} {bs : List UInt8} (hi : ¬ i = 0) (hx : x.toNat = 3) : oP i h (x :: bs) = if (decide ((RS.int ⟨bs, 0⟩).2.done = 0) && decide (h.base < (RS.int ⟨bs, 0⟩).1) && decide ((RS.int ⟨bs, 0⟩).1 ≤ h.base + (h.log.length : Int))) = true then xE (some { h with log := h.log.take ((RS.int ⟨bs, 0⟩).1 - h.base - 1).toNat }) else none := by
 unfold oP
 rw [if_neg hi, yZ, hx]
 unfold zaB zf0
 by_cases hd : (RS.int ⟨bs, 0⟩).2.done = 0
 ·
  by_cases ht : h.base < (RS.int ⟨bs, 0⟩).1 ∧ (RS.int ⟨bs, 0⟩).1 ≤ h.base + (h.log.length : Int)
  · have h2 : ¬ ((RS.int ⟨bs, 0⟩).1 ≤ h.base ∨ h.base + (h.log.length : Int) < (RS.int ⟨bs, 0⟩).1) := by omega
    simp [hd, ht.1, ht.2, h2]
  have h2 : (RS.int ⟨bs, 0⟩).1 ≤ h.base ∨ h.base + (h.log.length : Int) < (RS.int ⟨bs, 0⟩).1 := by omega
  have h3 : ¬ (h.base < (RS.int ⟨bs, 0⟩).1 ∧ (RS.int ⟨bs, 0⟩).1 ≤ h.base + (h.log.length : Int)) := ht
  simp [hd, h2, h3]
  rfl
 simp [hd]
 rfl
theorem oP_four {i : Nat} {x : UInt8} {h : zC} {bs : List UInt8} (hi : ¬ i = 0) (hx : x.toNat = 4) : oP i h (x :: bs) = if (jV bs).isSome = true then xE (some { h with log := h.log ++ [(jV bs).getD zI.zero] }) else none := by
 unfold oP
 rw [if_neg hi, yZ, hx]
 unfold zaB
 rw [if_neg (by decide), if_neg (by decide), if_pos rfl, zhZ]
 rcases jV bs with _ | y <;> rfl
theorem oP_else {i : Nat} {x : UInt8} {h : zC} {bs : List UInt8} (hi : ¬ i = 0) (h2 : x.toNat ≠ 2) (h3 : x.toNat ≠ 3) (h4 : x.toNat ≠ 4) : oP i h (x :: bs) = none := by
 unfold oP
 rw [if_neg hi, yZ]
 unfold zaB
 rw [if_neg h2, if_neg h3, if_neg h4]
 rfl
theorem zeE {w : World} {T : Nat → Prop} {A : Option Addr} {n c : Nat} {x : UInt8} {l : List UInt8} (h : Byt w T (.slice A n c) (x :: l)) (hn : (x :: l).length = n) : Byt w T (.slice (cutA A 1 c 1) (n - 1) (c - 1)) l := by
 have h1 := zcR h hn (i := 1) (j := n) (by rw [← hn, List.length_cons]; omega) (Nat.le_refl _) (n - 1) rfl
 have e : ((x :: l).drop 1).take (n - 1) = l := by rw [List.drop_one, List.tail_cons, List.take_of_length_le (by rw [← hn, List.length_cons]; omega)]
 rw [e] at h1
 exact h1
theorem ents_cap {w : World} {T : Nat → Prop} {A : Option Addr} {n c : Nat} {l : List zI} (h : zbJ w T (.slice A n c) l) : l.length = n ∧ n ≤ c ∧ c ≤ maxLen := by
 obtain ⟨_, A', c', e, h1, h2, _⟩ := h.1
 injection e with e1 e2 e3
 subst e1; subst e3
 exact ⟨e2.symm, by omega, h2⟩
def zgR (w w' : World) (o : Option zC) (e : Ending) : Prop := match o with
 | none => ∃ cs : List Value, cs.length = 10 ∧ (∀ v ∈ cs, v.oneCell' = true) ∧ e = .returned (.tuple #[.agg cs.toArray, .bool false])
 | some h => ∃ As sl sc Al ll lc, h.snap.length = sl ∧ h.log.length = ll ∧ ll ≤ 200000 ∧ zY w' (zZ w.heap.size) (.slice As sl sc) (.slice Al ll lc) h ∧ e = .returned (.tuple #[.agg (h.cells (.slice As sl sc) (.slice Al ll lc)).toArray, .bool true])
theorem zgR.no {w w' : World} {o : Option zC} {e : Ending} (ho : o = none) (cs : List Value) (h1 : cs.length = 10) (h2 : ∀ v ∈ cs, v.oneCell' = true) (h3 : e = .returned (.tuple #[.agg cs.toArray, .bool false])) : zgR w w' o e := by
 subst ho; exact ⟨cs, h1, h2, h3⟩
theorem zgR.yes {w w' : World} {o : Option zC} {e : Ending} {h : zC} {As Al : Option Addr} {sl sc ll lc : Nat} (ho : o = some h) (h1 : h.snap.length = sl) (h2 : h.log.length = ll) (h3 : ll ≤ 200000) (h4 : zY w' (zZ w.heap.size) (.slice As sl sc) (.slice Al ll lc) h) (he : e = .returned (.tuple #[.agg (h.cells (.slice As sl sc) (.slice Al ll lc)).toArray, .bool true])) : zgR w w' o e := by
 subst ho; exact ⟨As, sl, sc, Al, ll, lc, h1, h2, h3, h4, he⟩
theorem zent_ok : zI.zero.ok := ⟨by unfold I64; decide, by unfold I64; decide, zfF, zfG⟩
def RpSt (wr : World) (b i : Nat) (ps : List (List UInt8)) : Prop := ∃ (h : zC) (As : Option Addr) (sl sc : Nat) (Al : Option Addr) (ll lc : Nat), wr.heap[b + 1]? = some (.cells (h.cells (.slice As sl sc) (.slice Al ll lc)).toArray 34 (0, 0)) ∧ h.snap.length = sl ∧ h.log.length = ll ∧ zY wr (fun k => b + 2 ≤ k) (.slice As sl sc) (.slice Al ll lc) h ∧ ll ≤ 100000 + i ∧ (i = 0 ∧ h = zC.zero ∨ 0 < i ∧ Right h ∧ zc9 ps = xP h (ps.drop i))
theorem znJ (w wp : World) (A : Option Addr) (n c : Nat) (xs : List Value) (ps : List (List UInt8)) (hN : zd2 wp w (.slice A n c) xs ps) (hn : ps.length = n) (hnl : n ≤ 100000) (hpl : ∀ p ∈ ps, p.length ≤ 100000) :
  Calls Tryz.prog 93 #[.slice A n c] w fun e w' => Ext w w' ∧ zgR w w' (zc9 ps) e := by
 obtain ⟨W, hW⟩ : ∃ W, (w.alloc (.cells zH.toArray 34)).alloc (.cells zH.toArray 34) = W := ⟨_, rfl⟩
 obtain ⟨hA, hB, hsz⟩ := zaC w (.cells zH.toArray 34) (.cells zH.toArray 34)
 obtain ⟨b, hb⟩ : ∃ b, w.heap.size = b := ⟨_, rfl⟩
 rw [hW, hb] at hA hB hsz
 have hE : Ext w W := by rw [← hW]; exact ((Mod.refl _ w).alloc _).alloc _
 obtain ⟨ho, hof, hP⟩ := hN
 rw [hn] at ho
 have HS0 : Hid (Sl w (fun _ => True) 1 (.slice A n c) n xs) := hJ (Sl.of_own ho (fun _ _ => trivial))
 have HPW : Hid (Pays wp w xs ps) := hJ hP
 have HW := hJ hW
 have HA0 := hJ hA
 have HB0 := hJ hB
 have HX0 := hJ hE
 have Hn := hJ hn
 have Hb := hJ hb
 have Hpl := hJ hpl
 have Hsz : Hid (∀ (wr : World), Ext w wr → ∀ {cs}, wr.heap[b + 1]? = some cs → b + 2 ≤ wr.heap.size) := hJ (fun wr _ cs h => (Array.getElem?_eq_some_iff.1 h).1)
 clear hW hA hB hE hn ho hof hP hb hpl hsz
 go_enter Tryz.func93, Tryz.ntmps93
 go_wp2_with fail
 rw [HW.out, Hb.out]
 go_loopw [5] (fun iv wr => ∃ i : Nat, i ≤ n ∧ iv = .int .i64 i ∧ RpSt wr b i ps ∧ wr.heap[b]? = some (.cells zH.toArray 34 (0, 0)) ∧ Ext w wr) (fun iv _ => n - (intOf iv).toNat)
 case atStart => exact ⟨0, by omega, rfl, ⟨zC.zero, none, 0, 0, none, 0, 0, HB0.out, rfl, rfl, ⟨Sl.nil _ _ _, Sl.nil _ _ _, by simp [zC.zero]⟩, by omega, .inl ⟨rfl, rfl⟩⟩, HA0.out, HX0.out⟩
 obtain ⟨i, hin, rfl, ⟨h, As, sl, sc, Al, ll, lc, hB, hsl, hll, hM, hlb, hst⟩, hA, hX⟩ := hrel
 have HB := hJ hB
 have HSl := hJ hsl
 have HLl := hJ hll
 have HM := hJ hM
 have Hst := hJ hst
 have HA := hJ hA
 have HX := hJ hX
 clear hB hsl hll hM hst hA hX
 by_cases hi : i < n
 rotate_left
 ·
  have HN : Hid (zc9 ps = some h) := hJ (rep_end (by rw [Hn.out]; omega) Hst.out)
  have hd : decide ((i : Int) < (n : Int)) = false := by simp; omega
  have hd2 : ¬ (i : Int) < (n : Int) := by omega
  have hld := zF (P := Tryz.prog) (o := 0) (cs := h.cells (.slice As sl sc) (.slice Al ll lc)) zA HB.out rfl (fun j u hu => by rw [Nat.zero_add]; exact hu)
  go_wp2_with (first | (refine zG rfl 34 _ rfl (.pointer (some ⟨b + 1, 0, none⟩)) _ rfl hld ?_) | (refine zD rfl 34 _ _ rfl 10 b 0 (h.cells (.slice As sl sc) (.slice Al ll lc)) rfl rfl zA _ zH (h.cells (.slice As sl sc) (.slice Al ll lc)) HA.out rfl (by simp) (xS _ _ _ _ _ _ _) rfl ?_))
  intro w7 hb7 hm7 hs7
  have HX7 := hJ (HX.out.trans hm7 (fun k hk e => by have := Hb.out; omega))
  have HM7 := hJ (HM.out.mod hm7 (fun k hk e => by omega))
  clear hm7 hs7 hld
  go_wp2_with fail
  exact bodyPost_ret (zL rfl _ w7 b _ _ zA rfl hb7 rfl) rfl ⟨HX7.out, zgR.yes HN.out HSl.out HLl.out (by omega) (HM7.out.mono (fun k hk => by have := Hb.out; unfold zZ; omega)) rfl⟩
 have hd : (i : Int) < (n : Int) := by omega
 obtain ⟨g2, off2, rfl, _, hcell⟩ := (by obtain ⟨_, A', c', e, _, _, hx⟩ := HS0.out; injection e with e1 _ e3; subst e1; exact hx (by omega) : ∃ g2 off2, A = some ⟨g2, off2, none⟩ ∧ True ∧ ∀ j u, xs[j]? = some u → w.cell? ⟨g2, off2 + j, none⟩ = some u)
 obtain ⟨p, hp⟩ : ∃ p, ps[i]? = some p := ⟨_, List.getElem?_eq_getElem (by rw [Hn.out]; omega)⟩
 obtain ⟨A1, k1, c1, hx1, hk1, hN1⟩ := HPW.out.2 i p hp
 have hg1 : wr.cell? ⟨g2, off2 + i, none⟩ = some (.slice A1 k1 c1) := HX.out.cell (hcell i _ hx1) id
 have hj0 : (0 : Int) ≤ (i : Int) := by omega
 have hb1 : Byt w (fun g => g < b) (.slice A1 k1 c1) p := Sl.mono (Sl.cap (yO.sl hN1) (by omega)) (fun k hk => by have := Hb.out; omega)
 have hk1l : k1 ≤ 100000 := by rw [← hk1]; exact Hpl.out p (List.mem_of_getElem? hp)
 have HS := hJ (rep_step hp Hst.out)
 have Hk1 := hJ hk1
 have Hb1 := hJ hb1
 clear hcell hp hx1 hk1 hN1 hb1
 rcases p with _ | ⟨x, bs⟩
 ·
  obtain rfl : k1 = 0 := Hk1.out.symm
  have HN : Hid (zc9 ps = none) := hJ (by rw [HS.out, oP_nil]; rfl)
  have hld := zF (P := Tryz.prog) (o := 0) (cs := h.cells (.slice As sl sc) (.slice Al ll lc)) zA HB.out rfl (fun j u hu => by rw [Nat.zero_add]; exact hu)
  go_wp2_with (first | (refine zG rfl 34 _ rfl (.pointer (some ⟨b + 1, 0, none⟩)) _ rfl hld ?_) | (refine zD rfl 34 _ _ rfl 10 b 0 (h.cells (.slice As sl sc) (.slice Al ll lc)) rfl rfl zA _ zH (h.cells (.slice As sl sc) (.slice Al ll lc)) HA.out rfl (by simp) (xS _ _ _ _ _ _ _) rfl ?_))
  intro w7 hb7 hm7 hs7
  have HX7 := hJ (HX.out.trans hm7 (fun k hk e => by have := Hb.out; omega))
  clear hm7 hs7 hld
  go_wp2_with fail
  exact bodyPost_ret (zL rfl _ w7 b _ _ zA rfl hb7 rfl) rfl ⟨HX7.out, zgR.no HN.out _ rfl (xS _ _ _ _ _ _ _) rfl⟩
 have hk1p : 1 ≤ k1 := by have h1 := Hk1.out; rw [List.length_cons] at h1; omega
 have hkz : ((k1 : Int) == 0) = false := by simp; omega
 have hbl : bs.length ≤ 100000 := by have h1 := Hk1.out; rw [List.length_cons] at h1; omega
 obtain ⟨gb, ob, x', rfl, hx', hc0⟩ := zb0 (l := x :: bs) (by have h1 := Hb1.out; unfold Byt at h1; rw [Hk1.out] at h1; exact h1) (i := 0) (by omega)
 obtain rfl : x = x' := by simpa using hx'
 have hcx : wr.cell? ⟨gb, ob, none⟩ = some (.int .u8 (x.toNat : Int)) := HX.out.cell (by have h1 := hc0; rw [Nat.add_zero] at h1; exact h1) id
 have hk1i : (0 : Int) < (k1 : Int) := by omega
 have hk1j : (1 : Int) ≤ (k1 : Int) := by omega
 clear hx' hc0
 rcases h1 : ((x.toNat : Int) == 1) with _ | _
 ·
  have hx1 : ¬ x.toNat = 1 := by have := beq_eq_false_iff_ne.1 h1; omega
  rcases h0 : ((i : Int) == 0) with _ | _
  rotate_left
  ·
   obtain rfl : i = 0 := by have := eq_of_beq h0; omega
   rw [Nat.add_zero] at hg1
   have HN : Hid (zc9 ps = none) := hJ (by rw [HS.out, oP_bad _ _ (fun e => hx1 (e.2 rfl))]; rfl)
   have hld := zF (P := Tryz.prog) (o := 0) (cs := h.cells (.slice As sl sc) (.slice Al ll lc)) zA HB.out rfl (fun j u hu => by rw [Nat.zero_add]; exact hu)
   go_wp2_with (first | (refine zG rfl 34 _ rfl (.pointer (some ⟨b + 1, 0, none⟩)) _ rfl hld ?_) | (refine zD rfl 34 _ _ rfl 10 b 0 (h.cells (.slice As sl sc) (.slice Al ll lc)) rfl rfl zA _ zH (h.cells (.slice As sl sc) (.slice Al ll lc)) HA.out rfl (by simp) (xS _ _ _ _ _ _ _) rfl ?_))
   intro w7 hb7 hm7 hs7
   have HX7 := hJ (HX.out.trans hm7 (fun k hk e => by have := Hb.out; omega))
   clear hm7 hs7 hld
   go_wp2_with fail
   exact bodyPost_ret (zL rfl _ w7 b _ _ zA rfl hb7 rfl) rfl ⟨HX7.out, zgR.no HN.out _ rfl (xS _ _ _ _ _ _ _) rfl⟩
  have hi0 : ¬ i = 0 := by have := beq_eq_false_iff_ne.1 h0; omega
  rcases h2 : ((x.toNat : Int) == 2) with _ | _
  rotate_left
  ·
   have hx2 : x.toNat = 2 := by have := eq_of_beq h2; omega
   obtain ⟨W1, hW1⟩ : ∃ W1, wr.alloc (.cells #[.slice (cutA (some ⟨gb, ob, none⟩) 1 c1 1) (k1 - 1) (c1 - 1), .int .i64 0, .int .i64 0] 154) = W1 := ⟨_, rfl⟩
   obtain ⟨q, hq⟩ : ∃ q, wr.heap.size = q := ⟨_, rfl⟩
   have hE : Ext wr W1 := by rw [← hW1]; exact (Mod.refl _ wr).alloc _
   have hBt : Byt W1 (fun g => g < b) (.slice (cutA (some ⟨gb, ob, none⟩) 1 c1 1) (k1 - 1) (c1 - 1)) bs := (zeE Hb1.out Hk1.out).ext (HX.out.ext hE)
   have hqb : b + 2 ≤ q := by rw [← hq]; exact Hsz.out _ HX.out HB.out
   have hR : RpX W1 (fun g => g < b) q bs ⟨bs, 0⟩ := ⟨0, _, by rw [← hW1, ← hq]; exact heap_alloc_new wr _, hBt, by omega, Nat.zero_le _, rfl⟩
   have HA1 := hJ (hE.blk HA.out id)
   have HB1 := hJ (hE.blk HB.out id)
   have HX1 := hJ (HX.out.ext hE)
   have HM1 := hJ (HM.out.mod hE (fun _ _ => id))
   have HR1 := hJ hR
   have HBt := hJ hBt
   have hg1W := hE.cell hg1 id
   have hcxW := hE.cell hcx id
   have HW1 := hJ hW1
   have Hq := hJ hq
   have HE1 := hJ hE
   have HMr : Hid (zY wr (fun k => b + 2 ≤ k ∧ k < q) (.slice As sl sc) (.slice Al ll lc) h) := hJ (HM.out.cap.mono (fun k hk => by have := Hq.out; exact ⟨hk.1, by omega⟩))
   clear hW1 hq hE hBt hR
   go_upto_region 9 with fail
   rw [HW1.out, Hq.out]
   go_wp2_with fail
   refine (za3 W1 _ q bs _ HR1.out).mono ?_
   rintro e w2 ⟨rfl, hR, hm⟩
   have hE : Ext wr w2 := HE1.out.trans hm (fun k hk e => by have := Hq.out; omega)
   have HE2 := hJ hE
   have HA2 := hJ (hE.blk HA.out id)
   have HB2 := hJ (hE.blk HB.out id)
   have HX2 := hJ (HX.out.ext hE)
   have HM2 := hJ (HM.out.mod hE (fun _ _ => id))
   clear hE hm
   have HR2 := hJ hR
   clear hR HR1
   obtain ⟨t, ht⟩ : ∃ t, (RS.int ⟨bs, 0⟩).1 = t := ⟨_, rfl⟩
   obtain ⟨r1, hr1⟩ : ∃ r, (RS.int ⟨bs, 0⟩).2 = r := ⟨_, rfl⟩
   rw [hr1] at HR2
   rw [ht]
   go_wp2_with fail
   refine (za3 w2 _ q bs _ HR2.out).mono ?_
   rintro e w3 ⟨rfl, hR, hm⟩
   have hE : Ext wr w3 := HE2.out.trans hm (fun k hk e => by have := Hq.out; omega)
   have HE3 := hJ hE
   have HA3 := hJ (hE.blk HA.out id)
   have HB3 := hJ (hE.blk HB.out id)
   have HX3 := hJ (HX.out.ext hE)
   have HM3 := hJ (HM.out.mod hE (fun _ _ => id))
   clear hE hm
   have HR3 := hJ hR
   clear hR HR2
   obtain ⟨v, hv⟩ : ∃ t, r1.int.1 = t := ⟨_, rfl⟩
   obtain ⟨r2, hr2⟩ : ∃ r, r1.int.2 = r := ⟨_, rfl⟩
   rw [hr2] at HR3
   rw [hv]
   obtain ⟨okv, hok⟩ : ∃ o : Bool, (decide (r2.done = 0) && decide (h.term ≤ t)) = o := ⟨_, rfl⟩
   have HO : Hid (zc9 ps = zk8 (if okv then xE (some { h with term := t, vote := v }) else none) (ps.drop (i + 1))) := hJ (by
    rw [HS.out, oP_two hi0 hx2, ← hok, ← hr2, ← ht, ← hv, ← hr1])
   clear ht hr1 hv hr2
   go_upto_region 15 with fail
   go_cut [6] (fun s6 wx => s6 = .bool okv ∧ Ext wr wx)
   case first =>
    go_wp2_with fail
    refine (zp1 w3 _ q bs r2 HR3.out).mono ?_
    rintro e w4 ⟨rfl, hE4⟩
    have hE4r := HE3.out.ext hE4
    have d0 : w4.cell? ⟨b + 1, 0, none⟩ = some (.int .i64 h.term) := zB (cs := h.cells (.slice As sl sc) (.slice Al ll lc)) (hE4r.blk HB.out id) rfl
    have HE4 := hJ hE4r
    clear hE4 hE4r
    rcases hd : decide (r2.done = 0) with _ | _
    focus
     have hd2 : (r2.done == 0) = false := by simpa using hd
    rotate_left
    focus
     have hd2 : (r2.done == 0) = true := by simpa using hd
    all_goals
     rw [hd] at hok
     have Hok := hJ hok
     clear hok hd
     go_wp2_with fail
     go_meet
     exact ⟨by rw [← Hok.out]; rfl, HE4.out⟩
   obtain ⟨rfl, hE⟩ := hcut
   have HAc := hJ (hE.blk HA.out id)
   have HBc := hJ (hE.blk HB.out id)
   have HXc := hJ (HX.out.ext hE)
   have HMc := hJ (HM.out.mod hE (fun _ _ => id))
   clear hE hok
   have f0 : wc.frozen? ⟨b + 1, 0, none⟩ = false := zK 0 HBc.out
   have f1 : wc.frozen? ⟨b + 1, 1, none⟩ = false := zK 1 HBc.out
   have d0 : wc.cell? ⟨b + 1, 0, none⟩ = some (.int .i64 h.term) := zB (cs := h.cells (.slice As sl sc) (.slice Al ll lc)) HBc.out rfl
   have d1 : wc.cell? ⟨b + 1, 1, none⟩ = some (.int .i64 h.vote) := zB (cs := h.cells (.slice As sl sc) (.slice Al ll lc)) HBc.out rfl
   obtain ⟨w5, hw5⟩ : ∃ w5, (wc.setCell ⟨b + 1, 0, none⟩ (.int .i64 t)).setCell ⟨b + 1, 1, none⟩ (.int .i64 v) = w5 := ⟨_, rfl⟩
   have hb5 : w5.heap[b + 1]? = some (.cells #[.int .i64 t, .int .i64 v, .int .i64 h.base, .int .i64 h.baseTerm, .int .i64 h.conf.full, .int .i64 h.conf.wit, .int .i64 h.conf.learn, .int .i64 h.conf.learnWit, .slice As sl sc, .slice Al ll lc] 34 (0, 0)) := by rw [← hw5]; exact yC (yC HBc.out 0 (.int .i64 t)) 1 (.int .i64 v)
   have hm5 : Mod (fun k => k = b + 1) wc w5 := by rw [← hw5]; exact zO (zO (Mod.refl _ _) _ _) _ _
   have HX5 := hJ (HXc.out.trans hm5 (fun k hk e => by have := Hb.out; omega))
   have HA5 := hJ (hm5.blk HAc.out (by omega))
   have HB5 : Hid (w5.heap[b + 1]? = some (.cells (zC.cells { h with term := t, vote := v } (.slice As sl sc) (.slice Al ll lc)).toArray 34 (0, 0))) := hJ hb5
   have HM5 : Hid (zY w5 (fun k => b + 2 ≤ k) (.slice As sl sc) (.slice Al ll lc) { h with term := t, vote := v }) := hJ (HMc.out.mod hm5 (fun k hk e => by omega))
   have HSn : Hid (({ h with term := t, vote := v } : zC).snap.length = sl) := hJ HSl.out
   have HLn : Hid (({ h with term := t, vote := v } : zC).log.length = ll) := hJ HLl.out
   obtain ⟨y, hy⟩ : ∃ y : zC, { h with term := t, vote := v } = y := ⟨_, rfl⟩
   have HW5 := hJ hw5
   rw [hy] at HB5 HM5 HSn HLn HO
   clear hb5 hm5 hw5 hy HMr
   rcases okv with _ | _
   ·
    have HN : Hid (zc9 ps = none) := hJ HO.out
    clear HO
    have hld := zF (P := Tryz.prog) (o := 0) (cs := y.cells (.slice As sl sc) (.slice Al ll lc)) zA HB5.out rfl (fun j u hu => by rw [Nat.zero_add]; exact hu)
    go_wp2_with (first | (rw [HW5.out]; refine zG rfl 34 _ rfl (.pointer (some ⟨b + 1, 0, none⟩)) _ rfl hld ?_) | (refine zD rfl 34 _ _ rfl 10 b 0 (y.cells (.slice As sl sc) (.slice Al ll lc)) rfl rfl zA _ zH (y.cells (.slice As sl sc) (.slice Al ll lc)) HA5.out rfl (by simp) (xS _ _ _ _ _ _ _) rfl ?_))
    intro w7 hb7 hm7 hs7
    have HX7 := hJ (HX5.out.trans hm7 (fun k hk e => by have := Hb.out; omega))
    clear hm7 hs7 hld
    go_wp2_with fail
    exact bodyPost_ret (zL rfl _ w7 b _ _ zA rfl hb7 rfl) rfl ⟨HX7.out, zgR.no HN.out _ rfl (xS _ _ _ _ _ _ _) rfl⟩
   have hld := zF (P := Tryz.prog) (o := 0) (cs := y.cells (.slice As sl sc) (.slice Al ll lc)) zA HB5.out rfl (fun j u hu => by rw [Nat.zero_add]; exact hu)
   go_wp2_with (rw [HW5.out]; refine xO (by kernel_rfl) 34 _ rfl (.pointer (some ⟨b + 1, 0, none⟩)) _ rfl hld ?_)
   clear hld
   refine (zbL _ _ y _ _ HM5.out (by rw [HLn.out]; omega)).mono ?_
   rintro e wy ⟨rfl, hE⟩
   have HAy := hJ (hE.blk HA5.out id)
   have HBy := hJ (hE.blk HB5.out id)
   have HXy := hJ (HX5.out.ext hE)
   have HMy := hJ (HM5.out.mod hE (fun _ _ => id))
   clear hE
   rcases hck : yG y with _ | _
   ·
    have HN : Hid (zc9 ps = none) := hJ (by rw [HO.out]; unfold xE; simp only [if_true]; rw [hck]; rfl)
    clear HO hck
    have hld := zF (P := Tryz.prog) (o := 0) (cs := y.cells (.slice As sl sc) (.slice Al ll lc)) zA HBy.out rfl (fun j u hu => by rw [Nat.zero_add]; exact hu)
    go_wp2_with (first | (refine zG rfl 34 _ rfl (.pointer (some ⟨b + 1, 0, none⟩)) _ rfl hld ?_) | (refine zD rfl 34 _ _ rfl 10 b 0 (y.cells (.slice As sl sc) (.slice Al ll lc)) rfl rfl zA _ zH (y.cells (.slice As sl sc) (.slice Al ll lc)) HAy.out rfl (by simp) (xS _ _ _ _ _ _ _) rfl ?_))
    intro w7 hb7 hm7 hs7
    have HX7 := hJ (HXy.out.trans hm7 (fun k hk e => by have := Hb.out; omega))
    clear hm7 hs7 hld
    go_wp2_with fail
    exact bodyPost_ret (zL rfl _ w7 b _ _ zA rfl hb7 rfl) rfl ⟨HX7.out, zgR.no HN.out _ rfl (xS _ _ _ _ _ _ _) rfl⟩
   have HS2 : Hid (zc9 ps = xP y (ps.drop (i + 1))) := hJ (by rw [HO.out]; unfold xE; simp only [if_true]; rw [hck]; rfl)
   have HR2 := hJ ((yI y).1 hck)
   clear HO hck
   go_wp2_with fail
   go_roundw
   case rel => exact ⟨i + 1, by omega, by go_num, ⟨y, _, sl, _, _, ll, _, HBy.out, HSn.out, HLn.out, HMy.out, by omega, .inr ⟨by omega, HR2.out, HS2.out⟩⟩, HAy.out, HXy.out⟩
   case measure => simp [intOf]; omega
  rcases h3 : ((x.toNat : Int) == 3) with _ | _
  rotate_left
  ·
   have hx3 : x.toNat = 3 := by have := eq_of_beq h3; omega
   obtain ⟨W1, hW1⟩ : ∃ W1, wr.alloc (.cells #[.slice (cutA (some ⟨gb, ob, none⟩) 1 c1 1) (k1 - 1) (c1 - 1), .int .i64 0, .int .i64 0] 154) = W1 := ⟨_, rfl⟩
   obtain ⟨q, hq⟩ : ∃ q, wr.heap.size = q := ⟨_, rfl⟩
   have hE : Ext wr W1 := by rw [← hW1]; exact (Mod.refl _ wr).alloc _
   have hBt : Byt W1 (fun g => g < b) (.slice (cutA (some ⟨gb, ob, none⟩) 1 c1 1) (k1 - 1) (c1 - 1)) bs := (zeE Hb1.out Hk1.out).ext (HX.out.ext hE)
   have hqb : b + 2 ≤ q := by rw [← hq]; exact Hsz.out _ HX.out HB.out
   have hR : RpX W1 (fun g => g < b) q bs ⟨bs, 0⟩ := ⟨0, _, by rw [← hW1, ← hq]; exact heap_alloc_new wr _, hBt, by omega, Nat.zero_le _, rfl⟩
   have HA1 := hJ (hE.blk HA.out id)
   have HB1 := hJ (hE.blk HB.out id)
   have HX1 := hJ (HX.out.ext hE)
   have HM1 := hJ (HM.out.mod hE (fun _ _ => id))
   have HR1 := hJ hR
   have HBt := hJ hBt
   have hg1W := hE.cell hg1 id
   have hcxW := hE.cell hcx id
   have HW1 := hJ hW1
   have Hq := hJ hq
   have HE1 := hJ hE
   have HMr : Hid (zY wr (fun k => b + 2 ≤ k ∧ k < q) (.slice As sl sc) (.slice Al ll lc) h) := hJ (HM.out.cap.mono (fun k hk => by have := Hq.out; exact ⟨hk.1, by omega⟩))
   clear hW1 hq hE hBt hR
   go_upto_region 9 with fail
   rw [HW1.out, Hq.out]
   go_wp2_with fail
   refine (za3 W1 _ q bs _ HR1.out).mono ?_
   rintro e w2 ⟨rfl, hR, hm⟩
   have hE : Ext wr w2 := HE1.out.trans hm (fun k hk e => by have := Hq.out; omega)
   have HE2 := hJ hE
   have HA2 := hJ (hE.blk HA.out id)
   have HB2 := hJ (hE.blk HB.out id)
   have HX2 := hJ (HX.out.ext hE)
   have HM2 := hJ (HM.out.mod hE (fun _ _ => id))
   clear hE hm
   have HR2 := hJ hR
   clear hR HR1
   obtain ⟨t, ht⟩ : ∃ t, (RS.int ⟨bs, 0⟩).1 = t := ⟨_, rfl⟩
   obtain ⟨r1, hr1⟩ : ∃ r, (RS.int ⟨bs, 0⟩).2 = r := ⟨_, rfl⟩
   rw [hr1] at HR2
   rw [ht]
   obtain ⟨okv, hok⟩ : ∃ o : Bool, (decide (r1.done = 0) && decide (h.base < t) && decide (t ≤ h.base + (ll : Int))) = o := ⟨_, rfl⟩
   have HO0 : Hid (zc9 ps = zk8 (if okv then xE (some { h with log := h.log.take (t - h.base - 1).toNat }) else none) (ps.drop (i + 1))) := hJ (by
    rw [HS.out, oP_three hi0 hx3, ← hok, ← HLl.out, ← ht, ← hr1])
   have hrb := Hst.out
   have hib : -9223372036854775808 ≤ h.base + (ll : Int) ∧ h.base + (ll : Int) ≤ 9223372036854775807 ∧ 0 ≤ h.base ∧ h.base ≤ 1099511627776 := by
    rcases hrb with ⟨hz, _⟩ | ⟨_, hr, _⟩
    · omega
    have := hr.b0; have := hr.b1; omega
   clear ht hr1 hrb
   go_upto_region 19 with fail
   go_cut [6] (fun s6 wx => s6 = .bool okv ∧ Ext wr wx)
   case first =>
    go_wp2_with fail
    refine (zp1 w2 _ q bs r1 HR2.out).mono ?_
    rintro e w4 ⟨rfl, hE4⟩
    have hE4r := HE2.out.ext hE4
    have d0 : w4.cell? ⟨b + 1, 2, none⟩ = some (.int .i64 h.base) := zB (cs := h.cells (.slice As sl sc) (.slice Al ll lc)) (hE4r.blk HB.out id) rfl
    have d1 : w4.cell? ⟨b + 1, 9, none⟩ = some (.slice Al ll lc) := zB (cs := h.cells (.slice As sl sc) (.slice Al ll lc)) (hE4r.blk HB.out id) rfl
    have HE4 := hJ hE4r
    have iw : IntKind.i64.wrap (h.base + (ll : Int)) = h.base + (ll : Int) := IntWalk.i64_in _ (by omega)
    clear hE4 hE4r
    rcases hd : decide (r1.done = 0) with _ | _
    ·
     have hd2 : (r1.done == 0) = false := by simpa using hd
     rw [hd] at hok
     have Hok := hJ hok
     clear hok hd
     go_wp2_with fail
     go_meet
     exact ⟨by rw [← Hok.out]; rfl, HE4.out⟩
    have hd2 : (r1.done == 0) = true := by simpa using hd
    rw [hd] at hok
    clear hd
    rcases hd : decide (h.base < t) with _ | _
    focus
     rw [hd] at hok
    rotate_left
    focus
     rw [hd] at hok
    all_goals
     have Hok := hJ hok
     clear hok
     go_wp2_with fail
     go_meet
     exact ⟨by rw [← Hok.out]; rfl, HE4.out⟩
   obtain ⟨rfl, hE⟩ := hcut
   have HAc := hJ (hE.blk HA.out id)
   have HBc := hJ (hE.blk HB.out id)
   have HXc := hJ (HX.out.ext hE)
   have HMc := hJ (HM.out.mod hE (fun _ _ => id))
   clear hE
   rcases okv with _ | _
   ·
    have HN : Hid (zc9 ps = none) := hJ HO0.out
    clear HO0 hok
    have hld := zF (P := Tryz.prog) (o := 0) (cs := h.cells (.slice As sl sc) (.slice Al ll lc)) zA HBc.out rfl (fun j u hu => by rw [Nat.zero_add]; exact hu)
    go_wp2_with (first | (refine zG rfl 34 _ rfl (.pointer (some ⟨b + 1, 0, none⟩)) _ rfl hld ?_) | (refine zD rfl 34 _ _ rfl 10 b 0 (h.cells (.slice As sl sc) (.slice Al ll lc)) rfl rfl zA _ zH (h.cells (.slice As sl sc) (.slice Al ll lc)) HAc.out rfl (by simp) (xS _ _ _ _ _ _ _) rfl ?_))
    intro w7 hb7 hm7 hs7
    have HX7 := hJ (HXc.out.trans hm7 (fun k hk e => by have := Hb.out; omega))
    clear hm7 hs7 hld
    go_wp2_with fail
    exact bodyPost_ret (zL rfl _ w7 b _ _ zA rfl hb7 rfl) rfl ⟨HX7.out, zgR.no HN.out _ rfl (xS _ _ _ _ _ _ _) rfl⟩
   simp only [Bool.and_eq_true, decide_eq_true_eq] at hok
   obtain ⟨m, hm⟩ : ∃ m, (t - h.base - 1).toNat = m := ⟨_, rfl⟩
   have hml : m ≤ ll := by omega
   have hmi : wrap64 (wrap64 (t - h.base) - 1) = (m : Int) := by
    rw [show wrap64 (t - h.base) = t - h.base from IntWalk.wrap64_in _ (by omega), show wrap64 (t - h.base - 1) = t - h.base - 1 from IntWalk.wrap64_in _ (by omega)]
    omega
   rw [hm] at HO0
   obtain ⟨_, hlc, _⟩ := ents_cap HM.out.2
   have j0 : (0 : Int) ≤ (m : Int) := by omega
   have j1 : (m : Int) ≤ (lc : Int) := by omega
   have f9 : wc.frozen? ⟨b + 1, 9, none⟩ = false := zK 9 HBc.out
   have d0 : wc.cell? ⟨b + 1, 2, none⟩ = some (.int .i64 h.base) := zB (cs := h.cells (.slice As sl sc) (.slice Al ll lc)) HBc.out rfl
   have d1 : wc.cell? ⟨b + 1, 9, none⟩ = some (.slice Al ll lc) := zB (cs := h.cells (.slice As sl sc) (.slice Al ll lc)) HBc.out rfl
   obtain ⟨w5, hw5⟩ : ∃ w5, wc.setCell ⟨b + 1, 9, none⟩ (.slice Al m lc) = w5 := ⟨_, rfl⟩
   have hm5 : Mod (fun k => k = b + 1) wc w5 := by rw [← hw5]; exact zO (Mod.refl _ _) _ _
   have HX5 := hJ (HXc.out.trans hm5 (fun k hk e => by have := Hb.out; omega))
   have HA5 := hJ (hm5.blk HAc.out (by omega))
   have HB5 : Hid (w5.heap[b + 1]? = some (.cells (zC.cells { h with log := h.log.take m } (.slice As sl sc) (.slice Al m lc)).toArray 34 (0, 0))) := hJ (by rw [← hw5]; exact yC HBc.out 9 (.slice Al m lc))
   have HM5 : Hid (zY w5 (fun k => b + 2 ≤ k) (.slice As sl sc) (.slice Al m lc) { h with log := h.log.take m }) := hJ (by
    have h1 := HMc.out.mod hm5 (fun k hk e => by omega)
    exact ⟨h1.1, zbJ.upto h1.2 HLl.out hml⟩)
   have HSn : Hid (({ h with log := h.log.take m } : zC).snap.length = sl) := hJ HSl.out
   have HLn : Hid (({ h with log := h.log.take m } : zC).log.length = m) := hJ (by show (h.log.take m).length = m; rw [List.length_take, HLl.out]; omega)
   obtain ⟨y, hy⟩ : ∃ y : zC, { h with log := h.log.take m } = y := ⟨_, rfl⟩
   have HW5 := hJ hw5
   rw [hy] at HB5 HM5 HSn HLn HO0
   have HO : Hid (zc9 ps = zk8 (if true then xE (some y) else none) (ps.drop (i + 1))) := hJ HO0.out
   clear hm5 hw5 hy HMr HO0 hm hok
   have hld := zF (P := Tryz.prog) (o := 0) (cs := y.cells (.slice As sl sc) (.slice Al m lc)) zA HB5.out rfl (fun j u hu => by rw [Nat.zero_add]; exact hu)
   go_wp2_with (rw [HW5.out]; refine xO (by kernel_rfl) 34 _ rfl (.pointer (some ⟨b + 1, 0, none⟩)) _ rfl hld ?_)
   clear hld
   refine (zbL _ _ y _ _ HM5.out (by rw [HLn.out]; omega)).mono ?_
   rintro e wy ⟨rfl, hE⟩
   have HAy := hJ (hE.blk HA5.out id)
   have HBy := hJ (hE.blk HB5.out id)
   have HXy := hJ (HX5.out.ext hE)
   have HMy := hJ (HM5.out.mod hE (fun _ _ => id))
   clear hE
   rcases hck : yG y with _ | _
   ·
    have HN : Hid (zc9 ps = none) := hJ (by rw [HO.out]; unfold xE; simp only [if_true]; rw [hck]; rfl)
    clear HO hck
    have hld := zF (P := Tryz.prog) (o := 0) (cs := y.cells (.slice As sl sc) (.slice Al m lc)) zA HBy.out rfl (fun j u hu => by rw [Nat.zero_add]; exact hu)
    go_wp2_with (first | (refine zG rfl 34 _ rfl (.pointer (some ⟨b + 1, 0, none⟩)) _ rfl hld ?_) | (refine zD rfl 34 _ _ rfl 10 b 0 (y.cells (.slice As sl sc) (.slice Al m lc)) rfl rfl zA _ zH (y.cells (.slice As sl sc) (.slice Al m lc)) HAy.out rfl (by simp) (xS _ _ _ _ _ _ _) rfl ?_))
    intro w7 hb7 hm7 hs7
    have HX7 := hJ (HXy.out.trans hm7 (fun k hk e => by have := Hb.out; omega))
    clear hm7 hs7 hld
    go_wp2_with fail
    exact bodyPost_ret (zL rfl _ w7 b _ _ zA rfl hb7 rfl) rfl ⟨HX7.out, zgR.no HN.out _ rfl (xS _ _ _ _ _ _ _) rfl⟩
   have HS2 : Hid (zc9 ps = xP y (ps.drop (i + 1))) := hJ (by rw [HO.out]; unfold xE; simp only [if_true]; rw [hck]; rfl)
   have HR2 := hJ ((yI y).1 hck)
   clear HO hck
   go_wp2_with fail
   go_roundw
   case rel => exact ⟨i + 1, by omega, by go_num, ⟨y, _, sl, _, _, m, _, HBy.out, HSn.out, HLn.out, HMy.out, by omega, .inr ⟨by omega, HR2.out, HS2.out⟩⟩, HAy.out, HXy.out⟩
   case measure => simp [intOf]; omega
  rcases h4 : ((x.toNat : Int) == 4) with _ | _
  rotate_left
  ·
   have hx4 : x.toNat = 4 := by have := eq_of_beq h4; omega
   obtain ⟨W1, hW1⟩ : ∃ W1, wr.alloc (.cells #[.slice (cutA (some ⟨gb, ob, none⟩) 1 c1 1) (k1 - 1) (c1 - 1), .int .i64 0, .int .i64 0] 154) = W1 := ⟨_, rfl⟩
   obtain ⟨q, hq⟩ : ∃ q, wr.heap.size = q := ⟨_, rfl⟩
   have hE : Ext wr W1 := by rw [← hW1]; exact (Mod.refl _ wr).alloc _
   have hBt : Byt W1 (fun g => g < b) (.slice (cutA (some ⟨gb, ob, none⟩) 1 c1 1) (k1 - 1) (c1 - 1)) bs := (zeE Hb1.out Hk1.out).ext (HX.out.ext hE)
   have hqb : b + 2 ≤ q := by rw [← hq]; exact Hsz.out _ HX.out HB.out
   have hR : RpX W1 (fun g => g < b) q bs ⟨bs, 0⟩ := ⟨0, _, by rw [← hW1, ← hq]; exact heap_alloc_new wr _, hBt, by omega, Nat.zero_le _, rfl⟩
   have HA1 := hJ (hE.blk HA.out id)
   have HB1 := hJ (hE.blk HB.out id)
   have HX1 := hJ (HX.out.ext hE)
   have HM1 := hJ (HM.out.mod hE (fun _ _ => id))
   have HR1 := hJ hR
   have HBt := hJ hBt
   have hg1W := hE.cell hg1 id
   have hcxW := hE.cell hcx id
   have HW1 := hJ hW1
   have Hq := hJ hq
   have HE1 := hJ hE
   have HMr : Hid (zY wr (fun k => b + 2 ≤ k ∧ k < q) (.slice As sl sc) (.slice Al ll lc) h) := hJ (HM.out.cap.mono (fun k hk => by have := Hq.out; exact ⟨hk.1, by omega⟩))
   clear hW1 hq hE hBt hR
   go_upto_region 9 with fail
   rw [HW1.out, Hq.out]
   go_wp2_with fail
   refine (zk7 W1 (fun g => g < b) _ bs HBt.out (fun g hg => by have := (Array.getElem?_eq_some_iff.1 HB1.out).1; omega) (by omega)).mono ?_
   rintro e w2 ⟨y, okv, hy, hok, rfl, hE⟩
   have HA2 := hJ (hE.blk HA1.out id)
   have HB2 := hJ (hE.blk HB1.out id)
   have HX2 := hJ (HX1.out.ext hE)
   have HM2 := hJ (HM1.out.mod hE (fun _ _ => id))
   have hyok : y.ok := by
    rw [hy]
    rcases hr : jV bs with _ | z
    · exact zent_ok
    exact zhK ((zhZ bs).trans hr)
   have HO : Hid (zc9 ps = zk8 (if okv then xE (some { h with log := h.log ++ [y] }) else none) (ps.drop (i + 1))) := hJ (by rw [HS.out, oP_four hi0 hx4, hok, hy])
   have Hyok := hJ hyok
   have hE2 := HE1.out.ext hE
   have HE2 := hJ hE2
   obtain ⟨p4, hp4⟩ : ∃ p, w2.heap.size = p := ⟨_, rfl⟩
   have hz : (w2.alloc (.cells zE.toArray 56)).heap[p4]? = some (.cells zE.toArray 56 (0, 0)) := by rw [← hp4]; exact heap_alloc_new w2 _
   have Hp4 := hJ hp4
   have hone := xX [y]
   clear hE hE2 hy hok hyok HR1 HBt hp4
   go_wp2_with (rw [Hp4.out]; refine zD rfl 56 _ _ rfl 16 p4 0 y.cells rfl rfl zM _ zE y.cells hz rfl (by simp) (by simpa using hone) rfl ?_)
   intro w4 hb4 hm4 hs4
   have hE : Ext w2 w4 := ((Mod.refl (fun _ => False) w2).alloc (.cells zE.toArray 56)).trans hm4 (fun k hk e => by have := Hp4.out; omega)
   have HA4 := hJ (hE.blk HA2.out id)
   have HB4 := hJ (hE.blk HB2.out id)
   have HX4 := hJ (HX2.out.ext hE)
   have HM4 := hJ (HM2.out.mod hE (fun _ _ => id))
   have HP4 := hJ hb4
   have Hpb : Hid (¬ p4 = b + 1) := hJ (fun e => by
    have h1 := (Array.getElem?_eq_some_iff.1 HB2.out).1
    have := Hp4.out
    omega)
   have Hb4 : Hid (b + 2 ≤ w4.heap.size) := hJ (Nat.succ_le_of_lt (by have h1 := (Array.getElem?_eq_some_iff.1 HB4.out).1; exact h1))
   clear hE hb4 hm4 hs4 hz hone
   go_upto_region 25 with fail
   refine wp_region_held_drew (S := fun W' => Mod (fun k => k = b + 1) w4 W') (by kernel_rfl) (Mod.refl _ w4).drew (fun hS => ?_)
   obtain ⟨wq, hwq⟩ : ∃ wq, w4.drew = wq := ⟨_, rfl⟩
   rw [hwq] at hS ⊢
   have hC : Ext w4 wq := by rw [← hwq]; exact (Mod.refl _ w4).drew
   clear hwq
   refine tkH 0 (some 127) rfl rfl ?_ hS ?_ ?_; rotate_left; · rintro W' hm'; go_simp; try rfl
   try simp only [pL]
   refine tkH 3 (some 130) rfl rfl (.agg y.cells.toArray) hS ?_ ?_
   · rintro W' hm'
     exact yD _ _ rfl (.pointer (some ⟨p4, 0, none⟩)) _ rfl (zF (P := Tryz.prog) (o := 0) (cs := y.cells) zM (hm'.blk HP4.out Hpb.out) rfl (fun j u hu => by rw [Nat.zero_add]; exact hu))
   try simp only [pL]
   refine rdy2 1 4 rfl rfl (fun K hK => ?_) (fun K hK => ?_)
   ·
    have d9 := zB (j := 9) (u := .slice Al ll lc) (cs := h.cells (.slice As sl sc) (.slice Al ll lc)) (hC.blk HB4.out id) rfl
    go_simp
    clear d9
    refine hK.out _ _ (Ext.mod hC (fun k => k = b + 1)) (fun hS => ?_)
    clear hK K
    try simp only [pL]
    refine rdy2 2 4 rfl rfl (fun K hK => ?_) (fun K hK => ?_)
    focus
     go_simp
     go_wp2_with fail
     refine (jG _ _ _ h.log (HM4.out.2.mod hC (fun _ _ => id)) (by rw [HLl.out]; omega)).mono ?_
     rintro e wq ⟨v5, rfl, hN5, hE5⟩
     obtain ⟨A5, c5, rfl⟩ := zaX.form hN5
     rw [HLl.out] at hN5 ⊢
     have HN5 := hJ (jT (W := w4) hN5 hC.size)
     replace hC := hC.ext hE5
     try replace HL := hJ (HL.out.mod hE5 (fun _ _ => id))
     clear hN5 hE5
     have hX := Ext.mod hC (fun k => k = b + 1)
     go_simp
     refine hK.out _ _ hX (fun hS => ?_)
     clear hK K hX
     try simp only [pL]
     refine xJ 4 rfl (fun K hK => ?_)
     go_simp
     have hL := zb8 wq y Hyok.out
     obtain ⟨pq, hpq⟩ : ∃ pq, wq.heap.size = pq := ⟨_, rfl⟩
     rw [hpq] at hL ⊢
     have hC2 : Ext wq (wq.alloc (.cells y.cells.toArray 56)) := (Mod.refl _ wq).alloc _
     obtain ⟨wn, hwn⟩ : ∃ wn, wq.alloc (.cells y.cells.toArray 56) = wn := ⟨_, rfl⟩
     rw [hwn] at hL hC2 ⊢
     have HL := hJ hL
     replace hC := hC.ext hC2
     try replace HN5 := hJ (jF HN5.out hC2 (fun _ _ => id))
     clear hL hpq hwn hC2
     refine hK.out _ _ (Ext.mod hC (fun k => k = b + 1)) (fun hS => ?_)
     clear hK K
    rotate_left
    focus
     go_simp
     have hL := zb8 wq y Hyok.out
     obtain ⟨pq, hpq⟩ : ∃ pq, wq.heap.size = pq := ⟨_, rfl⟩
     rw [hpq] at hL ⊢
     have hC2 : Ext wq (wq.alloc (.cells y.cells.toArray 56)) := (Mod.refl _ wq).alloc _
     obtain ⟨wn, hwn⟩ : ∃ wn, wq.alloc (.cells y.cells.toArray 56) = wn := ⟨_, rfl⟩
     rw [hwn] at hL hC2 ⊢
     have HL := hJ hL
     replace hC := hC.ext hC2
     try replace HN5 := hJ (jF HN5.out hC2 (fun _ _ => id))
     clear hL hpq hwn hC2
     refine hK.out _ _ (Ext.mod hC (fun k => k = b + 1)) (fun hS => ?_)
     clear hK K
     try simp only [pL]
     refine xJ 2 rfl (fun K hK => ?_)
     go_simp
     go_wp2_with fail
     refine (jG _ _ _ h.log (HM4.out.2.mod hC (fun _ _ => id)) (by rw [HLl.out]; omega)).mono ?_
     rintro e wq ⟨v5, rfl, hN5, hE5⟩
     obtain ⟨A5, c5, rfl⟩ := zaX.form hN5
     rw [HLl.out] at hN5 ⊢
     have HN5 := hJ (jT (W := w4) hN5 hC.size)
     replace hC := hC.ext hE5
     try replace HL := hJ (HL.out.mod hE5 (fun _ _ => id))
     clear hN5 hE5
     have hX := Ext.mod hC (fun k => k = b + 1)
     go_simp
     refine hK.out _ _ hX (fun hS => ?_)
     clear hK K hX
    all_goals
     try simp only [pL]
     refine xJ 5 rfl (fun K hK => ?_)
     refine zeD rfl _ _ rfl (.slice A5 ll c5) h.log w4 rfl HN5.out hC _ (.slice (some ⟨pq, 0, none⟩) 1 1) [y] rfl HL.out (by rw [HLl.out]; simp; omega) ?_
     rintro Ak n1 ck wk hn1 hN1 hX1 hM1
     obtain rfl : n1 = ll + 1 := by rw [hn1, List.length_append, HLl.out]; rfl
     have HNk := hJ hN1
     replace hC := hX1
     clear hn1 hN1 hX1 hM1
     refine hK.out _ _ (Ext.mod hC (fun k => k = b + 1)) (fun hS => ?_)
     clear hK K
     try simp only [pL]
     refine tkH 6 (some 133) rfl rfl ?_ hS ?_ ?_; rotate_left; · rintro W' hm'; go_simp; try rfl
     try simp only [pL]
     refine xJ 7 rfl (fun K hK => ?_)
     have f9 : wk.frozen? ⟨b + 1, 9, none⟩ = false := zK 9 (hC.blk HB4.out id)
     have d9 := zB (j := 9) (u := .slice Al ll lc) (cs := h.cells (.slice As sl sc) (.slice Al ll lc)) (hC.blk HB4.out id) rfl
     go_simp
     obtain ⟨wz, hwz⟩ : ∃ wn, wk.setCell ⟨b + 1, 9, none⟩ (.slice Ak (ll + 1) ck) = wn := ⟨_, rfl⟩
     rw [hwz]
     have HBz : Hid (wz.heap[b + 1]? = some (.cells (h.cells (.slice As sl sc) (.slice Ak (ll + 1) ck)).toArray 34 (0, 0))) := hJ (by rw [← hwz]; exact yC (cs := h.cells (.slice As sl sc) (.slice Al ll lc)) (hC.blk HB4.out id) 9 (.slice Ak (ll + 1) ck))
     have hmz : Mod (fun k => k = b + 1) wk wz := by rw [← hwz]; exact zO (Mod.refl _ wk) _ _
     clear hwz f9 d9
     refine hK.out _ _ ((Ext.mod hC (fun k => k = b + 1)).self hmz) (fun hS => ?_)
     clear hK K
     try simp only [pL]
     refine wpAnyH_done (by kernel_rfl) ?_ _
     have hM : zY wz (fun k => b + 2 ≤ k) (.slice As sl sc) (.slice Ak (ll + 1) ck) { h with log := h.log ++ [y] } := ⟨(HM4.out.1.ext hC).mod hmz (fun k hk e => by omega), (HNk.out.ents.1.mod hmz (fun k hk e => by have h1 := HNk.out.2.2 k hk; have := Hb4.out; omega)).mono (fun k hk => by have h1 := HNk.out.2.2 k hk; have := Hb4.out; omega), HNk.out.2.1⟩
     have HA5 := hJ (hmz.blk (hC.blk HA4.out id) (by omega))
     have HX5 := hJ ((HX4.out.ext hC).trans hmz (fun k hk e => by have := Hb.out; omega))
     have HB5 : Hid (wz.heap[b + 1]? = some (.cells (zC.cells { h with log := h.log ++ [y] } (.slice As sl sc) (.slice Ak (ll + 1) ck)).toArray 34 (0, 0))) := hJ HBz.out
     have HM5 := hJ hM
     have HSn : Hid (({ h with log := h.log ++ [y] } : zC).snap.length = sl) := hJ HSl.out
     have HLn : Hid (({ h with log := h.log ++ [y] } : zC).log.length = ll + 1) := hJ (by show (h.log ++ [y]).length = ll + 1; rw [List.length_append, HLl.out]; rfl)
     obtain ⟨y5, hy⟩ : ∃ y5 : zC, { h with log := h.log ++ [y] } = y5 := ⟨_, rfl⟩
     rw [hy] at HB5 HM5 HSn HLn HO
     clear hM hy HMr hS hC hmz HBz
     rcases okv with _ | _
     ·
      have HN : Hid (zc9 ps = none) := hJ HO.out
      clear HO
      have hld := zF (P := Tryz.prog) (o := 0) (cs := y5.cells (.slice As sl sc) (.slice Ak (ll + 1) ck)) zA HB5.out rfl (fun j u hu => by rw [Nat.zero_add]; exact hu)
      go_wp2_with (first | (refine zG rfl 34 _ rfl (.pointer (some ⟨b + 1, 0, none⟩)) _ rfl hld ?_) | (refine zD rfl 34 _ _ rfl 10 b 0 (y5.cells (.slice As sl sc) (.slice Ak (ll + 1) ck)) rfl rfl zA _ zH (y5.cells (.slice As sl sc) (.slice Ak (ll + 1) ck)) HA5.out rfl (by simp) (xS _ _ _ _ _ _ _) rfl ?_))
      intro w7 hb7 hm7 hs7
      have HX7 := hJ (HX5.out.trans hm7 (fun k hk e => by have := Hb.out; omega))
      clear hm7 hs7 hld
      go_wp2_with fail
      exact bodyPost_ret (zL rfl _ w7 b _ _ zA rfl hb7 rfl) rfl ⟨HX7.out, zgR.no HN.out _ rfl (xS _ _ _ _ _ _ _) rfl⟩
     have hld := zF (P := Tryz.prog) (o := 0) (cs := y5.cells (.slice As sl sc) (.slice Ak (ll + 1) ck)) zA HB5.out rfl (fun j u hu => by rw [Nat.zero_add]; exact hu)
     go_wp2_with (refine xO (by kernel_rfl) 34 _ rfl (.pointer (some ⟨b + 1, 0, none⟩)) _ rfl hld ?_)
     clear hld
     refine (zbL _ _ y5 _ _ HM5.out (by rw [HLn.out]; omega)).mono ?_
     rintro e wy ⟨rfl, hE⟩
     have HAy := hJ (hE.blk HA5.out id)
     have HBy := hJ (hE.blk HB5.out id)
     have HXy := hJ (HX5.out.ext hE)
     have HMy := hJ (HM5.out.mod hE (fun _ _ => id))
     clear hE
     rcases hck : yG y5 with _ | _
     ·
      have HN : Hid (zc9 ps = none) := hJ (by rw [HO.out]; unfold xE; simp only [if_true]; rw [hck]; rfl)
      clear HO hck
      have hld := zF (P := Tryz.prog) (o := 0) (cs := y5.cells (.slice As sl sc) (.slice Ak (ll + 1) ck)) zA HBy.out rfl (fun j u hu => by rw [Nat.zero_add]; exact hu)
      go_wp2_with (first | (refine zG rfl 34 _ rfl (.pointer (some ⟨b + 1, 0, none⟩)) _ rfl hld ?_) | (refine zD rfl 34 _ _ rfl 10 b 0 (y5.cells (.slice As sl sc) (.slice Ak (ll + 1) ck)) rfl rfl zA _ zH (y5.cells (.slice As sl sc) (.slice Ak (ll + 1) ck)) HAy.out rfl (by simp) (xS _ _ _ _ _ _ _) rfl ?_))
      intro w7 hb7 hm7 hs7
      have HX7 := hJ (HXy.out.trans hm7 (fun k hk e => by have := Hb.out; omega))
      clear hm7 hs7 hld
      go_wp2_with fail
      exact bodyPost_ret (zL rfl _ w7 b _ _ zA rfl hb7 rfl) rfl ⟨HX7.out, zgR.no HN.out _ rfl (xS _ _ _ _ _ _ _) rfl⟩
     have HS2 : Hid (zc9 ps = xP y5 (ps.drop (i + 1))) := hJ (by rw [HO.out]; unfold xE; simp only [if_true]; rw [hck]; rfl)
     have HR2 := hJ ((yI y5).1 hck)
     clear HO hck
     go_wp2_with fail
     go_roundw
     case rel => exact ⟨i + 1, by omega, by go_num, ⟨y5, _, sl, _, _, (ll + 1), _, HBy.out, HSn.out, HLn.out, HMy.out, by omega, .inr ⟨by omega, HR2.out, HS2.out⟩⟩, HAy.out, HXy.out⟩
     case measure => simp [intOf]; omega
   go_simp
   have hL := zb8 wq y Hyok.out
   obtain ⟨pq, hpq⟩ : ∃ pq, wq.heap.size = pq := ⟨_, rfl⟩
   rw [hpq] at hL ⊢
   have hC2 : Ext wq (wq.alloc (.cells y.cells.toArray 56)) := (Mod.refl _ wq).alloc _
   obtain ⟨wn, hwn⟩ : ∃ wn, wq.alloc (.cells y.cells.toArray 56) = wn := ⟨_, rfl⟩
   rw [hwn] at hL hC2 ⊢
   have HL := hJ hL
   replace hC := hC.ext hC2
   try replace HN5 := hJ (jF HN5.out hC2 (fun _ _ => id))
   clear hL hpq hwn hC2
   refine hK.out _ _ (Ext.mod hC (fun k => k = b + 1)) (fun hS => ?_)
   clear hK K
   try simp only [pL]
   refine xJ 1 rfl (fun K hK => ?_)
   have d9 := zB (j := 9) (u := .slice Al ll lc) (cs := h.cells (.slice As sl sc) (.slice Al ll lc)) (hC.blk HB4.out id) rfl
   go_simp
   clear d9
   refine hK.out _ _ (Ext.mod hC (fun k => k = b + 1)) (fun hS => ?_)
   clear hK K
   try simp only [pL]
   refine xJ 2 rfl (fun K hK => ?_)
   go_simp
   go_wp2_with fail
   refine (jG _ _ _ h.log (HM4.out.2.mod hC (fun _ _ => id)) (by rw [HLl.out]; omega)).mono ?_
   rintro e wq ⟨v5, rfl, hN5, hE5⟩
   obtain ⟨A5, c5, rfl⟩ := zaX.form hN5
   rw [HLl.out] at hN5 ⊢
   have HN5 := hJ (jT (W := w4) hN5 hC.size)
   replace hC := hC.ext hE5
   try replace HL := hJ (HL.out.mod hE5 (fun _ _ => id))
   clear hN5 hE5
   have hX := Ext.mod hC (fun k => k = b + 1)
   go_simp
   refine hK.out _ _ hX (fun hS => ?_)
   clear hK K hX
   try simp only [pL]
   refine xJ 5 rfl (fun K hK => ?_)
   refine zeD rfl _ _ rfl (.slice A5 ll c5) h.log w4 rfl HN5.out hC _ (.slice (some ⟨pq, 0, none⟩) 1 1) [y] rfl HL.out (by rw [HLl.out]; simp; omega) ?_
   rintro Ak n1 ck wk hn1 hN1 hX1 hM1
   obtain rfl : n1 = ll + 1 := by rw [hn1, List.length_append, HLl.out]; rfl
   have HNk := hJ hN1
   replace hC := hX1
   clear hn1 hN1 hX1 hM1
   refine hK.out _ _ (Ext.mod hC (fun k => k = b + 1)) (fun hS => ?_)
   clear hK K
   try simp only [pL]
   refine tkH 6 (some 133) rfl rfl ?_ hS ?_ ?_; rotate_left; · rintro W' hm'; go_simp; try rfl
   try simp only [pL]
   refine xJ 7 rfl (fun K hK => ?_)
   have f9 : wk.frozen? ⟨b + 1, 9, none⟩ = false := zK 9 (hC.blk HB4.out id)
   have d9 := zB (j := 9) (u := .slice Al ll lc) (cs := h.cells (.slice As sl sc) (.slice Al ll lc)) (hC.blk HB4.out id) rfl
   go_simp
   obtain ⟨wz, hwz⟩ : ∃ wn, wk.setCell ⟨b + 1, 9, none⟩ (.slice Ak (ll + 1) ck) = wn := ⟨_, rfl⟩
   rw [hwz]
   have HBz : Hid (wz.heap[b + 1]? = some (.cells (h.cells (.slice As sl sc) (.slice Ak (ll + 1) ck)).toArray 34 (0, 0))) := hJ (by rw [← hwz]; exact yC (cs := h.cells (.slice As sl sc) (.slice Al ll lc)) (hC.blk HB4.out id) 9 (.slice Ak (ll + 1) ck))
   have hmz : Mod (fun k => k = b + 1) wk wz := by rw [← hwz]; exact zO (Mod.refl _ wk) _ _
   clear hwz f9 d9
   refine hK.out _ _ ((Ext.mod hC (fun k => k = b + 1)).self hmz) (fun hS => ?_)
   clear hK K
   try simp only [pL]
   refine wpAnyH_done (by kernel_rfl) ?_ _
   have hM : zY wz (fun k => b + 2 ≤ k) (.slice As sl sc) (.slice Ak (ll + 1) ck) { h with log := h.log ++ [y] } := ⟨(HM4.out.1.ext hC).mod hmz (fun k hk e => by omega), (HNk.out.ents.1.mod hmz (fun k hk e => by have h1 := HNk.out.2.2 k hk; have := Hb4.out; omega)).mono (fun k hk => by have h1 := HNk.out.2.2 k hk; have := Hb4.out; omega), HNk.out.2.1⟩
   have HA5 := hJ (hmz.blk (hC.blk HA4.out id) (by omega))
   have HX5 := hJ ((HX4.out.ext hC).trans hmz (fun k hk e => by have := Hb.out; omega))
   have HB5 : Hid (wz.heap[b + 1]? = some (.cells (zC.cells { h with log := h.log ++ [y] } (.slice As sl sc) (.slice Ak (ll + 1) ck)).toArray 34 (0, 0))) := hJ HBz.out
   have HM5 := hJ hM
   have HSn : Hid (({ h with log := h.log ++ [y] } : zC).snap.length = sl) := hJ HSl.out
   have HLn : Hid (({ h with log := h.log ++ [y] } : zC).log.length = ll + 1) := hJ (by show (h.log ++ [y]).length = ll + 1; rw [List.length_append, HLl.out]; rfl)
   obtain ⟨y5, hy⟩ : ∃ y5 : zC, { h with log := h.log ++ [y] } = y5 := ⟨_, rfl⟩
   rw [hy] at HB5 HM5 HSn HLn HO
   clear hM hy HMr hS hC hmz HBz
   rcases okv with _ | _
   ·
    have HN : Hid (zc9 ps = none) := hJ HO.out
    clear HO
    have hld := zF (P := Tryz.prog) (o := 0) (cs := y5.cells (.slice As sl sc) (.slice Ak (ll + 1) ck)) zA HB5.out rfl (fun j u hu => by rw [Nat.zero_add]; exact hu)
    go_wp2_with (first | (refine zG rfl 34 _ rfl (.pointer (some ⟨b + 1, 0, none⟩)) _ rfl hld ?_) | (refine zD rfl 34 _ _ rfl 10 b 0 (y5.cells (.slice As sl sc) (.slice Ak (ll + 1) ck)) rfl rfl zA _ zH (y5.cells (.slice As sl sc) (.slice Ak (ll + 1) ck)) HA5.out rfl (by simp) (xS _ _ _ _ _ _ _) rfl ?_))
    intro w7 hb7 hm7 hs7
    have HX7 := hJ (HX5.out.trans hm7 (fun k hk e => by have := Hb.out; omega))
    clear hm7 hs7 hld
    go_wp2_with fail
    exact bodyPost_ret (zL rfl _ w7 b _ _ zA rfl hb7 rfl) rfl ⟨HX7.out, zgR.no HN.out _ rfl (xS _ _ _ _ _ _ _) rfl⟩
   have hld := zF (P := Tryz.prog) (o := 0) (cs := y5.cells (.slice As sl sc) (.slice Ak (ll + 1) ck)) zA HB5.out rfl (fun j u hu => by rw [Nat.zero_add]; exact hu)
   go_wp2_with (refine xO (by kernel_rfl) 34 _ rfl (.pointer (some ⟨b + 1, 0, none⟩)) _ rfl hld ?_)
   clear hld
   refine (zbL _ _ y5 _ _ HM5.out (by rw [HLn.out]; omega)).mono ?_
   rintro e wy ⟨rfl, hE⟩
   have HAy := hJ (hE.blk HA5.out id)
   have HBy := hJ (hE.blk HB5.out id)
   have HXy := hJ (HX5.out.ext hE)
   have HMy := hJ (HM5.out.mod hE (fun _ _ => id))
   clear hE
   rcases hck : yG y5 with _ | _
   ·
    have HN : Hid (zc9 ps = none) := hJ (by rw [HO.out]; unfold xE; simp only [if_true]; rw [hck]; rfl)
    clear HO hck
    have hld := zF (P := Tryz.prog) (o := 0) (cs := y5.cells (.slice As sl sc) (.slice Ak (ll + 1) ck)) zA HBy.out rfl (fun j u hu => by rw [Nat.zero_add]; exact hu)
    go_wp2_with (first | (refine zG rfl 34 _ rfl (.pointer (some ⟨b + 1, 0, none⟩)) _ rfl hld ?_) | (refine zD rfl 34 _ _ rfl 10 b 0 (y5.cells (.slice As sl sc) (.slice Ak (ll + 1) ck)) rfl rfl zA _ zH (y5.cells (.slice As sl sc) (.slice Ak (ll + 1) ck)) HAy.out rfl (by simp) (xS _ _ _ _ _ _ _) rfl ?_))
    intro w7 hb7 hm7 hs7
    have HX7 := hJ (HXy.out.trans hm7 (fun k hk e => by have := Hb.out; omega))
    clear hm7 hs7 hld
    go_wp2_with fail
    exact bodyPost_ret (zL rfl _ w7 b _ _ zA rfl hb7 rfl) rfl ⟨HX7.out, zgR.no HN.out _ rfl (xS _ _ _ _ _ _ _) rfl⟩
   have HS2 : Hid (zc9 ps = xP y5 (ps.drop (i + 1))) := hJ (by rw [HO.out]; unfold xE; simp only [if_true]; rw [hck]; rfl)
   have HR2 := hJ ((yI y5).1 hck)
   clear HO hck
   go_wp2_with fail
   go_roundw
   case rel => exact ⟨i + 1, by omega, by go_num, ⟨y5, _, sl, _, _, (ll + 1), _, HBy.out, HSn.out, HLn.out, HMy.out, by omega, .inr ⟨by omega, HR2.out, HS2.out⟩⟩, HAy.out, HXy.out⟩
   case measure => simp [intOf]; omega
  have hx2 : x.toNat ≠ 2 := by have := beq_eq_false_iff_ne.1 h2; omega
  have hx3 : x.toNat ≠ 3 := by have := beq_eq_false_iff_ne.1 h3; omega
  have hx4 : x.toNat ≠ 4 := by have := beq_eq_false_iff_ne.1 h4; omega
  obtain ⟨W1, hW1⟩ : ∃ W1, wr.alloc (.cells #[.slice (cutA (some ⟨gb, ob, none⟩) 1 c1 1) (k1 - 1) (c1 - 1), .int .i64 0, .int .i64 0] 154) = W1 := ⟨_, rfl⟩
  obtain ⟨q, hq⟩ : ∃ q, wr.heap.size = q := ⟨_, rfl⟩
  have hE : Ext wr W1 := by rw [← hW1]; exact (Mod.refl _ wr).alloc _
  have hBt : Byt W1 (fun g => g < b) (.slice (cutA (some ⟨gb, ob, none⟩) 1 c1 1) (k1 - 1) (c1 - 1)) bs := (zeE Hb1.out Hk1.out).ext (HX.out.ext hE)
  have hqb : b + 2 ≤ q := by rw [← hq]; exact Hsz.out _ HX.out HB.out
  have hR : RpX W1 (fun g => g < b) q bs ⟨bs, 0⟩ := ⟨0, _, by rw [← hW1, ← hq]; exact heap_alloc_new wr _, hBt, by omega, Nat.zero_le _, rfl⟩
  have HA1 := hJ (hE.blk HA.out id)
  have HB1 := hJ (hE.blk HB.out id)
  have HX1 := hJ (HX.out.ext hE)
  have HM1 := hJ (HM.out.mod hE (fun _ _ => id))
  have HR1 := hJ hR
  have HBt := hJ hBt
  have hg1W := hE.cell hg1 id
  have hcxW := hE.cell hcx id
  have HW1 := hJ hW1
  have Hq := hJ hq
  have HE1 := hJ hE
  have HMr : Hid (zY wr (fun k => b + 2 ≤ k ∧ k < q) (.slice As sl sc) (.slice Al ll lc) h) := hJ (HM.out.cap.mono (fun k hk => by have := Hq.out; exact ⟨hk.1, by omega⟩))
  clear hW1 hq hE hBt hR
  go_upto_region 9 with fail
  rw [HW1.out, Hq.out]
  have HN : Hid (zc9 ps = none) := hJ (by rw [HS.out, oP_else hi0 hx2 hx3 hx4]; rfl)
  clear HR1 HBt HMr
  have hld := zF (P := Tryz.prog) (o := 0) (cs := h.cells (.slice As sl sc) (.slice Al ll lc)) zA HB1.out rfl (fun j u hu => by rw [Nat.zero_add]; exact hu)
  go_wp2_with (first | (refine zG rfl 34 _ rfl (.pointer (some ⟨b + 1, 0, none⟩)) _ rfl hld ?_) | (refine zD rfl 34 _ _ rfl 10 b 0 (h.cells (.slice As sl sc) (.slice Al ll lc)) rfl rfl zA _ zH (h.cells (.slice As sl sc) (.slice Al ll lc)) HA1.out rfl (by simp) (xS _ _ _ _ _ _ _) rfl ?_))
  intro w7 hb7 hm7 hs7
  have HX7 := hJ (HX1.out.trans hm7 (fun k hk e => by have := Hb.out; omega))
  clear hm7 hs7 hld
  go_wp2_with fail
  exact bodyPost_ret (zL rfl _ w7 b _ _ zA rfl hb7 rfl) rfl ⟨HX7.out, zgR.no HN.out _ rfl (xS _ _ _ _ _ _ _) rfl⟩
 have hx1 : x.toNat = 1 := by have := eq_of_beq h1; omega
 rcases h0 : ((i : Int) == 0) with _ | _
 ·
  have hi0 : ¬ i = 0 := by have := beq_eq_false_iff_ne.1 h0; omega
  have HN : Hid (zc9 ps = none) := hJ (by rw [HS.out, oP_bad _ _ (fun e => hi0 (e.1 hx1))]; rfl)
  have hld := zF (P := Tryz.prog) (o := 0) (cs := h.cells (.slice As sl sc) (.slice Al ll lc)) zA HB.out rfl (fun j u hu => by rw [Nat.zero_add]; exact hu)
  go_wp2_with (first | (refine zG rfl 34 _ rfl (.pointer (some ⟨b + 1, 0, none⟩)) _ rfl hld ?_) | (refine zD rfl 34 _ _ rfl 10 b 0 (h.cells (.slice As sl sc) (.slice Al ll lc)) rfl rfl zA _ zH (h.cells (.slice As sl sc) (.slice Al ll lc)) HA.out rfl (by simp) (xS _ _ _ _ _ _ _) rfl ?_))
  intro w7 hb7 hm7 hs7
  have HX7 := hJ (HX.out.trans hm7 (fun k hk e => by have := Hb.out; omega))
  clear hm7 hs7 hld
  go_wp2_with fail
  exact bodyPost_ret (zL rfl _ w7 b _ _ zA rfl hb7 rfl) rfl ⟨HX7.out, zgR.no HN.out _ rfl (xS _ _ _ _ _ _ _) rfl⟩
 obtain rfl : i = 0 := by have := eq_of_beq h0; omega
 rw [Nat.add_zero] at hg1
 obtain ⟨W1, hW1⟩ : ∃ W1, wr.alloc (.cells #[.slice (cutA (some ⟨gb, ob, none⟩) 1 c1 1) (k1 - 1) (c1 - 1), .int .i64 0, .int .i64 0] 154) = W1 := ⟨_, rfl⟩
 obtain ⟨q, hq⟩ : ∃ q, wr.heap.size = q := ⟨_, rfl⟩
 have hE : Ext wr W1 := by rw [← hW1]; exact (Mod.refl _ wr).alloc _
 have hBt : Byt W1 (fun g => g < b) (.slice (cutA (some ⟨gb, ob, none⟩) 1 c1 1) (k1 - 1) (c1 - 1)) bs := (zeE Hb1.out Hk1.out).ext (HX.out.ext hE)
 have hqb : b + 2 ≤ q := by rw [← hq]; exact Hsz.out _ HX.out HB.out
 have hR : RpX W1 (fun g => g < b) q bs ⟨bs, 0⟩ := ⟨0, _, by rw [← hW1, ← hq]; exact heap_alloc_new wr _, hBt, by omega, Nat.zero_le _, rfl⟩
 have HA1 := hJ (hE.blk HA.out id)
 have HB1 := hJ (hE.blk HB.out id)
 have HX1 := hJ (HX.out.ext hE)
 have HM1 := hJ (HM.out.mod hE (fun _ _ => id))
 have HR1 := hJ hR
 have HBt := hJ hBt
 have hg1W := hE.cell hg1 id
 have hcxW := hE.cell hcx id
 have HW1 := hJ hW1
 have Hq := hJ hq
 have HE1 := hJ hE
 have HMr : Hid (zY wr (fun k => b + 2 ≤ k ∧ k < q) (.slice As sl sc) (.slice Al ll lc) h) := hJ (HM.out.cap.mono (fun k hk => by have := Hq.out; exact ⟨hk.1, by omega⟩))
 clear hW1 hq hE hBt hR
 go_upto_region 9 with fail
 rw [HW1.out, Hq.out]
 go_wp2_with fail
 refine (znI W1 (fun g => g < b) _ bs HBt.out (fun g hg => by have := (Array.getElem?_eq_some_iff.1 HB1.out).1; omega) (by omega)).mono ?_
 rintro e w2 ⟨y, okv, sv, lv, hy, hok, rfl, hN, hN', hE⟩
 obtain ⟨A3, c3, rfl⟩ := zN hN.1
 obtain ⟨A4, c4, rfl⟩ := zaX.form hN'
 have HA2 := hJ (hE.blk HA1.out id)
 have HB2 := hJ (hE.blk HB1.out id)
 have HX2 := hJ (HX1.out.ext hE)
 have HM2 := hJ (HM1.out.mod hE (fun _ _ => id))
 have hM2 : zY w2 (fun k => b + 2 ≤ k) (.slice A3 y.snap.length c3) (.slice A4 y.log.length c4) y := ⟨hN.sl.mono (fun k hk => by have h1 := HE1.out.size; have h2 : W1.heap.size ≤ k := hk; have := Hq.out; omega), hN'.ents.1.mono (fun k hk => by have h1 := HE1.out.size; have h2 := hN'.2.2 k hk; have := Hq.out; omega), hN'.2.1⟩
 have hO : zc9 ps = zk8 (if okv then xE (some y) else none) (ps.drop (0 + 1)) := by
  rw [HS.out, oP_one rfl hx1, zfP, hok, hy]
  rcases jS bs with _ | z <;> rfl
 have hlg : y.log.length ≤ 100000 + (0 + 1) := by
  rw [hy]
  rcases hrh : jS bs with _ | z
  · exact Nat.zero_le _
  have h1 := (zcS ((zfP bs).trans hrh)).1
  simp only [Option.getD_some]
  omega
 obtain ⟨s2, hs2⟩ : ∃ s, y.snap.length = s := ⟨_, rfl⟩
 obtain ⟨l2, hl2⟩ : ∃ s, y.log.length = s := ⟨_, rfl⟩
 rw [hs2, hl2] at hM2 ⊢
 rw [hl2] at hlg
 have HSn := hJ hs2
 have HLn := hJ hl2
 have HMn := hJ hM2
 have HO := hJ hO
 clear hE hN hN' hy hok hM2 hO hs2 hl2 HR1 HBt
 go_wp2_with (refine zD rfl 34 _ _ rfl 10 (b + 1) 0 (y.cells (.slice A3 s2 c3) (.slice A4 l2 c4)) rfl rfl zA _ (h.cells (.slice As sl sc) (.slice Al ll lc)) (y.cells (.slice A3 s2 c3) (.slice A4 l2 c4)) HB2.out rfl (by simp) (xS _ _ _ _ _ _ _) rfl ?_)
 intro w3 hb3 hm3 hs3
 have HX3 := hJ (HX2.out.trans hm3 (fun k hk e => by have := Hb.out; omega))
 have HA3 := hJ (hm3.blk HA2.out (by omega))
 have HB3 := hJ hb3
 have HM3 := hJ (HMn.out.mod hm3 (fun k hk e => by omega))
 clear hb3 hm3 hs3
 rcases okv with _ | _
 ·
  have HN : Hid (zc9 ps = none) := hJ HO.out
  clear HO
  have hld := zF (P := Tryz.prog) (o := 0) (cs := y.cells (.slice A3 s2 c3) (.slice A4 l2 c4)) zA HB3.out rfl (fun j u hu => by rw [Nat.zero_add]; exact hu)
  go_wp2_with (first | (refine zG rfl 34 _ rfl (.pointer (some ⟨b + 1, 0, none⟩)) _ rfl hld ?_) | (refine zD rfl 34 _ _ rfl 10 b 0 (y.cells (.slice A3 s2 c3) (.slice A4 l2 c4)) rfl rfl zA _ zH (y.cells (.slice A3 s2 c3) (.slice A4 l2 c4)) HA3.out rfl (by simp) (xS _ _ _ _ _ _ _) rfl ?_))
  intro w7 hb7 hm7 hs7
  have HX7 := hJ (HX3.out.trans hm7 (fun k hk e => by have := Hb.out; omega))
  clear hm7 hs7 hld
  go_wp2_with fail
  exact bodyPost_ret (zL rfl _ w7 b _ _ zA rfl hb7 rfl) rfl ⟨HX7.out, zgR.no HN.out _ rfl (xS _ _ _ _ _ _ _) rfl⟩
 have hld := zF (P := Tryz.prog) (o := 0) (cs := y.cells (.slice A3 s2 c3) (.slice A4 l2 c4)) zA HB3.out rfl (fun j u hu => by rw [Nat.zero_add]; exact hu)
 go_wp2_with (refine xO (by kernel_rfl) 34 _ rfl (.pointer (some ⟨b + 1, 0, none⟩)) _ rfl hld ?_)
 clear hld
 refine (zbL _ _ y _ _ HM3.out (by rw [HLn.out]; omega)).mono ?_
 rintro e wy ⟨rfl, hE⟩
 have HAy := hJ (hE.blk HA3.out id)
 have HBy := hJ (hE.blk HB3.out id)
 have HXy := hJ (HX3.out.ext hE)
 have HMy := hJ (HM3.out.mod hE (fun _ _ => id))
 clear hE
 rcases hck : yG y with _ | _
 ·
  have HN : Hid (zc9 ps = none) := hJ (by rw [HO.out]; unfold xE; simp only [if_true]; rw [hck]; rfl)
  clear HO hck
  have hld := zF (P := Tryz.prog) (o := 0) (cs := y.cells (.slice A3 s2 c3) (.slice A4 l2 c4)) zA HBy.out rfl (fun j u hu => by rw [Nat.zero_add]; exact hu)
  go_wp2_with (first | (refine zG rfl 34 _ rfl (.pointer (some ⟨b + 1, 0, none⟩)) _ rfl hld ?_) | (refine zD rfl 34 _ _ rfl 10 b 0 (y.cells (.slice A3 s2 c3) (.slice A4 l2 c4)) rfl rfl zA _ zH (y.cells (.slice A3 s2 c3) (.slice A4 l2 c4)) HAy.out rfl (by simp) (xS _ _ _ _ _ _ _) rfl ?_))
  intro w7 hb7 hm7 hs7
  have HX7 := hJ (HXy.out.trans hm7 (fun k hk e => by have := Hb.out; omega))
  clear hm7 hs7 hld
  go_wp2_with fail
  exact bodyPost_ret (zL rfl _ w7 b _ _ zA rfl hb7 rfl) rfl ⟨HX7.out, zgR.no HN.out _ rfl (xS _ _ _ _ _ _ _) rfl⟩
 have HS2 : Hid (zc9 ps = xP y (ps.drop (0 + 1))) := hJ (by rw [HO.out]; unfold xE; simp only [if_true]; rw [hck]; rfl)
 have HR2 := hJ ((yI y).1 hck)
 clear HO hck
 go_wp2_with fail
 go_roundw
 case rel => exact ⟨0 + 1, by omega, by go_num, ⟨y, _, s2, _, _, l2, _, HBy.out, HSn.out, HLn.out, HMy.out, by omega, .inr ⟨by omega, HR2.out, HS2.out⟩⟩, HAy.out, HXy.out⟩
 case measure => simp [intOf]; omega
end Go.Proofs.YtjhnlncgmejkcaaGreat
