/-
 Contracts of the page's readList, ReadHard (layer 10). Conditions: as each theorem names them.
-/
import Derived.Test.YtjhnlncgmejkcaaGreatR7
import Derived.Test.YtjhnlncgmejkcaaGreatS16
import Derived.Deep.DeepCutAuto
import Derived.Deep.CutBlock
set_option maxRecDepth 100000
set_option maxHeartbeats 4000000
namespace Go.Proofs.YtjhnlncgmejkcaaGreat
set_option linter.unusedSimpArgs false
open Go.RowKit
theorem rpx_e {w : World} {T : Nat → Prop} {b : Nat} {bs : List UInt8} {r : RS} (h : RpX w T b bs r) : w.cell? ⟨b, 2, none⟩ = some (.int .i64 r.e) := by
 obtain ⟨a, v, hb, _⟩ := h
 exact (za8 hb).2.2.1
theorem zqP {w : World} {T : Nat → Prop} {b : Nat} {bs : List UInt8} {r : RS} (h : RpX w T b bs r) : b < w.heap.size := by
 obtain ⟨a, v, hb, _⟩ := h
 exact (Array.getElem?_eq_some_iff.1 hb).1
theorem zqQ {w : World} {T : Nat → Prop} {b : Nat} {bs : List UInt8} {r : RS} (h : RpX w T b bs r) : r.left.length ≤ bs.length := by
 obtain ⟨a, v, _, _, _, _, hl⟩ := h
 rw [hl, List.length_drop]
 omega
def LOut (w : World) (T : Nat → Prop) (b : Nat) (bs : List UInt8) (o : List zI × RS) (e : Ending) (w' : World) : Prop :=
 ∃ A cp, e = .returned (.slice A o.1.length cp) ∧ zaX w w' (.slice A o.1.length cp) o.1 ∧ RpX w' T b bs o.2 ∧ Mod (fun k => k = b) w w'
def Eat (N m : Nat) (r : RS) : Prop := m ≤ N + 1 ∧ (r.e = 0 → m + r.left.length ≤ N)
theorem znH (w : World) (T : Nat → Prop) (b : Nat) (bs : List UInt8) (r : RS) (h : RpX w T b bs r) (hT : ∀ k, T k → k < w.heap.size) (hN : bs.length ≤ 100000) (most : Int) :
  Calls Tryz.prog 156 #[.pointer (some ⟨b, 0, none⟩), .int .i64 most] w (LOut w T b bs (r.listP most)) := by
 obtain ⟨i0, hi, hz0, hz1, hz2⟩ := info_parts zbC
 have hkr := zb1 r
 have hb := zqP h
 have HT := hJ hT
 have Hb := hJ hb
 have H := hJ h
 clear h hT hb
 go_enter Tryz.func156, Tryz.ntmps156
 go_wp2_with fail
 refine (za3 w T b bs r H.out).mono ?_
 rintro e w1 ⟨rfl, hR1, hm1⟩
 obtain ⟨n, hn⟩ : ∃ n, r.int.1 = n := ⟨_, rfl⟩
 obtain ⟨r1, hr1⟩ : ∃ r1, r.int.2 = r1 := ⟨_, rfl⟩
 rw [hr1] at hR1
 rw [hn] at hkr ⊢
 have Hn := hJ hn
 have Hr1 := hJ hr1
 have HR1 := hJ hR1
 have HM1 := hJ hm1
 clear hn hr1 hR1 hm1
 obtain ⟨s, hs⟩ : ∃ s, (if n < 0 ∨ most < n then r1.fail 3 else r1) = s := ⟨_, rfl⟩
 have Hs := hJ hs
 have Hlp : Hid (r.listP most = zcB n.toNat s) := hJ (by unfold RS.listP; simp only [Hn.out, Hr1.out]; rw [Hs.out])
 clear hs
 rcases h0 : decide (n < 0) with _ | _
 ·
  rcases h1 : decide (most < n) with _ | _
  focus
   have hs2 : s = r1 := by rw [← Hs.out, if_neg]; simp at h0 h1; omega
   have HRs : Hid (RpX w1 T b bs s) := hJ (by rw [hs2]; exact HR1.out)
   have HMs := HM1
   clear hs2
  rotate_left
  focus
   have hs2 : s = r1.fail 3 := by rw [← Hs.out, if_pos]; simp at h0 h1; omega
   have Hs2 := hJ hs2
   clear hs2
   go_wp2_with fail
   obtain ⟨aa, hRa⟩ := HR1.out
   refine (zcT w1 T b bs aa r1 3 hRa).mono ?_
   rintro e w2 ⟨rfl, hR2, hm2⟩
   have HRs : Hid (RpX w2 T b bs s) := hJ (by rw [Hs2.out]; exact ⟨aa, hR2⟩)
   have HMs := hJ (HM1.out.self hm2)
   clear hR2 hm2 hRa Hs2
  all_goals
   have hlen := zqQ HRs.out
   obtain ⟨N, hNN⟩ : ∃ N, bs.length = N := ⟨_, rfl⟩
   rw [hNN] at hlen hN
   have HNN := hJ hNN
   clear hNN HR1 HM1 Hr1 Hs
   go_wp2
   go_loopw [6, 7] (fun lv iv wr => ∃ (i : Nat) (A : Option Addr) (cp : Nat) (os : List zI) (r' : RS), iv = .int .i64 i ∧ lv = .slice A i cp ∧ os.length = i ∧ (0 < i → (i : Int) ≤ n) ∧ zaX w wr (.slice A i cp) os ∧ RpX wr T b bs r' ∧ Mod (fun k => k = b) w wr ∧ zcB n.toNat s = (os ++ (zcB (n.toNat - i) r').1, (zcB (n.toNat - i) r').2) ∧ Eat N i r') (fun _ iv _ => N + 2 - (intOf iv).toNat)
   case atStart => exact ⟨0, none, 0, [], s, rfl, rfl, rfl, fun h => absurd h (by omega), zcE _ _, HRs.out, HMs.out, rfl, by omega, fun _ => by omega⟩
   obtain ⟨i, A, cp, os, r', rfl, rfl, hom, hin, hE, hR, hM, hps, hea⟩ := hrel
   have hce := rpx_e hR
   have HE := hJ hE
   have HR := hJ hR
   have HM := hJ hM
   have Hps := hJ hps
   have Hea := hJ hea
   have Hom := hJ hom
   have Hin := hJ hin
   clear hE hR hM hps hea hom hin
   have hfin : zcB (n.toNat - i) r' = ([], r') → LOut w T b bs (r.listP most) (.returned (.slice A i cp)) wr := fun h => by
    rw [Hlp.out, Hps.out, h, List.append_nil]
    unfold LOut
    rw [Hom.out]
    exact ⟨A, cp, rfl, HE.out, HR.out, HM.out⟩
   have Hfin := hJ hfin
   clear hfin
   rcases hlt : decide ((i : Int) < n) with _ | _
   · have Hz : Hid (zcB (n.toNat - i) r' = ([], r')) := hJ (by rw [show n.toNat - i = 0 by simp at hlt; omega]; rfl)
     go_wp2
     go_ret
     exact Hfin.out Hz.out
   by_cases he : r'.e = 0
   case neg =>
    have d : (r'.e == 0) = false := by simp [he]
    have Hz : Hid (zcB (n.toNat - i) r' = ([], r')) := hJ (zdE _ he)
    clear he
    go_wp2
    go_ret
    exact Hfin.out Hz.out
   have d : (r'.e == 0) = true := by simp [he]
   have hlt' : (i : Int) < n := by simpa using hlt
   have hiN : i ≤ N := by have := Hea.out.2 he; omega
   have Hstep : Hid (zcB (n.toNat - i) r' = (r'.entP.1 :: (zcB (n.toNat - (i + 1)) r'.entP.2).1, (zcB (n.toNat - (i + 1)) r'.entP.2).2)) := hJ (by rw [show n.toNat - i = n.toNat - (i + 1) + 1 by omega, zcL _ he])
   have Heat : Hid (Eat N (i + 1) r'.entP.2) := hJ ⟨by omega, fun h => by have h1 := (zkD h).2; have := Hea.out.2 he; omega⟩
   have He := hJ he
   clear he
   go_wp2_with fail
   refine (ziJ wr T b bs r' HR.out (fun g hg => by have := HT.out g hg; have := HM.out.size; omega) (by have := Hb.out; have := HM.out.size; omega)).mono ?_
   rintro e w2 ⟨rfl, hR2, hm2⟩
   obtain ⟨x, hx⟩ : ∃ x, r'.entP.1 = x := ⟨_, rfl⟩
   have hxok := zl8 r'
   rw [hx] at hxok Hstep ⊢
   have HR2 := hJ hR2
   have HM2 := hJ (HM.out.self hm2)
   have HE2 := hJ (jF HE.out hm2 (fun g hg e => by have := HE.out.2.2 g hg; have := Hb.out; omega))
   have Hxok := hJ hxok
   clear hR2 hm2 hx hxok hce
   have hown : ((w2.alloc (.cells x.cells.toArray 56))).ownsRow 0 56 16 (.slice A i cp) i (os.flatMap zI.cells) := by
    have h1 := HE2.out.1
    rw [Hom.out] at h1
    exact zU h1 ((Mod.refl (fun _ => False) w2).alloc _) (fun _ _ => id)
   go_wp2_with (at_builtin; refine yA _ rfl _ _ 32 rfl 56 i0 _ 16 152 Tryz.underlying32 hi hz0 hz1 hz2 rfl (by omega) (.slice A i cp) i (os.flatMap zI.cells) rfl hown _ _ 1 ([x].flatMap zI.cells) rfl (zb8 w2 x Hxok.out).1 (xX [x]) (by simp only [maxLen]; omega) (by omega) ?_)
   intro v' w3 ho hgr hat
   have hE0 : Ext w2 (w2.alloc (.cells x.cells.toArray 56)) := (Mod.refl _ _).alloc _
   have hN3 := zdX HE2.out (k := [x]) (by simpa using Hxok.out) Hom.out rfl ho hat (by have := HM2.out.size; simp; omega)
   have hgm : Mod (fun g => (Value.slice A i cp).ownBlock = some g) w2 w3 := (hE0.mod _).trans ((Mod.refl _ _).grown hgr (fun k_ e => .inr e)) (fun _ _ e => e)
   have hR3 := HR2.out.mod hgm (fun e => by have := HE2.out.2.2 b e; have := Hb.out; omega) (fun g hg e => by have := HE2.out.2.2 g e; have := HT.out g hg; omega)
   have hM3 : Mod (fun k => k = b) w w3 := HM2.out.trans hgm (fun g hg e => absurd (HE2.out.2.2 g e) (by omega))
   obtain ⟨A3, c3, rfl⟩ := zN ho
   have hps : zcB n.toNat s = ((os ++ [x]) ++ (zcB (n.toNat - (i + 1)) r'.entP.2).1, (zcB (n.toNat - (i + 1)) r'.entP.2).2) := by
    rw [Hps.out, Hstep.out]
    simp
   have HN3 := hJ hN3
   have HR3 := hJ hR3
   have HM3 := hJ hM3
   have Hps3 := hJ hps
   clear ho hgr hat hown hE0 hN3 hgm hR3 hM3 hps
   go_wp2
   exact ⟨⟨i + 1, A3, c3, os ++ [x], r'.entP.2, by go_num, rfl, by simp [Hom.out], fun _ => by omega, HN3.out, HR3.out, HM3.out, Hps3.out, Heat.out⟩, by simp [intOf]; omega⟩
 have hs2 : s = r1.fail 3 := by rw [← Hs.out, if_pos]; simp at h0; omega
 have Hs2 := hJ hs2
 clear hs2
 go_wp2_with fail
 obtain ⟨aa, hRa⟩ := HR1.out
 refine (zcT w1 T b bs aa r1 3 hRa).mono ?_
 rintro e w2 ⟨rfl, hR2, hm2⟩
 have HRs : Hid (RpX w2 T b bs s) := hJ (by rw [Hs2.out]; exact ⟨aa, hR2⟩)
 have HMs := hJ (HM1.out.self hm2)
 clear hR2 hm2 hRa Hs2
 have hlen := zqQ HRs.out
 obtain ⟨N, hNN⟩ : ∃ N, bs.length = N := ⟨_, rfl⟩
 rw [hNN] at hlen hN
 have HNN := hJ hNN
 clear hNN HR1 HM1 Hr1 Hs
 go_wp2
 go_loopw [6, 7] (fun lv iv wr => ∃ (i : Nat) (A : Option Addr) (cp : Nat) (os : List zI) (r' : RS), iv = .int .i64 i ∧ lv = .slice A i cp ∧ os.length = i ∧ (0 < i → (i : Int) ≤ n) ∧ zaX w wr (.slice A i cp) os ∧ RpX wr T b bs r' ∧ Mod (fun k => k = b) w wr ∧ zcB n.toNat s = (os ++ (zcB (n.toNat - i) r').1, (zcB (n.toNat - i) r').2) ∧ Eat N i r') (fun _ iv _ => N + 2 - (intOf iv).toNat)
 case atStart => exact ⟨0, none, 0, [], s, rfl, rfl, rfl, fun h => absurd h (by omega), zcE _ _, HRs.out, HMs.out, rfl, by omega, fun _ => by omega⟩
 obtain ⟨i, A, cp, os, r', rfl, rfl, hom, hin, hE, hR, hM, hps, hea⟩ := hrel
 have hce := rpx_e hR
 have HE := hJ hE
 have HR := hJ hR
 have HM := hJ hM
 have Hps := hJ hps
 have Hea := hJ hea
 have Hom := hJ hom
 have Hin := hJ hin
 clear hE hR hM hps hea hom hin
 have hfin : zcB (n.toNat - i) r' = ([], r') → LOut w T b bs (r.listP most) (.returned (.slice A i cp)) wr := fun h => by
  rw [Hlp.out, Hps.out, h, List.append_nil]
  unfold LOut
  rw [Hom.out]
  exact ⟨A, cp, rfl, HE.out, HR.out, HM.out⟩
 have Hfin := hJ hfin
 clear hfin
 rcases hlt : decide ((i : Int) < n) with _ | _
 ·
  have Hz : Hid (zcB (n.toNat - i) r' = ([], r')) := hJ (by rw [show n.toNat - i = 0 by simp at hlt; omega]; rfl)
  go_wp2
  go_ret
  exact Hfin.out Hz.out
 by_cases he : r'.e = 0
 case neg =>
  have d : (r'.e == 0) = false := by simp [he]
  have Hz : Hid (zcB (n.toNat - i) r' = ([], r')) := hJ (zdE _ he)
  clear he
  go_wp2
  go_ret
  exact Hfin.out Hz.out
 have d : (r'.e == 0) = true := by simp [he]
 have hlt' : (i : Int) < n := by simpa using hlt
 have hiN : i ≤ N := by have := Hea.out.2 he; omega
 have Hstep : Hid (zcB (n.toNat - i) r' = (r'.entP.1 :: (zcB (n.toNat - (i + 1)) r'.entP.2).1, (zcB (n.toNat - (i + 1)) r'.entP.2).2)) := hJ (by rw [show n.toNat - i = n.toNat - (i + 1) + 1 by omega, zcL _ he])
 have Heat : Hid (Eat N (i + 1) r'.entP.2) := hJ ⟨by omega, fun h => by have h1 := (zkD h).2; have := Hea.out.2 he; omega⟩
 have He := hJ he
 clear he
 go_wp2_with fail
 refine (ziJ wr T b bs r' HR.out (fun g hg => by have := HT.out g hg; have := HM.out.size; omega) (by have := Hb.out; have := HM.out.size; omega)).mono ?_
 rintro e w2 ⟨rfl, hR2, hm2⟩
 obtain ⟨x, hx⟩ : ∃ x, r'.entP.1 = x := ⟨_, rfl⟩
 have hxok := zl8 r'
 rw [hx] at hxok Hstep ⊢
 have HR2 := hJ hR2
 have HM2 := hJ (HM.out.self hm2)
 have HE2 := hJ (jF HE.out hm2 (fun g hg e => by have := HE.out.2.2 g hg; have := Hb.out; omega))
 have Hxok := hJ hxok
 clear hR2 hm2 hx hxok hce
 have hown : ((w2.alloc (.cells x.cells.toArray 56))).ownsRow 0 56 16 (.slice A i cp) i (os.flatMap zI.cells) := by
  have h1 := HE2.out.1
  rw [Hom.out] at h1
  exact zU h1 ((Mod.refl (fun _ => False) w2).alloc _) (fun _ _ => id)
 go_wp2_with (at_builtin; refine yA _ rfl _ _ 32 rfl 56 i0 _ 16 152 Tryz.underlying32 hi hz0 hz1 hz2 rfl (by omega) (.slice A i cp) i (os.flatMap zI.cells) rfl hown _ _ 1 ([x].flatMap zI.cells) rfl (zb8 w2 x Hxok.out).1 (xX [x]) (by simp only [maxLen]; omega) (by omega) ?_)
 intro v' w3 ho hgr hat
 have hE0 : Ext w2 (w2.alloc (.cells x.cells.toArray 56)) := (Mod.refl _ _).alloc _
 have hN3 := zdX HE2.out (k := [x]) (by simpa using Hxok.out) Hom.out rfl ho hat (by have := HM2.out.size; simp; omega)
 have hgm : Mod (fun g => (Value.slice A i cp).ownBlock = some g) w2 w3 := (hE0.mod _).trans ((Mod.refl _ _).grown hgr (fun k_ e => .inr e)) (fun _ _ e => e)
 have hR3 := HR2.out.mod hgm (fun e => by have := HE2.out.2.2 b e; have := Hb.out; omega) (fun g hg e => by have := HE2.out.2.2 g e; have := HT.out g hg; omega)
 have hM3 : Mod (fun k => k = b) w w3 := HM2.out.trans hgm (fun g hg e => absurd (HE2.out.2.2 g e) (by omega))
 obtain ⟨A3, c3, rfl⟩ := zN ho
 have hps : zcB n.toNat s = ((os ++ [x]) ++ (zcB (n.toNat - (i + 1)) r'.entP.2).1, (zcB (n.toNat - (i + 1)) r'.entP.2).2) := by
  rw [Hps.out, Hstep.out]
  simp
 have HN3 := hJ hN3
 have HR3 := hJ hR3
 have HM3 := hJ hM3
 have Hps3 := hJ hps
 clear ho hgr hat hown hE0 hN3 hgm hR3 hM3 hps
 go_wp2
 exact ⟨⟨i + 1, A3, c3, os ++ [x], r'.entP.2, by go_num, rfl, by simp [Hom.out], fun _ => by omega, HN3.out, HR3.out, HM3.out, Hps3.out, Heat.out⟩, by simp [intOf]; omega⟩
theorem znI (w : World) (T : Nat → Prop) (v : Value) (bs : List UInt8) (h : Byt w T v bs) (hT : ∀ g, T g → g < w.heap.size) (hl : bs.length ≤ 100000) :
  Calls Tryz.prog 118 #[v] w (zpU w (jS bs)) := by
 obtain ⟨A, cp, rfl⟩ := h.form
 obtain ⟨n, hn⟩ : ∃ n, bs.length = n := ⟨_, rfl⟩
 obtain ⟨q, hq⟩ : ∃ q, w.heap.size = q := ⟨_, rfl⟩
 obtain ⟨W, hW⟩ : ∃ W, W = (w.alloc (.cells zH.toArray 34)).alloc (.cells #[.slice A n cp, .int .i64 0, .int .i64 0] 154) := ⟨_, rfl⟩
 have hE : Ext w W := by rw [hW]; exact ((Mod.refl _ w).alloc _).alloc _
 have hA : W.heap[q]? = some (.cells zH.toArray 34 (0, 0)) := by rw [hW, ← hq, Below.heap_alloc _ _ _ (by simp)]; exact heap_alloc_new w _
 have hB : W.heap[q + 1]? = some (.cells #[.slice A n cp, .int .i64 ((0 : Nat) : Int), .int .i64 0] 154 (0, 0)) := by
  rw [hW, ← hq]
  have := heap_alloc_new (w.alloc (.cells zH.toArray 34)) (.cells #[.slice A n cp, .int .i64 0, .int .i64 0] 154)
  simpa using this
 have hsz : W.heap.size = q + 2 := by rw [hW, ← hq]; simp
 have hR : RpX W T (q + 1) bs ⟨bs, 0⟩ := ⟨0, .slice A n cp, hB, by rw [← hn]; exact h.ext hE, fun e => by have := hT _ e; omega, Nat.zero_le _, rfl⟩
 obtain ⟨b, hbd⟩ : ∃ b, q + 1 = b := ⟨_, rfl⟩
 rw [hbd] at hR
 have hnq : ¬ q = b := by omega
 have hnb : ¬ b = q := by omega
 have Hbq : Hid (b < q + 2 ∧ q < b) := hJ (by omega)
 have HTq : Hid (∀ g, T g → g < q) := hJ (fun g hg => by have := hT g hg; omega)
 have HR := hJ hR
 have HM : Hid (Mod (fun k => k = b) w W) := hJ (hE.mod _)
 have HQ := hJ hA
 have HW := hJ hW
 have Hq := hJ hq
 have Hsz := hJ hsz
 have Hn := hJ hn
 have Hbd := hJ hbd
 have hn1 : n ≤ 1000000 := by omega
 have Hl := hJ hl
 rw [hn]
 clear hW hq hE hA hB h hT hsz hn hR hbd hl
 go_enter Tryz.func118, Tryz.ntmps118
 go_wp2_with fail
 rw [← HW.out, Hq.out, Hbd.out]
 clear HW
 refine (za3 W T b bs (RS.mk bs 0) HR.out).mono ?_
 rintro e w1 ⟨rfl, hR2, hm2⟩
 obtain ⟨k0, hk0⟩ : ∃ k, (RS.mk bs 0).int.1 = k := ⟨_, rfl⟩
 obtain ⟨r1, hr1⟩ : ∃ s, (RS.mk bs 0).int.2 = s := ⟨_, rfl⟩
 rw [hk0]
 rw [hr1] at hR2
 have Hk0 := hJ hk0
 have Hr1 := hJ hr1
 clear hk0 hr1
 replace HR := hJ hR2
 replace HM := hJ (HM.out.self hm2)
 replace HQ := hJ (hm2.blk HQ.out hnq)
 clear hR2 hm2
 go_wp2_with fail
 refine (za3 w1 T b bs r1 HR.out).mono ?_
 rintro e w2 ⟨rfl, hR2, hm2⟩
 obtain ⟨k1, hk1⟩ : ∃ k, r1.int.1 = k := ⟨_, rfl⟩
 obtain ⟨r2, hr2⟩ : ∃ s, r1.int.2 = s := ⟨_, rfl⟩
 rw [hk1]
 rw [hr2] at hR2
 have Hk1 := hJ hk1
 have Hr2 := hJ hr2
 clear hk1 hr2
 replace HR := hJ hR2
 replace HM := hJ (HM.out.self hm2)
 replace HQ := hJ (hm2.blk HQ.out hnq)
 clear hR2 hm2
 go_wp2_with fail
 refine (za3 w2 T b bs r2 HR.out).mono ?_
 rintro e w3 ⟨rfl, hR2, hm2⟩
 obtain ⟨k2, hk2⟩ : ∃ k, r2.int.1 = k := ⟨_, rfl⟩
 obtain ⟨r3, hr3⟩ : ∃ s, r2.int.2 = s := ⟨_, rfl⟩
 rw [hk2]
 rw [hr3] at hR2
 have Hk2 := hJ hk2
 have Hr3 := hJ hr3
 clear hk2 hr3
 replace HR := hJ hR2
 replace HM := hJ (HM.out.self hm2)
 replace HQ := hJ (hm2.blk HQ.out hnq)
 clear hR2 hm2
 go_wp2_with fail
 refine (za3 w3 T b bs r3 HR.out).mono ?_
 rintro e w4 ⟨rfl, hR2, hm2⟩
 obtain ⟨k3, hk3⟩ : ∃ k, r3.int.1 = k := ⟨_, rfl⟩
 obtain ⟨r4, hr4⟩ : ∃ s, r3.int.2 = s := ⟨_, rfl⟩
 rw [hk3]
 rw [hr4] at hR2
 have Hk3 := hJ hk3
 have Hr4 := hJ hr4
 clear hk3 hr4
 replace HR := hJ hR2
 replace HM := hJ (HM.out.self hm2)
 replace HQ := hJ (hm2.blk HQ.out hnq)
 clear hR2 hm2
 obtain ⟨p, hp⟩ : ∃ p, w4.heap.size = p := ⟨_, rfl⟩
 obtain ⟨w5, hWn⟩ : ∃ W, W = w4.alloc (.cells #[.int .i64 k0, .int .i64 k1, .int .i64 k2, .int .i64 k3, .int .i64 0, .int .i64 0, .int .i64 0, .int .i64 0, .slice none 0 0, .slice none 0 0] 34) := ⟨_, rfl⟩
 have hE2 : Ext w4 w5 := by rw [hWn]; exact (Mod.refl _ _).alloc _
 have hP : w5.heap[p]? = some (.cells #[.int .i64 k0, .int .i64 k1, .int .i64 k2, .int .i64 k3, .int .i64 0, .int .i64 0, .int .i64 0, .int .i64 0, .slice none 0 0, .slice none 0 0] 34 (0, 0)) := by rw [hWn, ← hp]; exact heap_alloc_new _ _
 have hbp' : b < p := by rw [← hp]; exact zqP HR.out
 have hqp : q < p := by have := Hbq.out; omega
 have hnp : ¬ p = b := by omega
 have hbp : ¬ b = p := by omega
 have hpq : ¬ p = q := by omega
 replace HR := hJ (HR.out.mod hE2 id (fun _ _ => id))
 replace HM := hJ (HM.out.ext hE2)
 replace HQ := hJ (hE2.blk HQ.out id)
 have HP := hJ hP
 have HWn := hJ hWn
 have Hp := hJ hp
 have Hqp := hJ hqp
 clear hE2 hP hWn hp hqp hbp'
 go_wp2_with fail
 rw [← HWn.out, Hp.out]
 clear HWn Hp
 refine (zp5 w5 T b bs r4 HR.out (fun k hk => by have := HTq.out k hk; have := (Array.getElem?_eq_some_iff.1 HQ.out).1; omega) (zqP HR.out)).mono ?_
 rintro e w6 ⟨rfl, hR2, hm2⟩
 replace HR := hJ hR2
 replace HM := hJ (HM.out.self hm2)
 replace HQ := hJ (hm2.blk HQ.out hnq)
 replace HP := hJ (hm2.blk HP.out hnp)
 clear hR2 hm2
 go_wp2_with (refine zD rfl 23 _ _ rfl 4 p 4 [.int .i64 r4.confP.1.full, .int .i64 r4.confP.1.wit, .int .i64 r4.confP.1.learn, .int .i64 r4.confP.1.learnWit] rfl rfl xR _ _ [.int .i64 k0, .int .i64 k1, .int .i64 k2, .int .i64 k3, .int .i64 r4.confP.1.full, .int .i64 r4.confP.1.wit, .int .i64 r4.confP.1.learn, .int .i64 r4.confP.1.learnWit, .slice none 0 0, .slice none 0 0] HP.out rfl (by simp) (List.all_eq_true.1 rfl) rfl ?_)
 intro w7 hA4 hm4 _
 replace hA4 : w7.heap[p]? = some (.cells #[.int .i64 k0, .int .i64 k1, .int .i64 k2, .int .i64 k3, .int .i64 r4.confP.1.full, .int .i64 r4.confP.1.wit, .int .i64 r4.confP.1.learn, .int .i64 r4.confP.1.learnWit, .slice none 0 0, .slice none 0 0] 34 (0, 0)) := hA4
 replace HP := hJ hA4
 replace HR := hJ (HR.out.mod hm4 hbp (fun g hg e => by have := HTq.out g hg; have := Hqp.out; omega))
 replace HM := hJ (jI HM.out hm4 (by have := Hq.out; have := Hqp.out; omega))
 replace HQ := hJ (hm4.blk HQ.out (fun e => hpq e.symm))
 clear hA4 hm4
 go_wp2_with fail
 refine (zp3 w7 T b bs r4.confP.2 HR.out).mono ?_
 rintro e w8 ⟨sv, rfl, hNB, hR2, hm2⟩
 have HNB : Hid (yO w w8 sv r4.confP.2.text.1) := hJ ⟨hNB.1, fun g hg => Nat.le_trans HM.out.size (hNB.2 g hg)⟩
 have HNq : Hid (∀ g, sv.ownBlock = some g → p < g) := hJ (fun g hg => by have h1 := hNB.2 g hg; have h2 := (Array.getElem?_eq_some_iff.1 HP.out).1; omega)
 obtain ⟨A5, c5, rfl⟩ := zN hNB.1
 obtain ⟨tx, hx⟩ : ∃ x, r4.confP.2.text.1 = x := ⟨_, rfl⟩
 obtain ⟨r5, hr5⟩ : ∃ s, r4.confP.2.text.2 = s := ⟨_, rfl⟩
 rw [hx] at HNB HNq ⊢
 rw [hr5] at hR2
 have Htx := hJ hx
 have Hr5 := hJ hr5
 clear hx hr5 hNB
 replace HR := hJ hR2
 replace HM := hJ (HM.out.self hm2)
 replace HQ := hJ (hm2.blk HQ.out hnq)
 replace HP := hJ (hm2.blk HP.out hnp)
 clear hR2 hm2
 have a8 : w8.cell? ⟨p, 8, none⟩ = some _ := zB HP.out rfl
 have f8 : w8.frozen? ⟨p, 8, none⟩ = false := zK 8 HP.out
 obtain ⟨w9, hWn⟩ : ∃ W, w8.setCell ⟨p, 8, none⟩ (.slice A5 tx.length c5) = W := ⟨_, rfl⟩
 have hA4 : w9.heap[p]? = some (.cells #[.int .i64 k0, .int .i64 k1, .int .i64 k2, .int .i64 k3, .int .i64 r4.confP.1.full, .int .i64 r4.confP.1.wit, .int .i64 r4.confP.1.learn, .int .i64 r4.confP.1.learnWit, .slice A5 tx.length c5, .slice none 0 0] 34 (0, 0)) := by rw [← hWn]; exact yC HP.out 8 (.slice A5 tx.length c5)
 have hm4 : Mod (fun k => k = p) w8 w9 := by rw [← hWn]; exact zO (Mod.refl _ _) _ _
 replace HNB : Hid (yO w w9 (.slice A5 tx.length c5) tx) := hJ ⟨zU HNB.out.1 hm4 (fun g h1 h2 => by have := HNq.out g h1; have := Hqp.out; omega), HNB.out.2⟩
 replace HP := hJ hA4
 replace HR := hJ (HR.out.mod hm4 hbp (fun g hg e => by have := HTq.out g hg; have := Hqp.out; omega))
 replace HM := hJ (jI HM.out hm4 (by have := Hq.out; have := Hqp.out; omega))
 replace HQ := hJ (hm4.blk HQ.out (fun e => hpq e.symm))
 clear hA4 hm4
 have HWn := hJ hWn
 clear hWn
 go_wp2_with fail
 rw [HWn.out]
 clear HWn a8 f8
 refine (znH w9 T b bs r5 HR.out (fun k hk => by have := HTq.out k hk; have := (Array.getElem?_eq_some_iff.1 HQ.out).1; omega) Hl.out (n : Int)).mono ?_
 rintro e w10 ⟨A6, c6, rfl, hNE, hR2, hm2⟩
 obtain ⟨l, hll⟩ : ∃ l, (r5.listP (n : Int)).1 = l := ⟨_, rfl⟩
 obtain ⟨r6, hr6⟩ : ∃ s, (r5.listP (n : Int)).2 = s := ⟨_, rfl⟩
 rw [hll] at hNE ⊢
 rw [hr6] at hR2
 have Hll := hJ hll
 have Hr6 := hJ hr6
 have HNE : Hid (zaX w w10 (.slice A6 l.length c6) l) := hJ (jT hNE HM.out.size)
 have HNq2 : Hid (∀ g, (Value.slice A6 l.length c6).ownBlock = some g → p < g) := hJ (fun g hg => by have h1 := hNE.2.2 g hg; have h2 := (Array.getElem?_eq_some_iff.1 HP.out).1; omega)
 replace HNB : Hid (yO w w10 (.slice A5 tx.length c5) tx) := hJ ⟨zU HNB.out.1 hm2 (fun g h1 h2 => by have := HNq.out g h1; have := hbp; have := Hbq.out; have := Hqp.out; omega), HNB.out.2⟩
 clear hll hr6 hNE
 replace HR := hJ hR2
 replace HM := hJ (HM.out.self hm2)
 replace HQ := hJ (hm2.blk HQ.out hnq)
 replace HP := hJ (hm2.blk HP.out hnp)
 clear hR2 hm2
 have a9 : w10.cell? ⟨p, 9, none⟩ = some _ := zB HP.out rfl
 have f9 : w10.frozen? ⟨p, 9, none⟩ = false := zK 9 HP.out
 obtain ⟨w11, hWn⟩ : ∃ W, w10.setCell ⟨p, 9, none⟩ (.slice A6 l.length c6) = W := ⟨_, rfl⟩
 have hA4 : w11.heap[p]? = some (.cells #[.int .i64 k0, .int .i64 k1, .int .i64 k2, .int .i64 k3, .int .i64 r4.confP.1.full, .int .i64 r4.confP.1.wit, .int .i64 r4.confP.1.learn, .int .i64 r4.confP.1.learnWit, .slice A5 tx.length c5, .slice A6 l.length c6] 34 (0, 0)) := by rw [← hWn]; exact yC HP.out 9 (.slice A6 l.length c6)
 have hm4 : Mod (fun k => k = p) w10 w11 := by rw [← hWn]; exact zO (Mod.refl _ _) _ _
 replace HNE : Hid (zaX w w11 (.slice A6 l.length c6) l) := hJ (jF HNE.out hm4 (fun g h1 h2 => by have := HNq2.out g h1; omega))
 replace HNB : Hid (yO w w11 (.slice A5 tx.length c5) tx) := hJ ⟨zU HNB.out.1 hm4 (fun g h1 h2 => by have := HNq.out g h1; have := Hqp.out; omega), HNB.out.2⟩
 replace HP := hJ hA4
 replace HR := hJ (HR.out.mod hm4 hbp (fun g hg e => by have := HTq.out g hg; have := Hqp.out; omega))
 replace HM := hJ (jI HM.out hm4 (by have := Hq.out; have := Hqp.out; omega))
 replace HQ := hJ (hm4.blk HQ.out (fun e => hpq e.symm))
 clear hA4 hm4
 have HWn := hJ hWn
 clear hWn
 go_wp2_with fail
 rw [HWn.out]
 clear HWn a9 f9
 refine (p_over w11 T b bs r6 HR.out A n cp hn1).mono ?_
 rintro e w12 ⟨rfl, hE4⟩
 replace HQ := hJ (hE4.blk HQ.out id)
 replace HP := hJ (hE4.blk HP.out id)
 replace HM := hJ (HM.out.ext hE4)
 replace HNB := hJ (HNB.out.ext hE4)
 replace HNE := hJ (jF HNE.out hE4 (fun _ _ => id))
 have HX : Hid (Ext w w12) := hJ (Mod.toExt (HM.out.mono (fun k hk e => by have := Hbq.out; have := Hq.out; unfold zZ; omega)))
 clear hE4
 have hrp : (RS.hardP ⟨bs, 0⟩ (bs.length : Int)) = (⟨k0, k1, k2, k3, r4.confP.1, tx, l⟩, r6) := by
  unfold RS.hardP
  simp only [Hk0.out, Hr1.out, Hk1.out, Hr2.out, Hk2.out, Hr3.out, Hk3.out, Hr4.out, Htx.out, Hr5.out, Hn.out, Hll.out, Hr6.out]
 obtain ⟨ok, hok⟩ : ∃ ok, (r6.done == 0 && decide (n ≤ 16384)) = ok := ⟨_, rfl⟩
 rw [hok]
 have Hok := hJ hok
 clear hok
 have hrd : ok = true → jS bs = some ⟨k0, k1, k2, k3, r4.confP.1, tx, l⟩ := fun h => by
  have h1 := Hok.out
  rw [h, Bool.and_eq_true, beq_iff_eq, decide_eq_true_iff] at h1
  unfold jS
  rw [hrp, if_pos ⟨h1.1, by rw [Hn.out]; exact h1.2⟩]
 have hrn : ok = false → jS bs = none := fun h => by
  unfold jS
  rw [hrp, if_neg]
  rintro ⟨g1, g2⟩
  have h1 := Hok.out
  rw [g1, decide_eq_true (by rw [← Hn.out]; exact g2), h] at h1
  cases h1
 have Hrd := hJ hrd
 have Hrn := hJ hrn
 clear hrd hrn hrp
 rcases ok with _ | _
 ·
  go_wp2_with (refine zD rfl 34 _ _ rfl 10 q 0 zH rfl rfl zA _ _ zH HQ.out rfl (by simp) (List.all_eq_true.1 rfl) rfl ?_)
  intro w13 hA4 hm4 _
  have HZ : Hid (w13.heap[q]? = some (.cells zH.toArray 34 (0, 0))) := hJ hA4
  have HX5 : Hid (Ext w w13) := hJ (Mod.toExt ((Ext.mod HX.out (zZ w.heap.size)).trans hm4 (fun k _ e => by unfold zZ; have := Hq.out; omega)))
  clear hA4 hm4
  go_wp2
  obtain ⟨c_0, c_1, c_2, c_3, c_4, c_5, c_6, c_7, c_8, c_9⟩ := cq10 HZ.out
  refine bodyPost_ret (v := .tuple #[.agg #[.int .i64 0, .int .i64 0, .int .i64 0, .int .i64 0, .int .i64 0, .int .i64 0, .int .i64 0, .int .i64 0, .slice none 0 0, .slice none 0 0], .bool false]) (by simp [results, Tryz.results118, go_sem, c_0, c_1, c_2, c_3, c_4, c_5, c_6, c_7, c_8, c_9]) rfl ?_
  exact zjH (Hrn.out trivial) HX5.out
 have hld := zF (P := Tryz.prog) (o := 0) (cs := [.int .i64 k0, .int .i64 k1, .int .i64 k2, .int .i64 k3, .int .i64 r4.confP.1.full, .int .i64 r4.confP.1.wit, .int .i64 r4.confP.1.learn, .int .i64 r4.confP.1.learnWit, .slice A5 tx.length c5, .slice A6 l.length c6]) zA HP.out rfl (fun j u hu => by rw [Nat.zero_add]; exact hu)
 go_wp2_with (first | (refine zG rfl 34 _ rfl _ _ rfl hld ?_) | (refine zD rfl 34 _ _ rfl 10 q 0 [.int .i64 k0, .int .i64 k1, .int .i64 k2, .int .i64 k3, .int .i64 r4.confP.1.full, .int .i64 r4.confP.1.wit, .int .i64 r4.confP.1.learn, .int .i64 r4.confP.1.learnWit, .slice A5 tx.length c5, .slice A6 l.length c6] rfl rfl zA _ _ [.int .i64 k0, .int .i64 k1, .int .i64 k2, .int .i64 k3, .int .i64 r4.confP.1.full, .int .i64 r4.confP.1.wit, .int .i64 r4.confP.1.learn, .int .i64 r4.confP.1.learnWit, .slice A5 tx.length c5, .slice A6 l.length c6] HQ.out rfl (by simp) (List.all_eq_true.1 rfl) rfl ?_))
 intro w13 hA4 hm4 _
 have HZ : Hid (w13.heap[q]? = some (.cells #[.int .i64 k0, .int .i64 k1, .int .i64 k2, .int .i64 k3, .int .i64 r4.confP.1.full, .int .i64 r4.confP.1.wit, .int .i64 r4.confP.1.learn, .int .i64 r4.confP.1.learnWit, .slice A5 tx.length c5, .slice A6 l.length c6] 34 (0, 0))) := hJ hA4
 have HX5 : Hid (Ext w w13) := hJ (Mod.toExt ((Ext.mod HX.out (zZ w.heap.size)).trans hm4 (fun k _ e => by unfold zZ; have := Hq.out; omega)))
 replace HNB : Hid (yO w w13 (.slice A5 tx.length c5) tx) := hJ ⟨zU HNB.out.1 hm4 (fun g h1 h2 => by have := HNq.out g h1; have := Hqp.out; omega), HNB.out.2⟩
 replace HNE : Hid (zaX w w13 (.slice A6 l.length c6) l) := hJ (jF HNE.out hm4 (fun g h1 h2 => by have := HNq2.out g h1; have := Hqp.out; omega))
 clear hld
 clear hA4 hm4
 go_wp2
 obtain ⟨c_0, c_1, c_2, c_3, c_4, c_5, c_6, c_7, c_8, c_9⟩ := cq10 HZ.out
 refine bodyPost_ret (v := .tuple #[.agg #[.int .i64 k0, .int .i64 k1, .int .i64 k2, .int .i64 k3, .int .i64 r4.confP.1.full, .int .i64 r4.confP.1.wit, .int .i64 r4.confP.1.learn, .int .i64 r4.confP.1.learnWit, .slice A5 tx.length c5, .slice A6 l.length c6], .bool true]) (by simp [results, Tryz.results118, go_sem, c_0, c_1, c_2, c_3, c_4, c_5, c_6, c_7, c_8, c_9]) rfl ?_
 have hN := Hrd.out trivial
 exact ⟨⟨k0, k1, k2, k3, r4.confP.1, tx, l⟩, true, _, _, by rw [hN]; rfl, by rw [hN]; rfl, rfl, HNB.out, HNE.out, HX5.out⟩
end Go.Proofs.YtjhnlncgmejkcaaGreat
