/-
 The page's save, Save (layer 11; printed by stbrd.py). Conditions: as each theorem names them.
-/
import Derived.Test.YtjhnlncgmejkcaaGreatTakeI
import Derived.Test.YtjhnlncgmejkcaaGreatR1
import Derived.Test.YtjhnlncgmejkcaaGreatR4
import Derived.Test.YtjhnlncgmejkcaaGreatStbMo
set_option maxRecDepth 100000
set_option maxHeartbeats 4000000
namespace Go.Proofs.YtjhnlncgmejkcaaGreat
set_option linter.unusedSimpArgs false
open Go.RowKit
theorem zjR : ∀ l m : List zI, zaN l m = zaN m l
 | [], [] => rfl
 | [], _ :: _ => rfl
 | _ :: _, [] => rfl
 | x :: l, y :: m => by
  have h : zf3 x y = zf3 y x := by unfold zf3; exact Bool.eq_iff_iff.2 (by simp only [beq_iff_eq]; exact eq_comm)
  rw [zaN, zaN, h, zjR l m]
theorem comE_eqN {l m : List zI} (h1 : ∀ x ∈ l, xB x = true ∧ x.ok) (h2 : ∀ x ∈ m, xB x = true ∧ x.ok) : zj1 l m = zaN l m := (zqH l m h1 h2).trans (zjR m l)
theorem zmO {g h : zC} (hg : zeQ g) (hh : zeQ h) (hn : zcJ g h = true) (hm : (zaL g h).length = 0) : h = g := by
 have h0 : zc5 g h = [] := by
  cases hr : zc5 g h with
  | nil => rfl
  | cons p ps =>
   unfold zaL at hm
   rw [hr, List.flatMap_cons, List.length_append, yL] at hm
   omega
 unfold zc5 at h0
 rw [List.append_eq_nil_iff, List.append_eq_nil_iff] at h0
 obtain ⟨⟨h1, h2⟩, h3⟩ := h0
 have ht : h.term = g.term ∧ h.vote = g.vote := by
  unfold zbW at h1
  split at h1
  · assumption
  cases h1
 have hc : g.log.length ≤ zaN h.log g.log := by
  unfold zbX at h2
  split at h2
  · cases h2
  omega
 have hd : h.log.length ≤ zaN h.log g.log := by
  have h4 := List.map_eq_nil_iff.1 h3
  exact List.drop_eq_nil_iff.1 h4
 have hl := zf4 h.log g.log (fun x hx => ⟨jH hh.1.r x hx, hh.2.1 x hx⟩) (fun x hx => ⟨jH hg.1.r x hx, hg.2.1 x hx⟩)
 rw [List.take_of_length_le hd, List.take_of_length_le hc] at hl
 obtain ⟨n1, n2, n3, n4⟩ := zo8 hn
 obtain ⟨a, b, c, d, e, f, l⟩ := h
 obtain ⟨a', b', c', d', e', f', l'⟩ := g
 simp only at ht hl n1 n2 n3 n4
 rw [ht.1, ht.2, hl, n1, n2, n3, n4]
theorem QM.ofE {w w1 w' : World} {d : Nat} {fv : Value} {D' : zJ} (hE : Ext w w1) (h : QM w1 d fv D' w') : QM w d fv D' w' := QM.trans (Ext.mod hE _) (fun _ hg => .inl hg) h
theorem QtB.dm {w w' : World} {s d : Nat} {g : zC} {gs gl fv : Value} {D : zJ} (h : QtB w s d g gs gl) (hD : Qsk w d fv D) (hM : Mod (fun k => k = d ∨ fv.ownBlock = some k) w w') : QtB w' s d g gs gl :=
 hM.blk h (fun e => by
  rcases e with e | e
  · exact hD.ne h (by decide) e
  exact zT hD.2.1 e h (by decide) rfl)
theorem r10_save (w : World) (T U : Nat → Prop) (s d : Nat) (g h : zC) (Bs : Option Addr) (gn bs : Nat) (Bl : Option Addr) (gg bl : Nat) (As : Option Addr) (sl cs : Nat) (Al : Option Addr) (ll cl : Nat) (fv : Value) (D : zJ) (hS : QtB w s d g (.slice Bs gn bs) (.slice Bl gg bl)) (hD : Qsk w d fv D) (hg : zY w T (.slice Bs gn bs) (.slice Bl gg bl) g) (hgn : g.snap.length = gn) (hgl : g.log.length = gg) (hv : zY w U (.slice As sl cs) (.slice Al ll cl) h) (hsn : h.snap.length = sl) (hll : h.log.length = ll) (hU : ∀ k, U k → k ≠ d ∧ fv.ownBlock ≠ some k) (hr : Right h) (hl : ll ≤ 12700) (hgr : Right g) (hgl2 : gg ≤ 1000000) (hne : za1 h g = false) :
  Calls Tryz.prog 96 #[.pointer (some ⟨s, 0, none⟩), .agg #[.int .i64 h.term, .int .i64 h.vote, .int .i64 h.base, .int .i64 h.baseTerm, .int .i64 h.conf.full, .int .i64 h.conf.wit, .int .i64 h.conf.learn, .int .i64 h.conf.learnWit, .slice As sl cs, .slice Al ll cl]] w fun e w' => e = .returned (.int .i64 (yS D g h).2) ∧ QM w d fv (yS D g h).1 w' := by
 obtain ⟨W0, hW0⟩ : ∃ W0, w.alloc (.cells (h.cells (.slice As sl cs) (.slice Al ll cl)).toArray 34) = W0 := ⟨_, rfl⟩
 have hE0 : Ext w W0 := by rw [← hW0]; exact (Mod.refl _ w).alloc _
 obtain ⟨b, hb⟩ : ∃ b, w.heap.size = b := ⟨_, rfl⟩
 have hA : W0.heap[b]? = some (.cells (h.cells (.slice As sl cs) (.slice Al ll cl)).toArray 34 (0, 0)) := by rw [← hW0, ← hb]; exact heap_alloc_new w _
 have hS0 : QtB W0 s d g (.slice Bs gn bs) (.slice Bl gg bl) := hE0.blk hS id
 have hs0 : W0.heap.size = b + 1 := by rw [← hW0, ← hb]; simp
 have hld := zF (P := Tryz.prog) (o := 1) (cs := g.cells (.slice Bs gn bs) (.slice Bl gg bl)) zA hS0 rfl (fun j u hu => by rw [Nat.add_comm]; exact hu)
 have hz : (W0.alloc (.cells zH.toArray 34)).heap[b + 1]? = some (.cells zH.toArray 34 (0, 0)) := by rw [← hs0]; exact heap_alloc_new W0 _
 have Hs0 := hJ hs0
 have HW0 := hJ hW0
 have HA0 := hJ hA
 have HX0 := hJ hE0
 have Hb := hJ hb
 have HS := hJ hS
 have HD := hJ hD
 have HU := hJ hU
 have Hg := hJ hg
 have Hv := hJ hv
 have Hll := hJ hll
 have Hgl := hJ hgl
 have Hsn := hJ hsn
 have Hgn := hJ hgn
 have H64 := hJ hr.i64
 have Hne := hJ hne
 clear hW0 hE0 hb hA hS0 hs0 hg hv hll hgl hsn hgn hS hD hU hne
 obtain ⟨W, hW⟩ : ∃ W, W0.alloc (.cells (g.cells (.slice Bs gn bs) (.slice Bl gg bl)).toArray 34) = W := ⟨_, rfl⟩
 have hE : Ext W0 W := by rw [← hW]; exact (Mod.refl _ W0).alloc _
 have hb1 : W.heap[b + 1]? = some (.cells (g.cells (.slice Bs gn bs) (.slice Bl gg bl)).toArray 34 (0, 0)) := by rw [← hW, ← Hs0.out]; exact heap_alloc_new W0 _
 have HW := hJ hW
 have HA := hJ (hE.blk HA0.out id)
 have HB := hJ hb1
 have HX := hJ (HX0.out.ext hE)
 have HSW : Hid (QtB W s d g (.slice Bs gn bs) (.slice Bl gg bl)) := hJ (HX.out.blk HS.out id)
 have HgW := hJ (Hg.out.mod HX.out (fun _ _ => id))
 have HvW := hJ (Hv.out.mod HX.out (fun _ _ => id))
 obtain ⟨R, hR⟩ : ∃ R, yS D g h = R := ⟨_, rfl⟩
 rw [hR]
 have HR := hJ hR
 have a2 : W.cell? ⟨b, 2, none⟩ = some (.int .i64 h.base) := zB (cs := (h.cells (.slice As sl cs) (.slice Al ll cl))) HA.out rfl
 have a3 : W.cell? ⟨b, 3, none⟩ = some (.int .i64 h.baseTerm) := zB (cs := (h.cells (.slice As sl cs) (.slice Al ll cl))) HA.out rfl
 have b2 : W.cell? ⟨b + 1, 2, none⟩ = some (.int .i64 g.base) := zB (cs := (g.cells (.slice Bs gn bs) (.slice Bl gg bl))) HB.out rfl
 have b3 : W.cell? ⟨b + 1, 3, none⟩ = some (.int .i64 g.baseTerm) := zB (cs := (g.cells (.slice Bs gn bs) (.slice Bl gg bl))) HB.out rfl
 have hlc : ∀ (w3 : World) (bb : Nat) (hq : zC) (sv lv : Value), w3.heap[bb]? = some (.cells (hq.cells sv lv).toArray 34 (0, 0)) → (Instr.loadAt 23 (.pointer (some ⟨bb, 4, none⟩))).run Tryz.prog w3 = .ok (.agg ([.int .i64 hq.conf.full, .int .i64 hq.conf.wit, .int .i64 hq.conf.learn, .int .i64 hq.conf.learnWit] : List Value).toArray) w3 := fun w3 bb hq sv lv h =>
  zF (P := Tryz.prog) (o := 4) (cs := [.int .i64 hq.conf.full, .int .i64 hq.conf.wit, .int .i64 hq.conf.learn, .int .i64 hq.conf.learnWit]) xR h rfl (fun j u hu => by rcases j with _ | _ | _ | _ | j; exact hu; exact hu; exact hu; exact hu; simp at hu)
 have hl1 := hlc W b h _ _ HA.out
 have hl2 := hlc W (b + 1) g _ _ HB.out
 clear hlc hE hb1 hW hz hR HA0 HX0
 go_enter Tryz.func96, Tryz.ntmps96
 go_upto_region 2 with (rw [HW0.out, Hb.out]; refine zG rfl 34 _ rfl (.pointer (some ⟨s, 1, none⟩)) _ rfl hld ?_)
 rw [Hs0.out]
 clear hld
 rw [show W0.alloc (.cells (g.cells (.slice Bs gn bs) (.slice Bl gg bl)).toArray 34) = W from HW.out]
 obtain ⟨tv, htv⟩ : ∃ tv, zcJ g h = tv := ⟨_, rfl⟩
 go_cut [47] (fun s47 wx => s47 = .bool (!tv) ∧ Ext W wx)
 case first =>
  rcases e1 : (h.base != g.base) with _ | _
  rotate_left
  ·
   have Htv : Hid (tv = false) := hJ (by rw [← htv]; unfold zcJ; rw [show (h.base == g.base) = false by simpa using e1]; rfl)
   clear htv
   go_wp2_with fail
   go_meet
   exact ⟨by rw [Htv.out]; rfl, Mod.refl _ W⟩
  rcases e2 : (h.baseTerm != g.baseTerm) with _ | _
  rotate_left
  ·
   have Htv : Hid (tv = false) := hJ (by rw [← htv]; unfold zcJ; rw [show (h.baseTerm == g.baseTerm) = false by simpa using e2]; simp)
   clear htv
   go_wp2_with fail
   go_meet
   exact ⟨by rw [Htv.out]; rfl, Mod.refl _ W⟩
  have Htv : Hid (tv = (xI h.conf g.conf && (h.snap == g.snap))) := hJ (by rw [← htv]; unfold zcJ; rw [show (h.base == g.base) = true by simpa using e1, show (h.baseTerm == g.baseTerm) = true by simpa using e2]; rfl)
  clear htv
  go_wp2_with (first | (refine xO (by kernel_rfl) 23 _ rfl (.pointer (some ⟨b, 4, none⟩)) _ rfl hl1 ?_) | (refine xO (by kernel_rfl) 23 _ rfl (.pointer (some ⟨b + 1, 4, none⟩)) _ rfl hl2 ?_))
  clear hl1 hl2 a2 a3 b2 b3
  refine (zi1 h.conf g.conf W).mono ?_
  rintro e w4 ⟨rfl, hE⟩
  have a8 : w4.cell? ⟨b, 8, none⟩ = some (.slice As sl cs) := zB (cs := (h.cells (.slice As sl cs) (.slice Al ll cl))) (hE.blk HA.out id) rfl
  have b8 : w4.cell? ⟨b + 1, 8, none⟩ = some (.slice Bs gn bs) := zB (cs := (g.cells (.slice Bs gn bs) (.slice Bl gg bl))) (hE.blk HB.out id) rfl
  rcases e3 : xI h.conf g.conf with _ | _
  · go_wp2_with fail
    go_meet
    exact ⟨by rw [Htv.out, e3]; rfl, hE⟩
  have HE := hJ hE
  clear hE
  go_wp2_with fail
  refine (zkE w4 U T _ _ h.snap g.snap (by have h := (HvW.out.mod HE.out (fun _ _ => id)).1; exact h) (by have h := (HgW.out.mod HE.out (fun _ _ => id)).1; exact h)).mono ?_
  rintro e w5 ⟨rfl, hE⟩
  have HE5 := hJ (HE.out.ext hE)
  clear hE
  go_wp2_with fail
  go_meet
  exact ⟨by rw [Htv.out, e3]; cases (h.snap == g.snap) <;> rfl, HE5.out⟩
 obtain ⟨rfl, hX⟩ := hcut
 have Htv := hJ htv
 have HAc := hJ (hX.blk HA.out id)
 have HBc := hJ (hX.blk HB.out id)
 have HXc := hJ (HX.out.ext hX)
 clear htv hX hl1 hl2 a2 a3 b2 b3
 rcases tv with _ | _
 ·
  have HRq : Hid (R = xG D h) := hJ (by rw [← HR.out]; unfold yS; rw [Htv.out, if_pos rfl])
  have hldb := zF (P := Tryz.prog) (o := 0) (cs := h.cells (.slice As sl cs) (.slice Al ll cl)) zA HAc.out rfl (fun j u hu => by rw [Nat.zero_add]; exact hu)
  rw [show (!false) = true from rfl]
  go_wp2_with (refine zG rfl 34 _ rfl (.pointer (some ⟨b, 0, none⟩)) _ rfl hldb ?_)
  clear hldb
  refine (zmE wc U s d g h _ _ _ _ fv D (HXc.out.blk HS.out id) (HD.out.ext HXc.out) (Hv.out.mod HXc.out (fun _ _ => id)) hr (by rw [Hll.out]; exact hl)).mono ?_
  rintro e w2 ⟨rfl, hM⟩
  have HM := hJ (QM.ofE HXc.out hM)
  rw [← HRq.out] at HM ⊢
  clear hM
  go_wp2
  go_ret
  exact ⟨rfl, HM.out⟩
 rw [show (!true) = false from rfl]
 obtain ⟨W1, hW1⟩ : ∃ W1, wc = W1 := ⟨_, rfl⟩
 rw [hW1] at HAc HBc HXc ⊢
 clear hW1
 have b0 : W1.cell? ⟨b, 0, none⟩ = some (.int .i64 h.term) := zB (cs := (h.cells (.slice As sl cs) (.slice Al ll cl))) HAc.out rfl
 have b1 : W1.cell? ⟨b, 1, none⟩ = some (.int .i64 h.vote) := zB (cs := (h.cells (.slice As sl cs) (.slice Al ll cl))) HAc.out rfl
 have s1 : W1.cell? ⟨b + 1, 0, none⟩ = some (.int .i64 g.term) := zB (cs := (g.cells (.slice Bs gn bs) (.slice Bl gg bl))) HBc.out rfl
 have s2 : W1.cell? ⟨b + 1, 1, none⟩ = some (.int .i64 g.vote) := zB (cs := (g.cells (.slice Bs gn bs) (.slice Bl gg bl))) HBc.out rfl
 go_upto_region 5 with fail
 obtain ⟨tw, htw⟩ : ∃ tv, (h.term != g.term || h.vote != g.vote) = tv := ⟨_, rfl⟩
 go_cut [62] (fun s62 wx => s62 = .bool tw ∧ Ext W1 wx)
 case first =>
  rcases e1 : (h.term != g.term) with _ | _
  ·
   rcases e2 : (h.vote != g.vote) with _ | _
   all_goals
    rw [e1, e2] at htw
    have Htw := hJ htw
    clear htw
    go_wp2_with fail
    go_meet
    exact ⟨by rw [← Htw.out]; rfl, Mod.refl _ W1⟩
  rw [e1] at htw
  have Htw := hJ htw
  clear htw
  go_wp2_with fail
  go_meet
  exact ⟨by rw [← Htw.out]; rfl, Mod.refl _ W1⟩
 obtain ⟨rfl, hX1⟩ := hcut
 have Htw := hJ htw
 have d0 := hX1.cell b0 id
 have d1 := hX1.cell b1 id
 have HX1 := hJ hX1
 clear htw hX1 b0 b1 s1 s2
 go_upto_if 62 with fail
 go_cut [6, 7, 8, 63] (fun s6 _ _ _ wx => OutB W1 ((zbW g h).flatMap zR) s6 wx)
 case first =>
  rcases tw with _ | _
  ·
   have Hq : Hid ((zbW g h).flatMap zR = []) := hJ (by
    have h1 := Htw.out
    simp only [Bool.or_eq_false_iff, bne_eq_false_iff_eq] at h1
    unfold zbW; rw [if_pos h1]; rfl)
   go_wp2_with fail
   go_meet
   rw [Hq.out]
   exact ⟨none, 0, 0, rfl, rfl, ⟨World.ownsRow_nil _ _ _ _, by simp [Value.ownBlock]⟩, HX1.out⟩
  have Hq : Hid ((zbW g h).flatMap zR = zR (2 :: zQ [h.term, h.vote])) := hJ (by
   have h1 := Htw.out
   simp only [Bool.or_eq_true, bne_iff_ne] at h1
   unfold zbW recV
   rw [if_neg (fun e => by rcases h1 with h1 | h1; exact h1 e.1; exact h1 e.2)]
   simp)
  obtain ⟨wl, hwl⟩ : ∃ wl, wc.alloc (.cells #[.int .i64 h.term, .int .i64 h.vote] 3) = wl := ⟨_, rfl⟩
  have hsl := zbU wc [h.term, h.vote] 3 #[.int .i64 h.term, .int .i64 h.vote] rfl 2 rfl (by omega)
  have hEa : Ext wc wl := by rw [← hwl]; exact (Mod.refl _ wc).alloc _
  rw [hwl] at hsl
  have Hwl := hJ hwl
  have Hsl := hJ hsl
  have HEa := hJ (HX1.out.ext hEa)
  clear hsl hEa hwl
  go_wp2_with fail
  rw [Hwl.out]
  refine (zf5 _ _ _ [h.term, h.vote] Hsl.out (by simp; exact ⟨H64.out.1, H64.out.2.1⟩) (by simp)).mono ?_
  rintro e w2 ⟨v2, rfl, hN2, hE2⟩
  obtain ⟨A2, c2, rfl⟩ := zN hN2.1
  obtain ⟨I, hI⟩ : ∃ I, zQ [h.term, h.vote] = I := ⟨_, rfl⟩
  have hIl := yM [h.term, h.vote]
  have hN2' : yO wl w2 (.slice A2 (([h.term, h.vote] : List Int).flatMap zS).length c2) I := by rw [← hI]; exact hN2
  rw [show ([h.term, h.vote] : List Int).flatMap zS = I from hI] at hN2' ⊢
  rw [hI] at hIl Hq
  obtain ⟨m2, hm2⟩ : ∃ n, I.length = n := ⟨_, rfl⟩
  rw [hm2] at hN2' hIl ⊢
  simp only [List.length_cons, List.length_nil] at hIl
  have Hb2 := hJ (yO.sl (w := wl) hN2')
  have HE2 := hJ (HEa.out.ext hE2)
  have Hm2 := hJ hm2
  clear hN2 hN2' hE2 hI hm2
  go_wp2_with fail
  refine (zeA w2 _ A2 m2 c2 2 2 I rfl Hb2.out Hm2.out (by omega)).mono ?_
  rintro e w3 ⟨v3, rfl, hN3, hE3⟩
  have hrp : zeZ 2 I = (zR (2 :: I), 0) := by unfold zeZ; rw [if_neg (by rw [Hm2.out]; omega)]
  rw [hrp] at hN3 ⊢
  obtain ⟨A3, c3, rfl⟩ := zN hN3.1
  have hfl : (zR (2 :: I)).length ≤ 100 := by rw [yL, List.length_cons, Hm2.out]; omega
  have Hb3 := hJ (yO.sl (w := w2) hN3)
  have HE3 := hJ (HE2.out.ext hE3)
  have HN0 : Hid (yO W1 w3 (.slice none 0 0) []) := hJ ⟨World.ownsRow_nil _ _ _ _, by simp [Value.ownBlock]⟩
  obtain ⟨F, hF⟩ : ∃ F, zR (2 :: I) = F := ⟨_, rfl⟩
  rw [hF] at Hb3 hfl Hq ⊢
  obtain ⟨fn, hfn⟩ : ∃ fn, F.length = fn := ⟨_, rfl⟩
  simp only [hfn] at Hb3 ⊢
  have Hfl := hJ hfl
  clear hN3 hE3 hrp hfl hF hfn
  go_wp2_with (at_builtin; refine zW rfl _ _ rfl (.slice none 0 0) [] W1 rfl HN0.out HE3.out _ _ F rfl Hb3.out (by simp only [List.length_nil]; have := Hfl.out; omega) ?_)
  rintro A4 n4 c4 w4 hn4 hN4 hE4 _ _
  have HN4 := hJ hN4
  have HE4 := hJ hE4
  have Hn4 := hJ hn4
  clear hN4 hE4 hn4
  go_wp2_with fail
  go_meet
  rw [Hq.out]
  exact ⟨A4, n4, c4, rfl, Hn4.out.symm, by simpa using HN4.out, HE4.out⟩
 clear d0 d1 Htw HX1
 obtain ⟨A6, n6, c6, rfl, hn6, hN6, hX6⟩ := hcut
 have HN6 := hJ hN6
 have HX6 := hJ hX6
 have Hn6 := hJ hn6
 clear hN6 hX6 hn6
 go_upto_block 0 with fail
 go_cut [9] from 76 to 102 (fun s9 wx => ∃ k : Nat, s9 = .int .i64 (k : Int) ∧ zj1 h.log g.log = k ∧ Ext wc wx)
 case first =>
  go_wp2_with fail
  go_loopw [9] (fun kv wr => ∃ k : Nat, k ≤ ll ∧ k ≤ gg ∧ kv = .int .i64 k ∧ zj1 h.log g.log = k + zj1 (h.log.drop k) (g.log.drop k) ∧ Ext wc wr) (fun kv _ => ll - (intOf kv).toNat)
  case atStart => exact ⟨0, by omega, by omega, rfl, by simp, Mod.refl _ _⟩
  obtain ⟨k, hkl, hkg, rfl, hcom, hXr⟩ := hrel
  have HXr := hJ hXr
  have hXW : Ext W1 wr := HX6.out.ext hXr
  have HAr := hJ (hXW.blk HAc.out id)
  have HBr := hJ (hXW.blk HBc.out id)
  have r9 : wr.cell? ⟨b, 9, none⟩ = some (.slice Al ll cl) := zB (cs := (h.cells (.slice As sl cs) (.slice Al ll cl))) HAr.out rfl
  have r10 : wr.cell? ⟨b + 1, 9, none⟩ = some (.slice Bl gg bl) := zB (cs := (g.cells (.slice Bs gn bs) (.slice Bl gg bl))) HBr.out rfl
  have hbl : b < wr.heap.size := (Array.getElem?_eq_some_iff.1 HAr.out).1
  have hsl : b + 1 < wr.heap.size := (Array.getElem?_eq_some_iff.1 HBr.out).1
  have HXW := hJ (HXc.out.ext hXW)
  have Hcom := hJ hcom
  clear hXr hXW hcom
  by_cases hk1 : k < ll
  rotate_left
  ·
   have d5 : decide ((k : Int) < (ll : Int)) = false := decide_eq_false (by omega)
   have hq : zj1 h.log g.log = k := by rw [Hcom.out, List.drop_of_length_le (by rw [Hll.out]; omega)]; rfl
   have Hq := hJ hq
   clear hq
   go_wp2_with fail
   refine wp_region_held_drew (S := fun W' => Ext wr W') (by kernel_rfl) (Mod.refl _ wr).drew (fun hS => ?_)
   iterate 25
    first | refine tkJ 0 (some 76) rfl rfl ?_ hS ?_ ?_ | refine tkJ 1 (some 77) rfl rfl ?_ hS ?_ ?_ | refine tkJ 2 (some 78) rfl rfl ?_ hS ?_ ?_ | refine tkJ 3 (some 79) rfl rfl ?_ hS ?_ ?_ | refine tkJ 4 (some 80) rfl rfl ?_ hS ?_ ?_ | refine tkJ 5 (some 81) rfl rfl ?_ hS ?_ ?_ | refine tuI 6 (some 82) rfl rfl hS ?_ | refine tuI 7 (some 83) rfl rfl hS ?_ | refine tuI 8 (some 84) rfl rfl hS ?_ | refine tuI 9 (some 85) rfl rfl hS ?_ | refine tuI 10 (some 86) rfl rfl hS ?_ | refine tkJ 11 (some 87) rfl rfl ?_ hS ?_ ?_ | refine tkJ 12 (some 88) rfl rfl ?_ hS ?_ ?_ | refine tuI 13 (some 89) rfl rfl hS ?_ | refine tuI 14 (some 90) rfl rfl hS ?_ | refine tuI 15 (some 91) rfl rfl hS ?_ | refine tuI 16 (some 92) rfl rfl hS ?_ | refine tuI 17 (some 93) rfl rfl hS ?_ | refine tuI 18 (some 94) rfl rfl hS ?_ | refine tuI 19 (some 95) rfl rfl hS ?_ | refine tuI 20 (some 96) rfl rfl hS ?_ | refine tuI 21 (some 97) rfl rfl hS ?_ | refine tuI 22 (some 98) rfl rfl hS ?_ | refine tuI 23 (some 99) rfl rfl hS ?_ | refine tkJ 24 (some 100) rfl rfl ?_ hS ?_ ?_
    try
     rotate_left
     · rintro W' _ _; go_simp; try rfl
    try simp only [pL]
   refine wpAnyH_done (by kernel_rfl) ?_ _
   go_wp2_with fail
   go_meet
   exact ⟨k, rfl, Hq.out, HXr.out.ext hS⟩
  by_cases hk2 : k < gg
  rotate_left
  ·
   have d5 : decide ((k : Int) < (ll : Int)) = true := decide_eq_true (by omega)
   have d6 : decide ((k : Int) < (gg : Int)) = false := decide_eq_false (by omega)
   have hq : zj1 h.log g.log = k := by rw [Hcom.out, List.drop_of_length_le (l := g.log) (by rw [Hgl.out]; omega), comE_nil]; rfl
   have Hq := hJ hq
   clear hq
   go_wp2_with fail
   refine wp_region_held_drew (S := fun W' => Ext wr W') (by kernel_rfl) (Mod.refl _ wr).drew (fun hS => ?_)
   iterate 25
    first | refine tkJ 0 (some 76) rfl rfl ?_ hS ?_ ?_ | refine tkJ 1 (some 77) rfl rfl ?_ hS ?_ ?_ | refine tkJ 2 (some 78) rfl rfl ?_ hS ?_ ?_ | refine tkJ 3 (some 79) rfl rfl ?_ hS ?_ ?_ | refine tkJ 4 (some 80) rfl rfl ?_ hS ?_ ?_ | refine tkJ 5 (some 81) rfl rfl ?_ hS ?_ ?_ | refine tkJ 6 (some 82) rfl rfl ?_ hS ?_ ?_ | refine tkJ 7 (some 83) rfl rfl ?_ hS ?_ ?_ | refine tkJ 8 (some 84) rfl rfl ?_ hS ?_ ?_ | refine tkJ 9 (some 85) rfl rfl ?_ hS ?_ ?_ | refine tkJ 10 (some 86) rfl rfl ?_ hS ?_ ?_ | refine tkJ 11 (some 87) rfl rfl ?_ hS ?_ ?_ | refine tkJ 12 (some 88) rfl rfl ?_ hS ?_ ?_ | refine tuI 13 (some 89) rfl rfl hS ?_ | refine tuI 14 (some 90) rfl rfl hS ?_ | refine tuI 15 (some 91) rfl rfl hS ?_ | refine tuI 16 (some 92) rfl rfl hS ?_ | refine tuI 17 (some 93) rfl rfl hS ?_ | refine tuI 18 (some 94) rfl rfl hS ?_ | refine tuI 19 (some 95) rfl rfl hS ?_ | refine tuI 20 (some 96) rfl rfl hS ?_ | refine tuI 21 (some 97) rfl rfl hS ?_ | refine tuI 22 (some 98) rfl rfl hS ?_ | refine tuI 23 (some 99) rfl rfl hS ?_ | refine tkJ 24 (some 100) rfl rfl ?_ hS ?_ ?_
    try
     rotate_left
     · rintro W' _ _; go_simp; try rfl
    try simp only [pL]
   refine wpAnyH_done (by kernel_rfl) ?_ _
   go_wp2_with fail
   go_meet
   exact ⟨k, rfl, Hq.out, HXr.out.ext hS⟩
  have d5 : decide ((k : Int) < (ll : Int)) = true := decide_eq_true (by omega)
  have d6 : decide ((k : Int) < (gg : Int)) = true := decide_eq_true (by omega)
  obtain ⟨g1, o1, x, rfl, _, hx, hxok, hcx⟩ := (Hv.out.2.mod HXW.out (fun _ _ => id)).at hk1
  obtain ⟨g2, o2, y, rfl, _, hy, hyok, hcy⟩ := (Hg.out.2.mod HXW.out (fun _ _ => id)).at hk2
  have hcd := zqI hx hy
  have k0 : (0 : Int) ≤ (k : Int) := by omega
  have k1 : (k : Int) < (ll : Int) := by omega
  have k2 : (k : Int) < (gg : Int) := by omega
  have Hcd := hJ hcd
  clear hcd hx hy hxok hyok
  rcases hsm : xZ x y with _ | _
  ·
   have hq : zj1 h.log g.log = k := by rw [Hcom.out, Hcd.out, hsm, if_neg (by simp)]; rfl
   have Hq := hJ hq
   clear hq
   go_wp2_with fail
   refine wp_region_held_drew (S := fun W' => Ext wr W') (by kernel_rfl) (Mod.refl _ wr).drew (fun hS => ?_)
   iterate 17
    (first | refine tkJ 0 (some 76) rfl rfl ?_ hS ?_ ?_ | refine tkJ 1 (some 77) rfl rfl ?_ hS ?_ ?_ | refine tkJ 2 (some 78) rfl rfl ?_ hS ?_ ?_ | refine tkJ 3 (some 79) rfl rfl ?_ hS ?_ ?_ | refine tkJ 4 (some 80) rfl rfl ?_ hS ?_ ?_ | refine tkJ 5 (some 81) rfl rfl ?_ hS ?_ ?_ | refine tkJ 6 (some 82) rfl rfl ?_ hS ?_ ?_ | refine tkJ 7 (some 83) rfl rfl ?_ hS ?_ ?_ | refine tkJ 8 (some 84) rfl rfl ?_ hS ?_ ?_ | refine tkJ 9 (some 85) rfl rfl ?_ hS ?_ ?_ | refine tkJ 10 (some 86) rfl rfl ?_ hS ?_ ?_ | refine tkJ 11 (some 87) rfl rfl ?_ hS ?_ ?_ | refine tkJ 12 (some 88) rfl rfl ?_ hS ?_ ?_ | refine tkJ 13 (some 89) rfl rfl ?_ hS ?_ ?_ | refine tkJ 14 (some 90) rfl rfl ?_ hS ?_ ?_ | refine tkJ 15 (some 91) rfl rfl ?_ hS ?_ ?_ | refine tkJ 16 (some 92) rfl rfl ?_ hS ?_ ?_); rotate_left; · rintro W' _ _; go_simp; try rfl
    try simp only [pL]
   refine tkH 17 (some 93) rfl rfl (.agg x.cells.toArray) hS ?_ ?_
   · rintro W' hW'
     obtain ⟨hbc, hbf⟩ := zc3 hW'
     exact yD _ _ rfl (.pointer (some ⟨g1, o1 + k * 16, none⟩)) _ rfl (jE zM rfl (fun j u hu => hW'.cell (hcx j u hu) id))
   try simp only [pL]
   iterate 4
    (first | refine tkJ 18 (some 94) rfl rfl ?_ hS ?_ ?_ | refine tkJ 19 (some 95) rfl rfl ?_ hS ?_ ?_ | refine tkJ 20 (some 96) rfl rfl ?_ hS ?_ ?_ | refine tkJ 21 (some 97) rfl rfl ?_ hS ?_ ?_); rotate_left; · rintro W' _ _; go_simp; try rfl
    try simp only [pL]
   refine tkH 22 (some 98) rfl rfl (.agg y.cells.toArray) hS ?_ ?_
   · rintro W' hW'
     obtain ⟨hbc, hbf⟩ := zc3 hW'
     exact yD _ _ rfl (.pointer (some ⟨g2, o2 + k * 16, none⟩)) _ rfl (jE zM rfl (fun j u hu => hW'.cell (hcy j u hu) id))
   try simp only [pL]
   refine xJ 23 rfl (fun K hK => ?_)
   go_simp
   go_wp2_with fail
   refine (zkF x y wr.drew).mono ?_
   rintro e w7 ⟨rfl, hE7⟩
   rw [hsm]
   have hX := (hS.ext hE7)
   go_simp
   refine hK.out _ _ hX (fun hS => ?_)
   clear hK K hX
   try simp only [pL]
   refine tkE 24 (some 100) rfl rfl ?_ hS ?_ ?_; rotate_left; · rintro W' _ _; go_simp; try rfl
   try simp only [pL]
   refine wpAnyH_done (by kernel_rfl) ?_ _
   go_wp2_with fail
   go_meet
   exact ⟨k, rfl, Hq.out, HXr.out.ext hS⟩
  have hq : zj1 h.log g.log = (k + 1) + zj1 (h.log.drop (k + 1)) (g.log.drop (k + 1)) := by rw [Hcom.out, Hcd.out, hsm, if_pos rfl]; omega
  have Hq := hJ hq
  clear hq
  have iw : IntKind.i64.wrap ((k : Int) + 1) = ((k + 1 : Nat) : Int) := by rw [IntWalk.i64_in _ (by omega)]; omega
  go_wp2_with fail
  refine wp_region_held_drew (S := fun W' => Ext wr W') (by kernel_rfl) (Mod.refl _ wr).drew (fun hS => ?_)
  iterate 17
   (first | refine tkJ 0 (some 76) rfl rfl ?_ hS ?_ ?_ | refine tkJ 1 (some 77) rfl rfl ?_ hS ?_ ?_ | refine tkJ 2 (some 78) rfl rfl ?_ hS ?_ ?_ | refine tkJ 3 (some 79) rfl rfl ?_ hS ?_ ?_ | refine tkJ 4 (some 80) rfl rfl ?_ hS ?_ ?_ | refine tkJ 5 (some 81) rfl rfl ?_ hS ?_ ?_ | refine tkJ 6 (some 82) rfl rfl ?_ hS ?_ ?_ | refine tkJ 7 (some 83) rfl rfl ?_ hS ?_ ?_ | refine tkJ 8 (some 84) rfl rfl ?_ hS ?_ ?_ | refine tkJ 9 (some 85) rfl rfl ?_ hS ?_ ?_ | refine tkJ 10 (some 86) rfl rfl ?_ hS ?_ ?_ | refine tkJ 11 (some 87) rfl rfl ?_ hS ?_ ?_ | refine tkJ 12 (some 88) rfl rfl ?_ hS ?_ ?_ | refine tkJ 13 (some 89) rfl rfl ?_ hS ?_ ?_ | refine tkJ 14 (some 90) rfl rfl ?_ hS ?_ ?_ | refine tkJ 15 (some 91) rfl rfl ?_ hS ?_ ?_ | refine tkJ 16 (some 92) rfl rfl ?_ hS ?_ ?_); rotate_left; · rintro W' _ _; go_simp; try rfl
   try simp only [pL]
  refine tkH 17 (some 93) rfl rfl (.agg x.cells.toArray) hS ?_ ?_
  · rintro W' hW'
    obtain ⟨hbc, hbf⟩ := zc3 hW'
    exact yD _ _ rfl (.pointer (some ⟨g1, o1 + k * 16, none⟩)) _ rfl (jE zM rfl (fun j u hu => hW'.cell (hcx j u hu) id))
  try simp only [pL]
  iterate 4
   (first | refine tkJ 18 (some 94) rfl rfl ?_ hS ?_ ?_ | refine tkJ 19 (some 95) rfl rfl ?_ hS ?_ ?_ | refine tkJ 20 (some 96) rfl rfl ?_ hS ?_ ?_ | refine tkJ 21 (some 97) rfl rfl ?_ hS ?_ ?_); rotate_left; · rintro W' _ _; go_simp; try rfl
   try simp only [pL]
  refine tkH 22 (some 98) rfl rfl (.agg y.cells.toArray) hS ?_ ?_
  · rintro W' hW'
    obtain ⟨hbc, hbf⟩ := zc3 hW'
    exact yD _ _ rfl (.pointer (some ⟨g2, o2 + k * 16, none⟩)) _ rfl (jE zM rfl (fun j u hu => hW'.cell (hcy j u hu) id))
  try simp only [pL]
  refine xJ 23 rfl (fun K hK => ?_)
  go_simp
  go_wp2_with fail
  refine (zkF x y wr.drew).mono ?_
  rintro e w7 ⟨rfl, hE7⟩
  rw [hsm]
  have hX := (hS.ext hE7)
  go_simp
  refine hK.out _ _ hX (fun hS => ?_)
  clear hK K hX
  try simp only [pL]
  refine tkE 24 (some 100) rfl rfl ?_ hS ?_ ?_; rotate_left; · rintro W' _ _; go_simp; try rfl
  try simp only [pL]
  refine wpAnyH_done (by kernel_rfl) ?_ _
  go_wp2_with fail
  go_roundw
  case rel => exact ⟨k + 1, by omega, by omega, by go_num, Hq.out, HXr.out.ext hS⟩
  case measure => simp [intOf]; omega
 obtain ⟨k, rfl, hke, hX7⟩ := hcut
 have hk := hke
 rw [comE_eqN (fun x hx => ⟨jH hr.r x hx, Hv.out.2.2 x hx⟩) (fun x hx => ⟨jH hgr.r x hx, Hg.out.2.2 x hx⟩)] at hk
 have hcl := zeP h.log g.log
 rw [hk, Hll.out, Hgl.out] at hcl
 obtain ⟨hkl, hkg⟩ := hcl
 have HX7 := hJ (HX6.out.ext hX7)
 have HN7 := hJ (HN6.out.ext hX7)
 have Hk := hJ hk
 clear hk hke hX7 HX6 HN6
 have HA7 := hJ (HX7.out.blk HAc.out id)
 have HB7 := hJ (HX7.out.blk HBc.out id)
 have r10 : wc.cell? ⟨b + 1, 9, none⟩ = some (.slice Bl gg bl) := zB (cs := (g.cells (.slice Bs gn bs) (.slice Bl gg bl))) HB7.out rfl
 have r2 : wc.cell? ⟨b, 2, none⟩ = some (.int .i64 h.base) := zB (cs := (h.cells (.slice As sl cs) (.slice Al ll cl))) HA7.out rfl
 obtain ⟨X, hX⟩ : ∃ X, (zbW g h).flatMap zR = X := ⟨_, rfl⟩
 have hXl : X.length ≤ 100 := by
  rw [← hX]
  unfold zbW
  split
  · simp
  rw [List.flatMap_cons, List.flatMap_nil, List.append_nil, yL]
  unfold recV
  have := yM [h.term, h.vote]
  simp only [List.length_cons, List.length_nil] at this ⊢
  omega
 rw [hX] at HN7 Hn6
 have HX0 := hJ hX
 have HXl := hJ hXl
 clear hX hXl
 have hb0 := hr.b0
 have hb1 := hr.b1
 go_upto_if 107 with fail
 go_cut [6, 10, 11, 108] (fun s6 _ _ _ wx => OutB W1 (X ++ (zbX g h).flatMap zR) s6 wx)
 case first =>
  by_cases hkg2 : k < gg
  rotate_left
  ·
   have Hq : Hid (X ++ (zbX g h).flatMap zR = X) := hJ (by unfold zbX; rw [Hk.out, Hgl.out, if_neg hkg2]; simp)
   have d1 : decide ((k : Int) < (gg : Int)) = false := decide_eq_false (by omega)
   go_wp2_with fail
   go_meet
   rw [Hq.out]
   exact ⟨A6, n6, c6, rfl, Hn6.out, HN7.out, HX7.out⟩
  obtain ⟨nn, hnn⟩ : ∃ nn, h.base + (k : Int) + 1 = nn := ⟨_, rfl⟩
  have Hq : Hid (X ++ (zbX g h).flatMap zR = X ++ zR (3 :: zQ [nn])) := hJ (by unfold zbX recC; rw [Hk.out, Hgl.out, if_pos hkg2, hnn]; simp)
  have d1 : decide ((k : Int) < (gg : Int)) = true := decide_eq_true (by omega)
  have iw1 : IntKind.i64.wrap (h.base + (k : Int)) = h.base + (k : Int) := IntWalk.i64_in _ (by omega)
  have iw2 : IntKind.i64.wrap (h.base + (k : Int) + 1) = nn := by rw [IntWalk.i64_in _ (by omega)]; exact hnn
  have h64 : I64 nn := by unfold I64; omega
  clear hnn
  go_wp2_with fail
  refine (zi9 _ nn h64).mono ?_
  rintro e w2 ⟨v2, rfl, hN2, hE2⟩
  obtain ⟨A2, c2, rfl⟩ := zN hN2.1
  obtain ⟨I, hI⟩ : ∃ I, zS nn = I := ⟨_, rfl⟩
  have hIl := zV nn
  have hIe : zQ [nn] = I := by rw [← hI]; simp [zQ]
  rw [hIe] at Hq
  rw [hI] at hN2 hIl ⊢
  obtain ⟨m2, hm2⟩ : ∃ n, I.length = n := ⟨_, rfl⟩
  rw [hm2] at hN2 hIl ⊢
  have Hb2 := hJ (yO.sl (w := wc) hN2)
  have HE2 := hJ (HX7.out.ext hE2)
  have HNa := hJ (HN7.out.ext hE2)
  have Hm2 := hJ hm2
  clear hN2 hE2 hI hm2 hIe
  go_wp2_with fail
  refine (zeA w2 _ A2 m2 c2 3 3 I rfl Hb2.out Hm2.out (by omega)).mono ?_
  rintro e w3 ⟨v3, rfl, hN3, hE3⟩
  have hrp : zeZ 3 I = (zR (3 :: I), 0) := by unfold zeZ; rw [if_neg (by rw [Hm2.out]; omega)]
  rw [hrp] at hN3 ⊢
  obtain ⟨A3, c3, rfl⟩ := zN hN3.1
  have hfl : (zR (3 :: I)).length ≤ 100 := by rw [yL, List.length_cons, Hm2.out]; omega
  have Hb3 := hJ (yO.sl (w := w2) hN3)
  have HE3 := hJ (HE2.out.ext hE3)
  have HN3 := hJ (HNa.out.ext hE3)
  obtain ⟨F, hF⟩ : ∃ F, zR (3 :: I) = F := ⟨_, rfl⟩
  rw [hF] at Hb3 hfl Hq ⊢
  obtain ⟨fn, hfn⟩ : ∃ fn, F.length = fn := ⟨_, rfl⟩
  simp only [hfn] at Hb3 ⊢
  have Hfl := hJ hfl
  clear hN3 hE3 hrp hfl hF hfn
  go_wp2_with (at_builtin; refine zW rfl _ _ rfl (.slice A6 n6 c6) X W1 rfl HN3.out HE3.out _ _ F rfl Hb3.out (by have := Hfl.out; have := HXl.out; omega) ?_)
  rintro A4 n4 c4 w4 hn4 hN4 hE4 _ _
  have HN4 := hJ hN4
  have HE4 := hJ hE4
  have Hn4 := hJ hn4
  clear hN4 hE4 hn4
  go_wp2_with fail
  go_meet
  rw [Hq.out]
  exact ⟨A4, n4, c4, rfl, by rw [List.length_append]; exact Hn4.out.symm, HN4.out, HE4.out⟩
 obtain ⟨A8, n8, c8, rfl, hn8, hN8, hX8⟩ := hcut
 obtain ⟨Y, hY⟩ : ∃ Y, X ++ (zbX g h).flatMap zR = Y := ⟨_, rfl⟩
 have hYl : Y.length ≤ 300 := by
  rw [← hY, List.length_append]
  have := HXl.out
  unfold zbX
  split
  ·
   rw [List.flatMap_cons, List.flatMap_nil, List.append_nil, yL]
   unfold recC
   have := yM [h.base + ((zaN h.log g.log : Nat) : Int) + 1]
   simp only [List.length_cons, List.length_nil] at this ⊢
   omega
  simp; omega
 rw [hY] at hN8 hn8
 have HY := hJ hY
 have HYl := hJ hYl
 have HN8 := hJ hN8
 have HX8 := hJ hX8
 have Hn8 := hJ hn8
 clear hY hYl hN8 hX8 hn8 HN7 HX7 HA7 HB7 r10 r2
 have hrx : ∀ x ∈ h.log, xB x = true := fun x hx => jH hr.r x hx
 have Hrx := hJ hrx
 clear hrx
 go_upto_block 2 with fail
 go_cut [6, 9, 12, 13, 14] from 121 to 150 (fun s6 _ _ _ _ wx => OutB W1 (zaL g h) s6 wx)
 case first =>
  go_wp2_with fail
  go_loopw [6, 9] (fun ov iv wr => ∃ (i : Nat) (A : Option Addr) (n c : Nat), i ≤ ll - k ∧ iv = .int .i64 ((k + i : Nat) : Int) ∧ ov = .slice A n c ∧ (Y ++ (((h.log.drop k).take i).map ze2).flatMap zR).length = n ∧ yO W1 wr (.slice A n c) (Y ++ (((h.log.drop k).take i).map ze2).flatMap zR) ∧ Ext W1 wr) (fun _ iv _ => ll - (intOf iv).toNat)
  case atStart => exact ⟨0, A8, n8, c8, by omega, rfl, rfl, by simpa using Hn8.out, by simpa using HN8.out, HX8.out⟩
  obtain ⟨i, A, n, c, hin, rfl, rfl, hZn, hZ, hXr⟩ := hrel
  obtain ⟨Z, hZe⟩ : ∃ Z, Y ++ (((h.log.drop k).take i).map ze2).flatMap zR = Z := ⟨_, rfl⟩
  rw [hZe] at hZn hZ
  have hdl : (h.log.drop k).length = ll - k := by rw [List.length_drop, Hll.out]
  have hZl : Z.length ≤ 300 + 12700 * 400 := by
   rw [← hZe, List.length_append]
   have h1 := zeB ((h.log.drop k).take i) (fun x hx => ⟨Hrx.out x (List.mem_of_mem_drop (List.mem_of_mem_take hx)), Hv.out.2.2 x (List.mem_of_mem_drop (List.mem_of_mem_take hx))⟩)
   have h2 := HYl.out
   have h3 : ((h.log.drop k).take i).length ≤ 12700 := by rw [List.length_take, hdl]; omega
   have h4 : ((h.log.drop k).take i).length * 400 ≤ 12700 * 400 := Nat.mul_le_mul_right _ h3
   omega
  have HZ := hJ hZ
  have HZn := hJ hZn
  have HZe := hJ hZe
  have HZl := hJ hZl
  have HXr := hJ hXr
  have Hdl := hJ hdl
  have HAr := hJ (hXr.blk HAc.out id)
  have r9 : wr.cell? ⟨b, 9, none⟩ = some (.slice Al ll cl) := zB (cs := (h.cells (.slice As sl cs) (.slice Al ll cl))) HAr.out rfl
  clear hZn hZ hZe hZl hXr hdl
  obtain ⟨q, hq⟩ : ∃ q, k + i = q := ⟨_, rfl⟩
  rw [hq]
  by_cases hi : q < ll
  rotate_left
  ·
   have hd : decide ((q : Int) < (ll : Int)) = false := decide_eq_false (by omega)
   have hQ : zaL g h = Z := by
    rw [← HZe.out, List.take_of_length_le (by rw [Hdl.out]; omega)]
    unfold zaL zc5
    rw [List.flatMap_append, List.flatMap_append, HX0.out, HY.out, Hk.out]
   have HQ := hJ hQ
   clear hQ hq
   go_wp2_with fail
   go_meet
   exact ⟨A, n, c, rfl, by rw [HQ.out]; exact HZn.out, by rw [HQ.out]; exact HZ.out, HXr.out⟩
  obtain ⟨g1, o1, x, rfl, _, hx, hxok, hcx⟩ := (Hv.out.2.mod (HXc.out.ext HXr.out) (fun _ _ => id)).at hi
  have hrx := Hrx.out x (List.mem_of_getElem? hx)
  have hld := jE (P := Tryz.prog) (o := o1 + q * 16) (cs := x.cells) zM rfl hcx
  have hxf := jB hrx hxok
  have hel : (xT x).length ≤ 300 := hxf.2
  have hep : zc6 x = (xT x, 0) := by unfold zc6 za0; rw [if_pos hxf.1.2.1, if_neg (by omega)]
  have hsm : x.small := ⟨by have := hxf.1.2.2.1; omega, by have := hxf.1.2.2.2.1; omega, by have := hxf.1.2.2.2.2; omega⟩
  have hst : Y ++ (((h.log.drop k).take (i + 1)).map ze2).flatMap zR = Z ++ zR (4 :: xT x) := by
   rw [← HZe.out]
   have hx2 : (h.log.drop k)[i]? = some x := by rw [List.getElem?_drop, hq]; exact hx
   obtain ⟨h1, h2⟩ := List.getElem?_eq_some_iff.1 hx2
   rw [List.take_succ_eq_append_getElem h1, h2, List.map_append, List.flatMap_append]
   simp [ze2]
  have i0 : (0 : Int) ≤ (q : Int) := by omega
  have i1 : (q : Int) < (ll : Int) := by omega
  have Hep := hJ hep
  have Hel := hJ hel
  have Hst := hJ hst
  have Hsm := hJ hsm
  have Hxok := hJ hxok
  clear hx hcx hrx hep hel hst HZe hxf hsm hxok
  go_wp2_with (refine zG rfl 56 _ rfl (.pointer (some ⟨g1, o1 + q * 16, none⟩)) _ rfl hld ?_)
  clear hld r9
  refine (p_Entry x Hxok.out Hsm.out wr).mono ?_
  rintro e w3 ⟨v3, rfl, hN3, hE3⟩
  rw [Hep.out] at hN3 ⊢
  obtain ⟨A3, c3, rfl⟩ := zN hN3.1
  have hb3 : Byt w3 (zZ wr.heap.size) (.slice A3 (xT x).length c3) (xT x) := yO.sl (w := wr) hN3
  obtain ⟨en, hen⟩ : ∃ en, (xT x).length = en := ⟨_, rfl⟩
  simp only [hen] at hb3 ⊢
  have Hb3 := hJ hb3
  have Hen2 := hJ hen
  have HX3 := hJ (HXr.out.ext hE3)
  have HZ3 := hJ (HZ.out.ext hE3)
  clear hN3 hE3 hb3 hen
  have hen3 : en ≤ 300 := by rw [← Hen2.out]; exact Hel.out
  go_wp2_with fail
  refine (zeA w3 _ A3 en c3 4 4 (xT x) rfl Hb3.out Hen2.out (by omega)).mono ?_
  rintro e w4 ⟨v4, rfl, hN4, hE4⟩
  have hrp : zeZ 4 (xT x) = (zR (4 :: xT x), 0) := by unfold zeZ; rw [if_neg (by rw [Hen2.out]; omega)]
  rw [hrp] at hN4 ⊢
  obtain ⟨A4, c4, rfl⟩ := zN hN4.1
  have hb4 : Byt w4 (zZ w3.heap.size) (.slice A4 _ c4) (zR (4 :: xT x)) := yO.sl (w := w3) hN4
  have hfl : (zR (4 :: xT x)).length ≤ 400 := by rw [yL, List.length_cons, Hen2.out]; omega
  have Hb4 := hJ hb4
  have HX4 := hJ (HX3.out.ext hE4)
  have HZ4 := hJ (HZ3.out.ext hE4)
  obtain ⟨F, hF⟩ : ∃ F, zR (4 :: xT x) = F := ⟨_, rfl⟩
  rw [hF] at Hb4 hfl Hst ⊢
  obtain ⟨fn, hfn⟩ : ∃ fn, F.length = fn := ⟨_, rfl⟩
  simp only [hfn] at Hb4 ⊢
  have Hfl := hJ hfl
  have Hq := hJ hq
  clear hN4 hE4 hrp hb4 hfl hF hfn hq
  go_wp2_with (at_builtin; refine zW rfl _ _ rfl (.slice A n c) Z W1 rfl HZ4.out HX4.out _ _ F rfl Hb4.out (by have := Hfl.out; have := HZl.out; omega) ?_)
  rintro A5 n5 c5 w5 hn5 hN5 hE5 _ _
  rw [← List.length_append, ← Hst.out] at hn5
  rw [← Hst.out] at hN5
  have HN5 := hJ hN5
  have HE5 := hJ hE5
  have Hn5 := hJ hn5
  clear hN5 hE5 hn5
  go_wp2_with fail
  go_roundw
  case rel => exact ⟨i + 1, A5, n5, c5, by have := Hq.out; omega, by rw [← Hq.out]; go_num, rfl, Hn5.out.symm, HN5.out, HE5.out⟩
  case measure => simp [intOf]; omega
 obtain ⟨Am, n, cm, rfl, hn, hN, hX⟩ := hcut
 obtain ⟨M, hM0⟩ : ∃ M, zaL g h = M := ⟨_, rfl⟩
 have hM1 : M.length ≠ 0 := fun e => by
  have h1 := zmO ⟨hgr, Hg.out.2.2, zb9 hgr.c, by rw [Hgl.out]; exact hgl2⟩ ⟨hr, Hv.out.2.2, zb9 hr.c, by rw [Hll.out]; omega⟩ Htv.out (by rw [hM0]; exact e)
  have h2 := Hne.out
  rw [h1, zcG] at h2
  cases h2
 have hRq : R = if (D.append M).2 = 0 then (D.append M).1.sync else if (D.append M).2 = 5 then xG (D.append M).1 h else D.append M := by rw [← HR.out]; unfold yS; rw [Htv.out, if_neg (by simp), hM0, if_neg hM1]
 have hMl : M.length ≤ 100000000 := by
  rw [← hM0]
  unfold zaL zc5
  have h1 := zeB (h.log.drop (zaN h.log g.log)) (fun x hx => ⟨Hrx.out x (List.mem_of_mem_drop hx), Hv.out.2.2 x (List.mem_of_mem_drop hx)⟩)
  have h2 : (h.log.drop (zaN h.log g.log)).length ≤ 12700 := by rw [List.length_drop, Hll.out]; omega
  have h3 : (h.log.drop (zaN h.log g.log)).length * 400 ≤ 12700 * 400 := Nat.mul_le_mul_right _ h2
  have h4 := HYl.out
  rw [← HY.out, ← HX0.out] at h4
  rw [List.flatMap_append, List.flatMap_append, List.length_append]
  omega
 rw [hM0] at hn hN
 have HRr := hJ hRq
 have HMl := hJ hMl
 have Hb2 := hJ (yO.sl (w := W1) hN)
 have HX2 := hJ (HXc.out.ext hX)
 have HA3 := hJ (hX.blk HAc.out id)
 have HS3 : Hid (QtB wc s d g (.slice Bs gn bs) (.slice Bl gg bl)) := hJ (HX2.out.blk HS.out id)
 have Hv3 := hJ (Hv.out.mod HX2.out (fun _ _ => id))
 have t0 : wc.cell? ⟨s, 0, none⟩ = some (.pointer (some ⟨d, 0, none⟩)) := zB (cs := (yX d g (.slice Bs gn bs) (.slice Bl gg bl))) HS3.out rfl
 obtain ⟨w2, hw2⟩ : ∃ w2, wc = w2 := ⟨_, rfl⟩
 rw [hw2] at Hb2 HX2 HA3 HS3 Hv3 t0 ⊢
 clear hn hN hX hM0 hM1 hRq hMl hw2
 go_wp2_with fail
 refine (zmD w2 d fv D (HD.out.ext HX2.out) _ _ M (by have h1 := Hb2.out; exact h1) HMl.out).mono ?_
 rintro e w3 ⟨rfl, hM3⟩
 have hM3w := QM.ofE HX2.out hM3
 obtain ⟨fv1, hD1, hm1, hf1⟩ := hM3
 have hU3 : ∀ k, U k → ¬ (k = d ∨ fv.ownBlock = some k) := fun k hk e => by
  have := HU.out k hk
  rcases e with e | e
  · exact this.1 e
  exact this.2 e
 have HS4 := hJ (HS3.out.dm (HD.out.ext HX2.out) hm1)
 have Hv4 := hJ (Hv3.out.mod hm1 hU3)
 have HA4 : Hid (w3.heap[b]? = some (.cells (h.cells (.slice As sl cs) (.slice Al ll cl)).toArray 34 (0, 0))) := hJ (hm1.blk HA3.out (fun e => by
  rcases e with e | e
  · exact (HD.out.ext HX2.out).ne HA3.out (by decide) e
  exact zT (HD.out.ext HX2.out).2.1 e HA3.out (by decide) rfl))
 have u0 : w3.cell? ⟨s, 0, none⟩ = some (.pointer (some ⟨d, 0, none⟩)) := zB (cs := (yX d g (.slice Bs gn bs) (.slice Bl gg bl))) HS4.out rfl
 have HM3w := hJ hM3w
 have HD1 := hJ hD1
 have Hm1 := hJ hm1
 have Hf1 := hJ hf1
 obtain ⟨D1, hD1e⟩ : ∃ D1, (D.append M).1 = D1 := ⟨_, rfl⟩
 obtain ⟨cd, hcd⟩ : ∃ cd, (D.append M).2 = cd := ⟨_, rfl⟩
 have hap : D.append M = (D1, cd) := by rw [← hD1e, ← hcd]
 rw [hap] at HRr
 simp only at HRr
 rw [hD1e] at HD1 HM3w
 rw [hcd]
 clear hM3w hD1 hm1 hf1 hU3 hD1e hcd hap t0 HA3 HS3 Hv3
 rcases e5 : (cd == 5) with _ | _
 rotate_left
 ·
  have hc5 : cd = 5 := by simpa using e5
  subst hc5
  have HRs : Hid (R = xG D1 h) := hJ (by rw [HRr.out, if_neg (by decide), if_pos rfl])
  have hldb := zF (P := Tryz.prog) (o := 0) (cs := h.cells (.slice As sl cs) (.slice Al ll cl)) zA HA4.out rfl (fun j u hu => by rw [Nat.zero_add]; exact hu)
  clear HRr e5
  go_wp2_with (refine zG rfl 34 _ rfl (.pointer (some ⟨b, 0, none⟩)) _ rfl hldb ?_)
  clear hldb
  refine (zmE w3 U s d g h _ _ _ _ fv1 D1 HS4.out HD1.out Hv4.out hr (by rw [Hll.out]; exact hl)).mono ?_
  rintro e w4 ⟨rfl, hM4⟩
  have HM4 := hJ (QM.trans (fv := fv) ((Ext.mod HX2.out _).self Hm1.out) (fun g hg => by
   rcases Hf1.out g hg with e | e
   · exact .inl e
   exact .inr (Nat.le_trans HX2.out.size e)) hM4)
  rw [← HRs.out] at HM4 ⊢
  clear hM4
  go_wp2
  go_ret
  exact ⟨rfl, HM4.out⟩
 have hc5 : ¬ cd = 5 := by simpa using e5
 rcases e0 : (cd == 0) with _ | _
 ·
  have hc0 : ¬ cd = 0 := by simpa using e0
  have HRs : Hid (R = (D1, cd)) := hJ (by rw [HRr.out, if_neg hc0, if_neg hc5])
  go_wp2
  go_ret
  rw [HRs.out]
  exact ⟨rfl, HM3w.out⟩
 have hc0 : cd = 0 := by simpa using e0
 have HRs : Hid (R = D1.sync) := hJ (by rw [HRr.out, if_pos hc0])
 subst hc0
 clear HRr e0
 go_wp2_with fail
 refine (q_sync w3 d fv1 D1 HD1.out).mono ?_
 rintro e w4 ⟨rfl, hM4⟩
 have HM4 := hJ (QM.trans (fv := fv) ((Ext.mod HX2.out _).self Hm1.out) (fun g hg => by
  rcases Hf1.out g hg with e | e
  · exact .inl e
  exact .inr (Nat.le_trans HX2.out.size e)) hM4)
 rw [← HRs.out] at HM4 ⊢
 clear hM4
 go_wp2
 go_ret
 exact ⟨rfl, HM4.out⟩
end Go.Proofs.YtjhnlncgmejkcaaGreat
