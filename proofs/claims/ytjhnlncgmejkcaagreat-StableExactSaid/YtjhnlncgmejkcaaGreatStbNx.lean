/-
 The contract of the law's Next (printed by stbnx.py). Conditions: as the theorem names them.
-/
import Derived.Test.YtjhnlncgmejkcaaGreatS26
import Derived.Test.YtjhnlncgmejkcaaGreatS25
import Derived.Test.YtjhnlncgmejkcaaGreatS24
set_option maxRecDepth 100000
set_option maxHeartbeats 2000000
namespace Go.Proofs.YtjhnlncgmejkcaaGreat
set_option linter.unusedSimpArgs false
open Go.RowKit
def zgM (w : World) (T : Nat → Prop) (x : zC) (e : Ending) (w' : World) : Prop := ∃ sv lv, e = .returned (.agg (x.cells sv lv).toArray) ∧ zY w' (fun k => T k ∨ w.heap.size ≤ k) sv lv x ∧ Ext w w'
theorem zqV (w : World) (o p q : Obj) : (((w.alloc o).alloc p).alloc q).heap[w.heap.size]? = some o ∧ (((w.alloc o).alloc p).alloc q).heap[w.heap.size + 1]? = some p ∧ (((w.alloc o).alloc p).alloc q).heap[w.heap.size + 2]? = some q := by
 obtain ⟨h1, h2, h3⟩ := zaC w o p
 refine ⟨?_, ?_, ?_⟩
 · rw [Below.heap_alloc _ _ _ (by rw [h3]; omega)]; exact h1
 · rw [Below.heap_alloc _ _ _ (by rw [h3]; omega)]; exact h2
 have := heap_alloc_new ((w.alloc o).alloc p) q; rw [h3] at this; exact this
theorem zcV (n : Int) (m : Nat) : (IntKind.u64.wrap n).tmod (m : Int) = um n m := by
 have h1 : IntKind.u64.wrap n = n % 18446744073709551616 := by
  unfold IntKind.wrap
  first | rfl | (simp; done)
 unfold um
 rw [h1, Int.tmod_eq_emod_of_nonneg (by omega)]
theorem l_next (w : World) (T : Nat → Prop) (h ah : zC) (As : Option Addr) (sl cs : Nat) (Al : Option Addr) (ll cl : Nat) (d n kp : Int) (sv lv : Value) (Bl : Option Addr) (gg bl : Nat) (Cl : Option Addr) (gc cc : Nat) (l : List zI) (bs : List UInt8) (hv : zY w T (.slice As sl cs) (.slice Al ll cl) h) (hsn : h.snap.length = sl) (hll : h.log.length = ll) (hah : zY w T sv lv ah) (hL : zbJ w T (.slice Bl gg bl) l) (hgg : l.length = gg) (hB : Byt w T (.slice Cl gc cc) bs) (hgc : bs.length = gc) (hr : Right h) (hl : ll ≤ 1000000) (hg : gg ≤ 1000000) (hc : gc ≤ 1000000) :
  Calls Tryz.prog 14 #[.agg #[.int .i64 h.term, .int .i64 h.vote, .int .i64 h.base, .int .i64 h.baseTerm, .int .i64 h.conf.full, .int .i64 h.conf.wit, .int .i64 h.conf.learn, .int .i64 h.conf.learnWit, .slice As sl cs, .slice Al ll cl], .agg #[.int .i64 d, .int .i64 n, .int .i64 kp, .int .i64 ah.term, .int .i64 ah.vote, .int .i64 ah.base, .int .i64 ah.baseTerm, .int .i64 ah.conf.full, .int .i64 ah.conf.wit, .int .i64 ah.conf.learn, .int .i64 ah.conf.learnWit, sv, lv, .slice Bl gg bl, .slice Cl gc cc]] w (zgM w T (zcA h ⟨d, n, kp, ah, l, bs⟩)) := by
 obtain ⟨W, hW⟩ : ∃ W, W = ((w.alloc (.cells (h.cells (.slice As sl cs) (.slice Al ll cl)).toArray 34)).alloc (.cells #[.int .i64 d, .int .i64 n, .int .i64 kp, .int .i64 ah.term, .int .i64 ah.vote, .int .i64 ah.base, .int .i64 ah.baseTerm, .int .i64 ah.conf.full, .int .i64 ah.conf.wit, .int .i64 ah.conf.learn, .int .i64 ah.conf.learnWit, sv, lv, .slice Bl gg bl, .slice Cl gc cc] 41)).alloc (.cells zH.toArray 34) := ⟨_, rfl⟩
 obtain ⟨hA, hB', hC⟩ := zqV w (.cells (h.cells (.slice As sl cs) (.slice Al ll cl)).toArray 34) (.cells #[.int .i64 d, .int .i64 n, .int .i64 kp, .int .i64 ah.term, .int .i64 ah.vote, .int .i64 ah.base, .int .i64 ah.baseTerm, .int .i64 ah.conf.full, .int .i64 ah.conf.wit, .int .i64 ah.conf.learn, .int .i64 ah.conf.learnWit, sv, lv, .slice Bl gg bl, .slice Cl gc cc] 41) (.cells zH.toArray 34)
 obtain ⟨b, hb⟩ : ∃ b, w.heap.size = b := ⟨_, rfl⟩
 rw [← hW, hb] at hA hB' hC
 have hE : Ext w W := by rw [hW]; exact (((Mod.refl _ w).alloc _).alloc _).alloc _
 obtain ⟨R, hR⟩ : ∃ R, zcA h ⟨d, n, kp, ah, l, bs⟩ = R := ⟨_, rfl⟩
 have hld := zF (P := Tryz.prog) (o := 0) (cs := h.cells (.slice As sl cs) (.slice Al ll cl)) zA hA rfl (fun j u hu => by rw [Nat.zero_add]; exact hu)
 rw [hR]
 have HW := hJ hW
 have HA0 := hJ hA
 have HB0 := hJ hB'
 have HC0 := hJ hC
 have Hb := hJ hb
 have HX0 := hJ hE
 have Hll := hJ hll
 have Hsn := hJ hsn
 have Hgg := hJ hgg
 have Hgc := hJ hgc
 have Hv := hJ hv
 have Hah := hJ hah
 have HR := hJ hR
 have HL := hJ hL
 have HBs := hJ hB
 have HRi := hJ hr
 clear hW hA hB' hC hb hE hll hsn hgg hgc hv hah hR hL hB hr
 go_enter Tryz.func14, Tryz.ntmps14
 go_wp2_with (rw [← HW.out, Hb.out]; refine zG rfl 34 _ rfl _ _ rfl hld ?_)
 clear hld
 refine (zkP W T h _ _ (Hv.out.mod HX0.out (fun _ _ => id)) (by rw [Hll.out]; exact hl) HRi.out.b0 HRi.out.b1).mono ?_
 rintro e w1 ⟨rfl, hE⟩
 have HA1 := hJ (hE.blk HA0.out id)
 have HB1 := hJ (hE.blk HB0.out id)
 have HC1 := hJ (hE.blk HC0.out id)
 have HX1 := hJ (HX0.out.ext hE)
 clear hE
 obtain ⟨li, hli⟩ : ∃ li, zcF h = li := ⟨_, rfl⟩
 rw [hli]
 have Hli := hJ hli
 clear hli
 have a0 : w1.cell? ⟨b + 1, 0, none⟩ = some (.int .i64 d) := zB HB1.out rfl
 have hq0 : (IntKind.u64.wrap d).tmod 9 = um d 9 := zcV d 9
 obtain ⟨q, hq⟩ : ∃ q, um d 9 = q := ⟨_, rfl⟩
 have hq9 := zk4 d (m := 9) (by decide)
 rw [hq] at hq0 hq9
 have Hq := hJ hq
 have c0 : w1.cell? ⟨b, 0, none⟩ = some (.int .i64 h.term) := zB HA1.out rfl
 have c2 : w1.cell? ⟨b, 2, none⟩ = some (.int .i64 h.base) := zB HA1.out rfl
 have a1 : w1.cell? ⟨b + 1, 1, none⟩ = some (.int .i64 n) := zB HB1.out rfl
 have a2 : w1.cell? ⟨b + 1, 2, none⟩ = some (.int .i64 kp) := zB HB1.out rfl
 have a13 : w1.cell? ⟨b + 1, 13, none⟩ = some (.slice Bl gg bl) := zB HB1.out rfl
 have a14 : w1.cell? ⟨b + 1, 14, none⟩ = some (.slice Cl gc cc) := zB HB1.out rfl
 have Hv1 := hJ (Hv.out.mod HX1.out (fun _ _ => id))
 clear hq
 by_cases e0 : q = 0
 ·
  subst e0
  clear hq9 c2 a13 a14
  by_cases ht : h.term < 1099511627776
  focus
   have dt : decide (h.term < 1099511627776) = true := decide_eq_true ht
   have hu0 : (IntKind.u64.wrap n).tmod 2 = um n 2 := zcV n 2
   have hu8 : (IntKind.u64.wrap kp).tmod 8 = um kp 8 := zcV kp 8
   obtain ⟨u, hu⟩ : ∃ u, um n 2 = u := ⟨_, rfl⟩
   obtain ⟨v, hv8⟩ : ∃ v, um kp 8 = v := ⟨_, rfl⟩
   have hu2 := zk4 n (m := 2) (by decide)
   have hv7 := zk4 kp (m := 8) (by decide)
   rw [hu] at hu0 hu2
   rw [hv8] at hu8 hv7
   have Hu := hJ hu
   have Hv8 := hJ hv8
   have iu : wrap64 u = u := IntWalk.wrap64_in _ (by omega)
   have iv : wrap64 v = v := IntWalk.wrap64_in _ (by omega)
   have iv1 : IntKind.i64.wrap (v - 1) = v - 1 := IntWalk.i64_in _ (by omega)
   have it1 : IntKind.i64.wrap (h.term + 1) = h.term + 1 := IntWalk.i64_in _ (by have := HRi.out.t0; have := HRi.out.t1; omega)
   have it2 : IntKind.i64.wrap (h.term + 1 + u) = h.term + 1 + u := IntWalk.i64_in _ (by have := HRi.out.t0; have := HRi.out.t1; omega)
   have hld1 := zF (P := Tryz.prog) (o := 0) (cs := h.cells (.slice As sl cs) (.slice Al ll cl)) zA HA1.out rfl (fun j u hu => by rw [Nat.zero_add]; exact hu)
   clear hu hv8
   go_wp2_with (refine zG rfl 34 _ rfl _ _ rfl hld1 ?_)
   clear hld1
   refine (zbE w1 T h _ _ Hv1.out (by rw [Hll.out]; exact hl) (by have := HRi.out.s; omega)).mono ?_
   rintro e w2 ⟨sv3, lv3, rfl, hN3, hE⟩
   have HA2 := hJ (hE.blk HA1.out id)
   have HB2 := hJ (hE.blk HB1.out id)
   have HC2 := hJ (hE.blk HC1.out id)
   have HX2 := hJ (HX1.out.ext hE)
   obtain ⟨A3, c3, A4, c4, rfl, rfl⟩ := hN3.forms
   have hN3' := hN3.up HX1.out
   rw [Hsn.out, Hll.out] at hN3' ⊢
   have HN2 := hJ hN3'
   obtain ⟨g, hg⟩ : ∃ g, w2.heap.size = g := ⟨_, rfl⟩
   have hz : (w2.alloc (.cells zH.toArray 34)).heap[g]? = some (.cells zH.toArray 34 (0, 0)) := by rw [← hg]; exact heap_alloc_new w2 _
   have Hg := hJ hg
   have hbg : b + 2 < g := by have h1 := (Array.getElem?_eq_some_iff.1 HC2.out).1; omega
   clear hE hN3 hN3' hg a0
   go_wp2_with (rw [Hg.out]; refine zD rfl 34 _ _ rfl 10 g 0 (h.cells (.slice A3 sl c3) (.slice A4 ll c4)) rfl rfl zA _ zH (h.cells (.slice A3 sl c3) (.slice A4 ll c4)) hz rfl (by simp) (xS _ _ _ _ _ _ _) rfl ?_)
   intro w3 hb3 hm3 hs3
   have hE : Ext w2 w3 := ((Mod.refl (fun _ => False) w2).alloc (.cells zH.toArray 34)).trans hm3 (fun k hk e => by have := Hg.out; omega)
   have HA3 := hJ (hE.blk HA2.out id)
   have HB3 := hJ (hE.blk HB2.out id)
   have HC3 := hJ (hE.blk HC2.out id)
   have HX3 := hJ (HX2.out.ext hE)
   have HGw3 := hJ hb3
   have HN3 := hJ (HN2.out.ext hE)
   have x0 : w3.cell? ⟨b, 0, none⟩ = some (.int .i64 h.term) := zB HA3.out rfl
   have x1 : w3.cell? ⟨b + 1, 1, none⟩ = some (.int .i64 n) := zB HB3.out rfl
   have x2 : w3.cell? ⟨b + 1, 2, none⟩ = some (.int .i64 kp) := zB HB3.out rfl
   have HAw3 := HA3
   have HBw3 := HB3
   have HCw3 := HC3
   have HXw3 := HX3
   have HNw3 := HN3
   have n1 : ¬ b + 1 = g := by omega
   have n2 : ¬ b = g := by omega
   clear hE hb3 hm3 hs3 hz c0 a1 a2
   have f0 : w3.frozen? ⟨g, 0, none⟩ = false := zK 0 HGw3.out
   have d0 : w3.cell? ⟨g, 0, none⟩ = some _ := zB HGw3.out rfl
   obtain ⟨w4, hwn⟩ : ∃ wn, w3.setCell ⟨g, 0, none⟩ (.int .i64 (h.term + 1 + u)) = wn := ⟨_, rfl⟩
   have HGw4 : Hid (w4.heap[g]? = some (.cells #[.int .i64 (h.term + 1 + u), .int .i64 h.vote, .int .i64 h.base, .int .i64 h.baseTerm, .int .i64 h.conf.full, .int .i64 h.conf.wit, .int .i64 h.conf.learn, .int .i64 h.conf.learnWit, .slice A3 sl c3, .slice A4 ll c4] 34 (0, 0))) := hJ (by rw [← hwn]; simp [World.setCell, Array.getElem?_modify, HGw3.out])
   have HMw4 : Hid (Mod (fun k => k = g) w3 w4) := hJ (by rw [← hwn]; exact zO (Mod.refl _ w3) _ _)
   have Hww4 := hJ hwn
   clear hwn
   have HAw4 := hJ (HMw4.out.blk HAw3.out (by omega))
   have HBw4 := hJ (HMw4.out.blk HBw3.out (by omega))
   have HCw4 := hJ (HMw4.out.blk HCw3.out (by omega))
   have HXw4 : Hid (Ext w w4) := hJ (HXw3.out.trans HMw4.out (fun k hk e => by have := Hb.out; omega))
   have HNw4 : Hid (jP w w4 (.slice A3 sl c3) (.slice A4 ll c4) h) := hJ (HNw3.out.box HGw3.out HMw4.out (by decide) (by decide))
   have x3 : w4.cell? ⟨b + 1, 2, none⟩ = some (.int .i64 kp) := zB HBw4.out rfl
   go_upto_region 7 with fail
   rw [Hww4.out]
   have f1 : w4.frozen? ⟨g, 1, none⟩ = false := zK 1 HGw4.out
   have d1 : w4.cell? ⟨g, 1, none⟩ = some _ := zB HGw4.out rfl
   obtain ⟨w5, hwn⟩ : ∃ wn, w4.setCell ⟨g, 1, none⟩ (.int .i64 (v - 1)) = wn := ⟨_, rfl⟩
   have HGw5 : Hid (w5.heap[g]? = some (.cells #[.int .i64 (h.term + 1 + u), .int .i64 (v - 1), .int .i64 h.base, .int .i64 h.baseTerm, .int .i64 h.conf.full, .int .i64 h.conf.wit, .int .i64 h.conf.learn, .int .i64 h.conf.learnWit, .slice A3 sl c3, .slice A4 ll c4] 34 (0, 0))) := hJ (by rw [← hwn]; simp [World.setCell, Array.getElem?_modify, HGw4.out])
   have HMw5 : Hid (Mod (fun k => k = g) w4 w5) := hJ (by rw [← hwn]; exact zO (Mod.refl _ w4) _ _)
   have Hww5 := hJ hwn
   clear hwn
   have HAw5 := hJ (HMw5.out.blk HAw4.out (by omega))
   have HBw5 := hJ (HMw5.out.blk HBw4.out (by omega))
   have HCw5 := hJ (HMw5.out.blk HCw4.out (by omega))
   have HXw5 : Hid (Ext w w5) := hJ (HXw4.out.trans HMw5.out (fun k hk e => by have := Hb.out; omega))
   have HNw5 : Hid (jP w w5 (.slice A3 sl c3) (.slice A4 ll c4) h) := hJ (jP.box HNw4.out HGw4.out HMw5.out (by decide) (by decide))
   have HRs : Hid (R = { h with term := h.term + 1 + u, vote := v - 1 }) := hJ (by rw [← HR.out]; unfold zcA; simp only [Hq.out, Hu.out, Hv8.out, if_true]; rw [if_pos (by omega)])
   have hldz := zF (P := Tryz.prog) (o := 0) (cs := [.int .i64 (h.term + 1 + u), .int .i64 (v - 1), .int .i64 h.base, .int .i64 h.baseTerm, .int .i64 h.conf.full, .int .i64 h.conf.wit, .int .i64 h.conf.learn, .int .i64 h.conf.learnWit, .slice A3 sl c3, .slice A4 ll c4]) zA HGw5.out rfl (fun j u hu => by rw [Nat.zero_add]; exact hu)
   go_wp2_with (first | (rw [Hww5.out]; refine zG rfl 34 _ rfl _ _ rfl hldz ?_) | (rw [Hww4.out, Hww5.out]; refine zG rfl 34 _ rfl _ _ rfl hldz ?_) | (refine zD rfl 34 _ _ rfl 10 (b + 2) 0 [.int .i64 (h.term + 1 + u), .int .i64 (v - 1), .int .i64 h.base, .int .i64 h.baseTerm, .int .i64 h.conf.full, .int .i64 h.conf.wit, .int .i64 h.conf.learn, .int .i64 h.conf.learnWit, .slice A3 sl c3, .slice A4 ll c4] rfl rfl zA _ zH [.int .i64 (h.term + 1 + u), .int .i64 (v - 1), .int .i64 h.base, .int .i64 h.baseTerm, .int .i64 h.conf.full, .int .i64 h.conf.wit, .int .i64 h.conf.learn, .int .i64 h.conf.learnWit, .slice A3 sl c3, .slice A4 ll c4] HCw5.out rfl (by simp) (List.all_eq_true.1 rfl) rfl ?_))
   intro wz hbz hmz hsz
   have HXz : Hid (Ext w wz) := hJ (HXw5.out.trans hmz (fun k hk e => by have := Hb.out; omega))
   have HF : Hid (zgM w T R (.returned (.agg #[.int .i64 (h.term + 1 + u), .int .i64 (v - 1), .int .i64 h.base, .int .i64 h.baseTerm, .int .i64 h.conf.full, .int .i64 h.conf.wit, .int .i64 h.conf.learn, .int .i64 h.conf.learnWit, .slice A3 sl c3, .slice A4 ll c4])) wz) := hJ (by rw [HRs.out]; exact ⟨_, _, rfl, zY.mono (jP.mem (jP.box HNw5.out HCw5.out hmz (by decide) (by decide))) (fun k hk => .inr (by rcases hk with e | e; exact HNw5.out.1.2 k e; exact HNw5.out.2.2.2 k e)), HXz.out⟩)
  rotate_left
  focus
   have dt : decide (h.term < 1099511627776) = false := decide_eq_false ht
   have hu0 : (IntKind.u64.wrap n).tmod 2 = um n 2 := zcV n 2
   have hu8 : (IntKind.u64.wrap kp).tmod 8 = um kp 8 := zcV kp 8
   obtain ⟨u, hu⟩ : ∃ u, um n 2 = u := ⟨_, rfl⟩
   obtain ⟨v, hv8⟩ : ∃ v, um kp 8 = v := ⟨_, rfl⟩
   have hu2 := zk4 n (m := 2) (by decide)
   have hv7 := zk4 kp (m := 8) (by decide)
   rw [hu] at hu0 hu2
   rw [hv8] at hu8 hv7
   have Hu := hJ hu
   have Hv8 := hJ hv8
   have iu : wrap64 u = u := IntWalk.wrap64_in _ (by omega)
   have iv : wrap64 v = v := IntWalk.wrap64_in _ (by omega)
   have iv1 : IntKind.i64.wrap (v - 1) = v - 1 := IntWalk.i64_in _ (by omega)
   have it1 : IntKind.i64.wrap (h.term + 1) = h.term + 1 := IntWalk.i64_in _ (by have := HRi.out.t0; have := HRi.out.t1; omega)
   have it2 : IntKind.i64.wrap (h.term + 1 + u) = h.term + 1 + u := IntWalk.i64_in _ (by have := HRi.out.t0; have := HRi.out.t1; omega)
   have hld1 := zF (P := Tryz.prog) (o := 0) (cs := h.cells (.slice As sl cs) (.slice Al ll cl)) zA HA1.out rfl (fun j u hu => by rw [Nat.zero_add]; exact hu)
   clear hu hv8
   go_wp2_with (refine zG rfl 34 _ rfl _ _ rfl hld1 ?_)
   clear hld1
   refine (zbE w1 T h _ _ Hv1.out (by rw [Hll.out]; exact hl) (by have := HRi.out.s; omega)).mono ?_
   rintro e w2 ⟨sv3, lv3, rfl, hN3, hE⟩
   have HA2 := hJ (hE.blk HA1.out id)
   have HB2 := hJ (hE.blk HB1.out id)
   have HC2 := hJ (hE.blk HC1.out id)
   have HX2 := hJ (HX1.out.ext hE)
   obtain ⟨A3, c3, A4, c4, rfl, rfl⟩ := hN3.forms
   have hN3' := hN3.up HX1.out
   rw [Hsn.out, Hll.out] at hN3' ⊢
   have HN2 := hJ hN3'
   obtain ⟨g, hg⟩ : ∃ g, w2.heap.size = g := ⟨_, rfl⟩
   have hz : (w2.alloc (.cells zH.toArray 34)).heap[g]? = some (.cells zH.toArray 34 (0, 0)) := by rw [← hg]; exact heap_alloc_new w2 _
   have Hg := hJ hg
   have hbg : b + 2 < g := by have h1 := (Array.getElem?_eq_some_iff.1 HC2.out).1; omega
   clear hE hN3 hN3' hg a0
   go_wp2_with (rw [Hg.out]; refine zD rfl 34 _ _ rfl 10 g 0 (h.cells (.slice A3 sl c3) (.slice A4 ll c4)) rfl rfl zA _ zH (h.cells (.slice A3 sl c3) (.slice A4 ll c4)) hz rfl (by simp) (xS _ _ _ _ _ _ _) rfl ?_)
   intro w3 hb3 hm3 hs3
   have hE : Ext w2 w3 := ((Mod.refl (fun _ => False) w2).alloc (.cells zH.toArray 34)).trans hm3 (fun k hk e => by have := Hg.out; omega)
   have HA3 := hJ (hE.blk HA2.out id)
   have HB3 := hJ (hE.blk HB2.out id)
   have HC3 := hJ (hE.blk HC2.out id)
   have HX3 := hJ (HX2.out.ext hE)
   have HGw3 := hJ hb3
   have HN3 := hJ (HN2.out.ext hE)
   have x0 : w3.cell? ⟨b, 0, none⟩ = some (.int .i64 h.term) := zB HA3.out rfl
   have x1 : w3.cell? ⟨b + 1, 1, none⟩ = some (.int .i64 n) := zB HB3.out rfl
   have x2 : w3.cell? ⟨b + 1, 2, none⟩ = some (.int .i64 kp) := zB HB3.out rfl
   have HAw3 := HA3
   have HBw3 := HB3
   have HCw3 := HC3
   have HXw3 := HX3
   have HNw3 := HN3
   have n1 : ¬ b + 1 = g := by omega
   have n2 : ¬ b = g := by omega
   clear hE hb3 hm3 hs3 hz c0 a1 a2
   have f1 : w3.frozen? ⟨g, 1, none⟩ = false := zK 1 HGw3.out
   have d1 : w3.cell? ⟨g, 1, none⟩ = some _ := zB HGw3.out rfl
   obtain ⟨w5, hwn⟩ : ∃ wn, w3.setCell ⟨g, 1, none⟩ (.int .i64 (v - 1)) = wn := ⟨_, rfl⟩
   have HGw5 : Hid (w5.heap[g]? = some (.cells #[.int .i64 (h.term), .int .i64 (v - 1), .int .i64 h.base, .int .i64 h.baseTerm, .int .i64 h.conf.full, .int .i64 h.conf.wit, .int .i64 h.conf.learn, .int .i64 h.conf.learnWit, .slice A3 sl c3, .slice A4 ll c4] 34 (0, 0))) := hJ (by rw [← hwn]; simp [World.setCell, Array.getElem?_modify, HGw3.out])
   have HMw5 : Hid (Mod (fun k => k = g) w3 w5) := hJ (by rw [← hwn]; exact zO (Mod.refl _ w3) _ _)
   have Hww5 := hJ hwn
   clear hwn
   have HAw5 := hJ (HMw5.out.blk HAw3.out (by omega))
   have HBw5 := hJ (HMw5.out.blk HBw3.out (by omega))
   have HCw5 := hJ (HMw5.out.blk HCw3.out (by omega))
   have HXw5 : Hid (Ext w w5) := hJ (HXw3.out.trans HMw5.out (fun k hk e => by have := Hb.out; omega))
   have HNw5 : Hid (jP w w5 (.slice A3 sl c3) (.slice A4 ll c4) h) := hJ (jP.box HNw3.out HGw3.out HMw5.out (by decide) (by decide))
   have HRs : Hid (R = { h with term := h.term, vote := v - 1 }) := hJ (by rw [← HR.out]; unfold zcA; simp only [Hq.out, Hu.out, Hv8.out, if_true]; rw [if_neg (by omega)])
   have hldz := zF (P := Tryz.prog) (o := 0) (cs := [.int .i64 (h.term), .int .i64 (v - 1), .int .i64 h.base, .int .i64 h.baseTerm, .int .i64 h.conf.full, .int .i64 h.conf.wit, .int .i64 h.conf.learn, .int .i64 h.conf.learnWit, .slice A3 sl c3, .slice A4 ll c4]) zA HGw5.out rfl (fun j u hu => by rw [Nat.zero_add]; exact hu)
   go_wp2_with (first | (rw [Hww5.out]; refine zG rfl 34 _ rfl _ _ rfl hldz ?_) | (rw [Hww4.out, Hww5.out]; refine zG rfl 34 _ rfl _ _ rfl hldz ?_) | (refine zD rfl 34 _ _ rfl 10 (b + 2) 0 [.int .i64 (h.term), .int .i64 (v - 1), .int .i64 h.base, .int .i64 h.baseTerm, .int .i64 h.conf.full, .int .i64 h.conf.wit, .int .i64 h.conf.learn, .int .i64 h.conf.learnWit, .slice A3 sl c3, .slice A4 ll c4] rfl rfl zA _ zH [.int .i64 (h.term), .int .i64 (v - 1), .int .i64 h.base, .int .i64 h.baseTerm, .int .i64 h.conf.full, .int .i64 h.conf.wit, .int .i64 h.conf.learn, .int .i64 h.conf.learnWit, .slice A3 sl c3, .slice A4 ll c4] HCw5.out rfl (by simp) (List.all_eq_true.1 rfl) rfl ?_))
   intro wz hbz hmz hsz
   have HXz : Hid (Ext w wz) := hJ (HXw5.out.trans hmz (fun k hk e => by have := Hb.out; omega))
   have HF : Hid (zgM w T R (.returned (.agg #[.int .i64 (h.term), .int .i64 (v - 1), .int .i64 h.base, .int .i64 h.baseTerm, .int .i64 h.conf.full, .int .i64 h.conf.wit, .int .i64 h.conf.learn, .int .i64 h.conf.learnWit, .slice A3 sl c3, .slice A4 ll c4])) wz) := hJ (by rw [HRs.out]; exact ⟨_, _, rfl, zY.mono (jP.mem (jP.box HNw5.out HCw5.out hmz (by decide) (by decide))) (fun k hk => .inr (by rcases hk with e | e; exact HNw5.out.1.2 k e; exact HNw5.out.2.2.2 k e)), HXz.out⟩)
  all_goals
   clear hmz hsz
   go_wp2_with fail
   exact bodyPost_ret (results_cell_row rfl _ _ _ _ _ (0, 0) _ rfl hbz Tryz.underlying34 rfl (by kernel_rfl)) rfl HF.out
 by_cases e12 : q = 1 ∨ q = 2
 ·
  have HRk : Hid (R = (znR h (max (li - um n 4) h.base) l).getD h) := hJ (by rw [← HR.out, ← Hli.out]; unfold zcA; simp only [Hq.out]; rw [if_neg e0, if_pos e12])
  have hu0 : (IntKind.u64.wrap n).tmod 4 = um n 4 := zcV n 4
  obtain ⟨u, hu⟩ : ∃ u, um n 4 = u := ⟨_, rfl⟩
  have hu4 := zk4 n (m := 4) (by decide)
  rw [hu] at hu0 hu4 HRk
  have iu : wrap64 u = u := IntWalk.wrap64_in _ (by omega)
  have il : wrap64 (li - u) = li - u := IntWalk.wrap64_in _ (by have := Hli.out; unfold zcF at this; have := Hll.out; have := HRi.out.b0; have := HRi.out.b1; omega)
  have hld1 := zF (P := Tryz.prog) (o := 0) (cs := h.cells (.slice As sl cs) (.slice Al ll cl)) zA HA1.out rfl (fun j u hu => by rw [Nat.zero_add]; exact hu)
  clear hu hq9 c0 a2 a14
  obtain ⟨kx, hkx⟩ : ∃ kx, wrap64 (li - u) = kx := ⟨_, rfl⟩
  rw [hkx] at il
  rw [← il] at HRk
  have Hkx := hJ il
  clear il
  rcases e12 with rfl | rfl
  all_goals
   by_cases hm : kx < h.base
   ·
    have HRm : Hid (R = (znR h h.base l).getD h) := hJ (by rw [HRk.out, show max kx h.base = h.base by omega])
    go_wp2_with (refine zG rfl 34 _ rfl _ _ rfl hld1 ?_)
    clear hld1
    refine (r8_put w1 T T h As sl cs Al ll cl (h.base) Bl gg bl l Hv1.out Hsn.out Hll.out (HL.out.mod HX1.out (fun _ _ => id)) Hgg.out HRi.out hl hg).mono ?_
    rintro e w2 hP
    unfold PutO at hP
    obtain ⟨hE, hP⟩ := hP
    have HA2 := hJ (hE.blk HA1.out id)
    have HB2 := hJ (hE.blk HB1.out id)
    have HC2 := hJ (hE.blk HC1.out id)
    have HX2 := hJ (HX1.out.ext hE)
    obtain ⟨g, hg⟩ : ∃ g, w2.heap.size = g := ⟨_, rfl⟩
    have hz : (w2.alloc (.cells zH.toArray 34)).heap[g]? = some (.cells zH.toArray 34 (0, 0)) := by rw [← hg]; exact heap_alloc_new w2 _
    have Hg := hJ hg
    have hbg : b + 2 < g := by have h1 := (Array.getElem?_eq_some_iff.1 HC2.out).1; omega
    clear hE hg a0
    rcases hpp : znR h (h.base) l with _ | x
    focus
     rw [hpp] at hP
     obtain ⟨cd, hcd, rfl⟩ := hP
     have HRr : Hid (R = h) := hJ (by rw [HRm.out, hpp]; rfl)
     have dcd : (cd == 0) = false := by simpa using hcd
     clear hcd hpp
     go_wp2_with (rw [Hg.out]; refine zD rfl 34 _ _ rfl 10 g 0 zH rfl rfl zA _ zH zH hz rfl (by simp) (List.all_eq_true.1 rfl) rfl ?_)
     intro w3 hb3 hm3 hs3
     have hE : Ext w2 w3 := ((Mod.refl (fun _ => False) w2).alloc (.cells zH.toArray 34)).trans hm3 (fun k hk e => by have := Hg.out; omega)
     have HA3 := hJ (hE.blk HA2.out id)
     have HB3 := hJ (hE.blk HB2.out id)
     have HC3 := hJ (hE.blk HC2.out id)
     have HX3 := hJ (HX2.out.ext hE)
     clear hE hb3 hm3 hs3 hz
     have HF0 := HRr
     have hldz := zF (P := Tryz.prog) (o := 0) (cs := h.cells (.slice As sl cs) (.slice Al ll cl)) zA HA3.out rfl (fun j u hu => by rw [Nat.zero_add]; exact hu)
     go_wp2_with (first | (refine zG rfl 34 _ rfl _ _ rfl hldz ?_) | (refine zD rfl 34 _ _ rfl 10 (b + 2) 0 (h.cells (.slice As sl cs) (.slice Al ll cl)) rfl rfl zA _ zH (h.cells (.slice As sl cs) (.slice Al ll cl)) HC3.out rfl (by simp) (xS _ _ _ _ _ _ _) rfl ?_))
     intro wz hbz hmz hsz
     have HXz : Hid (Ext w wz) := hJ (HX3.out.trans hmz (fun k hk e => by have := Hb.out; omega))
     have HF : Hid (zgM w T R (.returned (.agg #[.int .i64 h.term, .int .i64 h.vote, .int .i64 h.base, .int .i64 h.baseTerm, .int .i64 h.conf.full, .int .i64 h.conf.wit, .int .i64 h.conf.learn, .int .i64 h.conf.learnWit, .slice As sl cs, .slice Al ll cl])) wz) := hJ (by rw [HF0.out]; exact ⟨_, _, rfl, (Hv.out.mod HXz.out (fun _ _ => id)).mono (fun k hk => .inl hk), HXz.out⟩)
    rotate_left
    focus
     rw [hpp] at hP
     obtain ⟨sx, lx, rfl, hN⟩ := hP
     have HRr : Hid (R = x) := hJ (by rw [HRm.out, hpp]; rfl)
     have honex := xK hN
     have HN2 := hJ (hN.up HX1.out)
     clear hN hpp
     go_wp2_with (rw [Hg.out]; refine zD rfl 34 _ _ rfl 10 g 0 (x.cells sx lx) rfl rfl zA _ zH (x.cells sx lx) hz rfl (by simp) honex rfl ?_)
     intro w3 hb3 hm3 hs3
     have hE : Ext w2 w3 := ((Mod.refl (fun _ => False) w2).alloc (.cells zH.toArray 34)).trans hm3 (fun k hk e => by have := Hg.out; omega)
     have HA3 := hJ (hE.blk HA2.out id)
     have HB3 := hJ (hE.blk HB2.out id)
     have HC3 := hJ (hE.blk HC2.out id)
     have HX3 := hJ (HX2.out.ext hE)
     have HN3 := hJ (HN2.out.ext hE)
     have HG3 := hJ hb3
     clear hE hb3 hm3 hs3 hz
     have hldz := zF (P := Tryz.prog) (o := 0) (cs := x.cells sx lx) zA HG3.out rfl (fun j u hu => by rw [Nat.zero_add]; exact hu)
     go_wp2_with (first | (refine zG rfl 34 _ rfl _ _ rfl hldz ?_) | (refine zD rfl 34 _ _ rfl 10 (b + 2) 0 (x.cells sx lx) rfl rfl zA _ zH (x.cells sx lx) HC3.out rfl (by simp) honex rfl ?_))
     intro wz hbz hmz hsz
     have HXz : Hid (Ext w wz) := hJ (HX3.out.trans hmz (fun k hk e => by have := Hb.out; omega))
     have HF : Hid (zgM w T R (.returned (.agg (x.cells sx lx).toArray)) wz) := hJ (by rw [HRr.out]; exact ⟨_, _, rfl, zY.mono (jP.mem (jP.box HN3.out HC3.out hmz (by decide) (by decide))) (fun k hk => .inr (by rcases hk with e | e; exact HN3.out.1.2 k e; exact HN3.out.2.2.2 k e)), HXz.out⟩)
    all_goals
     clear hldz
     clear hmz hsz
     go_wp2_with fail
     exact bodyPost_ret (results_cell_row rfl _ _ _ _ _ (0, 0) _ rfl hbz Tryz.underlying34 rfl (by kernel_rfl)) rfl HF.out
   have HRm : Hid (R = (znR h kx l).getD h) := hJ (by rw [HRk.out, show max kx h.base = kx by omega])
   go_wp2_with (refine zG rfl 34 _ rfl _ _ rfl hld1 ?_)
   clear hld1
   refine (r8_put w1 T T h As sl cs Al ll cl (kx) Bl gg bl l Hv1.out Hsn.out Hll.out (HL.out.mod HX1.out (fun _ _ => id)) Hgg.out HRi.out hl hg).mono ?_
   rintro e w2 hP
   unfold PutO at hP
   obtain ⟨hE, hP⟩ := hP
   have HA2 := hJ (hE.blk HA1.out id)
   have HB2 := hJ (hE.blk HB1.out id)
   have HC2 := hJ (hE.blk HC1.out id)
   have HX2 := hJ (HX1.out.ext hE)
   obtain ⟨g, hg⟩ : ∃ g, w2.heap.size = g := ⟨_, rfl⟩
   have hz : (w2.alloc (.cells zH.toArray 34)).heap[g]? = some (.cells zH.toArray 34 (0, 0)) := by rw [← hg]; exact heap_alloc_new w2 _
   have Hg := hJ hg
   have hbg : b + 2 < g := by have h1 := (Array.getElem?_eq_some_iff.1 HC2.out).1; omega
   clear hE hg a0
   rcases hpp : znR h (kx) l with _ | x
   focus
    rw [hpp] at hP
    obtain ⟨cd, hcd, rfl⟩ := hP
    have HRr : Hid (R = h) := hJ (by rw [HRm.out, hpp]; rfl)
    have dcd : (cd == 0) = false := by simpa using hcd
    clear hcd hpp
    go_wp2_with (rw [Hg.out]; refine zD rfl 34 _ _ rfl 10 g 0 zH rfl rfl zA _ zH zH hz rfl (by simp) (List.all_eq_true.1 rfl) rfl ?_)
    intro w3 hb3 hm3 hs3
    have hE : Ext w2 w3 := ((Mod.refl (fun _ => False) w2).alloc (.cells zH.toArray 34)).trans hm3 (fun k hk e => by have := Hg.out; omega)
    have HA3 := hJ (hE.blk HA2.out id)
    have HB3 := hJ (hE.blk HB2.out id)
    have HC3 := hJ (hE.blk HC2.out id)
    have HX3 := hJ (HX2.out.ext hE)
    clear hE hb3 hm3 hs3 hz
    have HF0 := HRr
    have hldz := zF (P := Tryz.prog) (o := 0) (cs := h.cells (.slice As sl cs) (.slice Al ll cl)) zA HA3.out rfl (fun j u hu => by rw [Nat.zero_add]; exact hu)
    go_wp2_with (first | (refine zG rfl 34 _ rfl _ _ rfl hldz ?_) | (refine zD rfl 34 _ _ rfl 10 (b + 2) 0 (h.cells (.slice As sl cs) (.slice Al ll cl)) rfl rfl zA _ zH (h.cells (.slice As sl cs) (.slice Al ll cl)) HC3.out rfl (by simp) (xS _ _ _ _ _ _ _) rfl ?_))
    intro wz hbz hmz hsz
    have HXz : Hid (Ext w wz) := hJ (HX3.out.trans hmz (fun k hk e => by have := Hb.out; omega))
    have HF : Hid (zgM w T R (.returned (.agg #[.int .i64 h.term, .int .i64 h.vote, .int .i64 h.base, .int .i64 h.baseTerm, .int .i64 h.conf.full, .int .i64 h.conf.wit, .int .i64 h.conf.learn, .int .i64 h.conf.learnWit, .slice As sl cs, .slice Al ll cl])) wz) := hJ (by rw [HF0.out]; exact ⟨_, _, rfl, (Hv.out.mod HXz.out (fun _ _ => id)).mono (fun k hk => .inl hk), HXz.out⟩)
   rotate_left
   focus
    rw [hpp] at hP
    obtain ⟨sx, lx, rfl, hN⟩ := hP
    have HRr : Hid (R = x) := hJ (by rw [HRm.out, hpp]; rfl)
    have honex := xK hN
    have HN2 := hJ (hN.up HX1.out)
    clear hN hpp
    go_wp2_with (rw [Hg.out]; refine zD rfl 34 _ _ rfl 10 g 0 (x.cells sx lx) rfl rfl zA _ zH (x.cells sx lx) hz rfl (by simp) honex rfl ?_)
    intro w3 hb3 hm3 hs3
    have hE : Ext w2 w3 := ((Mod.refl (fun _ => False) w2).alloc (.cells zH.toArray 34)).trans hm3 (fun k hk e => by have := Hg.out; omega)
    have HA3 := hJ (hE.blk HA2.out id)
    have HB3 := hJ (hE.blk HB2.out id)
    have HC3 := hJ (hE.blk HC2.out id)
    have HX3 := hJ (HX2.out.ext hE)
    have HN3 := hJ (HN2.out.ext hE)
    have HG3 := hJ hb3
    clear hE hb3 hm3 hs3 hz
    have hldz := zF (P := Tryz.prog) (o := 0) (cs := x.cells sx lx) zA HG3.out rfl (fun j u hu => by rw [Nat.zero_add]; exact hu)
    go_wp2_with (first | (refine zG rfl 34 _ rfl _ _ rfl hldz ?_) | (refine zD rfl 34 _ _ rfl 10 (b + 2) 0 (x.cells sx lx) rfl rfl zA _ zH (x.cells sx lx) HC3.out rfl (by simp) honex rfl ?_))
    intro wz hbz hmz hsz
    have HXz : Hid (Ext w wz) := hJ (HX3.out.trans hmz (fun k hk e => by have := Hb.out; omega))
    have HF : Hid (zgM w T R (.returned (.agg (x.cells sx lx).toArray)) wz) := hJ (by rw [HRr.out]; exact ⟨_, _, rfl, zY.mono (jP.mem (jP.box HN3.out HC3.out hmz (by decide) (by decide))) (fun k hk => .inr (by rcases hk with e | e; exact HN3.out.1.2 k e; exact HN3.out.2.2.2 k e)), HXz.out⟩)
   all_goals
    clear hldz
    clear hmz hsz
    go_wp2_with fail
    exact bodyPost_ret (results_cell_row rfl _ _ _ _ _ (0, 0) _ rfl hbz Tryz.underlying34 rfl (by kernel_rfl)) rfl HF.out
 by_cases e3 : q = 3
 ·
  have HRk : Hid (R = (zgZ h (li - um n 3) bs).getD h) := hJ (by rw [← HR.out, ← Hli.out]; unfold zcA; simp only [Hq.out]; rw [if_neg e0, if_neg e12, if_pos e3])
  have hu0 : (IntKind.u64.wrap n).tmod 3 = um n 3 := zcV n 3
  obtain ⟨u, hu⟩ : ∃ u, um n 3 = u := ⟨_, rfl⟩
  have hu4 := zk4 n (m := 3) (by decide)
  rw [hu] at hu0 hu4 HRk
  have iu : wrap64 u = u := IntWalk.wrap64_in _ (by omega)
  have il : wrap64 (li - u) = li - u := IntWalk.wrap64_in _ (by have := Hli.out; unfold zcF at this; have := Hll.out; have := HRi.out.b0; have := HRi.out.b1; omega)
  have hld1 := zF (P := Tryz.prog) (o := 0) (cs := h.cells (.slice As sl cs) (.slice Al ll cl)) zA HA1.out rfl (fun j u hu => by rw [Nat.zero_add]; exact hu)
  clear hu hq9 c0 a2 a13 c2
  obtain ⟨kx, hkx⟩ : ∃ kx, wrap64 (li - u) = kx := ⟨_, rfl⟩
  rw [hkx] at il
  rw [← il] at HRk
  have HRm := HRk
  have Hkx := hJ il
  clear il
  subst e3
  go_wp2_with (refine zG rfl 34 _ rfl _ _ rfl hld1 ?_)
  clear hld1
  refine (znM w1 T T h As sl cs Al ll cl kx Cl gc cc bs Hv1.out Hsn.out Hll.out (HBs.out.mod HX1.out (fun _ _ => id)) Hgc.out HRi.out hl hc).mono ?_
  rintro e w2 hP
  unfold PutO at hP
  obtain ⟨hE, hP⟩ := hP
  have HA2 := hJ (hE.blk HA1.out id)
  have HB2 := hJ (hE.blk HB1.out id)
  have HC2 := hJ (hE.blk HC1.out id)
  have HX2 := hJ (HX1.out.ext hE)
  obtain ⟨g, hg⟩ : ∃ g, w2.heap.size = g := ⟨_, rfl⟩
  have hz : (w2.alloc (.cells zH.toArray 34)).heap[g]? = some (.cells zH.toArray 34 (0, 0)) := by rw [← hg]; exact heap_alloc_new w2 _
  have Hg := hJ hg
  have hbg : b + 2 < g := by have h1 := (Array.getElem?_eq_some_iff.1 HC2.out).1; omega
  clear hE hg a0
  rcases hpp : zgZ h kx bs with _ | x
  focus
   rw [hpp] at hP
   obtain ⟨cd, hcd, rfl⟩ := hP
   have HRr : Hid (R = h) := hJ (by rw [HRm.out, hpp]; rfl)
   have dcd : (cd == 0) = false := by simpa using hcd
   clear hcd hpp
   go_wp2_with (rw [Hg.out]; refine zD rfl 34 _ _ rfl 10 g 0 zH rfl rfl zA _ zH zH hz rfl (by simp) (List.all_eq_true.1 rfl) rfl ?_)
   intro w3 hb3 hm3 hs3
   have hE : Ext w2 w3 := ((Mod.refl (fun _ => False) w2).alloc (.cells zH.toArray 34)).trans hm3 (fun k hk e => by have := Hg.out; omega)
   have HA3 := hJ (hE.blk HA2.out id)
   have HB3 := hJ (hE.blk HB2.out id)
   have HC3 := hJ (hE.blk HC2.out id)
   have HX3 := hJ (HX2.out.ext hE)
   clear hE hb3 hm3 hs3 hz
   have HF0 := HRr
   have hldz := zF (P := Tryz.prog) (o := 0) (cs := h.cells (.slice As sl cs) (.slice Al ll cl)) zA HA3.out rfl (fun j u hu => by rw [Nat.zero_add]; exact hu)
   go_wp2_with (first | (refine zG rfl 34 _ rfl _ _ rfl hldz ?_) | (refine zD rfl 34 _ _ rfl 10 (b + 2) 0 (h.cells (.slice As sl cs) (.slice Al ll cl)) rfl rfl zA _ zH (h.cells (.slice As sl cs) (.slice Al ll cl)) HC3.out rfl (by simp) (xS _ _ _ _ _ _ _) rfl ?_))
   intro wz hbz hmz hsz
   have HXz : Hid (Ext w wz) := hJ (HX3.out.trans hmz (fun k hk e => by have := Hb.out; omega))
   have HF : Hid (zgM w T R (.returned (.agg #[.int .i64 h.term, .int .i64 h.vote, .int .i64 h.base, .int .i64 h.baseTerm, .int .i64 h.conf.full, .int .i64 h.conf.wit, .int .i64 h.conf.learn, .int .i64 h.conf.learnWit, .slice As sl cs, .slice Al ll cl])) wz) := hJ (by rw [HF0.out]; exact ⟨_, _, rfl, (Hv.out.mod HXz.out (fun _ _ => id)).mono (fun k hk => .inl hk), HXz.out⟩)
  rotate_left
  focus
   rw [hpp] at hP
   obtain ⟨sx, lx, rfl, hN⟩ := hP
   have HRr : Hid (R = x) := hJ (by rw [HRm.out, hpp]; rfl)
   have honex := xK hN
   have HN2 := hJ (hN.up HX1.out)
   clear hN hpp
   go_wp2_with (rw [Hg.out]; refine zD rfl 34 _ _ rfl 10 g 0 (x.cells sx lx) rfl rfl zA _ zH (x.cells sx lx) hz rfl (by simp) honex rfl ?_)
   intro w3 hb3 hm3 hs3
   have hE : Ext w2 w3 := ((Mod.refl (fun _ => False) w2).alloc (.cells zH.toArray 34)).trans hm3 (fun k hk e => by have := Hg.out; omega)
   have HA3 := hJ (hE.blk HA2.out id)
   have HB3 := hJ (hE.blk HB2.out id)
   have HC3 := hJ (hE.blk HC2.out id)
   have HX3 := hJ (HX2.out.ext hE)
   have HN3 := hJ (HN2.out.ext hE)
   have HG3 := hJ hb3
   clear hE hb3 hm3 hs3 hz
   have hldz := zF (P := Tryz.prog) (o := 0) (cs := x.cells sx lx) zA HG3.out rfl (fun j u hu => by rw [Nat.zero_add]; exact hu)
   go_wp2_with (first | (refine zG rfl 34 _ rfl _ _ rfl hldz ?_) | (refine zD rfl 34 _ _ rfl 10 (b + 2) 0 (x.cells sx lx) rfl rfl zA _ zH (x.cells sx lx) HC3.out rfl (by simp) honex rfl ?_))
   intro wz hbz hmz hsz
   have HXz : Hid (Ext w wz) := hJ (HX3.out.trans hmz (fun k hk e => by have := Hb.out; omega))
   have HF : Hid (zgM w T R (.returned (.agg (x.cells sx lx).toArray)) wz) := hJ (by rw [HRr.out]; exact ⟨_, _, rfl, zY.mono (jP.mem (jP.box HN3.out HC3.out hmz (by decide) (by decide))) (fun k hk => .inr (by rcases hk with e | e; exact HN3.out.1.2 k e; exact HN3.out.2.2.2 k e)), HXz.out⟩)
  all_goals
   clear hldz
   clear hmz hsz
   go_wp2_with fail
   exact bodyPost_ret (results_cell_row rfl _ _ _ _ _ (0, 0) _ rfl hbz Tryz.underlying34 rfl (by kernel_rfl)) rfl HF.out
 have hq3 : ¬ (q = 1) ∧ ¬ (q = 2) := by omega
 have dq0 : (q == 0) = false := by simpa using e0
 have dq1 : (q == 1) = false := by simpa using hq3.1
 have dq2 : (q == 2) = false := by simpa using hq3.2
 have dq3 : (q == 3) = false := by simpa using e3
 by_cases e4 : q = 4
 focus
  have dq4 : (q == 4) = true := by simpa using e4
  have HRr : Hid (R = ah) := hJ (by rw [← HR.out]; unfold zcA; simp only [Hq.out]; rw [if_neg e0, if_neg e12, if_neg e3, if_pos e4])
  have hld1 := zF (P := Tryz.prog) (o := 3) (cs := ah.cells sv lv) zA HB1.out rfl (fun j u hu => by
   have hj : j < 10 := (List.getElem?_eq_some_iff.1 hu).1
   have e : [.int .i64 d, .int .i64 n, .int .i64 kp, .int .i64 ah.term, .int .i64 ah.vote, .int .i64 ah.base, .int .i64 ah.baseTerm, .int .i64 ah.conf.full, .int .i64 ah.conf.wit, .int .i64 ah.conf.learn, .int .i64 ah.conf.learnWit, sv, lv, .slice Bl gg bl, .slice Cl gc cc] = [.int .i64 d, .int .i64 n, .int .i64 kp] ++ (ah.cells sv lv ++ [.slice Bl gg bl, .slice Cl gc cc]) := rfl
   rw [e, List.getElem?_append_right (by simp), show 3 + j - [Value.int .i64 d, .int .i64 n, .int .i64 kp].length = j by simp, List.getElem?_append_left hj]
   exact hu)
  have honeh : ∀ v ∈ ah.cells sv lv, v.oneCell' = true := by
   obtain ⟨A1, k1, A2, k2, e1, e2⟩ := Hah.out.forms
   rw [e1, e2]
   exact xS _ _ _ _ _ _ _
  clear hq9 c0 c2 a1 a2 a13 a14 e4 e3 e0 e12 hq3
  go_wp2_with (first | (refine zG rfl 34 _ rfl _ _ rfl hld1 ?_) | (refine zD rfl 34 _ _ rfl 10 (b + 2) 0 (ah.cells sv lv) rfl rfl zA _ zH (ah.cells sv lv) HC1.out rfl (by simp) honeh rfl ?_))
  intro wz hbz hmz hsz
  have HXz : Hid (Ext w wz) := hJ (HX1.out.trans hmz (fun k hk e => by have := Hb.out; omega))
  have HF : Hid (zgM w T R (.returned (.agg (ah.cells sv lv).toArray)) wz) := hJ (by rw [HRr.out]; exact ⟨_, _, rfl, (Hah.out.mod HXz.out (fun _ _ => id)).mono (fun k hk => .inl hk), HXz.out⟩)
 rotate_left
 focus
  have dq4 : (q == 4) = false := by simpa using e4
  have HRr : Hid (R = h) := hJ (by rw [← HR.out]; unfold zcA; simp only [Hq.out]; rw [if_neg e0, if_neg e12, if_neg e3, if_neg e4])
  clear hq9 c0 c2 a1 a2 a13 a14 e4 e3 e0 e12 hq3
  have HF0 := HRr
  have hldz := zF (P := Tryz.prog) (o := 0) (cs := h.cells (.slice As sl cs) (.slice Al ll cl)) zA HA1.out rfl (fun j u hu => by rw [Nat.zero_add]; exact hu)
  go_wp2_with (first | (refine zG rfl 34 _ rfl _ _ rfl hldz ?_) | (refine zD rfl 34 _ _ rfl 10 (b + 2) 0 (h.cells (.slice As sl cs) (.slice Al ll cl)) rfl rfl zA _ zH (h.cells (.slice As sl cs) (.slice Al ll cl)) HC1.out rfl (by simp) (xS _ _ _ _ _ _ _) rfl ?_))
  intro wz hbz hmz hsz
  have HXz : Hid (Ext w wz) := hJ (HX1.out.trans hmz (fun k hk e => by have := Hb.out; omega))
  have HF : Hid (zgM w T R (.returned (.agg #[.int .i64 h.term, .int .i64 h.vote, .int .i64 h.base, .int .i64 h.baseTerm, .int .i64 h.conf.full, .int .i64 h.conf.wit, .int .i64 h.conf.learn, .int .i64 h.conf.learnWit, .slice As sl cs, .slice Al ll cl])) wz) := hJ (by rw [HF0.out]; exact ⟨_, _, rfl, (Hv.out.mod HXz.out (fun _ _ => id)).mono (fun k hk => .inl hk), HXz.out⟩)
  clear hldz
 all_goals
  clear hmz hsz
  go_wp2_with fail
  exact bodyPost_ret (results_cell_row rfl _ _ _ _ _ (0, 0) _ rfl hbz Tryz.underlying34 rfl (by kernel_rfl)) rfl HF.out
end Go.Proofs.YtjhnlncgmejkcaaGreat
