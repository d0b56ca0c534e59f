/-
 The contract of the law's Next (printed by stbnx.py). Conditions: as the theorem names them.
-/
import Derived.Test.YtjhnlncgmejkcaaGreatS26
import Derived.Test.YtjhnlncgmejkcaaGreatS25
import Derived.Test.YtjhnlncgmejkcaaGreatS24
namespace Go.Proofs.YtjhnlncgmejkcaaGreat
set_option linter.unusedSimpArgs false
open Go.RowKit

/-- What Next answers: in memory that was there, or in new one. */ -/
def NextO (w : World) (T : Nat → Prop) (x : AHard) (e : Ending) (w' : World) : Prop := ∃ sv lv, e = .returned (.agg (x.cells sv lv).toArray) ∧ HardM w' (fun k => T k ∨ w.heap.size ≤ k) sv lv x ∧ Ext w w'
theorem three_new (w : World) (o p q : Obj) : (((w.alloc o).alloc p).alloc q).heap[w.heap.size]? = some o ∧ (((w.alloc o).alloc p).alloc q).heap[w.heap.size + 1]? = some p ∧ (((w.alloc o).alloc p).alloc q).heap[w.heap.size + 2]? = some q := by
 obtain ⟨h1, h2, h3⟩ := two_new w o p
 refine ⟨?_, ?_, ?_⟩
 ·
  rw [Below.heap_alloc _ _ _ (by rw [h3]; omega)]; exact h1
 ·
  rw [Below.heap_alloc _ _ _ (by rw [h3]; omega)]; exact h2
 ·
  have := heap_alloc_new ((w.alloc o).alloc p) q; rw [h3] at this; exact this
theorem um_walk (n : Int) (m : Nat) : (IntKind.u64.wrap n).tmod (m : Int) = um n m := by
 have h1 : IntKind.u64.wrap n = n % 18446744073709551616 := by
  unfold IntKind.wrap
  first | rfl | (simp; done)
 unfold um
 rw [h1, Int.tmod_eq_emod_of_nonneg (by omega)]

set_option maxRecDepth 100000 in
set_option maxHeartbeats 2000000 in
theorem l_next (w : World) (T : Nat → Prop) (h ah : AHard) (As : Option Addr) (sl cs : Nat) (Al : Option Addr) (ll cl : Nat) (d n kp : Int) (sv lv : Value) (Bl : Option Addr) (gg bl : Nat) (Cl : Option Addr) (gc cc : Nat) (l : List AEntry) (bs : List UInt8) (hv : HardM w T (.slice As sl cs) (.slice Al ll cl) h) (hsn : h.snap.length = sl) (hll : h.log.length = ll) (hah : HardM w T sv lv ah) (hL : Ents w T (.slice Bl gg bl) l) (hgg : l.length = gg) (hB : Byt w T (.slice Cl gc cc) bs) (hgc : bs.length = gc) (hr : Right h) (hl : ll ≤ 1000000) (hg : gg ≤ 1000000) (hc : gc ≤ 1000000) :
  Calls Tryz.prog 14 #[.agg #[.int .i64 h.term, .int .i64 h.vote, .int .i64 h.base, .int .i64 h.baseTerm, .int .i64 h.conf.full, .int .i64 h.conf.wit, .int .i64 h.conf.learn, .int .i64 h.conf.learnWit, .slice As sl cs, .slice Al ll cl], .agg #[.int .i64 d, .int .i64 n, .int .i64 kp, .int .i64 ah.term, .int .i64 ah.vote, .int .i64 ah.base, .int .i64 ah.baseTerm, .int .i64 ah.conf.full, .int .i64 ah.conf.wit, .int .i64 ah.conf.learn, .int .i64 ah.conf.learnWit, sv, lv, .slice Bl gg bl, .slice Cl gc cc]] w (NextO w T (nextP h ⟨d, n, kp, ah, l, bs⟩)) := by
 obtain ⟨W, hW⟩ : ∃ W, W = ((w.alloc (.cells #[.int .i64 h.term, .int .i64 h.vote, .int .i64 h.base, .int .i64 h.baseTerm, .int .i64 h.conf.full, .int .i64 h.conf.wit, .int .i64 h.conf.learn, .int .i64 h.conf.learnWit, .slice As sl cs, .slice Al ll cl] 34)).alloc (.cells #[.int .i64 d, .int .i64 n, .int .i64 kp, .int .i64 ah.term, .int .i64 ah.vote, .int .i64 ah.base, .int .i64 ah.baseTerm, .int .i64 ah.conf.full, .int .i64 ah.conf.wit, .int .i64 ah.conf.learn, .int .i64 ah.conf.learnWit, sv, lv, .slice Bl gg bl, .slice Cl gc cc] 41)).alloc (.cells #[.int .i64 0, .int .i64 0, .int .i64 0, .int .i64 0, .int .i64 0, .int .i64 0, .int .i64 0, .int .i64 0, .slice none 0 0, .slice none 0 0] 34) := ⟨_, rfl⟩
 obtain ⟨hA, hB', hC⟩ := three_new w (.cells #[.int .i64 h.term, .int .i64 h.vote, .int .i64 h.base, .int .i64 h.baseTerm, .int .i64 h.conf.full, .int .i64 h.conf.wit, .int .i64 h.conf.learn, .int .i64 h.conf.learnWit, .slice As sl cs, .slice Al ll cl] 34) (.cells #[.int .i64 d, .int .i64 n, .int .i64 kp, .int .i64 ah.term, .int .i64 ah.vote, .int .i64 ah.base, .int .i64 ah.baseTerm, .int .i64 ah.conf.full, .int .i64 ah.conf.wit, .int .i64 ah.conf.learn, .int .i64 ah.conf.learnWit, sv, lv, .slice Bl gg bl, .slice Cl gc cc] 41) (.cells #[.int .i64 0, .int .i64 0, .int .i64 0, .int .i64 0, .int .i64 0, .int .i64 0, .int .i64 0, .int .i64 0, .slice none 0 0, .slice none 0 0] 34)
 obtain ⟨b, hb⟩ : ∃ b, w.heap.size = b := ⟨_, rfl⟩
 rw [← hW, hb] at hA hB' hC
 have hE : Ext w W := by rw [hW]; exact (((Mod.refl _ w).alloc _).alloc _).alloc _
 obtain ⟨R, hR⟩ : ∃ R, nextP h ⟨d, n, kp, ah, l, bs⟩ = R := ⟨_, rfl⟩
 have hld := load_row (P := Tryz.prog) (o := 0) (cs := h.cells (.slice As sl cs) (.slice Al ll cl)) str_hard hA rfl (fun j u hu => by rw [Nat.zero_add]; exact hu)
 rw [hR]
 have HW := Lib.hid hW
 have HA0 := Lib.hid hA
 have HB0 := Lib.hid hB'
 have HC0 := Lib.hid hC
 have Hb := Lib.hid hb
 have HX0 := Lib.hid hE
 have Hll := Lib.hid hll
 have Hsn := Lib.hid hsn
 have Hgg := Lib.hid hgg
 have Hgc := Lib.hid hgc
 have Hv := Lib.hid hv
 have Hah := Lib.hid hah
 have HR := Lib.hid hR
 have HL := Lib.hid hL
 have HBs := Lib.hid hB
 have HRi := Lib.hid hr
 clear hW hA hB' hC hb hE hll hsn hgg hgc hv hah hR hL hB hr
 go_enter Tryz.func14, Tryz.ntmps14
 go_wp2_with (rw [← HW.out, Hb.out]; refine wpList_ld rfl 34 _ rfl _ _ rfl hld ?_)
 clear hld
 refine (r8_last W T h _ _ (Hv.out.mod HX0.out (fun _ _ => id)) (by rw [Hll.out]; exact hl) HRi.out.b0 HRi.out.b1).mono ?_
 rintro e w1 ⟨rfl, hE⟩
 have HA1 := Lib.hid (hE.blk HA0.out id)
 have HB1 := Lib.hid (hE.blk HB0.out id)
 have HC1 := Lib.hid (hE.blk HC0.out id)
 have HX1 := Lib.hid (HX0.out.ext hE)
 clear hE
 obtain ⟨li, hli⟩ : ∃ li, lastI h = li := ⟨_, rfl⟩
 rw [hli]
 have Hli := Lib.hid hli
 clear hli
 have a0 : w1.cell? ⟨b + 1, 0, none⟩ = some (.int .i64 d) := blk_cell (cs := [.int .i64 d, .int .i64 n, .int .i64 kp, .int .i64 ah.term, .int .i64 ah.vote, .int .i64 ah.base, .int .i64 ah.baseTerm, .int .i64 ah.conf.full, .int .i64 ah.conf.wit, .int .i64 ah.conf.learn, .int .i64 ah.conf.learnWit, sv, lv, .slice Bl gg bl, .slice Cl gc cc]) HB1.out rfl
 have hq0 : (IntKind.u64.wrap d).tmod 9 = um d 9 := um_walk d 9
 obtain ⟨q, hq⟩ : ∃ q, um d 9 = q := ⟨_, rfl⟩
 have hq9 := um_lt d (m := 9) (by decide)
 rw [hq] at hq0 hq9
 have Hq := Lib.hid hq
 have c0 : w1.cell? ⟨b, 0, none⟩ = some (.int .i64 h.term) := blk_cell (cs := [.int .i64 h.term, .int .i64 h.vote, .int .i64 h.base, .int .i64 h.baseTerm, .int .i64 h.conf.full, .int .i64 h.conf.wit, .int .i64 h.conf.learn, .int .i64 h.conf.learnWit, .slice As sl cs, .slice Al ll cl]) HA1.out rfl
 have c2 : w1.cell? ⟨b, 2, none⟩ = some (.int .i64 h.base) := blk_cell (cs := [.int .i64 h.term, .int .i64 h.vote, .int .i64 h.base, .int .i64 h.baseTerm, .int .i64 h.conf.full, .int .i64 h.conf.wit, .int .i64 h.conf.learn, .int .i64 h.conf.learnWit, .slice As sl cs, .slice Al ll cl]) HA1.out rfl
 have a1 : w1.cell? ⟨b + 1, 1, none⟩ = some (.int .i64 n) := blk_cell (cs := [.int .i64 d, .int .i64 n, .int .i64 kp, .int .i64 ah.term, .int .i64 ah.vote, .int .i64 ah.base, .int .i64 ah.baseTerm, .int .i64 ah.conf.full, .int .i64 ah.conf.wit, .int .i64 ah.conf.learn, .int .i64 ah.conf.learnWit, sv, lv, .slice Bl gg bl, .slice Cl gc cc]) HB1.out rfl
 have a2 : w1.cell? ⟨b + 1, 2, none⟩ = some (.int .i64 kp) := blk_cell (cs := [.int .i64 d, .int .i64 n, .int .i64 kp, .int .i64 ah.term, .int .i64 ah.vote, .int .i64 ah.base, .int .i64 ah.baseTerm, .int .i64 ah.conf.full, .int .i64 ah.conf.wit, .int .i64 ah.conf.learn, .int .i64 ah.conf.learnWit, sv, lv, .slice Bl gg bl, .slice Cl gc cc]) HB1.out rfl
 have a13 : w1.cell? ⟨b + 1, 13, none⟩ = some (.slice Bl gg bl) := blk_cell (cs := [.int .i64 d, .int .i64 n, .int .i64 kp, .int .i64 ah.term, .int .i64 ah.vote, .int .i64 ah.base, .int .i64 ah.baseTerm, .int .i64 ah.conf.full, .int .i64 ah.conf.wit, .int .i64 ah.conf.learn, .int .i64 ah.conf.learnWit, sv, lv, .slice Bl gg bl, .slice Cl gc cc]) HB1.out rfl
 have a14 : w1.cell? ⟨b + 1, 14, none⟩ = some (.slice Cl gc cc) := blk_cell (cs := [.int .i64 d, .int .i64 n, .int .i64 kp, .int .i64 ah.term, .int .i64 ah.vote, .int .i64 ah.base, .int .i64 ah.baseTerm, .int .i64 ah.conf.full, .int .i64 ah.conf.wit, .int .i64 ah.conf.learn, .int .i64 ah.conf.learnWit, sv, lv, .slice Bl gg bl, .slice Cl gc cc]) HB1.out rfl
 have Hv1 := Lib.hid (Hv.out.mod HX1.out (fun _ _ => id))
 clear hq
 by_cases e0 : q = 0
 ·
  subst e0
  clear hq9 c2 a13 a14
  by_cases ht : h.term < 1099511627776
  ·
   have dt : decide (h.term < 1099511627776) = true := decide_eq_true ht
   have hu0 : (IntKind.u64.wrap n).tmod 2 = um n 2 := um_walk n 2
   have hu8 : (IntKind.u64.wrap kp).tmod 8 = um kp 8 := um_walk kp 8
   obtain ⟨u, hu⟩ : ∃ u, um n 2 = u := ⟨_, rfl⟩
   obtain ⟨v, hv8⟩ : ∃ v, um kp 8 = v := ⟨_, rfl⟩
   have hu2 := um_lt n (m := 2) (by decide)
   have hv7 := um_lt kp (m := 8) (by decide)
   rw [hu] at hu0 hu2
   rw [hv8] at hu8 hv7
   have Hu := Lib.hid hu
   have Hv8 := Lib.hid hv8
   have iu : wrap64 u = u := IntWalk.wrap64_in _ (by omega)
   have iv : wrap64 v = v := IntWalk.wrap64_in _ (by omega)
   have iv1 : IntKind.i64.wrap (v - 1) = v - 1 := IntWalk.i64_in _ (by omega)
   have it1 : IntKind.i64.wrap (h.term + 1) = h.term + 1 := IntWalk.i64_in _ (by have := HRi.out.t0; have := HRi.out.t1; omega)
   have it2 : IntKind.i64.wrap (h.term + 1 + u) = h.term + 1 + u := IntWalk.i64_in _ (by have := HRi.out.t0; have := HRi.out.t1; omega)
   have hld1 := load_row (P := Tryz.prog) (o := 0) (cs := h.cells (.slice As sl cs) (.slice Al ll cl)) str_hard HA1.out rfl (fun j u hu => by rw [Nat.zero_add]; exact hu)
   clear hu hv8
   go_wp2_with (refine wpList_ld rfl 34 _ rfl _ _ rfl hld1 ?_)
   clear hld1
   refine (k_twinHard w1 T h _ _ Hv1.out (by rw [Hll.out]; exact hl) (by have := HRi.out.s; omega)).mono ?_
   rintro e w2 ⟨sv3, lv3, rfl, hN3, hE⟩
   have HA2 := Lib.hid (hE.blk HA1.out id)
   have HB2 := Lib.hid (hE.blk HB1.out id)
   have HC2 := Lib.hid (hE.blk HC1.out id)
   have HX2 := Lib.hid (HX1.out.ext hE)
   obtain ⟨A3, c3, A4, c4, rfl, rfl⟩ := hN3.forms
   have hN3' := hN3.up HX1.out
   rw [Hsn.out, Hll.out] at hN3' ⊢
   have HN2 := Lib.hid hN3'
   obtain ⟨g, hg⟩ : ∃ g, w2.heap.size = g := ⟨_, rfl⟩
   have hz : (w2.alloc (.cells #[.int .i64 0, .int .i64 0, .int .i64 0, .int .i64 0, .int .i64 0, .int .i64 0, .int .i64 0, .int .i64 0, .slice none 0 0, .slice none 0 0] 34)).heap[g]? = some (.cells #[.int .i64 0, .int .i64 0, .int .i64 0, .int .i64 0, .int .i64 0, .int .i64 0, .int .i64 0, .int .i64 0, .slice none 0 0, .slice none 0 0] 34 (0, 0)) := by rw [← hg]; exact heap_alloc_new w2 _
   have Hg := Lib.hid hg
   have hbg : b + 2 < g := by have h1 := (Array.getElem?_eq_some_iff.1 HC2.out).1; omega
   clear hE hN3 hN3' hg a0
   go_wp2_with (rw [Hg.out]; refine wpList_stR rfl 34 _ _ rfl 10 g 0 (h.cells (.slice A3 sl c3) (.slice A4 ll c4)) rfl rfl str_hard _ [.int .i64 0, .int .i64 0, .int .i64 0, .int .i64 0, .int .i64 0, .int .i64 0, .int .i64 0, .int .i64 0, .slice none 0 0, .slice none 0 0] (h.cells (.slice A3 sl c3) (.slice A4 ll c4)) hz rfl (by simp) (h_one _ _ _ _ _ _ _) rfl ?_)
   intro w3 hb3 hm3 hs3
   have hE : Ext w2 w3 := ((Mod.refl (fun _ => False) w2).alloc (.cells #[.int .i64 0, .int .i64 0, .int .i64 0, .int .i64 0, .int .i64 0, .int .i64 0, .int .i64 0, .int .i64 0, .slice none 0 0, .slice none 0 0] 34)).trans hm3 (fun k hk e => by have := Hg.out; omega)
   have HA3 := Lib.hid (hE.blk HA2.out id)
   have HB3 := Lib.hid (hE.blk HB2.out id)
   have HC3 := Lib.hid (hE.blk HC2.out id)
   have HX3 := Lib.hid (HX2.out.ext hE)
   have HGw3 := Lib.hid hb3
   have HN3 := Lib.hid (HN2.out.ext hE)
   have x0 : w3.cell? ⟨b, 0, none⟩ = some (.int .i64 h.term) := blk_cell (cs := [.int .i64 h.term, .int .i64 h.vote, .int .i64 h.base, .int .i64 h.baseTerm, .int .i64 h.conf.full, .int .i64 h.conf.wit, .int .i64 h.conf.learn, .int .i64 h.conf.learnWit, .slice As sl cs, .slice Al ll cl]) HA3.out rfl
   have x1 : w3.cell? ⟨b + 1, 1, none⟩ = some (.int .i64 n) := blk_cell (cs := [.int .i64 d, .int .i64 n, .int .i64 kp, .int .i64 ah.term, .int .i64 ah.vote, .int .i64 ah.base, .int .i64 ah.baseTerm, .int .i64 ah.conf.full, .int .i64 ah.conf.wit, .int .i64 ah.conf.learn, .int .i64 ah.conf.learnWit, sv, lv, .slice Bl gg bl, .slice Cl gc cc]) HB3.out rfl
   have x2 : w3.cell? ⟨b + 1, 2, none⟩ = some (.int .i64 kp) := blk_cell (cs := [.int .i64 d, .int .i64 n, .int .i64 kp, .int .i64 ah.term, .int .i64 ah.vote, .int .i64 ah.base, .int .i64 ah.baseTerm, .int .i64 ah.conf.full, .int .i64 ah.conf.wit, .int .i64 ah.conf.learn, .int .i64 ah.conf.learnWit, sv, lv, .slice Bl gg bl, .slice Cl gc cc]) HB3.out rfl
   have HAw3 := HA3
   have HBw3 := HB3
   have HCw3 := HC3
   have HXw3 := HX3
   have HNw3 := HN3
   have n1 : ¬ b + 1 = g := by omega
   have n2 : ¬ b = g := by omega
   clear hE hb3 hm3 hs3 hz c0 a1 a2
   have f0 : w3.frozen? ⟨g, 0, none⟩ = false := blk_free 0 HGw3.out
   have d0 : w3.cell? ⟨g, 0, none⟩ = some _ := blk_cell (cs := [.int .i64 h.term, .int .i64 h.vote, .int .i64 h.base, .int .i64 h.baseTerm, .int .i64 h.conf.full, .int .i64 h.conf.wit, .int .i64 h.conf.learn, .int .i64 h.conf.learnWit, .slice A3 sl c3, .slice A4 ll c4]) HGw3.out rfl
   obtain ⟨w4, hwn⟩ : ∃ wn, w3.setCell ⟨g, 0, none⟩ (.int .i64 (h.term + 1 + u)) = wn := ⟨_, rfl⟩
   have HGw4 : Hid (w4.heap[g]? = some (.cells #[.int .i64 (h.term + 1 + u), .int .i64 h.vote, .int .i64 h.base, .int .i64 h.baseTerm, .int .i64 h.conf.full, .int .i64 h.conf.wit, .int .i64 h.conf.learn, .int .i64 h.conf.learnWit, .slice A3 sl c3, .slice A4 ll c4] 34 (0, 0))) := Lib.hid (by rw [← hwn]; simp [World.setCell, Array.getElem?_modify, HGw3.out])
   have HMw4 : Hid (Mod (fun k => k = g) w3 w4) := Lib.hid (by rw [← hwn]; exact mod_same (Mod.refl _ w3) _ _)
   have Hww4 := Lib.hid hwn
   clear hwn
   have HAw4 := Lib.hid (HMw4.out.blk HAw3.out (by omega))
   have HBw4 := Lib.hid (HMw4.out.blk HBw3.out (by omega))
   have HCw4 := Lib.hid (HMw4.out.blk HCw3.out (by omega))
   have HXw4 : Hid (Ext w w4) := Lib.hid (HXw3.out.trans HMw4.out (fun k hk e => by have := Hb.out; omega))
   have HNw4 : Hid (NewH w w4 (.slice A3 sl c3) (.slice A4 ll c4) h) := Lib.hid (HNw3.out.box HGw3.out HMw4.out (by decide) (by decide))
   have x3 : w4.cell? ⟨b + 1, 2, none⟩ = some (.int .i64 kp) := blk_cell (cs := [.int .i64 d, .int .i64 n, .int .i64 kp, .int .i64 ah.term, .int .i64 ah.vote, .int .i64 ah.base, .int .i64 ah.baseTerm, .int .i64 ah.conf.full, .int .i64 ah.conf.wit, .int .i64 ah.conf.learn, .int .i64 ah.conf.learnWit, sv, lv, .slice Bl gg bl, .slice Cl gc cc]) HBw4.out rfl
   go_upto_region 7 with fail
   rw [Hww4.out]
   have f1 : w4.frozen? ⟨g, 1, none⟩ = false := blk_free 1 HGw4.out
   have d1 : w4.cell? ⟨g, 1, none⟩ = some _ := blk_cell (cs := [.int .i64 (h.term + 1 + u), .int .i64 h.vote, .int .i64 h.base, .int .i64 h.baseTerm, .int .i64 h.conf.full, .int .i64 h.conf.wit, .int .i64 h.conf.learn, .int .i64 h.conf.learnWit, .slice A3 sl c3, .slice A4 ll c4]) HGw4.out rfl
   obtain ⟨w5, hwn⟩ : ∃ wn, w4.setCell ⟨g, 1, none⟩ (.int .i64 (v - 1)) = wn := ⟨_, rfl⟩
   have HGw5 : Hid (w5.heap[g]? = some (.cells #[.int .i64 (h.term + 1 + u), .int .i64 (v - 1), .int .i64 h.base, .int .i64 h.baseTerm, .int .i64 h.conf.full, .int .i64 h.conf.wit, .int .i64 h.conf.learn, .int .i64 h.conf.learnWit, .slice A3 sl c3, .slice A4 ll c4] 34 (0, 0))) := Lib.hid (by rw [← hwn]; simp [World.setCell, Array.getElem?_modify, HGw4.out])
   have HMw5 : Hid (Mod (fun k => k = g) w4 w5) := Lib.hid (by rw [← hwn]; exact mod_same (Mod.refl _ w4) _ _)
   have Hww5 := Lib.hid hwn
   clear hwn
   have HAw5 := Lib.hid (HMw5.out.blk HAw4.out (by omega))
   have HBw5 := Lib.hid (HMw5.out.blk HBw4.out (by omega))
   have HCw5 := Lib.hid (HMw5.out.blk HCw4.out (by omega))
   have HXw5 : Hid (Ext w w5) := Lib.hid (HXw4.out.trans HMw5.out (fun k hk e => by have := Hb.out; omega))
   have HNw5 : Hid (NewH w w5 (.slice A3 sl c3) (.slice A4 ll c4) h) := Lib.hid (NewH.box HNw4.out HGw4.out HMw5.out (by decide) (by decide))
   have HRs : Hid (R = { h with term := h.term + 1 + u, vote := v - 1 }) := Lib.hid (by rw [← HR.out]; unfold nextP; simp only [Hq.out, Hu.out, Hv8.out, if_true]; rw [if_pos (by omega)])
   have hldz := load_row (P := Tryz.prog) (o := 0) (cs := [.int .i64 (h.term + 1 + u), .int .i64 (v - 1), .int .i64 h.base, .int .i64 h.baseTerm, .int .i64 h.conf.full, .int .i64 h.conf.wit, .int .i64 h.conf.learn, .int .i64 h.conf.learnWit, .slice A3 sl c3, .slice A4 ll c4]) str_hard HGw5.out rfl (fun j u hu => by rw [Nat.zero_add]; exact hu)
   go_wp2_with (first | (rw [Hww5.out]; refine wpList_ld rfl 34 _ rfl _ _ rfl hldz ?_) | (rw [Hww4.out, Hww5.out]; refine wpList_ld rfl 34 _ rfl _ _ rfl hldz ?_) | (refine wpList_stR rfl 34 _ _ rfl 10 (b + 2) 0 [.int .i64 (h.term + 1 + u), .int .i64 (v - 1), .int .i64 h.base, .int .i64 h.baseTerm, .int .i64 h.conf.full, .int .i64 h.conf.wit, .int .i64 h.conf.learn, .int .i64 h.conf.learnWit, .slice A3 sl c3, .slice A4 ll c4] rfl rfl str_hard _ [.int .i64 0, .int .i64 0, .int .i64 0, .int .i64 0, .int .i64 0, .int .i64 0, .int .i64 0, .int .i64 0, .slice none 0 0, .slice none 0 0] [.int .i64 (h.term + 1 + u), .int .i64 (v - 1), .int .i64 h.base, .int .i64 h.baseTerm, .int .i64 h.conf.full, .int .i64 h.conf.wit, .int .i64 h.conf.learn, .int .i64 h.conf.learnWit, .slice A3 sl c3, .slice A4 ll c4] HCw5.out rfl (by simp) (List.all_eq_true.1 rfl) rfl ?_))
   intro wz hbz hmz hsz
   have HXz : Hid (Ext w wz) := Lib.hid (HXw5.out.trans hmz (fun k hk e => by have := Hb.out; omega))
   have HF : Hid (NextO w T R (.returned (.agg #[.int .i64 (h.term + 1 + u), .int .i64 (v - 1), .int .i64 h.base, .int .i64 h.baseTerm, .int .i64 h.conf.full, .int .i64 h.conf.wit, .int .i64 h.conf.learn, .int .i64 h.conf.learnWit, .slice A3 sl c3, .slice A4 ll c4])) wz) := Lib.hid (by rw [HRs.out]; exact ⟨_, _, rfl, HardM.mono (NewH.mem (NewH.box HNw5.out HCw5.out hmz (by decide) (by decide))) (fun k hk => .inr (by rcases hk with e | e; exact HNw5.out.1.2 k e; exact HNw5.out.2.2.2 k e)), HXz.out⟩)
   clear hmz hsz
   go_wp2_with fail
   exact bodyPost_ret (results_cell_row rfl _ _ _ _ _ (0, 0) _ rfl hbz Tryz.underlying34 rfl (by kernel_rfl)) rfl HF.out
  ·
   have dt : decide (h.term < 1099511627776) = false := decide_eq_false ht
   have hu0 : (IntKind.u64.wrap n).tmod 2 = um n 2 := um_walk n 2
   have hu8 : (IntKind.u64.wrap kp).tmod 8 = um kp 8 := um_walk kp 8
   obtain ⟨u, hu⟩ : ∃ u, um n 2 = u := ⟨_, rfl⟩
   obtain ⟨v, hv8⟩ : ∃ v, um kp 8 = v := ⟨_, rfl⟩
   have hu2 := um_lt n (m := 2) (by decide)
   have hv7 := um_lt kp (m := 8) (by decide)
   rw [hu] at hu0 hu2
   rw [hv8] at hu8 hv7
   have Hu := Lib.hid hu
   have Hv8 := Lib.hid hv8
   have iu : wrap64 u = u := IntWalk.wrap64_in _ (by omega)
   have iv : wrap64 v = v := IntWalk.wrap64_in _ (by omega)
   have iv1 : IntKind.i64.wrap (v - 1) = v - 1 := IntWalk.i64_in _ (by omega)
   have it1 : IntKind.i64.wrap (h.term + 1) = h.term + 1 := IntWalk.i64_in _ (by have := HRi.out.t0; have := HRi.out.t1; omega)
   have it2 : IntKind.i64.wrap (h.term + 1 + u) = h.term + 1 + u := IntWalk.i64_in _ (by have := HRi.out.t0; have := HRi.out.t1; omega)
   have hld1 := load_row (P := Tryz.prog) (o := 0) (cs := h.cells (.slice As sl cs) (.slice Al ll cl)) str_hard HA1.out rfl (fun j u hu => by rw [Nat.zero_add]; exact hu)
   clear hu hv8
   go_wp2_with (refine wpList_ld rfl 34 _ rfl _ _ rfl hld1 ?_)
   clear hld1
   refine (k_twinHard w1 T h _ _ Hv1.out (by rw [Hll.out]; exact hl) (by have := HRi.out.s; omega)).mono ?_
   rintro e w2 ⟨sv3, lv3, rfl, hN3, hE⟩
   have HA2 := Lib.hid (hE.blk HA1.out id)
   have HB2 := Lib.hid (hE.blk HB1.out id)
   have HC2 := Lib.hid (hE.blk HC1.out id)
   have HX2 := Lib.hid (HX1.out.ext hE)
   obtain ⟨A3, c3, A4, c4, rfl, rfl⟩ := hN3.forms
   have hN3' := hN3.up HX1.out
   rw [Hsn.out, Hll.out] at hN3' ⊢
   have HN2 := Lib.hid hN3'
   obtain ⟨g, hg⟩ : ∃ g, w2.heap.size = g := ⟨_, rfl⟩
   have hz : (w2.alloc (.cells #[.int .i64 0, .int .i64 0, .int .i64 0, .int .i64 0, .int .i64 0, .int .i64 0, .int .i64 0, .int .i64 0, .slice none 0 0, .slice none 0 0] 34)).heap[g]? = some (.cells #[.int .i64 0, .int .i64 0, .int .i64 0, .int .i64 0, .int .i64 0, .int .i64 0, .int .i64 0, .int .i64 0, .slice none 0 0, .slice none 0 0] 34 (0, 0)) := by rw [← hg]; exact heap_alloc_new w2 _
   have Hg := Lib.hid hg
   have hbg : b + 2 < g := by have h1 := (Array.getElem?_eq_some_iff.1 HC2.out).1; omega
   clear hE hN3 hN3' hg a0
   go_wp2_with (rw [Hg.out]; refine wpList_stR rfl 34 _ _ rfl 10 g 0 (h.cells (.slice A3 sl c3) (.slice A4 ll c4)) rfl rfl str_hard _ [.int .i64 0, .int .i64 0, .int .i64 0, .int .i64 0, .int .i64 0, .int .i64 0, .int .i64 0, .int .i64 0, .slice none 0 0, .slice none 0 0] (h.cells (.slice A3 sl c3) (.slice A4 ll c4)) hz rfl (by simp) (h_one _ _ _ _ _ _ _) rfl ?_)
   intro w3 hb3 hm3 hs3
   have hE : Ext w2 w3 := ((Mod.refl (fun _ => False) w2).alloc (.cells #[.int .i64 0, .int .i64 0, .int .i64 0, .int .i64 0, .int .i64 0, .int .i64 0, .int .i64 0, .int .i64 0, .slice none 0 0, .slice none 0 0] 34)).trans hm3 (fun k hk e => by have := Hg.out; omega)
   have HA3 := Lib.hid (hE.blk HA2.out id)
   have HB3 := Lib.hid (hE.blk HB2.out id)
   have HC3 := Lib.hid (hE.blk HC2.out id)
   have HX3 := Lib.hid (HX2.out.ext hE)
   have HGw3 := Lib.hid hb3
   have HN3 := Lib.hid (HN2.out.ext hE)
   have x0 : w3.cell? ⟨b, 0, none⟩ = some (.int .i64 h.term) := blk_cell (cs := [.int .i64 h.term, .int .i64 h.vote, .int .i64 h.base, .int .i64 h.baseTerm, .int .i64 h.conf.full, .int .i64 h.conf.wit, .int .i64 h.conf.learn, .int .i64 h.conf.learnWit, .slice As sl cs, .slice Al ll cl]) HA3.out rfl
   have x1 : w3.cell? ⟨b + 1, 1, none⟩ = some (.int .i64 n) := blk_cell (cs := [.int .i64 d, .int .i64 n, .int .i64 kp, .int .i64 ah.term, .int .i64 ah.vote, .int .i64 ah.base, .int .i64 ah.baseTerm, .int .i64 ah.conf.full, .int .i64 ah.conf.wit, .int .i64 ah.conf.learn, .int .i64 ah.conf.learnWit, sv, lv, .slice Bl gg bl, .slice Cl gc cc]) HB3.out rfl
   have x2 : w3.cell? ⟨b + 1, 2, none⟩ = some (.int .i64 kp) := blk_cell (cs := [.int .i64 d, .int .i64 n, .int .i64 kp, .int .i64 ah.term, .int .i64 ah.vote, .int .i64 ah.base, .int .i64 ah.baseTerm, .int .i64 ah.conf.full, .int .i64 ah.conf.wit, .int .i64 ah.conf.learn, .int .i64 ah.conf.learnWit, sv, lv, .slice Bl gg bl, .slice Cl gc cc]) HB3.out rfl
   have HAw3 := HA3
   have HBw3 := HB3
   have HCw3 := HC3
   have HXw3 := HX3
   have HNw3 := HN3
   have n1 : ¬ b + 1 = g := by omega
   have n2 : ¬ b = g := by omega
   clear hE hb3 hm3 hs3 hz c0 a1 a2
   have f1 : w3.frozen? ⟨g, 1, none⟩ = false := blk_free 1 HGw3.out
   have d1 : w3.cell? ⟨g, 1, none⟩ = some _ := blk_cell (cs := [.int .i64 (h.term), .int .i64 h.vote, .int .i64 h.base, .int .i64 h.baseTerm, .int .i64 h.conf.full, .int .i64 h.conf.wit, .int .i64 h.conf.learn, .int .i64 h.conf.learnWit, .slice A3 sl c3, .slice A4 ll c4]) HGw3.out rfl
   obtain ⟨w5, hwn⟩ : ∃ wn, w3.setCell ⟨g, 1, none⟩ (.int .i64 (v - 1)) = wn := ⟨_, rfl⟩
   have HGw5 : Hid (w5.heap[g]? = some (.cells #[.int .i64 (h.term), .int .i64 (v - 1), .int .i64 h.base, .int .i64 h.baseTerm, .int .i64 h.conf.full, .int .i64 h.conf.wit, .int .i64 h.conf.learn, .int .i64 h.conf.learnWit, .slice A3 sl c3, .slice A4 ll c4] 34 (0, 0))) := Lib.hid (by rw [← hwn]; simp [World.setCell, Array.getElem?_modify, HGw3.out])
   have HMw5 : Hid (Mod (fun k => k = g) w3 w5) := Lib.hid (by rw [← hwn]; exact mod_same (Mod.refl _ w3) _ _)
   have Hww5 := Lib.hid hwn
   clear hwn
   have HAw5 := Lib.hid (HMw5.out.blk HAw3.out (by omega))
   have HBw5 := Lib.hid (HMw5.out.blk HBw3.out (by omega))
   have HCw5 := Lib.hid (HMw5.out.blk HCw3.out (by omega))
   have HXw5 : Hid (Ext w w5) := Lib.hid (HXw3.out.trans HMw5.out (fun k hk e => by have := Hb.out; omega))
   have HNw5 : Hid (NewH w w5 (.slice A3 sl c3) (.slice A4 ll c4) h) := Lib.hid (NewH.box HNw3.out HGw3.out HMw5.out (by decide) (by decide))
   have HRs : Hid (R = { h with term := h.term, vote := v - 1 }) := Lib.hid (by rw [← HR.out]; unfold nextP; simp only [Hq.out, Hu.out, Hv8.out, if_true]; rw [if_neg (by omega)])
   have hldz := load_row (P := Tryz.prog) (o := 0) (cs := [.int .i64 (h.term), .int .i64 (v - 1), .int .i64 h.base, .int .i64 h.baseTerm, .int .i64 h.conf.full, .int .i64 h.conf.wit, .int .i64 h.conf.learn, .int .i64 h.conf.learnWit, .slice A3 sl c3, .slice A4 ll c4]) str_hard HGw5.out rfl (fun j u hu => by rw [Nat.zero_add]; exact hu)
   go_wp2_with (first | (rw [Hww5.out]; refine wpList_ld rfl 34 _ rfl _ _ rfl hldz ?_) | (rw [Hww4.out, Hww5.out]; refine wpList_ld rfl 34 _ rfl _ _ rfl hldz ?_) | (refine wpList_stR rfl 34 _ _ rfl 10 (b + 2) 0 [.int .i64 (h.term), .int .i64 (v - 1), .int .i64 h.base, .int .i64 h.baseTerm, .int .i64 h.conf.full, .int .i64 h.conf.wit, .int .i64 h.conf.learn, .int .i64 h.conf.learnWit, .slice A3 sl c3, .slice A4 ll c4] rfl rfl str_hard _ [.int .i64 0, .int .i64 0, .int .i64 0, .int .i64 0, .int .i64 0, .int .i64 0, .int .i64 0, .int .i64 0, .slice none 0 0, .slice none 0 0] [.int .i64 (h.term), .int .i64 (v - 1), .int .i64 h.base, .int .i64 h.baseTerm, .int .i64 h.conf.full, .int .i64 h.conf.wit, .int .i64 h.conf.learn, .int .i64 h.conf.learnWit, .slice A3 sl c3, .slice A4 ll c4] HCw5.out rfl (by simp) (List.all_eq_true.1 rfl) rfl ?_))
   intro wz hbz hmz hsz
   have HXz : Hid (Ext w wz) := Lib.hid (HXw5.out.trans hmz (fun k hk e => by have := Hb.out; omega))
   have HF : Hid (NextO w T R (.returned (.agg #[.int .i64 (h.term), .int .i64 (v - 1), .int .i64 h.base, .int .i64 h.baseTerm, .int .i64 h.conf.full, .int .i64 h.conf.wit, .int .i64 h.conf.learn, .int .i64 h.conf.learnWit, .slice A3 sl c3, .slice A4 ll c4])) wz) := Lib.hid (by rw [HRs.out]; exact ⟨_, _, rfl, HardM.mono (NewH.mem (NewH.box HNw5.out HCw5.out hmz (by decide) (by decide))) (fun k hk => .inr (by rcases hk with e | e; exact HNw5.out.1.2 k e; exact HNw5.out.2.2.2 k e)), HXz.out⟩)
   clear hmz hsz
   go_wp2_with fail
   exact bodyPost_ret (results_cell_row rfl _ _ _ _ _ (0, 0) _ rfl hbz Tryz.underlying34 rfl (by kernel_rfl)) rfl HF.out
 by_cases e12 : q = 1 ∨ q = 2
 ·
  have HRk : Hid (R = (putP h (max (li - um n 4) h.base) l).getD h) := Lib.hid (by rw [← HR.out, ← Hli.out]; unfold nextP; simp only [Hq.out]; rw [if_neg e0, if_pos e12])
  have hu0 : (IntKind.u64.wrap n).tmod 4 = um n 4 := um_walk n 4
  obtain ⟨u, hu⟩ : ∃ u, um n 4 = u := ⟨_, rfl⟩
  have hu4 := um_lt n (m := 4) (by decide)
  rw [hu] at hu0 hu4 HRk
  have iu : wrap64 u = u := IntWalk.wrap64_in _ (by omega)
  have il : wrap64 (li - u) = li - u := IntWalk.wrap64_in _ (by have := Hli.out; unfold lastI at this; have := Hll.out; have := HRi.out.b0; have := HRi.out.b1; omega)
  have hld1 := load_row (P := Tryz.prog) (o := 0) (cs := h.cells (.slice As sl cs) (.slice Al ll cl)) str_hard HA1.out rfl (fun j u hu => by rw [Nat.zero_add]; exact hu)
  clear hu hq9 c0 a2 a14
  obtain ⟨kx, hkx⟩ : ∃ kx, wrap64 (li - u) = kx := ⟨_, rfl⟩
  rw [hkx] at il
  rw [← il] at HRk
  have Hkx := Lib.hid il
  clear il
  rcases e12 with rfl | rfl
  all_goals
   by_cases hm : kx < h.base
   ·
    have HRm : Hid (R = (putP h h.base l).getD h) := Lib.hid (by rw [HRk.out, show max kx h.base = h.base by omega])
    go_wp2_with (refine wpList_ld rfl 34 _ rfl _ _ rfl hld1 ?_)
    clear hld1
    refine (r8_put w1 T T h As sl cs Al ll cl (h.base) Bl gg bl l Hv1.out Hsn.out Hll.out (HL.out.mod HX1.out (fun _ _ => id)) Hgg.out HRi.out hl hg).mono ?_
    rintro e w2 hP
    unfold PutO at hP
    obtain ⟨hE, hP⟩ := hP
    have HA2 := Lib.hid (hE.blk HA1.out id)
    have HB2 := Lib.hid (hE.blk HB1.out id)
    have HC2 := Lib.hid (hE.blk HC1.out id)
    have HX2 := Lib.hid (HX1.out.ext hE)
    obtain ⟨g, hg⟩ : ∃ g, w2.heap.size = g := ⟨_, rfl⟩
    have hz : (w2.alloc (.cells #[.int .i64 0, .int .i64 0, .int .i64 0, .int .i64 0, .int .i64 0, .int .i64 0, .int .i64 0, .int .i64 0, .slice none 0 0, .slice none 0 0] 34)).heap[g]? = some (.cells #[.int .i64 0, .int .i64 0, .int .i64 0, .int .i64 0, .int .i64 0, .int .i64 0, .int .i64 0, .int .i64 0, .slice none 0 0, .slice none 0 0] 34 (0, 0)) := by rw [← hg]; exact heap_alloc_new w2 _
    have Hg := Lib.hid hg
    have hbg : b + 2 < g := by have h1 := (Array.getElem?_eq_some_iff.1 HC2.out).1; omega
    clear hE hg a0
    rcases hpp : putP h (h.base) l with _ | x
    ·
     rw [hpp] at hP
     obtain ⟨cd, hcd, rfl⟩ := hP
     have HRr : Hid (R = h) := Lib.hid (by rw [HRm.out, hpp]; rfl)
     have dcd : (cd == 0) = false := by simpa using hcd
     clear hcd hpp
     go_wp2_with (rw [Hg.out]; refine wpList_stR rfl 34 _ _ rfl 10 g 0 [.int .i64 0, .int .i64 0, .int .i64 0, .int .i64 0, .int .i64 0, .int .i64 0, .int .i64 0, .int .i64 0, .slice none 0 0, .slice none 0 0] rfl rfl str_hard _ [.int .i64 0, .int .i64 0, .int .i64 0, .int .i64 0, .int .i64 0, .int .i64 0, .int .i64 0, .int .i64 0, .slice none 0 0, .slice none 0 0] [.int .i64 0, .int .i64 0, .int .i64 0, .int .i64 0, .int .i64 0, .int .i64 0, .int .i64 0, .int .i64 0, .slice none 0 0, .slice none 0 0] hz rfl (by simp) (List.all_eq_true.1 rfl) rfl ?_)
     intro w3 hb3 hm3 hs3
     have hE : Ext w2 w3 := ((Mod.refl (fun _ => False) w2).alloc (.cells #[.int .i64 0, .int .i64 0, .int .i64 0, .int .i64 0, .int .i64 0, .int .i64 0, .int .i64 0, .int .i64 0, .slice none 0 0, .slice none 0 0] 34)).trans hm3 (fun k hk e => by have := Hg.out; omega)
     have HA3 := Lib.hid (hE.blk HA2.out id)
     have HB3 := Lib.hid (hE.blk HB2.out id)
     have HC3 := Lib.hid (hE.blk HC2.out id)
     have HX3 := Lib.hid (HX2.out.ext hE)
     clear hE hb3 hm3 hs3 hz
     have HF0 := HRr
     have hldz := load_row (P := Tryz.prog) (o := 0) (cs := h.cells (.slice As sl cs) (.slice Al ll cl)) str_hard HA3.out rfl (fun j u hu => by rw [Nat.zero_add]; exact hu)
     go_wp2_with (first | (refine wpList_ld rfl 34 _ rfl _ _ rfl hldz ?_) | (refine wpList_stR rfl 34 _ _ rfl 10 (b + 2) 0 (h.cells (.slice As sl cs) (.slice Al ll cl)) rfl rfl str_hard _ [.int .i64 0, .int .i64 0, .int .i64 0, .int .i64 0, .int .i64 0, .int .i64 0, .int .i64 0, .int .i64 0, .slice none 0 0, .slice none 0 0] (h.cells (.slice As sl cs) (.slice Al ll cl)) HC3.out rfl (by simp) (h_one _ _ _ _ _ _ _) rfl ?_))
     intro wz hbz hmz hsz
     have HXz : Hid (Ext w wz) := Lib.hid (HX3.out.trans hmz (fun k hk e => by have := Hb.out; omega))
     have HF : Hid (NextO w T R (.returned (.agg #[.int .i64 h.term, .int .i64 h.vote, .int .i64 h.base, .int .i64 h.baseTerm, .int .i64 h.conf.full, .int .i64 h.conf.wit, .int .i64 h.conf.learn, .int .i64 h.conf.learnWit, .slice As sl cs, .slice Al ll cl])) wz) := Lib.hid (by rw [HF0.out]; exact ⟨_, _, rfl, (Hv.out.mod HXz.out (fun _ _ => id)).mono (fun k hk => .inl hk), HXz.out⟩)
     clear hldz
     clear hmz hsz
     go_wp2_with fail
     exact bodyPost_ret (results_cell_row rfl _ _ _ _ _ (0, 0) _ rfl hbz Tryz.underlying34 rfl (by kernel_rfl)) rfl HF.out
    ·
     rw [hpp] at hP
     obtain ⟨sx, lx, rfl, hN⟩ := hP
     have HRr : Hid (R = x) := Lib.hid (by rw [HRm.out, hpp]; rfl)
     have honex := cells_one hN
     have HN2 := Lib.hid (hN.up HX1.out)
     clear hN hpp
     go_wp2_with (rw [Hg.out]; refine wpList_stR rfl 34 _ _ rfl 10 g 0 (x.cells sx lx) rfl rfl str_hard _ [.int .i64 0, .int .i64 0, .int .i64 0, .int .i64 0, .int .i64 0, .int .i64 0, .int .i64 0, .int .i64 0, .slice none 0 0, .slice none 0 0] (x.cells sx lx) hz rfl (by simp) honex rfl ?_)
     intro w3 hb3 hm3 hs3
     have hE : Ext w2 w3 := ((Mod.refl (fun _ => False) w2).alloc (.cells #[.int .i64 0, .int .i64 0, .int .i64 0, .int .i64 0, .int .i64 0, .int .i64 0, .int .i64 0, .int .i64 0, .slice none 0 0, .slice none 0 0] 34)).trans hm3 (fun k hk e => by have := Hg.out; omega)
     have HA3 := Lib.hid (hE.blk HA2.out id)
     have HB3 := Lib.hid (hE.blk HB2.out id)
     have HC3 := Lib.hid (hE.blk HC2.out id)
     have HX3 := Lib.hid (HX2.out.ext hE)
     have HN3 := Lib.hid (HN2.out.ext hE)
     have HG3 := Lib.hid hb3
     clear hE hb3 hm3 hs3 hz
     have hldz := load_row (P := Tryz.prog) (o := 0) (cs := x.cells sx lx) str_hard HG3.out rfl (fun j u hu => by rw [Nat.zero_add]; exact hu)
     go_wp2_with (first | (refine wpList_ld rfl 34 _ rfl _ _ rfl hldz ?_) | (refine wpList_stR rfl 34 _ _ rfl 10 (b + 2) 0 (x.cells sx lx) rfl rfl str_hard _ [.int .i64 0, .int .i64 0, .int .i64 0, .int .i64 0, .int .i64 0, .int .i64 0, .int .i64 0, .int .i64 0, .slice none 0 0, .slice none 0 0] (x.cells sx lx) HC3.out rfl (by simp) honex rfl ?_))
     intro wz hbz hmz hsz
     have HXz : Hid (Ext w wz) := Lib.hid (HX3.out.trans hmz (fun k hk e => by have := Hb.out; omega))
     have HF : Hid (NextO w T R (.returned (.agg (x.cells sx lx).toArray)) wz) := Lib.hid (by rw [HRr.out]; exact ⟨_, _, rfl, HardM.mono (NewH.mem (NewH.box HN3.out HC3.out hmz (by decide) (by decide))) (fun k hk => .inr (by rcases hk with e | e; exact HN3.out.1.2 k e; exact HN3.out.2.2.2 k e)), HXz.out⟩)
     clear hldz
     clear hmz hsz
     go_wp2_with fail
     exact bodyPost_ret (results_cell_row rfl _ _ _ _ _ (0, 0) _ rfl hbz Tryz.underlying34 rfl (by kernel_rfl)) rfl HF.out
   ·
    have HRm : Hid (R = (putP h kx l).getD h) := Lib.hid (by rw [HRk.out, show max kx h.base = kx by omega])
    go_wp2_with (refine wpList_ld rfl 34 _ rfl _ _ rfl hld1 ?_)
    clear hld1
    refine (r8_put w1 T T h As sl cs Al ll cl (kx) Bl gg bl l Hv1.out Hsn.out Hll.out (HL.out.mod HX1.out (fun _ _ => id)) Hgg.out HRi.out hl hg).mono ?_
    rintro e w2 hP
    unfold PutO at hP
    obtain ⟨hE, hP⟩ := hP
    have HA2 := Lib.hid (hE.blk HA1.out id)
    have HB2 := Lib.hid (hE.blk HB1.out id)
    have HC2 := Lib.hid (hE.blk HC1.out id)
    have HX2 := Lib.hid (HX1.out.ext hE)
    obtain ⟨g, hg⟩ : ∃ g, w2.heap.size = g := ⟨_, rfl⟩
    have hz : (w2.alloc (.cells #[.int .i64 0, .int .i64 0, .int .i64 0, .int .i64 0, .int .i64 0, .int .i64 0, .int .i64 0, .int .i64 0, .slice none 0 0, .slice none 0 0] 34)).heap[g]? = some (.cells #[.int .i64 0, .int .i64 0, .int .i64 0, .int .i64 0, .int .i64 0, .int .i64 0, .int .i64 0, .int .i64 0, .slice none 0 0, .slice none 0 0] 34 (0, 0)) := by rw [← hg]; exact heap_alloc_new w2 _
    have Hg := Lib.hid hg
    have hbg : b + 2 < g := by have h1 := (Array.getElem?_eq_some_iff.1 HC2.out).1; omega
    clear hE hg a0
    rcases hpp : putP h (kx) l with _ | x
    ·
     rw [hpp] at hP
     obtain ⟨cd, hcd, rfl⟩ := hP
     have HRr : Hid (R = h) := Lib.hid (by rw [HRm.out, hpp]; rfl)
     have dcd : (cd == 0) = false := by simpa using hcd
     clear hcd hpp
     go_wp2_with (rw [Hg.out]; refine wpList_stR rfl 34 _ _ rfl 10 g 0 [.int .i64 0, .int .i64 0, .int .i64 0, .int .i64 0, .int .i64 0, .int .i64 0, .int .i64 0, .int .i64 0, .slice none 0 0, .slice none 0 0] rfl rfl str_hard _ [.int .i64 0, .int .i64 0, .int .i64 0, .int .i64 0, .int .i64 0, .int .i64 0, .int .i64 0, .int .i64 0, .slice none 0 0, .slice none 0 0] [.int .i64 0, .int .i64 0, .int .i64 0, .int .i64 0, .int .i64 0, .int .i64 0, .int .i64 0, .int .i64 0, .slice none 0 0, .slice none 0 0] hz rfl (by simp) (List.all_eq_true.1 rfl) rfl ?_)
     intro w3 hb3 hm3 hs3
     have hE : Ext w2 w3 := ((Mod.refl (fun _ => False) w2).alloc (.cells #[.int .i64 0, .int .i64 0, .int .i64 0, .int .i64 0, .int .i64 0, .int .i64 0, .int .i64 0, .int .i64 0, .slice none 0 0, .slice none 0 0] 34)).trans hm3 (fun k hk e => by have := Hg.out; omega)
     have HA3 := Lib.hid (hE.blk HA2.out id)
     have HB3 := Lib.hid (hE.blk HB2.out id)
     have HC3 := Lib.hid (hE.blk HC2.out id)
     have HX3 := Lib.hid (HX2.out.ext hE)
     clear hE hb3 hm3 hs3 hz
     have HF0 := HRr
     have hldz := load_row (P := Tryz.prog) (o := 0) (cs := h.cells (.slice As sl cs) (.slice Al ll cl)) str_hard HA3.out rfl (fun j u hu => by rw [Nat.zero_add]; exact hu)
     go_wp2_with (first | (refine wpList_ld rfl 34 _ rfl _ _ rfl hldz ?_) | (refine wpList_stR rfl 34 _ _ rfl 10 (b + 2) 0 (h.cells (.slice As sl cs) (.slice Al ll cl)) rfl rfl str_hard _ [.int .i64 0, .int .i64 0, .int .i64 0, .int .i64 0, .int .i64 0, .int .i64 0, .int .i64 0, .int .i64 0, .slice none 0 0, .slice none 0 0] (h.cells (.slice As sl cs) (.slice Al ll cl)) HC3.out rfl (by simp) (h_one _ _ _ _ _ _ _) rfl ?_))
     intro wz hbz hmz hsz
     have HXz : Hid (Ext w wz) := Lib.hid (HX3.out.trans hmz (fun k hk e => by have := Hb.out; omega))
     have HF : Hid (NextO w T R (.returned (.agg #[.int .i64 h.term, .int .i64 h.vote, .int .i64 h.base, .int .i64 h.baseTerm, .int .i64 h.conf.full, .int .i64 h.conf.wit, .int .i64 h.conf.learn, .int .i64 h.conf.learnWit, .slice As sl cs, .slice Al ll cl])) wz) := Lib.hid (by rw [HF0.out]; exact ⟨_, _, rfl, (Hv.out.mod HXz.out (fun _ _ => id)).mono (fun k hk => .inl hk), HXz.out⟩)
     clear hldz
     clear hmz hsz
     go_wp2_with fail
     exact bodyPost_ret (results_cell_row rfl _ _ _ _ _ (0, 0) _ rfl hbz Tryz.underlying34 rfl (by kernel_rfl)) rfl HF.out
    ·
     rw [hpp] at hP
     obtain ⟨sx, lx, rfl, hN⟩ := hP
     have HRr : Hid (R = x) := Lib.hid (by rw [HRm.out, hpp]; rfl)
     have honex := cells_one hN
     have HN2 := Lib.hid (hN.up HX1.out)
     clear hN hpp
     go_wp2_with (rw [Hg.out]; refine wpList_stR rfl 34 _ _ rfl 10 g 0 (x.cells sx lx) rfl rfl str_hard _ [.int .i64 0, .int .i64 0, .int .i64 0, .int .i64 0, .int .i64 0, .int .i64 0, .int .i64 0, .int .i64 0, .slice none 0 0, .slice none 0 0] (x.cells sx lx) hz rfl (by simp) honex rfl ?_)
     intro w3 hb3 hm3 hs3
     have hE : Ext w2 w3 := ((Mod.refl (fun _ => False) w2).alloc (.cells #[.int .i64 0, .int .i64 0, .int .i64 0, .int .i64 0, .int .i64 0, .int .i64 0, .int .i64 0, .int .i64 0, .slice none 0 0, .slice none 0 0] 34)).trans hm3 (fun k hk e => by have := Hg.out; omega)
     have HA3 := Lib.hid (hE.blk HA2.out id)
     have HB3 := Lib.hid (hE.blk HB2.out id)
     have HC3 := Lib.hid (hE.blk HC2.out id)
     have HX3 := Lib.hid (HX2.out.ext hE)
     have HN3 := Lib.hid (HN2.out.ext hE)
     have HG3 := Lib.hid hb3
     clear hE hb3 hm3 hs3 hz
     have hldz := load_row (P := Tryz.prog) (o := 0) (cs := x.cells sx lx) str_hard HG3.out rfl (fun j u hu => by rw [Nat.zero_add]; exact hu)
     go_wp2_with (first | (refine wpList_ld rfl 34 _ rfl _ _ rfl hldz ?_) | (refine wpList_stR rfl 34 _ _ rfl 10 (b + 2) 0 (x.cells sx lx) rfl rfl str_hard _ [.int .i64 0, .int .i64 0, .int .i64 0, .int .i64 0, .int .i64 0, .int .i64 0, .int .i64 0, .int .i64 0, .slice none 0 0, .slice none 0 0] (x.cells sx lx) HC3.out rfl (by simp) honex rfl ?_))
     intro wz hbz hmz hsz
     have HXz : Hid (Ext w wz) := Lib.hid (HX3.out.trans hmz (fun k hk e => by have := Hb.out; omega))
     have HF : Hid (NextO w T R (.returned (.agg (x.cells sx lx).toArray)) wz) := Lib.hid (by rw [HRr.out]; exact ⟨_, _, rfl, HardM.mono (NewH.mem (NewH.box HN3.out HC3.out hmz (by decide) (by decide))) (fun k hk => .inr (by rcases hk with e | e; exact HN3.out.1.2 k e; exact HN3.out.2.2.2 k e)), HXz.out⟩)
     clear hldz
     clear hmz hsz
     go_wp2_with fail
     exact bodyPost_ret (results_cell_row rfl _ _ _ _ _ (0, 0) _ rfl hbz Tryz.underlying34 rfl (by kernel_rfl)) rfl HF.out
 by_cases e3 : q = 3
 ·
  have HRk : Hid (R = (compP h (li - um n 3) bs).getD h) := Lib.hid (by rw [← HR.out, ← Hli.out]; unfold nextP; simp only [Hq.out]; rw [if_neg e0, if_neg e12, if_pos e3])
  have hu0 : (IntKind.u64.wrap n).tmod 3 = um n 3 := um_walk n 3
  obtain ⟨u, hu⟩ : ∃ u, um n 3 = u := ⟨_, rfl⟩
  have hu4 := um_lt n (m := 3) (by decide)
  rw [hu] at hu0 hu4 HRk
  have iu : wrap64 u = u := IntWalk.wrap64_in _ (by omega)
  have il : wrap64 (li - u) = li - u := IntWalk.wrap64_in _ (by have := Hli.out; unfold lastI at this; have := Hll.out; have := HRi.out.b0; have := HRi.out.b1; omega)
  have hld1 := load_row (P := Tryz.prog) (o := 0) (cs := h.cells (.slice As sl cs) (.slice Al ll cl)) str_hard HA1.out rfl (fun j u hu => by rw [Nat.zero_add]; exact hu)
  clear hu hq9 c0 a2 a13 c2
  obtain ⟨kx, hkx⟩ : ∃ kx, wrap64 (li - u) = kx := ⟨_, rfl⟩
  rw [hkx] at il
  rw [← il] at HRk
  have HRm := HRk
  have Hkx := Lib.hid il
  clear il
  subst e3
  go_wp2_with (refine wpList_ld rfl 34 _ rfl _ _ rfl hld1 ?_)
  clear hld1
  refine (r8_compact w1 T T h As sl cs Al ll cl kx Cl gc cc bs Hv1.out Hsn.out Hll.out (HBs.out.mod HX1.out (fun _ _ => id)) Hgc.out HRi.out hl hc).mono ?_
  rintro e w2 hP
  unfold PutO at hP
  obtain ⟨hE, hP⟩ := hP
  have HA2 := Lib.hid (hE.blk HA1.out id)
  have HB2 := Lib.hid (hE.blk HB1.out id)
  have HC2 := Lib.hid (hE.blk HC1.out id)
  have HX2 := Lib.hid (HX1.out.ext hE)
  obtain ⟨g, hg⟩ : ∃ g, w2.heap.size = g := ⟨_, rfl⟩
  have hz : (w2.alloc (.cells #[.int .i64 0, .int .i64 0, .int .i64 0, .int .i64 0, .int .i64 0, .int .i64 0, .int .i64 0, .int .i64 0, .slice none 0 0, .slice none 0 0] 34)).heap[g]? = some (.cells #[.int .i64 0, .int .i64 0, .int .i64 0, .int .i64 0, .int .i64 0, .int .i64 0, .int .i64 0, .int .i64 0, .slice none 0 0, .slice none 0 0] 34 (0, 0)) := by rw [← hg]; exact heap_alloc_new w2 _
  have Hg := Lib.hid hg
  have hbg : b + 2 < g := by have h1 := (Array.getElem?_eq_some_iff.1 HC2.out).1; omega
  clear hE hg a0
  rcases hpp : compP h kx bs with _ | x
  ·
   rw [hpp] at hP
   obtain ⟨cd, hcd, rfl⟩ := hP
   have HRr : Hid (R = h) := Lib.hid (by rw [HRm.out, hpp]; rfl)
   have dcd : (cd == 0) = false := by simpa using hcd
   clear hcd hpp
   go_wp2_with (rw [Hg.out]; refine wpList_stR rfl 34 _ _ rfl 10 g 0 [.int .i64 0, .int .i64 0, .int .i64 0, .int .i64 0, .int .i64 0, .int .i64 0, .int .i64 0, .int .i64 0, .slice none 0 0, .slice none 0 0] rfl rfl str_hard _ [.int .i64 0, .int .i64 0, .int .i64 0, .int .i64 0, .int .i64 0, .int .i64 0, .int .i64 0, .int .i64 0, .slice none 0 0, .slice none 0 0] [.int .i64 0, .int .i64 0, .int .i64 0, .int .i64 0, .int .i64 0, .int .i64 0, .int .i64 0, .int .i64 0, .slice none 0 0, .slice none 0 0] hz rfl (by simp) (List.all_eq_true.1 rfl) rfl ?_)
   intro w3 hb3 hm3 hs3
   have hE : Ext w2 w3 := ((Mod.refl (fun _ => False) w2).alloc (.cells #[.int .i64 0, .int .i64 0, .int .i64 0, .int .i64 0, .int .i64 0, .int .i64 0, .int .i64 0, .int .i64 0, .slice none 0 0, .slice none 0 0] 34)).trans hm3 (fun k hk e => by have := Hg.out; omega)
   have HA3 := Lib.hid (hE.blk HA2.out id)
   have HB3 := Lib.hid (hE.blk HB2.out id)
   have HC3 := Lib.hid (hE.blk HC2.out id)
   have HX3 := Lib.hid (HX2.out.ext hE)
   clear hE hb3 hm3 hs3 hz
   have HF0 := HRr
   have hldz := load_row (P := Tryz.prog) (o := 0) (cs := h.cells (.slice As sl cs) (.slice Al ll cl)) str_hard HA3.out rfl (fun j u hu => by rw [Nat.zero_add]; exact hu)
   go_wp2_with (first | (refine wpList_ld rfl 34 _ rfl _ _ rfl hldz ?_) | (refine wpList_stR rfl 34 _ _ rfl 10 (b + 2) 0 (h.cells (.slice As sl cs) (.slice Al ll cl)) rfl rfl str_hard _ [.int .i64 0, .int .i64 0, .int .i64 0, .int .i64 0, .int .i64 0, .int .i64 0, .int .i64 0, .int .i64 0, .slice none 0 0, .slice none 0 0] (h.cells (.slice As sl cs) (.slice Al ll cl)) HC3.out rfl (by simp) (h_one _ _ _ _ _ _ _) rfl ?_))
   intro wz hbz hmz hsz
   have HXz : Hid (Ext w wz) := Lib.hid (HX3.out.trans hmz (fun k hk e => by have := Hb.out; omega))
   have HF : Hid (NextO w T R (.returned (.agg #[.int .i64 h.term, .int .i64 h.vote, .int .i64 h.base, .int .i64 h.baseTerm, .int .i64 h.conf.full, .int .i64 h.conf.wit, .int .i64 h.conf.learn, .int .i64 h.conf.learnWit, .slice As sl cs, .slice Al ll cl])) wz) := Lib.hid (by rw [HF0.out]; exact ⟨_, _, rfl, (Hv.out.mod HXz.out (fun _ _ => id)).mono (fun k hk => .inl hk), HXz.out⟩)
   clear hldz
   clear hmz hsz
   go_wp2_with fail
   exact bodyPost_ret (results_cell_row rfl _ _ _ _ _ (0, 0) _ rfl hbz Tryz.underlying34 rfl (by kernel_rfl)) rfl HF.out
  ·
   rw [hpp] at hP
   obtain ⟨sx, lx, rfl, hN⟩ := hP
   have HRr : Hid (R = x) := Lib.hid (by rw [HRm.out, hpp]; rfl)
   have honex := cells_one hN
   have HN2 := Lib.hid (hN.up HX1.out)
   clear hN hpp
   go_wp2_with (rw [Hg.out]; refine wpList_stR rfl 34 _ _ rfl 10 g 0 (x.cells sx lx) rfl rfl str_hard _ [.int .i64 0, .int .i64 0, .int .i64 0, .int .i64 0, .int .i64 0, .int .i64 0, .int .i64 0, .int .i64 0, .slice none 0 0, .slice none 0 0] (x.cells sx lx) hz rfl (by simp) honex rfl ?_)
   intro w3 hb3 hm3 hs3
   have hE : Ext w2 w3 := ((Mod.refl (fun _ => False) w2).alloc (.cells #[.int .i64 0, .int .i64 0, .int .i64 0, .int .i64 0, .int .i64 0, .int .i64 0, .int .i64 0, .int .i64 0, .slice none 0 0, .slice none 0 0] 34)).trans hm3 (fun k hk e => by have := Hg.out; omega)
   have HA3 := Lib.hid (hE.blk HA2.out id)
   have HB3 := Lib.hid (hE.blk HB2.out id)
   have HC3 := Lib.hid (hE.blk HC2.out id)
   have HX3 := Lib.hid (HX2.out.ext hE)
   have HN3 := Lib.hid (HN2.out.ext hE)
   have HG3 := Lib.hid hb3
   clear hE hb3 hm3 hs3 hz
   have hldz := load_row (P := Tryz.prog) (o := 0) (cs := x.cells sx lx) str_hard HG3.out rfl (fun j u hu => by rw [Nat.zero_add]; exact hu)
   go_wp2_with (first | (refine wpList_ld rfl 34 _ rfl _ _ rfl hldz ?_) | (refine wpList_stR rfl 34 _ _ rfl 10 (b + 2) 0 (x.cells sx lx) rfl rfl str_hard _ [.int .i64 0, .int .i64 0, .int .i64 0, .int .i64 0, .int .i64 0, .int .i64 0, .int .i64 0, .int .i64 0, .slice none 0 0, .slice none 0 0] (x.cells sx lx) HC3.out rfl (by simp) honex rfl ?_))
   intro wz hbz hmz hsz
   have HXz : Hid (Ext w wz) := Lib.hid (HX3.out.trans hmz (fun k hk e => by have := Hb.out; omega))
   have HF : Hid (NextO w T R (.returned (.agg (x.cells sx lx).toArray)) wz) := Lib.hid (by rw [HRr.out]; exact ⟨_, _, rfl, HardM.mono (NewH.mem (NewH.box HN3.out HC3.out hmz (by decide) (by decide))) (fun k hk => .inr (by rcases hk with e | e; exact HN3.out.1.2 k e; exact HN3.out.2.2.2 k e)), HXz.out⟩)
   clear hldz
   clear hmz hsz
   go_wp2_with fail
   exact bodyPost_ret (results_cell_row rfl _ _ _ _ _ (0, 0) _ rfl hbz Tryz.underlying34 rfl (by kernel_rfl)) rfl HF.out
 have hq3 : ¬ (q = 1) ∧ ¬ (q = 2) := by omega
 have dq0 : (q == 0) = false := by simpa using e0
 have dq1 : (q == 1) = false := by simpa using hq3.1
 have dq2 : (q == 2) = false := by simpa using hq3.2
 have dq3 : (q == 3) = false := by simpa using e3
 by_cases e4 : q = 4
 ·
  have dq4 : (q == 4) = true := by simpa using e4
  have HRr : Hid (R = ah) := Lib.hid (by rw [← HR.out]; unfold nextP; simp only [Hq.out]; rw [if_neg e0, if_neg e12, if_neg e3, if_pos e4])
  have hld1 := load_row (P := Tryz.prog) (o := 3) (cs := ah.cells sv lv) str_hard HB1.out rfl (fun j u hu => by
   have hj : j < 10 := (List.getElem?_eq_some_iff.1 hu).1
   have e : [.int .i64 d, .int .i64 n, .int .i64 kp, .int .i64 ah.term, .int .i64 ah.vote, .int .i64 ah.base, .int .i64 ah.baseTerm, .int .i64 ah.conf.full, .int .i64 ah.conf.wit, .int .i64 ah.conf.learn, .int .i64 ah.conf.learnWit, sv, lv, .slice Bl gg bl, .slice Cl gc cc] = [.int .i64 d, .int .i64 n, .int .i64 kp] ++ (ah.cells sv lv ++ [.slice Bl gg bl, .slice Cl gc cc]) := rfl
   rw [e, List.getElem?_append_right (by simp), show 3 + j - [Value.int .i64 d, .int .i64 n, .int .i64 kp].length = j by simp, List.getElem?_append_left hj]
   exact hu)
  have honeh : ∀ v ∈ ah.cells sv lv, v.oneCell' = true := by
   obtain ⟨A1, k1, A2, k2, e1, e2⟩ := Hah.out.forms
   rw [e1, e2]
   exact h_one _ _ _ _ _ _ _
  clear hq9 c0 c2 a1 a2 a13 a14 e4 e3 e0 e12 hq3
  go_wp2_with (first | (refine wpList_ld rfl 34 _ rfl _ _ rfl hld1 ?_) | (refine wpList_stR rfl 34 _ _ rfl 10 (b + 2) 0 (ah.cells sv lv) rfl rfl str_hard _ [.int .i64 0, .int .i64 0, .int .i64 0, .int .i64 0, .int .i64 0, .int .i64 0, .int .i64 0, .int .i64 0, .slice none 0 0, .slice none 0 0] (ah.cells sv lv) HC1.out rfl (by simp) honeh rfl ?_))
  intro wz hbz hmz hsz
  have HXz : Hid (Ext w wz) := Lib.hid (HX1.out.trans hmz (fun k hk e => by have := Hb.out; omega))
  have HF : Hid (NextO w T R (.returned (.agg (ah.cells sv lv).toArray)) wz) := Lib.hid (by rw [HRr.out]; exact ⟨_, _, rfl, (Hah.out.mod HXz.out (fun _ _ => id)).mono (fun k hk => .inl hk), HXz.out⟩)
  clear hmz hsz
  go_wp2_with fail
  exact bodyPost_ret (results_cell_row rfl _ _ _ _ _ (0, 0) _ rfl hbz Tryz.underlying34 rfl (by kernel_rfl)) rfl HF.out
 ·
  have dq4 : (q == 4) = false := by simpa using e4
  have HRr : Hid (R = h) := Lib.hid (by rw [← HR.out]; unfold nextP; simp only [Hq.out]; rw [if_neg e0, if_neg e12, if_neg e3, if_neg e4])
  clear hq9 c0 c2 a1 a2 a13 a14 e4 e3 e0 e12 hq3
  have HF0 := HRr
  have hldz := load_row (P := Tryz.prog) (o := 0) (cs := h.cells (.slice As sl cs) (.slice Al ll cl)) str_hard HA1.out rfl (fun j u hu => by rw [Nat.zero_add]; exact hu)
  go_wp2_with (first | (refine wpList_ld rfl 34 _ rfl _ _ rfl hldz ?_) | (refine wpList_stR rfl 34 _ _ rfl 10 (b + 2) 0 (h.cells (.slice As sl cs) (.slice Al ll cl)) rfl rfl str_hard _ [.int .i64 0, .int .i64 0, .int .i64 0, .int .i64 0, .int .i64 0, .int .i64 0, .int .i64 0, .int .i64 0, .slice none 0 0, .slice none 0 0] (h.cells (.slice As sl cs) (.slice Al ll cl)) HC1.out rfl (by simp) (h_one _ _ _ _ _ _ _) rfl ?_))
  intro wz hbz hmz hsz
  have HXz : Hid (Ext w wz) := Lib.hid (HX1.out.trans hmz (fun k hk e => by have := Hb.out; omega))
  have HF : Hid (NextO w T R (.returned (.agg #[.int .i64 h.term, .int .i64 h.vote, .int .i64 h.base, .int .i64 h.baseTerm, .int .i64 h.conf.full, .int .i64 h.conf.wit, .int .i64 h.conf.learn, .int .i64 h.conf.learnWit, .slice As sl cs, .slice Al ll cl])) wz) := Lib.hid (by rw [HF0.out]; exact ⟨_, _, rfl, (Hv.out.mod HXz.out (fun _ _ => id)).mono (fun k hk => .inl hk), HXz.out⟩)
  clear hldz
  clear hmz hsz
  go_wp2_with fail
  exact bodyPost_ret (results_cell_row rfl _ _ _ _ _ (0, 0) _ rfl hbz Tryz.underlying34 rfl (by kernel_rfl)) rfl HF.out

end Go.Proofs.YtjhnlncgmejkcaaGreat
