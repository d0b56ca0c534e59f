/-
  Contracts of the page's Begin and of the law's wakes (printed by stbwk.py). Conditions: as each theorem names them.
-/
import Derived.Test.YtjhnlncgmejkcaaGreatTakeI
import Derived.Test.YtjhnlncgmejkcaaGreatS24
import Derived.Test.YtjhnlncgmejkcaaGreatStbPu
set_option maxRecDepth 100000
set_option maxHeartbeats 2000000
namespace Go.Proofs.YtjhnlncgmejkcaaGreat
set_option linter.unusedSimpArgs false
open Go.RowKit
@[local go_sem] theorem run_hard0 (a b c d e f g h : Int) (x y : Value) (w : World) : (Instr.field 34 (.agg #[.int .i64 a, .int .i64 b, .int .i64 c, .int .i64 d, .int .i64 e, .int .i64 f, .int .i64 g, .int .i64 h, x, y]) 0).run Tryz.prog w = .ok (.int .i64 a) w := by kernel_rfl
@[local go_sem] theorem run_hard1 (a b c d e f g h : Int) (x y : Value) (w : World) : (Instr.field 34 (.agg #[.int .i64 a, .int .i64 b, .int .i64 c, .int .i64 d, .int .i64 e, .int .i64 f, .int .i64 g, .int .i64 h, x, y]) 1).run Tryz.prog w = .ok (.int .i64 b) w := by kernel_rfl
theorem r8_begin (w : World) (c : yF) :
  Calls Tryz.prog 11 #[.agg #[.int .i64 c.full, .int .i64 c.wit, .int .i64 c.learn, .int .i64 c.learnWit]] w fun e w' => e = .returned (.agg #[.int .i64 0, .int .i64 (-1), .int .i64 0, .int .i64 0, .int .i64 c.full, .int .i64 c.wit, .int .i64 c.learn, .int .i64 c.learnWit, .slice none 0 0, .slice none 0 0]) ∧ Ext w w' := by
 obtain ⟨W, hW⟩ : ∃ W, W = (w.alloc (.cells #[.int .i64 c.full, .int .i64 c.wit, .int .i64 c.learn, .int .i64 c.learnWit] 23)).alloc (.cells zH.toArray 34) := ⟨_, rfl⟩
 obtain ⟨hA, hB, hsz⟩ := zaC w (.cells #[.int .i64 c.full, .int .i64 c.wit, .int .i64 c.learn, .int .i64 c.learnWit] 23) (.cells zH.toArray 34)
 obtain ⟨b, hb⟩ : ∃ b, w.heap.size = b := ⟨_, rfl⟩
 rw [← hW, hb] at hA hB
 have hE : Ext w W := by rw [hW]; exact ((Mod.refl _ w).alloc _).alloc _
 have hld := zF (P := Tryz.prog) (o := 0) (cs := [.int .i64 c.full, .int .i64 c.wit, .int .i64 c.learn, .int .i64 c.learnWit]) xR hA rfl (fun j u hu => by rw [Nat.zero_add]; exact hu)
 have HW := hJ hW
 have HB := hJ hB
 have Hb := hJ hb
 have HE := hJ hE
 clear hW hA hB hb hE hsz
 go_enter Tryz.func11, Tryz.ntmps11
 go_wp2_with (first | (rw [← HW.out, Hb.out]; refine zG rfl 23 _ rfl _ _ rfl hld ?_) | (refine zD rfl 34 _ _ rfl 10 (b + 1) 0 [.int .i64 0, .int .i64 (-1), .int .i64 0, .int .i64 0, .int .i64 c.full, .int .i64 c.wit, .int .i64 c.learn, .int .i64 c.learnWit, .slice none 0 0, .slice none 0 0] rfl rfl zA _ zH [.int .i64 0, .int .i64 (-1), .int .i64 0, .int .i64 0, .int .i64 c.full, .int .i64 c.wit, .int .i64 c.learn, .int .i64 c.learnWit, .slice none 0 0, .slice none 0 0] HB.out rfl (by simp) (List.all_eq_true.1 rfl) rfl ?_))
 intro w1 hb1 hm1 hs1
 have HX := hJ (HE.out.trans hm1 (fun k hk e => by have := Hb.out; omega))
 clear hm1 hs1
 go_wp2_with fail
 exact bodyPost_ret (results_cell_row rfl _ _ _ _ _ (0, 0) _ rfl hb1 Tryz.underlying34 rfl (by kernel_rfl)) rfl ⟨rfl, HX.out⟩
theorem zqU (w : World) :
  Calls Tryz.prog 19 #[] w fun e w' => e = .returned (.bool true) ∧ Ext w w' := by
 obtain ⟨N, hN⟩ : ∃ N, w.heap.size = N := ⟨_, rfl⟩
 have HN := hJ hN
 clear hN
 go_enter Tryz.func19, Tryz.ntmps19
 go_wp2_with fail
 refine (r8_begin _ wkC).mono ?_
 rintro e w1 ⟨rfl, hE⟩
 have HX1 := hJ hE
 obtain ⟨b, hb⟩ : ∃ b, w1.heap.size = b := ⟨_, rfl⟩
 have hz : (w1.alloc (.cells zH.toArray 34)).heap[b]? = some (.cells zH.toArray 34 (0, 0)) := by rw [← hb]; exact heap_alloc_new w1 _
 have Hb := hJ hb
 have HNb : Hid (N ≤ b) := hJ (by have := HX1.out.size; have := HN.out; omega)
 clear hb hE
 go_wp2_with (rw [Hb.out]; refine zD rfl 34 _ _ rfl 10 b 0 ((yN wkC : zC).cells (.slice none 0 0) (.slice none 0 0)) rfl rfl zA _ zH ((yN wkC : zC).cells (.slice none 0 0) (.slice none 0 0)) hz rfl (by simp) (xS _ _ _ _ _ _ _) rfl ?_)
 intro w2 hb2 hm2 hs2
 have HX2 : Hid (Ext w w2) := hJ ((HX1.out.alloc _).trans hm2 (fun k hk e => by have := HN.out; have := HNb.out; omega))
 have HB2 := hJ hb2
 clear hz hb2 hm2 hs2
 go_wp2_with fail
 refine (d_new 65536 (by omega) (by omega) w2).mono ?_
 rintro e w3 ⟨rfl, hD, hE⟩
 obtain ⟨d, hd⟩ : ∃ d, w2.heap.size = d := ⟨_, rfl⟩
 rw [hd] at hD ⊢
 have HNd : Hid (N ≤ d) := hJ (by have := HX2.out.size; have := HN.out; omega)
 have HX3 := hJ (HX2.out.ext hE)
 have HB3 := hJ (hE.blk HB2.out id)
 have HD3 := hJ hD
 clear hd hD hE
 have hld := zF (P := Tryz.prog) (o := 0) (cs := ((yN wkC : zC).cells (.slice none 0 0) (.slice none 0 0))) zA HB3.out rfl (fun j u hu => by rw [Nat.zero_add]; exact hu)
 go_wp2_with (refine zG rfl 34 _ rfl _ _ rfl hld ?_)
 clear hld
 refine (zk2 w3 (fun _ => False) d (yN wkC) (.slice none 0 0) (.slice none 0 0) (.slice none 0 0) _ HD3.out (zjN _ _ _) (by simp [yN])).mono ?_
 intro e w4 hO
 obtain ⟨s, fv, gs, gl, rfl, hS, hK⟩ := hO.yes (N := N) HD3.out zmI.1 HNd.out (by simp [Value.ownBlock])
 replace hS : StM w4 N s d fv gs gl wkD (yN wkC) := hS
 obtain ⟨As, cs, Al, cl, rfl, rfl⟩ := hS.hm.forms
 have HS4 := hJ hS
 have HM4 : Hid (Mod (fun k => N ≤ k) w w4) := hJ (Mod.self (Ext.mod HX3.out _) (hK d).md)
 have HB4 := hJ ((hK d).bx _ _ _ _ (by decide) (by decide) (by decide) HB3.out)
 clear hS hK hO
 go_wp2_with fail
 refine (zgI w4 _ s d (yN wkC) _ _ HS4.out.st HS4.out.hm (by simp [yN]) (by simp [yN])).mono ?_
 rintro e w5 ⟨sv, lv, rfl, hN5, hE⟩
 obtain ⟨A5, c5, A6, c6, rfl, rfl⟩ := hN5.forms
 have HS5 := hJ (HS4.out.ext hE)
 have HM5 := hJ (HM4.out.ext hE)
 have HB5 := hJ (hE.blk HB4.out id)
 have HH5 : Hid (zY w5 (fun k => ze3 s d fv k ∧ k ≠ w5.heap.size) _ _ (yN wkC)) := hJ (zY.mono hN5.mem.cap (fun k hk => ⟨HS4.out.new (by rcases hk.1 with e | e; exact hN5.1.2 k e; exact hN5.2.2.2 k e), by have := hk.2; omega⟩))
 obtain ⟨g, hg⟩ : ∃ g, w5.heap.size = g := ⟨_, rfl⟩
 have hz : (w5.alloc (.cells zH.toArray 34)).heap[g]? = some (.cells zH.toArray 34 (0, 0)) := by rw [← hg]; exact heap_alloc_new w5 _
 rw [hg] at HH5
 have Hg := hJ hg
 have hbg : b < g := by rw [← hg]; exact (Array.getElem?_eq_some_iff.1 HB5.out).1
 have hNg : N ≤ g := by have := HNb.out; omega
 clear hN5 hE hg
 go_wp2_with (rw [Hg.out]; refine zD rfl 34 _ _ rfl 10 g 0 ((yN wkC : zC).cells (.slice A5 0 c5) (.slice A6 0 c6)) rfl rfl zA _ zH ((yN wkC : zC).cells (.slice A5 0 c5) (.slice A6 0 c6)) hz rfl (by simp) (xS _ _ _ _ _ _ _) rfl ?_)
 intro w6 hb6 hm6 hs6
 have hE : Ext w5 w6 := ((Mod.refl (fun _ => False) w5).alloc (.cells zH.toArray 34)).trans hm6 (fun k hk e => by have := Hg.out; omega)
 have HS6 := hJ (HS5.out.ext hE)
 have HM6 := hJ (HM5.out.ext hE)
 have HB6 := hJ (hE.blk HB5.out id)
 have HH6 := hJ (HH5.out.mod hE (fun _ _ => id))
 have HG6 := hJ hb6
 have f0 : w6.frozen? ⟨g, 0, none⟩ = false := zK 0 HG6.out
 have d0 : w6.cell? ⟨g, 0, none⟩ = some _ := zB (cs := ((yN wkC : zC).cells (.slice A5 0 c5) (.slice A6 0 c6))) HG6.out rfl
 have f1 : w6.frozen? ⟨g, 1, none⟩ = false := zK 1 HG6.out
 have d1 : w6.cell? ⟨g, 1, none⟩ = some _ := zB (cs := ((yN wkC : zC).cells (.slice A5 0 c5) (.slice A6 0 c6))) HG6.out rfl
 obtain ⟨w7, hw7⟩ : ∃ wn, (w6.setCell ⟨g, 0, none⟩ (.int .i64 1)).setCell ⟨g, 1, none⟩ (.int .i64 0) = wn := ⟨_, rfl⟩
 have HG7 : Hid (w7.heap[g]? = some (.cells ((wkH : zC).cells (.slice A5 0 c5) (.slice A6 0 c6)).toArray 34 (0, 0))) := hJ (by rw [← hw7]; simp [World.setCell, Array.getElem?_modify, HG6.out]; exact ⟨rfl, rfl, rfl, rfl, rfl, rfl, rfl, rfl⟩)
 have hM : Mod (fun k => k = g) w6 w7 := by rw [← hw7]; exact zO (zO (Mod.refl _ w6) _ _) _ _
 have HS7 : Hid (StM w7 N s d fv (.slice As _ cs) (.slice Al _ cl) wkD (yN wkC)) := hJ (StM.box HS6.out HG6.out hM (by decide) (by decide) (by decide) (by decide))
 have HM7 := hJ (HM6.out.trans hM (fun k _ e => by omega))
 have HB7 := hJ (hM.blk HB6.out (by omega))
 have HH7 : Hid (zY w7 (fun k => ze3 s d fv k ∧ k ≠ g) (.slice A5 0 c5) (.slice A6 0 c6) wkH) := hJ (hard_box HH6.out hM (fun k hk => hk.2))
 clear hE hb6 hm6 hs6 hz hM
 go_upto_region 10 with fail
 try rw [hw7]
 clear hw7 f0 f1 d0 d1
 have hldg := zF (P := Tryz.prog) (o := 0) (cs := ((wkH : zC).cells (.slice A5 0 c5) (.slice A6 0 c6))) zA HG7.out rfl (fun j u hu => by rw [Nat.zero_add]; exact hu)
 go_wp2_with (refine zG rfl 34 _ rfl _ _ rfl hldg ?_)
 clear hldg
 refine (zqA w7 _ _ s d (yN wkC) wkH As _ cs Al _ cl A5 0 c5 A6 0 c6 fv wkD HS7.out.st HS7.out.dk HS7.out.hm rfl rfl HH7.out rfl rfl (fun k hk => ⟨hk.1.1, hk.1.2.2⟩) (by omega) (by simp [yN]) (by omega)).mono ?_
 intro e w8 hO
 obtain ⟨rfl, fv8, gs8, gl8, hS8, hK⟩ := HS7.out.save hO
 rw [zqD]
 rw [zjO.1] at hS8
 have HS8 : Hid (StM w8 N s d fv8 gs8 gl8 wkE wkH) := hJ hS8
 have HM8 := hJ (HM7.out.self hK.md)
 have HB8 := hJ (hK.bx _ _ _ _ (by decide) (by decide) (by decide) HB7.out)
 clear hO hS8 hK
 go_wp2_with fail
 refine (zgB w8 d fv8 wkE HS8.out.dk 0 (by omega)).mono ?_
 rintro e w9 ⟨rfl, hM⟩
 obtain ⟨fv9, hS9, hK⟩ := HS8.out.dm hM
 have HS9 := hJ hS9
 have HM9 := hJ (HM8.out.self hK.md)
 have HB9 := hJ (hK.bx _ _ _ _ (by decide) (by decide) (by decide) HB8.out)
 clear hM hS9 hK
 go_wp2_with fail
 refine (zpW w9 d fv9 _ HS9.out.dk).mono ?_
 rintro e wa ⟨rfl, hDa, hM⟩
 obtain ⟨fva, hSa, hK⟩ := HS9.out.dm (DM.of hDa hM)
 have HSa := hJ hSa
 have HMa := hJ (HM9.out.self hK.md)
 have HBa := hJ (hK.bx _ _ _ _ (by decide) (by decide) (by decide) HB9.out)
 clear hM hDa hSa hK
 have hld := zF (P := Tryz.prog) (o := 0) (cs := ((yN wkC : zC).cells (.slice none 0 0) (.slice none 0 0))) zA HBa.out rfl (fun j u hu => by rw [Nat.zero_add]; exact hu)
 go_wp2_with (refine zG rfl 34 _ rfl _ _ rfl hld ?_)
 clear hld
 have hag := StP.again zjO.2 HS8.out.dk.2.2 ((yI _).2 (zeV zk3 zmH).1) 0
 refine (zk2 wa (fun _ => False) d (yN wkC) (.slice none 0 0) (.slice none 0 0) fva _ HSa.out.dk (zjN _ _ _) (by simp [yN])).mono ?_
 intro e wb hO
 rw [hag] at hO
 obtain ⟨s2, fvb, gsb, glb, rfl, hSb, hK⟩ := hO.yes (N := N) HSa.out.dk rfl HSa.out.nd HSa.out.nf
 have HSb := hJ hSb
 have HMb := hJ (HMa.out.self (hK s).md)
 clear hO hSb hK hag
 go_wp2_with fail
 refine (zgI wb _ s2 d wkH _ _ HSb.out.st HSb.out.hm (by simp [wkH, yN]) (by simp [wkH, yN])).mono ?_
 rintro e wc ⟨sv, lv, rfl, hN, hE⟩
 have HSc := hJ (HSb.out.ext hE)
 have HMc := hJ (HMb.out.ext hE)
 clear hN hE
 go_wp2_with fail
 refine (zgI wc _ s2 d wkH _ _ HSc.out.st HSc.out.hm (by simp [wkH, yN]) (by simp [wkH, yN])).mono ?_
 rintro e we ⟨sv2, lv2, rfl, hN, hE⟩
 have HMe := hJ (HMc.out.ext hE)
 clear hN hE
 go_wp2_with fail
 go_ret
 exact ⟨rfl, Mod.toExt (HMe.out.mono (fun k _ h => by have := HN.out; unfold zZ; omega))⟩
end Go.Proofs.YtjhnlncgmejkcaaGreat
namespace Go.Proofs.YtjhnlncgmejkcaaGreat
set_option linter.unusedSimpArgs false
open Go.RowKit
theorem znM (w : World) (T U : Nat → Prop) (h : zC) (As : Option Addr) (sl cs : Nat) (Al : Option Addr) (ll cl : Nat) (i : Int) (Bl : Option Addr) (gg bl : Nat) (bs : List UInt8) (hv : zY w T (.slice As sl cs) (.slice Al ll cl) h) (hsn : h.snap.length = sl) (hll : h.log.length = ll) (hL : Byt w U (.slice Bl gg bl) bs) (hgg : bs.length = gg) (hr : Right h) (hl : ll ≤ 1000000) (hg : gg ≤ 1000000) :
  Calls Tryz.prog 46 #[.agg #[.int .i64 h.term, .int .i64 h.vote, .int .i64 h.base, .int .i64 h.baseTerm, .int .i64 h.conf.full, .int .i64 h.conf.wit, .int .i64 h.conf.learn, .int .i64 h.conf.learnWit, .slice As sl cs, .slice Al ll cl], .int .i64 i, .slice Bl gg bl] w (PutO w (zgZ h i bs)) := by
 obtain ⟨W, hW⟩ : ∃ W, W = (w.alloc (.cells (h.cells (.slice As sl cs) (.slice Al ll cl)).toArray 34)).alloc (.cells zH.toArray 34) := ⟨_, rfl⟩
 obtain ⟨hA, hB, hsz⟩ := zaC w (.cells (h.cells (.slice As sl cs) (.slice Al ll cl)).toArray 34) (.cells zH.toArray 34)
 obtain ⟨b, hb⟩ : ∃ b, w.heap.size = b := ⟨_, rfl⟩
 rw [← hW, hb] at hA hB
 have hE : Ext w W := by rw [hW]; exact ((Mod.refl _ w).alloc _).alloc _
 obtain ⟨R, hR⟩ : ∃ R, zgZ h i bs = R := ⟨_, rfl⟩
 have hld := zF (P := Tryz.prog) (o := 0) (cs := h.cells (.slice As sl cs) (.slice Al ll cl)) zA hA rfl (fun j u hu => by rw [Nat.zero_add]; exact hu)
 rw [hR]
 have HW := hJ hW
 have HA0 := hJ hA
 have HB0 := hJ hB
 have Hb := hJ hb
 have HX0 := hJ hE
 have Hll := hJ hll
 have Hsn := hJ hsn
 have Hgg := hJ hgg
 have Hv := hJ hv
 have HR := hJ hR
 have HL := hJ hL
 have HRi := hJ hr
 clear hW hA hB hb hE hsz hll hsn hgg hv hR hL hr
 go_enter Tryz.func46, Tryz.ntmps46
 go_wp2_with (rw [← HW.out, Hb.out]; refine zG rfl 34 _ rfl _ _ rfl hld ?_)
 clear hld
 refine (zbL W T h _ _ (Hv.out.mod HX0.out (fun _ _ => id)) (by rw [Hll.out]; exact hl)).mono ?_
 rintro e w1 ⟨rfl, hE⟩
 rw [(yI h).2 HRi.out]
 have HA1 := hJ (hE.blk HA0.out id)
 have HB1 := hJ (hE.blk HB0.out id)
 have HX1 := hJ (HX0.out.ext hE)
 clear hE
 have hld := zF (P := Tryz.prog) (o := 0) (cs := h.cells (.slice As sl cs) (.slice Al ll cl)) zA HA1.out rfl (fun j u hu => by rw [Nat.zero_add]; exact hu)
 go_wp2_with (refine zG rfl 34 _ rfl _ _ rfl hld ?_)
 clear hld
 refine (zkP w1 T h _ _ (Hv.out.mod HX1.out (fun _ _ => id)) (by rw [Hll.out]; exact hl) HRi.out.b0 HRi.out.b1).mono ?_
 rintro e w2 ⟨rfl, hE⟩
 have HA2 := hJ (hE.blk HA1.out id)
 have HB2 := hJ (hE.blk HB1.out id)
 have HX2 := hJ (HX1.out.ext hE)
 clear hE
 have c2 : w2.cell? ⟨b, 2, none⟩ = some (.int .i64 h.base) := zB (cs := (h.cells (.slice As sl cs) (.slice Al ll cl))) HA2.out rfl
 obtain ⟨li, hli⟩ : ∃ li, zcF h = li := ⟨_, rfl⟩
 rw [hli]
 have Hli := hJ hli
 clear hli
 have iw0 : IntKind.i64.wrap (h.base + 1) = h.base + 1 := IntWalk.i64_in _ (by have := HRi.out.b0; have := HRi.out.b1; omega)
 obtain ⟨mi, hmi⟩ : ∃ mi, min li 1099511627776 = mi := ⟨_, rfl⟩
 have Hmi := hJ hmi
 clear hmi
 go_upto_region 4 with fail
 go_cut [28] (fun s28 wx => s28 = .bool (!(decide (h.base + 1 ≤ i) && decide (i ≤ mi))) ∧ Ext w2 wx)
 case first =>
  go_wp2_with fail
  all_goals
   refine (xQ _ _ _ _).mono ?_
   rintro e w6 ⟨rfl, rfl⟩
   go_wp2_with fail
   go_meet
   refine ⟨?_, Mod.refl _ _⟩
   have h1 := Hmi.out
   first | (rw [show mi = 1099511627776 by omega, Bool.not_and]; done) | (rw [show mi = li by omega, Bool.not_and]; done)
 obtain ⟨rfl, hE⟩ := hcut
 have HAc := hJ (hE.blk HA2.out id)
 have HBc := hJ (hE.blk HB2.out id)
 have HXc := hJ (HX2.out.ext hE)
 clear hE c2
 rcases htv : (!(decide (h.base + 1 ≤ i) && decide (i ≤ mi))) with _ | _
 rotate_left
 ·
  have HRn : Hid (R = none) := hJ (by
   rw [← HR.out]
   unfold zgZ
   simp only [Bool.not_eq_true', Bool.and_eq_false_iff, decide_eq_false_iff_not] at htv
   rw [Hli.out, Hmi.out, if_pos (by rcases htv with h1 | h1; exact .inl (by omega); exact .inr (.inl (by omega)))])
  clear htv
  go_wp2_with (refine zD rfl 34 _ _ rfl 10 (b + 1) 0 zH rfl rfl zA _ zH zH HBc.out rfl (by simp) (List.all_eq_true.1 rfl) rfl ?_)
  intro w9 hb9 hm9 hs9
  have HX9 := hJ (HXc.out.trans hm9 (fun k hk e => by have := Hb.out; omega))
  clear hm9 hs9
  go_wp2_with fail
  exact bodyPost_ret (zL rfl _ w9 (b + 1) _ _ zA rfl hb9 rfl) rfl (PutO.no 1 HRn.out HX9.out (by omega) rfl)
 simp only [Bool.not_eq_false', Bool.and_eq_true, decide_eq_true_eq] at htv
 by_cases hbl : 16384 < gg
 ·
  have d1 : decide ((16384 : Int) < (gg : Int)) = true := decide_eq_true (by omega)
  have HRn : Hid (R = none) := hJ (by
   rw [← HR.out]
   unfold zgZ
   rw [Hgg.out, if_pos (.inr (.inr hbl))])
  clear htv
  go_wp2_with (refine zD rfl 34 _ _ rfl 10 (b + 1) 0 zH rfl rfl zA _ zH zH HBc.out rfl (by simp) (List.all_eq_true.1 rfl) rfl ?_)
  intro w9 hb9 hm9 hs9
  have HX9 := hJ (HXc.out.trans hm9 (fun k hk e => by have := Hb.out; omega))
  clear hm9 hs9
  go_wp2_with fail
  exact bodyPost_ret (zL rfl _ w9 (b + 1) _ _ zA rfl hb9 rfl) rfl (PutO.no 2 HRn.out HX9.out (by omega) rfl)
 have d1 : decide ((16384 : Int) < (gg : Int)) = false := decide_eq_false (by omega)
 obtain ⟨k, hk⟩ : ∃ k, (i - h.base).toNat = k := ⟨_, rfl⟩
 have hki : i - h.base = (k : Int) := by omega
 have hkl : k ≤ ll := by have h1 := Hli.out; unfold zcF at h1; have := Hll.out; have := Hmi.out; omega
 have HRk : Hid (R = some (⟨h.term, h.vote, i, zeC h i, zaM i h.base h.conf h.log, bs, h.log.drop k⟩ : zC)) := hJ (by
  rw [← HR.out]
  unfold zgZ
  rw [Hli.out, Hmi.out, hk, if_neg]
  rintro (e | e | e)
  · omega
  · omega
  rw [Hgg.out] at e; omega)
 have Hkl := hJ hkl
 have Hki := hJ hki
 clear hk htv hki
 have hld := zF (P := Tryz.prog) (o := 0) (cs := h.cells (.slice As sl cs) (.slice Al ll cl)) zA HAc.out rfl (fun j u hu => by rw [Nat.zero_add]; exact hu)
 go_wp2_with (refine zG rfl 34 _ rfl _ _ rfl hld ?_)
 clear hld
 refine (r8_force wc T h As sl cs Al ll cl i (by have h1 := (Hv.out.mod HXc.out (fun _ _ => id)).2; exact h1) Hll.out hl HRi.out.b0 HRi.out.b1).mono ?_
 rintro e w3 ⟨kk, rfl, hE⟩
 have HA3 := hJ (hE.blk HAc.out id)
 have HB3 := hJ (hE.blk HBc.out id)
 have HX3 := hJ (HXc.out.ext hE)
 clear hE
 obtain ⟨F, hF⟩ : ∃ F, zaM i h.base h.conf h.log = F := ⟨_, rfl⟩
 rw [hF]
 have HF := hJ hF
 obtain ⟨q, hq⟩ : ∃ q, w3.heap.size = q := ⟨_, rfl⟩
 have hz : (w3.alloc (.cells #[.int .i64 0, .int .i64 0, .int .i64 0, .int .i64 0] 23)).heap[q]? = some (.cells #[.int .i64 0, .int .i64 0, .int .i64 0, .int .i64 0] 23 (0, 0)) := by rw [← hq]; exact heap_alloc_new w3 _
 have Hq := hJ hq
 clear hq hF
 go_wp2_with (rw [Hq.out]; refine zD rfl 23 _ _ rfl 4 q 0 [.int .i64 F.full, .int .i64 F.wit, .int .i64 F.learn, .int .i64 F.learnWit] rfl rfl xR _ [.int .i64 0, .int .i64 0, .int .i64 0, .int .i64 0] [.int .i64 F.full, .int .i64 F.wit, .int .i64 F.learn, .int .i64 F.learnWit] hz rfl (by simp) (List.all_eq_true.1 rfl) rfl ?_)
 intro w4 hb4 hm4 hs4
 have hE : Ext w3 w4 := ((Mod.refl (fun _ => False) w3).alloc (.cells #[.int .i64 0, .int .i64 0, .int .i64 0, .int .i64 0] 23)).trans hm4 (fun k hk e => by have := Hq.out; omega)
 have HA4 := hJ (hE.blk HA3.out id)
 have HB4 := hJ (hE.blk HB3.out id)
 have HX4 := hJ (HX3.out.ext hE)
 have HQ4 := hJ hb4
 have Hv4 := hJ (Hv.out.mod HX4.out (fun _ _ => id))
 have nb : ¬ b = b + 1 := by omega
 have nq : ¬ q = b + 1 := by have h1 := (Array.getElem?_eq_some_iff.1 HB3.out).1; have := Hq.out; omega
 have c0 : w4.cell? ⟨b, 0, none⟩ = some (.int .i64 h.term) := zB (cs := (h.cells (.slice As sl cs) (.slice Al ll cl))) HA4.out rfl
 have c1 : w4.cell? ⟨b, 1, none⟩ = some (.int .i64 h.vote) := zB (cs := (h.cells (.slice As sl cs) (.slice Al ll cl))) HA4.out rfl
 have c2 : w4.cell? ⟨b, 2, none⟩ = some (.int .i64 h.base) := zB (cs := (h.cells (.slice As sl cs) (.slice Al ll cl))) HA4.out rfl
 have c9 : w4.cell? ⟨b, 9, none⟩ = some (.slice Al ll cl) := zB (cs := (h.cells (.slice As sl cs) (.slice Al ll cl))) HA4.out rfl
 have iw1 : IntKind.i64.wrap (i - h.base) = (k : Int) := by rw [IntWalk.i64_in _ (by have := HRi.out.b1; have := HRi.out.b0; have := Hki.out; omega)]; exact Hki.out
 have k0 : (0 : Int) ≤ (k : Int) := by omega
 have k1 : (k : Int) ≤ (ll : Int) := by omega
 clear hE hb4 hm4 hs4 hz
 go_wp2_with fail
 refine wp_region_held_drew (S := fun W' => Mod (fun k => k = b + 1) w4 W') (by kernel_rfl) (Mod.refl _ w4).drew (fun hS => ?_)
 iterate 5
  first | refine tkI 0 (some 40) rfl rfl ?_ hS ?_ ?_ | refine tkI 1 (some 41) rfl rfl ?_ hS ?_ ?_ | refine tkI 2 (some 42) rfl rfl ?_ hS ?_ ?_ | refine tkI 3 (some 43) rfl rfl ?_ hS ?_ ?_ | refine tkI 4 (some 44) rfl rfl ?_ hS ?_ ?_
  rotate_left
  · rintro W' hW'
    have y0 := hW'.cell c0 nb
    have y1 := hW'.cell c1 nb
    have y2 := hW'.cell c2 nb
    have y9 := hW'.cell c9 nb
    go_simp
    try rfl
  try simp only [pL]
 refine tkH 5 (some 45) rfl rfl (.agg (h.cells (.slice As sl cs) (.slice Al ll cl)).toArray) hS ?_ ?_
 ·
  rintro W' hW'
  have y0 := hW'.cell c0 nb
  have y1 := hW'.cell c1 nb
  have y2 := hW'.cell c2 nb
  have y9 := hW'.cell c9 nb
  exact yD _ _ rfl (.pointer (some ⟨b, 0, none⟩)) _ rfl (zF (P := Tryz.prog) (o := 0) (cs := h.cells (.slice As sl cs) (.slice Al ll cl)) zA (hW'.blk HA4.out nb) rfl (fun j u hu => by rw [Nat.zero_add]; exact hu))
 try simp only [pL]
 refine tkH 6 (some 46) rfl rfl ?_ hS ?_ ?_
 rotate_left
 ·
  rintro W' hW'
  have y0 := hW'.cell c0 nb
  have y1 := hW'.cell c1 nb
  have y2 := hW'.cell c2 nb
  have y9 := hW'.cell c9 nb
  go_simp
  try rfl
 try simp only [pL]
 refine tkH 8 (some 48) rfl rfl (.agg ([.int .i64 F.full, .int .i64 F.wit, .int .i64 F.learn, .int .i64 F.learnWit] : List Value).toArray) hS ?_ ?_
 ·
  rintro W' hW'
  have y0 := hW'.cell c0 nb
  have y1 := hW'.cell c1 nb
  have y2 := hW'.cell c2 nb
  have y9 := hW'.cell c9 nb
  exact yD _ _ rfl (.pointer (some ⟨q, 0, none⟩)) _ rfl (zF (P := Tryz.prog) (o := 0) (cs := [.int .i64 F.full, .int .i64 F.wit, .int .i64 F.learn, .int .i64 F.learnWit]) xR (hW'.blk HQ4.out nq) rfl (fun j u hu => by rw [Nat.zero_add]; exact hu))
 try simp only [pL]
 iterate 8
  first | refine tkI 9 (some 49) rfl rfl ?_ hS ?_ ?_ | refine tkI 11 (some 51) rfl rfl ?_ hS ?_ ?_ | refine tkI 12 (some 52) rfl rfl ?_ hS ?_ ?_ | refine tkI 13 (some 53) rfl rfl ?_ hS ?_ ?_ | refine tkI 14 (some 54) rfl rfl ?_ hS ?_ ?_ | refine tkI 15 (some 55) rfl rfl ?_ hS ?_ ?_ | refine tkI 16 (some 56) rfl rfl ?_ hS ?_ ?_ | refine tkI 17 (some 57) rfl rfl ?_ hS ?_ ?_
  rotate_left
  · rintro W' hW'
    have y0 := hW'.cell c0 nb
    have y1 := hW'.cell c1 nb
    have y2 := hW'.cell c2 nb
    have y9 := hW'.cell c9 nb
    go_simp
    try rfl
  try simp only [pL]
 refine xJ 7 rfl (fun K hK => ?_)
 go_simp
 go_wp2_with fail
 refine (zqG w4.drew T h As sl cs Al ll cl i (by have h1 := Hv4.out.2; exact h1) Hll.out hl HRi.out.b0 HRi.out.b1).mono ?_
 rintro e w6 ⟨rfl, hE6⟩
 have HE6 : Hid (Ext w4 w6) := hJ (Mod.ext (Mod.refl _ w4).drew hE6)
 have hX6 : Ext w w6 := (HX4.out.drew).ext hE6
 have HX6 := hJ hX6
 clear hX6
 have hX := (hS.ext hE6)
 go_simp
 refine hK.out _ _ hX (fun hS => ?_)
 clear hK K hX
 try simp only [pL]
 refine xJ 10 rfl (fun K hK => ?_)
 go_simp
 go_wp2_with fail
 refine (k_twin w6 U _ bs (by have h1 := HL.out.mod HX6.out (fun _ _ => id); rw [← Hgg.out] at h1 ⊢; exact h1) (by rw [Hgg.out]; omega)).mono ?_
 rintro e w7 ⟨v7, rfl, hN7, hE7⟩
 obtain ⟨A7, c7, rfl⟩ := zN hN7.1
 rw [Hgg.out]
 have HX7 := hJ (HX6.out.ext hE7)
 have HE7 := hJ (HE6.out.ext hE7)
 have HN7 : Hid (yO w w7 (.slice A7 gg c7) bs) := hJ (by have h1 := hN7.up HX6.out; rw [Hgg.out] at h1; exact h1)
 clear hN7
 have hX := (hS.ext hE7)
 go_simp
 refine hK.out _ _ hX (fun hS => ?_)
 clear hK K hX
 try simp only [pL]
 refine xJ 18 rfl (fun K hK => ?_)
 go_simp
 go_wp2_with fail
 refine (jG w7 T _ (h.log.drop k) (by have h1 := zbJ.drop (Hv.out.2.mod HX7.out (fun _ _ => id)) Hll.out Hkl.out; exact h1) (by rw [List.length_drop, Hll.out]; omega)).mono ?_
 rintro e w8 ⟨v8, rfl, hN8, hE8⟩
 obtain ⟨A8, c8, rfl⟩ := zaX.form hN8
 have hdl : (h.log.drop k).length = ll - k := by rw [List.length_drop, Hll.out]
 rw [hdl]
 have HX8 := hJ (HX7.out.ext hE8)
 have HE8 := hJ (HE7.out.ext hE8)
 have HN8 : Hid (zaX w w8 (.slice A8 (ll - k) c8) (h.log.drop k)) := hJ (by have h1 := jT hN8 HX7.out.size; rw [hdl] at h1; exact h1)
 have HN78 : Hid (yO w w8 (.slice A7 gg c7) bs) := hJ (HN7.out.ext hE8)
 clear hN8 hdl
 have hX := (hS.ext hE8)
 go_simp
 refine hK.out _ _ hX (fun hS => ?_)
 clear hK K hX
 try simp only [pL]
 refine tkH 19 (some 59) rfl rfl ?_ hS ?_ ?_
 rotate_left
 ·
  rintro W' hW'
  have y0 := hW'.cell c0 nb
  have y1 := hW'.cell c1 nb
  have y2 := hW'.cell c2 nb
  have y9 := hW'.cell c9 nb
  go_simp
  try rfl
 try simp only [pL]
 refine xJ 20 rfl (fun K hK => ?_)
 have HB8 := hJ (HE8.out.blk HB4.out id)
 refine jQ rfl 34 _ _ rfl 10 (b + 1) 0 [.int .i64 h.term, .int .i64 h.vote, .int .i64 i, .int .i64 (zeC h i), .int .i64 F.full, .int .i64 F.wit, .int .i64 F.learn, .int .i64 F.learnWit, .slice A7 gg c7, .slice A8 (ll - k) c8] rfl rfl zA _ zH [.int .i64 h.term, .int .i64 h.vote, .int .i64 i, .int .i64 (zeC h i), .int .i64 F.full, .int .i64 F.wit, .int .i64 F.learn, .int .i64 F.learnWit, .slice A7 gg c7, .slice A8 (ll - k) c8] HB8.out rfl (by simp) (List.all_eq_true.1 rfl) rfl ?_
 intro w9 hb9 hm9 hs9
 refine hK.out _ _ ((hS.self hm9)) (fun hS => ?_)
 clear hK K
 try simp only [pL]
 refine tkH 21 (some 7) rfl rfl ?_ hS ?_ ?_
 rotate_left
 ·
  rintro W' hW'
  have y0 := hW'.cell c0 nb
  have y1 := hW'.cell c1 nb
  have y2 := hW'.cell c2 nb
  have y9 := hW'.cell c9 nb
  go_simp
  try rfl
 try simp only [pL]
 refine wpAnyH_done (by kernel_rfl) ?_ _
 go_wp2_with fail
 have HN9 : Hid (jP w w9 (.slice A7 gg c7) (.slice A8 (ll - k) c8) (⟨h.term, h.vote, i, zeC h i, zaM i h.base h.conf h.log, bs, h.log.drop k⟩ : zC)) := hJ (jP.box (h := (⟨h.term, h.vote, i, zeC h i, zaM i h.base h.conf h.log, bs, h.log.drop k⟩ : zC)) ⟨HN78.out, HN8.out⟩ HB8.out hm9 (by decide) (by decide))
 have HX9 : Hid (Ext w w9) := hJ (HX8.out.trans hm9 (fun k hk e => by have := Hb.out; omega))
 clear hm9 hs9
 exact bodyPost_ret (zL rfl _ w9 (b + 1) _ _ zA rfl hb9 rfl) rfl (by rw [HRk.out]; exact ⟨HX9.out, _, _, by rw [← HF.out]; rfl, HN9.out⟩)
end Go.Proofs.YtjhnlncgmejkcaaGreat
