/-
 The walk of StableLasts. Conditions: as the theorem names them.
-/
import Derived.Test.YtjhnlncgmejkcaaGreatStbBt
import Derived.Test.YtjhnlncgmejkcaaGreatStbSp
import Derived.Test.YtjhnlncgmejkcaaGreatS26
import Derived.Test.YtjhnlncgmejkcaaGreatStbNx
namespace Go.Proofs.YtjhnlncgmejkcaaGreat
set_option linter.unusedSimpArgs false
open Go.RowKit

set_option maxRecDepth 100000 in
set_option maxHeartbeats 4000000 in
theorem stableLasts_a (w : World) (c : AConf) (A : Option Addr) (n cp : Nat) (l : List AActM) (hco : c.ok) (hL : Acts w (fun g => g < w.heap.size) (.slice A n cp) l) (hn : l.length = n) :
  Calls Tryz.prog 6 #[.agg #[.int .i64 c.full, .int .i64 c.wit, .int .i64 c.learn, .int .i64 c.learnWit], .slice A n cp] w fun e w' => e = .returned (.bool true) ∧ Below w.heap.size w w' := by
 obtain ⟨N, hN⟩ : ∃ N, w.heap.size = N := ⟨_, rfl⟩
 obtain ⟨W, hW⟩ : ∃ W, w.alloc (.cells #[.int .i64 c.full, .int .i64 c.wit, .int .i64 c.learn, .int .i64 c.learnWit] 23) = W := ⟨_, rfl⟩
 have hA : W.heap[N]? = some (.cells #[.int .i64 c.full, .int .i64 c.wit, .int .i64 c.learn, .int .i64 c.learnWit] 23 (0, 0)) := by rw [← hW, ← hN]; exact heap_alloc_new w _
 have hE : Ext w W := by rw [← hW]; exact (Mod.refl _ w).alloc _
 have hnl := hL.1.le
 rw [hn] at hnl
 unfold maxLen at hnl
 rw [hN] at hL
 have HN := Lib.hid hN
 have HW := Lib.hid hW
 have HA0 := Lib.hid hA
 have HX0 := Lib.hid hE
 have HL := Lib.hid hL
 have Hn := Lib.hid hn
 have Hco := Lib.hid hco
 clear hN hW hA hE hL hn hco
 go_enter Tryz.func6, Tryz.ntmps6
 go_wp2_with fail
 rw [HW.out, HN.out]
 refine (hv_acts W _ _ l (HL.out.mod HX0.out (fun _ _ => id))).mono ?_
 rintro e w1 ⟨rfl, hE⟩
 have HA1 := Lib.hid (hE.blk HA0.out id)
 have HX1 := Lib.hid (HX0.out.ext hE)
 clear hE
 rcases hh : heavyActs l with _ | _
 rotate_left
 ·
  go_wp2
  go_ret
  exact ⟨rfl, Mod.below HX1.out (by have := HN.out; omega) (fun _ _ => id)⟩
 have Hh := Lib.hid hh
 clear hh
 have hld := load_row (P := Tryz.prog) (o := 0) (cs := [.int .i64 c.full, .int .i64 c.wit, .int .i64 c.learn, .int .i64 c.learnWit]) str_conf HA1.out rfl (fun j u hu => by rw [Nat.zero_add]; exact hu)
 go_wp2_with (refine wpList_ldW (by kernel_rfl) 23 _ rfl _ _ rfl hld ?_)
 clear hld
 refine (r_conf c w1).mono ?_
 rintro e w2 ⟨rfl, hE⟩
 have HA2 := Lib.hid (hE.blk HA1.out id)
 have HX2 := Lib.hid (HX1.out.ext hE)
 clear hE
 rcases hc : confOk c with _ | _
 ·
  go_wp2
  go_ret
  exact ⟨rfl, Mod.below HX2.out (by have := HN.out; omega) (fun _ _ => id)⟩
 have Hc := Lib.hid hc
 clear hc
 go_wp2_with fail
 refine (d_new 65536 (by omega) (by omega) w2).mono ?_
 rintro e w3 ⟨rfl, hD, hE⟩
 obtain ⟨d, hd⟩ : ∃ d, w2.heap.size = d := ⟨_, rfl⟩
 rw [hd] at hD ⊢
 have HNd : Hid (N ≤ d) := Lib.hid (by have := HX2.out.size; have := HN.out; omega)
 have HX3 := Lib.hid (HX2.out.ext hE)
 have HA3 := Lib.hid (hE.blk HA2.out id)
 have HD3 := Lib.hid hD
 clear hd hD hE
 have hld := load_row (P := Tryz.prog) (o := 0) (cs := [.int .i64 c.full, .int .i64 c.wit, .int .i64 c.learn, .int .i64 c.learnWit]) str_conf HA3.out rfl (fun j u hu => by rw [Nat.zero_add]; exact hu)
 go_wp2_with (refine wpList_ld rfl 23 _ rfl _ _ rfl hld ?_)
 clear hld
 refine (r8_begin w3 c).mono ?_
 rintro e w4 ⟨rfl, hE⟩
 have HX4 := Lib.hid (HX3.out.ext hE)
 have HD4 := Lib.hid (HD3.out.ext hE)
 obtain ⟨b9, hb9⟩ : ∃ b, w4.heap.size = b := ⟨_, rfl⟩
 have hz : (w4.alloc (.cells #[.int .i64 0, .int .i64 0, .int .i64 0, .int .i64 0, .int .i64 0, .int .i64 0, .int .i64 0, .int .i64 0, .slice none 0 0, .slice none 0 0] 34)).heap[b9]? = some (.cells #[.int .i64 0, .int .i64 0, .int .i64 0, .int .i64 0, .int .i64 0, .int .i64 0, .int .i64 0, .int .i64 0, .slice none 0 0, .slice none 0 0] 34 (0, 0)) := by rw [← hb9]; exact heap_alloc_new w4 _
 have Hb9 := Lib.hid hb9
 clear hE hb9
 go_wp2_with (rw [Hb9.out]; refine wpList_stR rfl 34 _ _ rfl 10 b9 0 ((beginH c : AHard).cells (.slice none 0 0) (.slice none 0 0)) rfl rfl str_hard _ [.int .i64 0, .int .i64 0, .int .i64 0, .int .i64 0, .int .i64 0, .int .i64 0, .int .i64 0, .int .i64 0, .slice none 0 0, .slice none 0 0] ((beginH c : AHard).cells (.slice none 0 0) (.slice none 0 0)) hz rfl (by simp) (h_one _ _ _ _ _ _ _) rfl ?_)
 intro w5 hb5 hm5 hs5
 have hE : Ext w4 w5 := ((Mod.refl (fun _ => False) w4).alloc (.cells #[.int .i64 0, .int .i64 0, .int .i64 0, .int .i64 0, .int .i64 0, .int .i64 0, .int .i64 0, .int .i64 0, .slice none 0 0, .slice none 0 0] 34)).trans hm5 (fun k hk e => by have := Hb9.out; omega)
 have HX5 := Lib.hid (HX4.out.ext hE)
 have HD5 := Lib.hid (HD4.out.ext hE)
 have HF5 := Lib.hid hb5
 clear hE hb5 hm5 hs5 hz
 have hld := load_row (P := Tryz.prog) (o := 0) (cs := ((beginH c : AHard).cells (.slice none 0 0) (.slice none 0 0))) str_hard HF5.out rfl (fun j u hu => by rw [Nat.zero_add]; exact hu)
 go_wp2_with (refine wpList_ld rfl 34 _ rfl _ _ rfl hld ?_)
 clear hld
 refine (st_open w5 (fun _ => False) d (beginH c) (.slice none 0 0) (.slice none 0 0) (.slice none 0 0) _ HD5.out (begin_mem _ _ _) (by simp [beginH])).mono ?_
 intro e w6 hO
 have hob : (openP (ADisk.new 65536) (beginH c)).2.1 = some (beginH c) ∧ (openP (ADisk.new 65536) (beginH c)).2.2 = 0 ∧ StP (openP (ADisk.new 65536) (beginH c)).1 (beginH c) 65536 0 := by
  rcases open_begin Hc.out Hco.out 65536 with ⟨_, h⟩ | h
  ·
   omega
  ·
   exact h
 obtain ⟨s, fv, gs, gl, rfl, hS, hK⟩ := hO.yes (N := N) HD5.out hob.1 HNd.out (by simp [Value.ownBlock])
 obtain ⟨D, hD⟩ : ∃ D, (openP (ADisk.new 65536) (beginH c)).1 = D := ⟨_, rfl⟩
 rw [hD] at hS hob
 have HS6 := Lib.hid hS
 have HP6 := Lib.hid hob.2.2
 have HM6 : Hid (Mod (fun k => N ≤ k) w w6) := Lib.hid (Mod.self (Ext.mod HX5.out _) (hK d).md)
 have HF6 := Lib.hid ((hK d).bx _ _ _ _ (by decide) (by decide) (by decide) HF5.out)
 clear hO hS hK hob hD
 have hld := load_row (P := Tryz.prog) (o := 0) (cs := ((beginH c : AHard).cells (.slice none 0 0) (.slice none 0 0))) str_hard HF6.out rfl (fun j u hu => by rw [Nat.zero_add]; exact hu)
 obtain ⟨b11, hbx⟩ : ∃ b, w6.heap.size = b := ⟨_, rfl⟩
 have hz : (w6.alloc (.cells #[.int .i64 0, .int .i64 0, .int .i64 0, .int .i64 0, .int .i64 0, .int .i64 0, .int .i64 0, .int .i64 0, .slice none 0 0, .slice none 0 0] 34)).heap[b11]? = some (.cells #[.int .i64 0, .int .i64 0, .int .i64 0, .int .i64 0, .int .i64 0, .int .i64 0, .int .i64 0, .int .i64 0, .slice none 0 0, .slice none 0 0] 34 (0, 0)) := by rw [← hbx]; exact heap_alloc_new w6 _
 have Hbx := Lib.hid hbx
 have Hb9n : Hid (b9 < b11) := Lib.hid (by have h1 := (Array.getElem?_eq_some_iff.1 HF6.out).1; have := Hbx.out; omega)
 have Hb11N : Hid (N ≤ b11) := Lib.hid (by have := HM6.out.size; have := HN.out; omega)
 clear hbx
 go_wp2_with (first | (refine wpList_ld rfl 34 _ rfl _ _ rfl hld ?_) | (rw [Hbx.out]; refine wpList_stR rfl 34 _ _ rfl 10 b11 0 ((beginH c : AHard).cells (.slice none 0 0) (.slice none 0 0)) rfl rfl str_hard _ [.int .i64 0, .int .i64 0, .int .i64 0, .int .i64 0, .int .i64 0, .int .i64 0, .int .i64 0, .int .i64 0, .slice none 0 0, .slice none 0 0] ((beginH c : AHard).cells (.slice none 0 0) (.slice none 0 0)) hz rfl (by simp) (h_one _ _ _ _ _ _ _) rfl ?_))
 intro w7 hb hm hs
 have hE : Ext w6 w7 := ((Mod.refl (fun _ => False) w6).alloc (.cells #[.int .i64 0, .int .i64 0, .int .i64 0, .int .i64 0, .int .i64 0, .int .i64 0, .int .i64 0, .int .i64 0, .slice none 0 0, .slice none 0 0] 34)).trans hm (fun k hk e => by have := Hbx.out; omega)
 have HS7 := Lib.hid (HS6.out.ext hE)
 have HM7 := Lib.hid (HM6.out.ext hE)
 have HF7 := Lib.hid (hE.blk HF6.out id)
 have HK7 := Lib.hid hb
 clear hE hb hm hs hz hld
 go_upto_block 0 with fail
 go_cut [8, 10, 11, 12, 13, 14] from 43 to 109 (fun sv _ _ _ _ _ wx => ∃ (s : Nat) (fv gs gl hv hl : Value) (D : ADisk) (g : AHard), sv = .pointer (some ⟨s, 0, none⟩) ∧ StM wx N s d fv gs gl D g ∧ StA D g 65536 8000 ∧ Mod (fun k => N ≤ k) w wx ∧ wx.heap[b9]? = some (.cells ((beginH c : AHard).cells (.slice none 0 0) (.slice none 0 0)).toArray 34 (0, 0)) ∧ wx.heap[b11]? = some (.cells ((g : AHard).cells (hv) (hl)).toArray 34 (0, 0)) ∧ HardM wx (fun k => Apart s d fv k ∧ k ≠ b11) hv hl g)
 case first =>
  go_wp2_with fail
  go_loopw [8, 10, 11, 12, 13, 14] (fun sv iv _ _ _ _ wr => ∃ (i s : Nat) (fv gs gl hv hl : Value) (D : ADisk) (g : AHard), i ≤ n ∧ i ≤ 40 ∧ iv = .int .i64 i ∧ sv = .pointer (some ⟨s, 0, none⟩) ∧ StM wr N s d fv gs gl D g ∧ StA D g 65536 (200 * i) ∧ Mod (fun k => N ≤ k) w wr ∧ wr.heap[b9]? = some (.cells ((beginH c : AHard).cells (.slice none 0 0) (.slice none 0 0)).toArray 34 (0, 0)) ∧ wr.heap[b11]? = some (.cells ((g : AHard).cells (hv) (hl)).toArray 34 (0, 0)) ∧ HardM wr (fun k => Apart s d fv k ∧ k ≠ b11) hv hl g) (fun _ iv _ _ _ _ _ => n - (intOf iv).toNat)
  case atStart => exact ⟨0, s, fv, gs, gl, .slice none 0 0, .slice none 0 0, D, beginH c, by omega, by omega, rfl, rfl, HS7.out, HP6.out.sta, HM7.out, HF7.out, HK7.out, begin_mem _ _ _⟩
  case round =>
   clear HS6 HP6 HM6 HF6 HS7 HM7 HF7 HK7 fv gs gl D
   obtain ⟨i, s, fv, gs, gl, hv, hl, D, g, hin, hi40, rfl, rfl, hS, hP, hM, hF, hK, hH⟩ := hrel
   have HS := Lib.hid hS
   have HP := Lib.hid hP
   have HM := Lib.hid hM
   have HF := Lib.hid hF
   have HK := Lib.hid hK
   have HH := Lib.hid hH
   have Hb11 : Hid (b11 < wr.heap.size) := Lib.hid (Array.getElem?_eq_some_iff.1 hK).1
   obtain ⟨As, cs, Al, cl0, rfl, rfl⟩ := hS.hm.forms
   obtain ⟨Ks, ks, Kl, kl, rfl, rfl⟩ := hH.forms
   clear hS hP hM hF hK hH
   have hi0 : (0 : Int) ≤ (i : Int) := by omega
   by_cases hi : i < n
   rotate_left
   ·
    have HPo : Hid (StA D g 65536 8000) := Lib.hid (HP.out.more (by omega))
    go_wp2_with fail
    go_meet
    exact ⟨s, fv, _, _, _, _, D, g, rfl, HS.out, HPo.out, HM.out, HF.out, HK.out, HH.out⟩
   by_cases hj : i < 40
   rotate_left
   ·
    have HPo : Hid (StA D g 65536 8000) := Lib.hid (HP.out.more (by omega))
    go_wp2_with fail
    go_meet
    exact ⟨s, fv, _, _, _, _, D, g, rfl, HS.out, HPo.out, HM.out, HF.out, HK.out, HH.out⟩
   obtain ⟨gb, ob, x, rfl, hgT, hx, hxok, hcx⟩ := (HL.out.mod HM.out (fun g hg => by omega)).at hi
   have hi1 : (i : Int) < (n : Int) := by omega
   have Hhx := Lib.hid (heavy_act Hh.out hj hx)
   obtain ⟨⟨ad, an, ak, ah, al, ab⟩, asv, alv, aev, abv⟩ := x
   obtain ⟨Bl, bl, hev⟩ := hxok.2.2.2.2.2.1.1.form
   obtain ⟨Cl, cl, hbv⟩ := hxok.2.2.2.2.2.2.form
   simp only at hev hbv
   subst hev hbv
   have hq0 : (IntKind.u64.wrap ad).tmod 9 = um ad 9 := um_walk ad 9
   obtain ⟨q, hq⟩ : ∃ q, um ad 9 = q := ⟨_, rfl⟩
   rw [hq] at hq0
   have Hq := Lib.hid hq
   have hld := load_at (P := Tryz.prog) (g := gb) (o := ob + i * 15) (cs := (AActM.cells ⟨⟨ad, an, ak, ah, al, ab⟩, asv, alv, .slice Bl al.length bl, .slice Cl ab.length cl⟩)) str_act rfl hcx
   have honea : ∀ v ∈ (AActM.cells ⟨⟨ad, an, ak, ah, al, ab⟩, asv, alv, .slice Bl al.length bl, .slice Cl ab.length cl⟩), v.oneCell' = true := by
    obtain ⟨A1, k1, A2, k2, f1, f2⟩ := hxok.2.2.2.2.1.forms
    simp only at f1 f2
    subst f1 f2
    exact List.all_eq_true.1 rfl
   obtain ⟨b12, hbx2⟩ : ∃ b, wr.heap.size = b := ⟨_, rfl⟩
   have hz : (wr.alloc (.cells #[.int .i64 0, .int .i64 0, .int .i64 0, .int .i64 0, .int .i64 0, .int .i64 0, .int .i64 0, .int .i64 0, .int .i64 0, .int .i64 0, .int .i64 0, .slice none 0 0, .slice none 0 0, .slice none 0 0, .slice none 0 0] 41)).heap[b12]? = some (.cells #[.int .i64 0, .int .i64 0, .int .i64 0, .int .i64 0, .int .i64 0, .int .i64 0, .int .i64 0, .int .i64 0, .int .i64 0, .int .i64 0, .int .i64 0, .slice none 0 0, .slice none 0 0, .slice none 0 0, .slice none 0 0] 41 (0, 0)) := by rw [← hbx2]; exact heap_alloc_new wr _
   have Hbx2 := Lib.hid hbx2
   have hxlow : AActM.ok wr (fun k => (Apart s d fv k ∧ k ≠ b11) ∧ k < wr.heap.size) _ := act_cap (T' := fun k => (Apart s d fv k ∧ k ≠ b11) ∧ k < wr.heap.size) hxok (fun k h1 h2 => ⟨⟨HS.out.low h1, by have := Hb11N.out; omega⟩, h2⟩)
   have HXr := Lib.hid hxlow
   clear hq hx hbx2 hxok hcx hxlow
   go_wp2_with (first | (refine wpList_ld rfl 41 _ rfl _ _ rfl hld ?_) | (rw [Hbx2.out]; refine wpList_stR rfl 41 _ _ rfl 15 b12 0 (AActM.cells ⟨⟨ad, an, ak, ah, al, ab⟩, asv, alv, .slice Bl al.length bl, .slice Cl ab.length cl⟩) rfl rfl str_act _ [.int .i64 0, .int .i64 0, .int .i64 0, .int .i64 0, .int .i64 0, .int .i64 0, .int .i64 0, .int .i64 0, .int .i64 0, .int .i64 0, .int .i64 0, .slice none 0 0, .slice none 0 0, .slice none 0 0, .slice none 0 0] (AActM.cells ⟨⟨ad, an, ak, ah, al, ab⟩, asv, alv, .slice Bl al.length bl, .slice Cl ab.length cl⟩) hz rfl (by simp) honea rfl ?_))
   intro wa hb hm hs
   have hE : Ext wr wa := ((Mod.refl (fun _ => False) wr).alloc (.cells #[.int .i64 0, .int .i64 0, .int .i64 0, .int .i64 0, .int .i64 0, .int .i64 0, .int .i64 0, .int .i64 0, .int .i64 0, .int .i64 0, .int .i64 0, .slice none 0 0, .slice none 0 0, .slice none 0 0, .slice none 0 0] 41)).trans hm (fun k hk e => by have := Hbx2.out; omega)
   have HSa := Lib.hid (HS.out.ext hE)
   have HMa := Lib.hid (HM.out.ext hE)
   have HFa := Lib.hid (hE.blk HF.out id)
   have HKa := Lib.hid (hE.blk HK.out id)
   have HHa := Lib.hid (HH.out.mod hE (fun _ _ => id))
   have HXa := Lib.hid (HXr.out.mod hE (fun _ _ => id))
   have HAa := Lib.hid hb
   have a0 : wa.cell? ⟨b12, 0, none⟩ = some (.int .i64 ad) := blk_cell (cs := (AActM.cells ⟨⟨ad, an, ak, ah, al, ab⟩, asv, alv, .slice Bl al.length bl, .slice Cl ab.length cl⟩)) hb rfl
   clear hE hb hm hs hz hld
   by_cases hq5 : 5 ≤ q
   ·
    have dq : decide (5 ≤ q) = true := decide_eq_true hq5
    have a1 : wa.cell? ⟨b12, 1, none⟩ = some (.int .i64 an) := blk_cell (cs := (AActM.cells ⟨⟨ad, an, ak, ah, al, ab⟩, asv, alv, .slice Bl al.length bl, .slice Cl ab.length cl⟩)) HAa.out rfl
    have a2 : wa.cell? ⟨b12, 2, none⟩ = some (.int .i64 ak) := blk_cell (cs := (AActM.cells ⟨⟨ad, an, ak, ah, al, ab⟩, asv, alv, .slice Bl al.length bl, .slice Cl ab.length cl⟩)) HAa.out rfl
    have HP2 := Lib.hid ((HP.out.arm an ak).more (k := 200 * (i + 1)) (by omega))
    go_wp2_with fail
    refine (d_trip wa d fv D HSa.out.dk an ak (by have := HXa.out.2.1; unfold I64 at this; exact this.2) (by have := HXa.out.2.2.1; exact this)).mono ?_
    rintro e wb ⟨rfl, hD, hM⟩
    obtain ⟨fvb, hS, hKp⟩ := HSa.out.dm (DM.of hD hM)
    have HSb := Lib.hid hS
    have HMb := Lib.hid (HMa.out.self hKp.md)
    have HFb := Lib.hid (hKp.bx _ _ _ _ (by decide) (by decide) (by decide) HFa.out)
    have HKb := Lib.hid (hKp.bx _ _ _ _ (by decide) (by decide) (by decide) HKa.out)
    have HHb := Lib.hid (hKp.hm _ _ _ _ HHa.out)
    clear hD hM hS hKp a0 a1 a2
    go_wp2_with fail
    go_roundw
    case rel => exact ⟨i + 1, s, fvb, _, _, _, _, _, g, by omega, by omega, by go_num, rfl, HSb.out, HP2.out, HMb.out, HFb.out, HKb.out, HHb.out⟩
    case measure => simp [intOf]; omega
   have dq : decide (5 ≤ q) = false := decide_eq_false hq5
   have hldh := load_row (P := Tryz.prog) (o := 0) (cs := ((g : AHard).cells (.slice Ks g.snap.length ks) (.slice Kl g.log.length kl))) str_hard HKa.out rfl (fun j u hu => by rw [Nat.zero_add]; exact hu)
   have hlda := load_row (P := Tryz.prog) (o := 0) (cs := (AActM.cells ⟨⟨ad, an, ak, ah, al, ab⟩, asv, alv, .slice Bl al.length bl, .slice Cl ab.length cl⟩)) str_act HAa.out rfl (fun j u hu => by rw [Nat.zero_add]; exact hu)
   go_wp2_with (first | (refine wpList_ld rfl 34 _ rfl (.pointer (some ⟨b11, 0, none⟩)) _ rfl hldh ?_) | (refine wpList_ld rfl 41 _ rfl (.pointer (some ⟨b12, 0, none⟩)) _ rfl hlda ?_))
   clear hldh hlda a0
   refine (l_next wa (fun k => Apart s d fv k ∧ k ≠ b11) g ah Ks _ ks Kl _ kl ad an ak asv alv Bl _ bl Cl _ cl al ab HHa.out rfl rfl (HXa.out.2.2.2.2.1.mono (fun k hk => hk.1)) ⟨HXa.out.2.2.2.2.2.1.1.mono (fun k hk => hk.1), HXa.out.2.2.2.2.2.1.2⟩ rfl (HXa.out.2.2.2.2.2.2.mono (fun k hk => hk.1)) rfl HP.out.hd.1 (by have := HP.out.lg; omega) (by have := Hhx.out; omega) (by have := Hhx.out; omega)).mono ?_
   rintro e wb ⟨sb, lb, rfl, hMb, hE⟩
   have hmo := act_more (i := i) (x := ⟨ad, an, ak, ah, al, ab⟩) HP.out.hd HP.out.lg HXa.out.fit.1 HXa.out.fit.2 Hhx.out
   obtain ⟨y, hy⟩ : ∃ y, nextP g ⟨ad, an, ak, ah, al, ab⟩ = y := ⟨_, rfl⟩
   rw [hy] at hMb hmo ⊢
   obtain ⟨Gs, gs2, Gl, gl2, rfl, rfl⟩ := hMb.forms
   have HSb := Lib.hid (HSa.out.ext hE)
   have HMb := Lib.hid (HMa.out.ext hE)
   have HFb := Lib.hid (hE.blk HFa.out id)
   have HKb := Lib.hid (hE.blk HKa.out id)
   have HHb := Lib.hid (HHa.out.mod hE (fun _ _ => id))
   have HAb := Lib.hid (hE.blk HAa.out id)
   have HYb : Hid (HardM wb (fun k => Apart s d fv k ∧ k ≠ b11) (.slice Gs y.snap.length gs2) (.slice Gl y.log.length gl2) y) := Lib.hid (hMb.mono (fun k hk => by
    rcases hk with e | e
    ·
     exact e
    ·
     exact ⟨HSa.out.new e, by have h1 := (Array.getElem?_eq_some_iff.1 HKa.out).1; omega⟩))
   have Hmo := Lib.hid hmo
   obtain ⟨b13, hbx3⟩ : ∃ b, wb.heap.size = b := ⟨_, rfl⟩
   have hz : (wb.alloc (.cells #[.int .i64 0, .int .i64 0, .int .i64 0, .int .i64 0, .int .i64 0, .int .i64 0, .int .i64 0, .int .i64 0, .slice none 0 0, .slice none 0 0] 34)).heap[b13]? = some (.cells #[.int .i64 0, .int .i64 0, .int .i64 0, .int .i64 0, .int .i64 0, .int .i64 0, .int .i64 0, .int .i64 0, .slice none 0 0, .slice none 0 0] 34 (0, 0)) := by rw [← hbx3]; exact heap_alloc_new wb _
   have Hbx3 := Lib.hid hbx3
   have Hb13 : Hid (b11 < b13) := Lib.hid (by have h1 := (Array.getElem?_eq_some_iff.1 HKb.out).1; omega)
   clear hE hMb hmo hy hbx3
   go_wp2_with (rw [Hbx3.out]; refine wpList_stR rfl 34 _ _ rfl 10 b13 0 ((y : AHard).cells (.slice Gs y.snap.length gs2) (.slice Gl y.log.length gl2)) rfl rfl str_hard _ [.int .i64 0, .int .i64 0, .int .i64 0, .int .i64 0, .int .i64 0, .int .i64 0, .int .i64 0, .int .i64 0, .slice none 0 0, .slice none 0 0] ((y : AHard).cells (.slice Gs y.snap.length gs2) (.slice Gl y.log.length gl2)) hz rfl (by simp) (h_one _ _ _ _ _ _ _) rfl ?_)
   intro wc2 hb hm hs
   have hE : Ext wb wc2 := ((Mod.refl (fun _ => False) wb).alloc (.cells #[.int .i64 0, .int .i64 0, .int .i64 0, .int .i64 0, .int .i64 0, .int .i64 0, .int .i64 0, .int .i64 0, .slice none 0 0, .slice none 0 0] 34)).trans hm (fun k hk e => by have := Hbx3.out; omega)
   have HSc := Lib.hid (HSb.out.ext hE)
   have HMc := Lib.hid (HMb.out.ext hE)
   have HFc := Lib.hid (hE.blk HFb.out id)
   have HKc := Lib.hid (hE.blk HKb.out id)
   have HGc := Lib.hid (HHb.out.mod hE (fun _ _ => id))
   have HAc := Lib.hid (hE.blk HAb.out id)
   have HYc := Lib.hid (HYb.out.mod hE (fun _ _ => id))
   have HBc := Lib.hid hb
   clear hE hb hm hs hz
   have hld := load_row (P := Tryz.prog) (o := 0) (cs := ((y : AHard).cells (.slice Gs y.snap.length gs2) (.slice Gl y.log.length gl2))) str_hard HBc.out rfl (fun j u hu => by rw [Nat.zero_add]; exact hu)
   go_wp2_with (refine wpList_ld rfl 34 _ rfl _ _ rfl hld ?_)
   clear hld
   refine (st_save wc2 _ _ s d g y As _ cs Al _ cl0 Gs _ gs2 Gl _ gl2 fv D HSc.out.st HSc.out.dk HSc.out.hm rfl rfl HYc.out rfl rfl (fun k hk => ⟨hk.1.1, hk.1.2.2⟩) (by have := Hmo.out.2.1; omega) (by have := HP.out.lg; omega) (by have := Hmo.out.2.2; omega)).mono ?_
   intro e wd hO
   obtain ⟨rfl, fvd, gsd, gld, hSd, hKd⟩ := HSc.out.save hO
   have hsa := HP.out.save (y := y) (k := 200 * (i + 1)) Hmo.out.1.1 Hmo.out.1.2 Hmo.out.2.1 (by omega) (by omega)
   obtain ⟨D2, hD2⟩ : ∃ D2, (saveP D g y).1 = D2 := ⟨_, rfl⟩
   obtain ⟨g2, hg2⟩ : ∃ g2, (saveP D g y).2.1 = g2 := ⟨_, rfl⟩
   obtain ⟨cd, hcd⟩ : ∃ cd, (saveP D g y).2.2 = cd := ⟨_, rfl⟩
   rw [hD2, hg2] at hSd
   rw [hD2, hg2, hcd] at hsa
   rw [hcd]
   have HSd := Lib.hid hSd
   have HMd := Lib.hid (HMc.out.self hKd.md)
   have HFd := Lib.hid (hKd.bx _ _ _ _ (by decide) (by decide) (by decide) HFc.out)
   have HKd := Lib.hid (hKd.bx _ _ _ _ (by decide) (by decide) (by decide) HKc.out)
   have HBd := Lib.hid (hKd.bx _ _ _ _ (by decide) (by decide) (by decide) HBc.out)
   have HAd := Lib.hid (hKd.bx _ _ _ _ (by decide) (by decide) (by decide) HAc.out)
   have HGd : Hid (HardM wd (fun k => Apart s d fvd k ∧ k ≠ b11) _ _ g) := Lib.hid (hKd.hm _ _ _ _ HGc.out)
   have HYd : Hid (HardM wd (fun k => Apart s d fvd k ∧ k ≠ b11) _ _ y) := Lib.hid (hKd.hm _ _ _ _ HYc.out)
   clear hO hSd hKd hD2 hg2 hcd
   rcases hsa with ⟨rfl, rfl, hPd⟩ | ⟨hc0, hc4, rfl, hPd⟩ | ⟨rfl, rfl, hcr⟩
   ·
    have HPd := Lib.hid hPd
    have hld := load_row (P := Tryz.prog) (o := 0) (cs := ((g2 : AHard).cells (.slice Gs g2.snap.length gs2) (.slice Gl g2.log.length gl2))) str_hard HBd.out rfl (fun j u hu => by rw [Nat.zero_add]; exact hu)
    clear hPd
    go_wp2_with (first | (refine wpList_ld rfl 34 _ rfl _ _ rfl hld ?_) | (refine wpList_stR rfl 34 _ _ rfl 10 b11 0 ((g2 : AHard).cells (.slice Gs g2.snap.length gs2) (.slice Gl g2.log.length gl2)) rfl rfl str_hard _ _ ((g2 : AHard).cells (.slice Gs g2.snap.length gs2) (.slice Gl g2.log.length gl2)) HKd.out rfl (by simp) (h_one _ _ _ _ _ _ _) rfl ?_))
    intro we hbe hme hse
    have HSe := Lib.hid (StM.box HSd.out HKd.out hme (by decide) (by decide) (by decide) (by decide))
    have HMe := Lib.hid (HMd.out.trans hme (fun k _ e => by have := Hb11N.out; omega))
    have HFe := Lib.hid (hme.blk HFd.out (by have := Hb9n.out; omega))
    have HYe := Lib.hid (hard_box HYd.out hme (fun k hk => hk.2))
    have HKe := Lib.hid hbe
    clear hme hse hbe hld
    go_wp2_with fail
    go_roundw
    case rel => exact ⟨i + 1, s, fvd, _, _, _, _, D2, g2, by omega, by omega, by go_num, rfl, HSe.out, HPd.out, HMe.out, HFe.out, HKe.out, HYe.out⟩
    case measure => simp [intOf]; omega
   ·
    have HPd := Lib.hid hPd
    have dc0 : (cd == 0) = false := by simpa using hc0
    have dc4 : (cd == 4) = false := by simpa using hc4
    have dc4' : (cd != 4) = true := by simpa using hc4
    clear hPd hc0 hc4
    go_wp2_with fail
    refine wp_region_held_drew (S := fun W' => Ext wd W') (by kernel_rfl) (Mod.refl _ wd).drew (fun hS => ?_)
    refine tkH 0 (some 79) rfl rfl ?_ hS ?_ ?_; rotate_left; · rintro W' hW'; go_simp; try with_reducible rfl
    try simp only [pL]
    refine takeH (i := 2) (v := .agg ((g2 : AHard).cells (.slice Ks g2.snap.length ks) (.slice Kl g2.log.length kl)).toArray) (some 81) rfl rfl (by kernel_rfl) (by kernel_rfl) (by kernel_rfl) (fun _ _ _ h => h) (Or.inl ⟨by kernel_rfl, ?_⟩) hS ?_
    ·
     rintro W' hW'
     exact exec_ld _ _ rfl (.pointer (some ⟨b11, 0, none⟩)) _ rfl (load_row (P := Tryz.prog) (o := 0) (cs := ((g2 : AHard).cells (.slice Ks g2.snap.length ks) (.slice Kl g2.log.length kl))) str_hard (hW'.blk HKd.out id) rfl (fun j u hu => by rw [Nat.zero_add]; exact hu))
    try simp only [pL]
    refine wpAnyH_ready (rs := [1]) (by kernel_rfl) (by simp) ?_
    refine AllReadyH.cons rfl (fun K hK => ?_) AllReadyH.nil
    go_simp
    go_wp2_with fail
    refine (st_hard wd.drew _ s d g2 _ _ HSd.out.st HSd.out.hm (by have := HPd.out.lg; omega) (by have := HPd.out.hd.1.s; omega)).mono ?_
    rintro e wf ⟨sf, lf, rfl, hNf, hEf⟩
    have HHf := Lib.hid (HGd.out.mod (S := fun _ => False) (Mod.ext (Mod.refl _ wd).drew hEf) (fun _ _ => id))
    have HNf := Lib.hid hNf.mem
    clear hNf
    have hX := (hS.ext hEf)
    go_simp
    refine hK.out _ _ hX (fun hS => ?_)
    clear hK K hX
    try simp only [pL]
    refine wpAnyH_ready (rs := [3]) (by kernel_rfl) (by simp) ?_
    refine AllReadyH.cons rfl (fun K hK => ?_) AllReadyH.nil
    go_simp
    go_wp2_with fail
    refine (k_hard wf _ _ g2 g2 _ _ _ _ HNf.out HHf.out).mono ?_
    rintro e wg ⟨rfl, hEg⟩
    rw [eqHard_refl]
    have hX := (hS.ext hEg)
    go_simp
    refine hK.out _ _ hX (fun hS => ?_)
    clear hK K hX
    try simp only [pL]
    refine tkH 4 (some 83) rfl rfl ?_ hS ?_ ?_; rotate_left; · rintro W' hW'; go_simp; try with_reducible rfl
    try simp only [pL]
    refine wpAnyH_done (by kernel_rfl) ?_ _
    go_wp2_with fail
    go_roundw
    case rel => exact ⟨i + 1, s, fvd, _, _, _, _, D2, g2, by omega, by omega, by go_num, rfl, HSd.out.ext hS, HPd.out, HMd.out.ext hS, hS.blk HFd.out id, hS.blk HKd.out id, HGd.out.mod hS (fun _ _ => id)⟩
    case measure => simp [intOf]; omega
   have Hcr := Lib.hid hcr
   clear hcr
   have a2 : wd.cell? ⟨b12, 2, none⟩ = some (.int .i64 ak) := blk_cell (cs := (AActM.cells ⟨⟨ad, an, ak, ah, al, ab⟩, asv, alv, .slice Bl al.length bl, .slice Cl ab.length cl⟩)) HAd.out rfl
   go_wp2_with fail
   refine (d_crash wd d fvd D2 HSd.out.dk ak (by have := HXa.out.2.2.1; exact this)).mono ?_
   rintro e we ⟨rfl, hM⟩
   obtain ⟨fve, hS, hKp⟩ := HSd.out.dm hM
   have HSe := Lib.hid hS
   have HMe := Lib.hid (HMd.out.self hKp.md)
   have HFe := Lib.hid (hKp.bx _ _ _ _ (by decide) (by decide) (by decide) HFd.out)
   have HKe := Lib.hid (hKp.bx _ _ _ _ (by decide) (by decide) (by decide) HKd.out)
   have HBe := Lib.hid (hKp.bx _ _ _ _ (by decide) (by decide) (by decide) HBd.out)
   have HGe := Lib.hid (hKp.hm _ _ _ _ HGd.out)
   have HYe := Lib.hid (hKp.hm _ _ _ _ HYd.out)
   clear hM hS hKp a2
   go_wp2_with fail
   refine (d_start we d fve _ HSe.out.dk).mono ?_
   rintro e wf ⟨rfl, hD, hM⟩
   obtain ⟨fvf, hS, hKp⟩ := HSe.out.dm (DM.of hD hM)
   have HSf := Lib.hid hS
   have HMf := Lib.hid (HMe.out.self hKp.md)
   have HFf := Lib.hid (hKp.bx _ _ _ _ (by decide) (by decide) (by decide) HFe.out)
   have HKf := Lib.hid (hKp.bx _ _ _ _ (by decide) (by decide) (by decide) HKe.out)
   have HBf := Lib.hid (hKp.bx _ _ _ _ (by decide) (by decide) (by decide) HBe.out)
   have HGf := Lib.hid (hKp.hm _ _ _ _ HGe.out)
   have HYf := Lib.hid (hKp.hm _ _ _ _ HYe.out)
   obtain ⟨D3, x, hop, hPx, hfo⟩ := Hcr.out ak (beginH c) hS.dk.2.2 ((checkH_iff _).2 (begin_held Hc.out Hco.out).1)
   have Hop := Lib.hid hop
   have HPx := Lib.hid hPx
   have Hfo := Lib.hid hfo
   clear hD hM hS hKp hop hPx hfo Hcr
   have hld := load_row (P := Tryz.prog) (o := 0) (cs := ((beginH c : AHard).cells (.slice none 0 0) (.slice none 0 0))) str_hard HFf.out rfl (fun j u hu => by rw [Nat.zero_add]; exact hu)
   go_wp2_with (refine wpList_ld rfl 34 _ rfl _ _ rfl hld ?_)
   clear hld
   refine (st_open wf (fun _ => False) d (beginH c) (.slice none 0 0) (.slice none 0 0) fvf _ HSf.out.dk (begin_mem _ _ _) (by simp [beginH])).mono ?_
   intro e wg hO
   rw [Hop.out] at hO
   obtain ⟨s2, fvg, gsg, glg, rfl, hS, hKf⟩ := hO.yes (N := N) HSf.out.dk rfl HSf.out.nd HSf.out.nf
   replace hS : StM wg N s2 d fvg gsg glg D3 x := hS
   have HSg := Lib.hid hS
   have HMg := Lib.hid (HMf.out.self (hKf s).md)
   have HFg := Lib.hid ((hKf s).bx _ _ _ _ (by decide) (by decide) (by decide) HFf.out)
   have HKg := Lib.hid ((hKf s).bx _ _ _ _ (by decide) (by decide) (by decide) HKf.out)
   have HBg := Lib.hid ((hKf s).bx _ _ _ _ (by decide) (by decide) (by decide) HBf.out)
   have HGg := Lib.hid ((hKf s).hm _ _ _ _ HGf.out)
   have HYg := Lib.hid ((hKf s).hm _ _ _ _ HYf.out)
   clear hO hS hKf
   go_wp2_with fail
   refine (st_hard wg _ s2 d x _ _ HSg.out.st HSg.out.hm (by have := HPx.out.lg; omega) (by have := HPx.out.hd.1.s; omega)).mono ?_
   rintro e wh ⟨sv4, lv4, rfl, hN4, hE⟩
   obtain ⟨Js, js, Jl, jl, rfl, rfl⟩ := hN4.forms
   have HSh := Lib.hid (HSg.out.ext hE)
   have HMh := Lib.hid (HMg.out.ext hE)
   have HFh := Lib.hid (hE.blk HFg.out id)
   have HKh := Lib.hid (hE.blk HKg.out id)
   have HBh := Lib.hid (hE.blk HBg.out id)
   have HGh := Lib.hid (HGg.out.mod hE (fun _ _ => id))
   have HYh := Lib.hid (HYg.out.mod hE (fun _ _ => id))
   have HJh : Hid (HardM wh (fun k => Apart s2 d fvg k ∧ k ≠ b11) (.slice Js x.snap.length js) (.slice Jl x.log.length jl) x) := Lib.hid (HardM.mono hN4.mem (fun k hk => by
    have h1 : wg.heap.size ≤ k := by rcases hk with e | e; exact hN4.1.2 k e; exact hN4.2.2.2 k e
    exact ⟨HSg.out.new h1, by have h2 := (Array.getElem?_eq_some_iff.1 HKg.out).1; omega⟩))
   obtain ⟨b14, hbx4⟩ : ∃ b, wh.heap.size = b := ⟨_, rfl⟩
   have hz : (wh.alloc (.cells #[.int .i64 0, .int .i64 0, .int .i64 0, .int .i64 0, .int .i64 0, .int .i64 0, .int .i64 0, .int .i64 0, .slice none 0 0, .slice none 0 0] 34)).heap[b14]? = some (.cells #[.int .i64 0, .int .i64 0, .int .i64 0, .int .i64 0, .int .i64 0, .int .i64 0, .int .i64 0, .int .i64 0, .slice none 0 0, .slice none 0 0] 34 (0, 0)) := by rw [← hbx4]; exact heap_alloc_new wh _
   have Hbx4 := Lib.hid hbx4
   clear hN4 hE hbx4
   go_wp2_with (rw [Hbx4.out]; refine wpList_stR rfl 34 _ _ rfl 10 b14 0 ((x : AHard).cells (.slice Js x.snap.length js) (.slice Jl x.log.length jl)) rfl rfl str_hard _ [.int .i64 0, .int .i64 0, .int .i64 0, .int .i64 0, .int .i64 0, .int .i64 0, .int .i64 0, .int .i64 0, .slice none 0 0, .slice none 0 0] ((x : AHard).cells (.slice Js x.snap.length js) (.slice Jl x.log.length jl)) hz rfl (by simp) (h_one _ _ _ _ _ _ _) rfl ?_)
   intro wi hb hm hs
   have hE : Ext wh wi := ((Mod.refl (fun _ => False) wh).alloc (.cells #[.int .i64 0, .int .i64 0, .int .i64 0, .int .i64 0, .int .i64 0, .int .i64 0, .int .i64 0, .int .i64 0, .slice none 0 0, .slice none 0 0] 34)).trans hm (fun k hk e => by have := Hbx4.out; omega)
   have HSi := Lib.hid (HSh.out.ext hE)
   have HMi := Lib.hid (HMh.out.ext hE)
   have HFi := Lib.hid (hE.blk HFh.out id)
   have HKi := Lib.hid (hE.blk HKh.out id)
   have HBi := Lib.hid (hE.blk HBh.out id)
   have HGi := Lib.hid (HGh.out.mod hE (fun _ _ => id))
   have HYi := Lib.hid (HYh.out.mod hE (fun _ _ => id))
   have HJi := Lib.hid (HJh.out.mod hE (fun _ _ => id))
   have HCi := Lib.hid hb
   clear hE hb hm hs hz
   have hl1 := load_row (P := Tryz.prog) (o := 0) (cs := ((x : AHard).cells (.slice Js x.snap.length js) (.slice Jl x.log.length jl))) str_hard HCi.out rfl (fun j u hu => by rw [Nat.zero_add]; exact hu)
   have hl2 := load_row (P := Tryz.prog) (o := 0) (cs := ((g2 : AHard).cells (.slice Ks g2.snap.length ks) (.slice Kl g2.log.length kl))) str_hard HKi.out rfl (fun j u hu => by rw [Nat.zero_add]; exact hu)
   have hl3 := load_row (P := Tryz.prog) (o := 0) (cs := ((y : AHard).cells (.slice Gs y.snap.length gs2) (.slice Gl y.log.length gl2))) str_hard HBi.out rfl (fun j u hu => by rw [Nat.zero_add]; exact hu)
   go_wp2_with (first | (refine wpList_ld rfl 34 _ rfl (.pointer (some ⟨b14, 0, none⟩)) _ rfl hl1 ?_) | (refine wpList_ld rfl 34 _ rfl (.pointer (some ⟨b11, 0, none⟩)) _ rfl hl2 ?_) | (refine wpList_ld rfl 34 _ rfl (.pointer (some ⟨b13, 0, none⟩)) _ rfl hl3 ?_))
   clear hl1 hl2 hl3
   refine (l_between wi _ _ _ x g2 y _ _ Ks _ ks Kl _ kl Gs _ gs2 Gl _ gl2 HJi.out HGi.out rfl rfl HYi.out rfl rfl Hfo.out HP.out.hd (by have := HP.out.lg; omega) (by have := Hmo.out.2.1; omega)).mono ?_
   rintro e wj ⟨rfl, hE⟩
   have HSj := Lib.hid (HSi.out.ext hE)
   have HMj := Lib.hid (HMi.out.ext hE)
   have HFj := Lib.hid (hE.blk HFi.out id)
   have HKj := Lib.hid (hE.blk HKi.out id)
   have HCj := Lib.hid (hE.blk HCi.out id)
   have HJj := Lib.hid (HJi.out.mod hE (fun _ _ => id))
   clear hE
   have hl1 := load_row (P := Tryz.prog) (o := 0) (cs := ((x : AHard).cells (.slice Js x.snap.length js) (.slice Jl x.log.length jl))) str_hard HCj.out rfl (fun j u hu => by rw [Nat.zero_add]; exact hu)
   go_wp2_with (first | (refine wpList_ld rfl 34 _ rfl (.pointer (some ⟨b14, 0, none⟩)) _ rfl hl1 ?_) | (refine wpList_stR rfl 34 _ _ rfl 10 b11 0 ((x : AHard).cells (.slice Js x.snap.length js) (.slice Jl x.log.length jl)) rfl rfl str_hard _ _ ((x : AHard).cells (.slice Js x.snap.length js) (.slice Jl x.log.length jl)) HKj.out rfl (by simp) (h_one _ _ _ _ _ _ _) rfl ?_))
   intro wk hbe hme hse
   have HSk := Lib.hid (StM.box HSj.out HKj.out hme (by decide) (by decide) (by decide) (by decide))
   have HMk := Lib.hid (HMj.out.trans hme (fun k _ e => by have := Hb11N.out; omega))
   have HFk := Lib.hid (hme.blk HFj.out (by have := Hb9n.out; omega))
   have HJk := Lib.hid (hard_box HJj.out hme (fun k hk => hk.2))
   have HKk := Lib.hid hbe
   clear hme hse hbe hl1
   go_wp2_with fail
   go_roundw
   case rel => exact ⟨i + 1, s2, fvg, _, _, _, _, D3, x, by omega, by omega, by go_num, rfl, HSk.out, HPx.out.sta, HMk.out, HFk.out, HKk.out, HJk.out⟩
   case measure => simp [intOf]; omega
 clear HS6 HP6 HM6 HF6 HS7 HM7 HF7 HK7
 obtain ⟨s, fv, gs, gl, hv, hl, D, g, rfl, hS, hP, hM, hF, hK, hH⟩ := hcut
 obtain ⟨Qs, qs, Ql, ql, rfl, rfl⟩ := hH.forms
 have HSwc := Lib.hid hS
 have HP := Lib.hid hP
 have HMwc := Lib.hid hM
 have HFwc := Lib.hid hF
 have HGwc := Lib.hid hK
 have HHwc : Hid (HardM wc (Apart s d fv) _ _ g) := Lib.hid (hH.mono (fun k h => h.1))
 clear hS hP hM hF hK hH
 go_wp2_with fail
 refine (d_crash wc d fv D HSwc.out.dk 0 (by omega)).mono ?_
 rintro e wd ⟨rfl, hM⟩
 obtain ⟨fvd, hS, hK⟩ := HSwc.out.dm hM
 have HSwd := Lib.hid hS
 have HMwd := Lib.hid (HMwc.out.self hK.md)
 have HHwd := Lib.hid (hK.hm1 HHwc.out)
 have HGwd := Lib.hid (hK.bx _ _ _ _ (by decide) (by decide) (by decide) HGwc.out)
 have HFwd := Lib.hid (hK.bx _ _ _ _ (by decide) (by decide) (by decide) HFwc.out)
 clear hS hK hM
 go_wp2_with fail
 refine (d_start wd d fvd _ HSwd.out.dk).mono ?_
 rintro e we ⟨rfl, hD, hM⟩
 obtain ⟨fve, hS, hK⟩ := HSwd.out.dm (DM.of hD hM)
 have HSwe := Lib.hid hS
 have HMwe := Lib.hid (HMwd.out.self hK.md)
 have HHwe := Lib.hid (hK.hm1 HHwd.out)
 have HGwe := Lib.hid (hK.bx _ _ _ _ (by decide) (by decide) (by decide) HGwd.out)
 have HFwe := Lib.hid (hK.bx _ _ _ _ (by decide) (by decide) (by decide) HFwd.out)
 clear hS hK hD hM
 have hag := HP.out.again (first := beginH c) 0 HSwe.out.dk.2.2 ((checkH_iff _).2 (begin_held Hc.out Hco.out).1)
 have Hag := Lib.hid hag
 clear hag
 have hld := load_row (P := Tryz.prog) (o := 0) (cs := ((beginH c : AHard).cells (.slice none 0 0) (.slice none 0 0))) str_hard HFwe.out rfl (fun j u hu => by rw [Nat.zero_add]; exact hu)
 go_wp2_with (refine wpList_ld rfl 34 _ rfl _ _ rfl hld ?_)
 clear hld
 refine (st_open we (fun _ => False) d (beginH c) (.slice none 0 0) (.slice none 0 0) fve _ HSwe.out.dk (begin_mem _ _ _) (by simp [beginH])).mono ?_
 intro e wf hO
 rw [Hag.out] at hO
 obtain ⟨s2, fvf, gsf, glf, rfl, hS, hKf⟩ := hO.yes (N := N) HSwe.out.dk rfl HSwe.out.nd HSwe.out.nf
 have HSwf : Hid (StM wf N s2 d fvf gsf glf _ g) := Lib.hid hS
 have HMwf := Lib.hid (HMwe.out.self (hKf s).md)
 have HHwf := Lib.hid ((hKf s).hm1 HHwe.out)
 have HGwf := Lib.hid ((hKf s).bx _ _ _ _ (by decide) (by decide) (by decide) HGwe.out)
 clear hO hS hKf
 go_wp2_with fail
 refine wp_region_held_drew (S := fun W' => Ext wf W') (by kernel_rfl) (Mod.refl _ wf).drew (fun hS => ?_)
 refine tkH 0 (some 120) rfl rfl ?_ hS ?_ ?_; rotate_left; · rintro W' hW'; go_simp; try with_reducible rfl
 try simp only [pL]
 refine tkH 1 (some 121) rfl rfl ?_ hS ?_ ?_; rotate_left; · rintro W' hW'; go_simp; try with_reducible rfl
 try simp only [pL]
 refine tkH 2 (some 122) rfl rfl ?_ hS ?_ ?_; rotate_left; · rintro W' hW'; go_simp; try with_reducible rfl
 try simp only [pL]
 refine tkH 3 (some 123) rfl rfl ?_ hS ?_ ?_; rotate_left; · rintro W' hW'; go_simp; try with_reducible rfl
 try simp only [pL]
 refine tkH 4 (some 124) rfl rfl ?_ hS ?_ ?_; rotate_left; · rintro W' hW'; go_simp; try with_reducible rfl
 try simp only [pL]
 refine tkH 5 (some 125) rfl rfl ?_ hS ?_ ?_; rotate_left; · rintro W' hW'; go_simp; try with_reducible rfl
 try simp only [pL]
 refine tkH 6 (some 126) rfl rfl ?_ hS ?_ ?_; rotate_left; · rintro W' hW'; go_simp; try with_reducible rfl
 try simp only [pL]
 refine tkH 7 (some 127) rfl rfl ?_ hS ?_ ?_; rotate_left; · rintro W' hW'; go_simp; try with_reducible rfl
 try simp only [pL]
 refine takeH (i := 9) (v := .agg ((g : AHard).cells (.slice Qs g.snap.length qs) (.slice Ql g.log.length ql)).toArray) (some 129) rfl rfl (by kernel_rfl) (by kernel_rfl) (by kernel_rfl) (fun _ _ _ h => h) (Or.inl ⟨by kernel_rfl, ?_⟩) hS ?_
 ·
  rintro W' hW'
  exact exec_ld _ _ rfl (.pointer (some ⟨b11, 0, none⟩)) _ rfl (load_row (P := Tryz.prog) (o := 0) (cs := ((g : AHard).cells (.slice Qs g.snap.length qs) (.slice Ql g.log.length ql))) str_hard (hW'.blk HGwf.out id) rfl (fun j u hu => by rw [Nat.zero_add]; exact hu))
 try simp only [pL]
 refine wpAnyH_ready (rs := [8]) (by kernel_rfl) (by simp) ?_
 refine AllReadyH.cons rfl (fun K hK => ?_) AllReadyH.nil
 go_simp
 go_wp2_with fail
 refine (st_hard wf.drew _ s2 d g _ _ HSwf.out.st HSwf.out.hm (by have := HP.out.lg; omega) (by have := HP.out.hd.1.s; omega)).mono ?_
 rintro e wg ⟨sv2, lv2, rfl, hN2, hE2⟩
 have HSg := Lib.hid (HSwf.out.ext (Mod.ext (Mod.refl _ wf).drew hE2))
 have HHg := Lib.hid (HHwf.out.mod (S := fun _ => False) (Mod.ext (Mod.refl _ wf).drew hE2) (fun _ _ => id))
 have HN2 := Lib.hid hN2.mem
 clear hN2
 have hX := (hS.ext hE2)
 go_simp
 refine hK.out _ _ hX (fun hS => ?_)
 clear hK K hX
 try simp only [pL]
 refine wpAnyH_ready (rs := [10]) (by kernel_rfl) (by simp) ?_
 refine AllReadyH.cons rfl (fun K hK => ?_) AllReadyH.nil
 go_simp
 go_wp2_with fail
 refine (k_hard wg _ _ g g _ _ _ _ HN2.out HHg.out).mono ?_
 rintro e wh ⟨rfl, hE3⟩
 rw [eqHard_refl]
 have HSh := Lib.hid (HSg.out.ext hE3)
 have hX := (hS.ext hE3)
 go_simp
 refine hK.out _ _ hX (fun hS => ?_)
 clear hK K hX
 try simp only [pL]
 refine tkH 11 (some 131) rfl rfl ?_ hS ?_ ?_; rotate_left; · rintro W' hW'; go_simp; try with_reducible rfl
 try simp only [pL]
 refine tkH 12 (some 132) rfl rfl ?_ hS ?_ ?_; rotate_left; · rintro W' hW'; go_simp; try with_reducible rfl
 try simp only [pL]
 refine wpAnyH_ready (rs := [13]) (by kernel_rfl) (by simp) ?_
 refine AllReadyH.cons rfl (fun K hK => ?_) AllReadyH.nil
 go_simp
 go_wp2_with fail
 refine (l_wakes11 wh).mono ?_
 rintro e wi ⟨rfl, hE4⟩
 have hX := (hS.ext hE4)
 go_simp
 refine hK.out _ _ hX (fun hS => ?_)
 clear hK K hX
 try simp only [pL]
 refine tkH 14 (some 134) rfl rfl ?_ hS ?_ ?_; rotate_left; · rintro W' hW'; go_simp; try with_reducible rfl
 try simp only [pL]
 refine tkH 15 (some 4) rfl rfl ?_ hS ?_ ?_; rotate_left; · rintro W' hW'; go_simp; try with_reducible rfl
 try simp only [pL]
 refine wpAnyH_done (by kernel_rfl) ?_ _
 go_wp2_with fail
 go_ret
 exact ⟨rfl, Mod.below (HMwf.out.ext hS) (by have := HN.out; omega) (fun k hk => by have := HN.out; omega)⟩
end Go.Proofs.YtjhnlncgmejkcaaGreat
