/-
 The walk of StableAgain. Conditions: as the theorem names them.
-/
import Derived.Test.YtjhnlncgmejkcaaGreatS25
import Derived.Test.YtjhnlncgmejkcaaGreatS26
import Derived.Test.YtjhnlncgmejkcaaGreatStbNx
namespace Go.Proofs.YtjhnlncgmejkcaaGreat
set_option linter.unusedSimpArgs false
open Go.RowKit

set_option maxRecDepth 100000 in
set_option maxHeartbeats 4000000 in
theorem stableAgain_a (w : World) (c : AConf) (A : Option Addr) (n cp : Nat) (l : List AActM) (keep : Int) (hco : c.ok) (hL : Acts w (fun g => g < w.heap.size) (.slice A n cp) l) (hn : l.length = n) (hk : I64 keep) :
  Calls Tryz.prog 7 #[.agg #[.int .i64 c.full, .int .i64 c.wit, .int .i64 c.learn, .int .i64 c.learnWit], .slice A n cp, .int .i64 keep] w fun e w' => e = .returned (.bool true) ∧ Below w.heap.size w w' := by
 obtain ⟨N, hN⟩ : ∃ N, w.heap.size = N := ⟨_, rfl⟩
 obtain ⟨W, hW⟩ : ∃ W, w.alloc (.cells #[.int .i64 c.full, .int .i64 c.wit, .int .i64 c.learn, .int .i64 c.learnWit] 23) = W := ⟨_, rfl⟩
 have hA : W.heap[N]? = some (.cells #[.int .i64 c.full, .int .i64 c.wit, .int .i64 c.learn, .int .i64 c.learnWit] 23 (0, 0)) := by rw [← hW, ← hN]; exact heap_alloc_new w _
 have hE : Ext w W := by rw [← hW]; exact (Mod.refl _ w).alloc _
 have hnl := hL.1.le
 rw [hn] at hnl
 unfold maxLen at hnl
 rw [hN] at hL
 have HN := Lib.hid hN
 have HW := Lib.hid hW
 have HA0 := Lib.hid hA
 have HX0 := Lib.hid hE
 have HL := Lib.hid hL
 have Hn := Lib.hid hn
 have Hco := Lib.hid hco
 clear hN hW hA hE hL hn hco
 go_enter Tryz.func7, Tryz.ntmps7
 go_wp2_with fail
 rw [HW.out, HN.out]
 refine (hv_acts W _ _ l (HL.out.mod HX0.out (fun _ _ => id))).mono ?_
 rintro e w1 ⟨rfl, hE⟩
 have HA1 := Lib.hid (hE.blk HA0.out id)
 have HX1 := Lib.hid (HX0.out.ext hE)
 clear hE
 rcases hh : heavyActs l with _ | _
 rotate_left
 ·
  go_wp2
  go_ret
  exact ⟨rfl, Mod.below HX1.out (by have := HN.out; omega) (fun _ _ => id)⟩
 have Hh := Lib.hid hh
 clear hh
 have hld := load_row (P := Tryz.prog) (o := 0) (cs := [.int .i64 c.full, .int .i64 c.wit, .int .i64 c.learn, .int .i64 c.learnWit]) str_conf HA1.out rfl (fun j u hu => by rw [Nat.zero_add]; exact hu)
 go_wp2_with (refine wpList_ldW (by kernel_rfl) 23 _ rfl _ _ rfl hld ?_)
 clear hld
 refine (r_conf c w1).mono ?_
 rintro e w2 ⟨rfl, hE⟩
 have HA2 := Lib.hid (hE.blk HA1.out id)
 have HX2 := Lib.hid (HX1.out.ext hE)
 clear hE
 rcases hc : confOk c with _ | _
 ·
  go_wp2
  go_ret
  exact ⟨rfl, Mod.below HX2.out (by have := HN.out; omega) (fun _ _ => id)⟩
 have Hc := Lib.hid hc
 clear hc
 go_wp2_with fail
 refine (d_new 65536 (by omega) (by omega) w2).mono ?_
 rintro e w3 ⟨rfl, hD, hE⟩
 obtain ⟨d, hd⟩ : ∃ d, w2.heap.size = d := ⟨_, rfl⟩
 rw [hd] at hD ⊢
 have HNd : Hid (N ≤ d) := Lib.hid (by have := HX2.out.size; have := HN.out; omega)
 have HX3 := Lib.hid (HX2.out.ext hE)
 have HA3 := Lib.hid (hE.blk HA2.out id)
 have HD3 := Lib.hid hD
 clear hd hD hE
 have hld := load_row (P := Tryz.prog) (o := 0) (cs := [.int .i64 c.full, .int .i64 c.wit, .int .i64 c.learn, .int .i64 c.learnWit]) str_conf HA3.out rfl (fun j u hu => by rw [Nat.zero_add]; exact hu)
 go_wp2_with (refine wpList_ld rfl 23 _ rfl _ _ rfl hld ?_)
 clear hld
 refine (r8_begin w3 c).mono ?_
 rintro e w4 ⟨rfl, hE⟩
 have HX4 := Lib.hid (HX3.out.ext hE)
 have HD4 := Lib.hid (HD3.out.ext hE)
 obtain ⟨b9, hb9⟩ : ∃ b, w4.heap.size = b := ⟨_, rfl⟩
 have hz : (w4.alloc (.cells #[.int .i64 0, .int .i64 0, .int .i64 0, .int .i64 0, .int .i64 0, .int .i64 0, .int .i64 0, .int .i64 0, .slice none 0 0, .slice none 0 0] 34)).heap[b9]? = some (.cells #[.int .i64 0, .int .i64 0, .int .i64 0, .int .i64 0, .int .i64 0, .int .i64 0, .int .i64 0, .int .i64 0, .slice none 0 0, .slice none 0 0] 34 (0, 0)) := by rw [← hb9]; exact heap_alloc_new w4 _
 have Hb9 := Lib.hid hb9
 clear hE hb9
 go_wp2_with (rw [Hb9.out]; refine wpList_stR rfl 34 _ _ rfl 10 b9 0 ((beginH c : AHard).cells (.slice none 0 0) (.slice none 0 0)) rfl rfl str_hard _ [.int .i64 0, .int .i64 0, .int .i64 0, .int .i64 0, .int .i64 0, .int .i64 0, .int .i64 0, .int .i64 0, .slice none 0 0, .slice none 0 0] ((beginH c : AHard).cells (.slice none 0 0) (.slice none 0 0)) hz rfl (by simp) (h_one _ _ _ _ _ _ _) rfl ?_)
 intro w5 hb5 hm5 hs5
 have hE : Ext w4 w5 := ((Mod.refl (fun _ => False) w4).alloc (.cells #[.int .i64 0, .int .i64 0, .int .i64 0, .int .i64 0, .int .i64 0, .int .i64 0, .int .i64 0, .int .i64 0, .slice none 0 0, .slice none 0 0] 34)).trans hm5 (fun k hk e => by have := Hb9.out; omega)
 have HX5 := Lib.hid (HX4.out.ext hE)
 have HD5 := Lib.hid (HD4.out.ext hE)
 have HF5 := Lib.hid hb5
 clear hE hb5 hm5 hs5 hz
 have hld := load_row (P := Tryz.prog) (o := 0) (cs := ((beginH c : AHard).cells (.slice none 0 0) (.slice none 0 0))) str_hard HF5.out rfl (fun j u hu => by rw [Nat.zero_add]; exact hu)
 go_wp2_with (refine wpList_ld rfl 34 _ rfl _ _ rfl hld ?_)
 clear hld
 refine (st_open w5 (fun _ => False) d (beginH c) (.slice none 0 0) (.slice none 0 0) (.slice none 0 0) _ HD5.out (begin_mem _ _ _) (by simp [beginH])).mono ?_
 intro e w6 hO
 have hob : (openP (ADisk.new 65536) (beginH c)).2.1 = some (beginH c) ∧ (openP (ADisk.new 65536) (beginH c)).2.2 = 0 ∧ StP (openP (ADisk.new 65536) (beginH c)).1 (beginH c) 65536 0 := by
  rcases open_begin Hc.out Hco.out 65536 with ⟨_, h⟩ | h
  ·
   omega
  ·
   exact h
 obtain ⟨s, fv, gs, gl, rfl, hS, hK⟩ := hO.yes (N := N) HD5.out hob.1 HNd.out (by simp [Value.ownBlock])
 obtain ⟨D, hD⟩ : ∃ D, (openP (ADisk.new 65536) (beginH c)).1 = D := ⟨_, rfl⟩
 rw [hD] at hS hob
 have HS6 := Lib.hid hS
 have HP6 := Lib.hid hob.2.2
 have HM6 : Hid (Mod (fun k => N ≤ k) w w6) := Lib.hid (Mod.self (Ext.mod HX5.out _) (hK d).md)
 have HF6 := Lib.hid ((hK d).bx _ _ _ _ (by decide) (by decide) (by decide) HF5.out)
 clear hO hS hK hob hD
 go_upto_block 0 with fail
 go_cut [11] from 41 to 67 (fun _ wx => ∃ (fv gs gl : Value) (D : ADisk) (g : AHard), StM wx N s d fv gs gl D g ∧ StP D g 65536 8000 ∧ Mod (fun k => N ≤ k) w wx ∧ wx.heap[b9]? = some (.cells ((beginH c : AHard).cells (.slice none 0 0) (.slice none 0 0)).toArray 34 (0, 0)))
 case first =>
  go_wp2_with fail
  go_loopw [11] (fun iv wr => ∃ (i : Nat) (fv gs gl : Value) (D : ADisk) (g : AHard), i ≤ n ∧ i ≤ 40 ∧ iv = .int .i64 i ∧ StM wr N s d fv gs gl D g ∧ StP D g 65536 (200 * i) ∧ Mod (fun k => N ≤ k) w wr ∧ wr.heap[b9]? = some (.cells ((beginH c : AHard).cells (.slice none 0 0) (.slice none 0 0)).toArray 34 (0, 0))) (fun iv _ => n - (intOf iv).toNat)
  case atStart => exact ⟨0, fv, gs, gl, D, beginH c, by omega, by omega, rfl, HS6.out, HP6.out, HM6.out, HF6.out⟩
  case round =>
   clear HS6 HP6 HM6 HF6 fv gs gl D
   obtain ⟨i, fv, gs, gl, D, g, hin, hi40, rfl, hS, hP, hM, hF⟩ := hrel
   have HS := Lib.hid hS
   have HP := Lib.hid hP
   have HM := Lib.hid hM
   have HF := Lib.hid hF
   obtain ⟨As, cs, Al, cl0, rfl, rfl⟩ := hS.hm.forms
   clear hS hP hM hF
   have hi0 : (0 : Int) ≤ (i : Int) := by omega
   by_cases hi : i < n
   rotate_left
   ·
    have HPo : Hid (StP D g 65536 8000) := Lib.hid ⟨HP.out.wh, HP.out.kp, HP.out.hd, HP.out.rm, by have := HP.out.lg; omega⟩
    go_wp2_with fail
    go_meet
    exact ⟨fv, _, _, D, g, HS.out, HPo.out, HM.out, HF.out⟩
   by_cases hj : i < 40
   rotate_left
   ·
    have HPo : Hid (StP D g 65536 8000) := Lib.hid ⟨HP.out.wh, HP.out.kp, HP.out.hd, HP.out.rm, by have := HP.out.lg; omega⟩
    go_wp2_with fail
    go_meet
    exact ⟨fv, _, _, D, g, HS.out, HPo.out, HM.out, HF.out⟩
   obtain ⟨gb, ob, x, rfl, hgT, hx, hxok, hcx⟩ := (HL.out.mod HM.out (fun g hg => by omega)).at hi
   have hi1 : (i : Int) < (n : Int) := by omega
   have hgN : ¬ N ≤ gb := by omega
   have Hhx := Lib.hid (heavy_act Hh.out hj hx)
   obtain ⟨⟨ad, an, ak, ah, al, ab⟩, asv, alv, aev, abv⟩ := x
   obtain ⟨Bl, bl, hev⟩ := hxok.2.2.2.2.2.1.1.form
   obtain ⟨Cl, cl, hbv⟩ := hxok.2.2.2.2.2.2.form
   simp only at hev hbv
   subst hev hbv
   have x0 := hcx 0 _ rfl
   rw [Nat.add_zero] at x0
   have hq0 : (IntKind.u64.wrap ad).tmod 9 = um ad 9 := um_walk ad 9
   obtain ⟨q, hq⟩ : ∃ q, um ad 9 = q := ⟨_, rfl⟩
   rw [hq] at hq0
   have Hq := Lib.hid hq
   clear hq hx
   by_cases hq5 : q < 5
   rotate_left
   ·
    have dq : decide (q < 5) = false := decide_eq_false hq5
    have HP2 : Hid (StP D g 65536 (200 * (i + 1))) := Lib.hid ⟨HP.out.wh, HP.out.kp, HP.out.hd, HP.out.rm, by have := HP.out.lg; omega⟩
    clear hcx hxok Hhx
    go_wp2_with fail
    go_roundw
    case rel => exact ⟨i + 1, fv, _, _, D, g, by omega, by omega, by go_num, HS.out, HP2.out, HM.out, HF.out⟩
    case measure => simp [intOf]; omega
   have dq : decide (q < 5) = true := decide_eq_true hq5
   go_wp2_with fail
   refine wp_region_held_drew (S := fun W' => Mod (fun k => N ≤ k) wr W') (by kernel_rfl) (Mod.refl _ wr).drew (fun hS => ?_)
   refine tkH 0 (some 59) rfl rfl ?_ hS ?_ ?_; rotate_left; · rintro W' hW'; go_simp; try with_reducible rfl
   try simp only [pL]
   refine tkH 1 (some 60) rfl rfl ?_ hS ?_ ?_; rotate_left; · rintro W' hW'; go_simp; try with_reducible rfl
   try simp only [pL]
   refine tkH 3 (some 62) rfl rfl ?_ hS ?_ ?_; rotate_left; · rintro W' hW'; go_simp; try with_reducible rfl
   try simp only [pL]
   refine tkH 4 (some 63) rfl rfl ?_ hS ?_ ?_; rotate_left; · rintro W' hW'; go_simp; try with_reducible rfl
   try simp only [pL]
   refine tkH 5 (some 64) rfl rfl ?_ hS ?_ ?_; rotate_left; · rintro W' hW'; go_simp; try with_reducible rfl
   try simp only [pL]
   refine takeH (i := 6) (v := .agg (AActM.cells ⟨⟨ad, an, ak, ah, al, ab⟩, asv, alv, .slice Bl al.length bl, .slice Cl ab.length cl⟩).toArray) (some 65) rfl rfl (by kernel_rfl) (by kernel_rfl) (by kernel_rfl) (fun _ _ _ h => h) (Or.inl ⟨by kernel_rfl, ?_⟩) hS ?_
   ·
    rintro W' hW'
    exact exec_ld _ _ rfl (.pointer (some ⟨gb, ob + i * 15, none⟩)) _ rfl (load_at str_act rfl (fun j u hu => hW'.cell (hcx j u hu) hgN))
   try simp only [pL]
   refine wpAnyH_ready (rs := [2]) (by kernel_rfl) (by simp) ?_
   refine AllReadyH.cons rfl (fun K hK => ?_) AllReadyH.nil
   go_simp
   go_wp2_with fail
   refine (st_hard wr.drew _ s d g _ _ HS.out.st HS.out.hm (by have := HP.out.lg; omega) (by have := HP.out.hd.1.s; omega)).mono ?_
   rintro e wa ⟨sa, la, rfl, hNa, hEa⟩
   obtain ⟨Fs, fs, Fl, fl, rfl, rfl⟩ := hNa.forms
   have HSa := Lib.hid (HS.out.ext (Mod.ext (Mod.refl _ wr).drew hEa))
   have hEra : Ext wr wa := Mod.ext (Mod.refl _ wr).drew hEa
   have HXa := Lib.hid (hxok.mod (S := fun k => False) hEra (fun _ _ => id))
   have HHa : Hid (HardM wa (Apart s d fv) (.slice Fs g.snap.length fs) (.slice Fl g.log.length fl) g) := Lib.hid (HardM.mono hNa.mem (fun k hk => HS.out.new (by rcases hk with e | e; exact hNa.1.2 k e; exact hNa.2.2.2 k e)))
   clear hNa hEra
   have hX := (hS.ext hEa)
   go_simp
   refine hK.out _ _ hX (fun hS => ?_)
   clear hK K hX
   try simp only [pL]
   refine wpAnyH_ready (rs := [7]) (by kernel_rfl) (by simp) ?_
   refine AllReadyH.cons rfl (fun K hK => ?_) AllReadyH.nil
   go_simp
   go_wp2_with fail
   refine (l_next wa (Apart s d fv) g ah Fs _ fs Fl _ fl ad an ak asv alv Bl _ bl Cl _ cl al ab HHa.out rfl rfl (HXa.out.2.2.2.2.1.mono (fun k hk => HSa.out.low hk)) ⟨HXa.out.2.2.2.2.2.1.1.mono (fun k hk => HSa.out.low hk), HXa.out.2.2.2.2.2.1.2⟩ rfl (HXa.out.2.2.2.2.2.2.mono (fun k hk => HSa.out.low hk)) rfl HP.out.hd.1 (by have := HP.out.lg; omega) (by have := Hhx.out; omega) (by have := Hhx.out; omega)).mono ?_
   rintro e wb ⟨sb, lb, rfl, hMb, hEb⟩
   obtain ⟨y, hy⟩ : ∃ y, nextP g ⟨ad, an, ak, ah, al, ab⟩ = y := ⟨_, rfl⟩
   have hmo := act_more (i := i) (x := ⟨ad, an, ak, ah, al, ab⟩) HP.out.hd HP.out.lg HXa.out.fit.1 HXa.out.fit.2 Hhx.out
   rw [hy] at hMb hmo ⊢
   obtain ⟨Gs, gs2, Gl, gl2, rfl, rfl⟩ := hMb.forms
   have HSb := Lib.hid (HSa.out.ext hEb)
   have HHb : Hid (HardM wb (Apart s d fv) (.slice Gs y.snap.length gs2) (.slice Gl y.log.length gl2) y) := Lib.hid (hMb.mono (fun k hk => by rcases hk with e | e; exact e; exact HSa.out.new e))
   have Hmo := Lib.hid hmo
   clear hMb hmo hy
   have hX := (hS.ext hEb)
   go_simp
   refine hK.out _ _ hX (fun hS => ?_)
   clear hK K hX
   try simp only [pL]
   refine wpAnyH_ready (rs := [8]) (by kernel_rfl) (by simp) ?_
   refine AllReadyH.cons rfl (fun K hK => ?_) AllReadyH.nil
   go_simp
   go_wp2_with fail
   refine (st_save wb _ _ s d g y As _ cs Al _ cl0 Gs _ gs2 Gl _ gl2 fv D HSb.out.st HSb.out.dk HSb.out.hm rfl rfl HHb.out rfl rfl (fun k hk => ⟨hk.1, hk.2.2⟩) (by have := Hmo.out.2.1; omega) (by have := HP.out.lg; omega) (by have := Hmo.out.2.2; omega)).mono ?_
   rintro e wd hO
   obtain ⟨rfl, fvd, gsd, gld, hSd, hKp⟩ := HSb.out.save hO
   have hPd := HP.out.save (x := y) (k := 200 * (i + 1)) Hmo.out.1.1 Hmo.out.1.2 Hmo.out.2.1 (by omega) (by omega)
   have HSd := Lib.hid hSd
   have HPd := Lib.hid hPd
   have HBd := Lib.hid (hKp.bx _ _ _ _ (by decide) (by decide) (by decide) (Mod.blk (Mod.ext (Mod.ext (Mod.refl (fun _ => False) wr).drew hEa) hEb) HF.out id))
   clear hO hSd hPd
   have hX := (hS.self hKp.md)
   go_simp
   refine hK.out _ _ hX (fun hS => ?_)
   clear hK K hX
   try simp only [pL]
   refine wpAnyH_done (by kernel_rfl) ?_ _
   go_wp2_with fail
   go_roundw
   case rel => exact ⟨i + 1, fvd, gsd, gld, _, _, by omega, by omega, by go_num, HSd.out, HPd.out.1, HM.out.self hS, HBd.out⟩
   case measure => simp [intOf]; omega
 obtain ⟨fv, gs, gl, D, g, hS, hP, hM, hF⟩ := hcut
 clear HS6 HP6 HM6 HF6
 have HSwc := Lib.hid hS
 have HPwc := Lib.hid hP
 have HMwc := Lib.hid hM
 have HFwc := Lib.hid hF
 obtain ⟨As, cs, Al, cl0, rfl, rfl⟩ := hS.hm.forms
 clear hS hP hM hF
 have HP := HPwc
 go_wp2_with fail
 refine (st_hard wc _ s d g _ _ HSwc.out.st HSwc.out.hm (by have := HP.out.lg; omega) (by have := HP.out.hd.1.s; omega)).mono ?_
 rintro e w7 ⟨sv, lv, rfl, hN, hE⟩
 obtain ⟨Qs, qs, Ql, ql, rfl, rfl⟩ := hN.forms
 have HSw7 := Lib.hid (HSwc.out.ext hE)
 have HMw7 := Lib.hid (HMwc.out.ext hE)
 have HHw7 : Hid (HardM w7 (Apart s d fv) (.slice Qs g.snap.length qs) (.slice Ql g.log.length ql) g) := Lib.hid (HardM.mono hN.mem (fun k hk => HSwc.out.new (by rcases hk with e | e; exact hN.1.2 k e; exact hN.2.2.2 k e)))
 obtain ⟨b12, hbx⟩ : ∃ b, w7.heap.size = b := ⟨_, rfl⟩
 have hz : (w7.alloc (.cells #[.int .i64 0, .int .i64 0, .int .i64 0, .int .i64 0, .int .i64 0, .int .i64 0, .int .i64 0, .int .i64 0, .slice none 0 0, .slice none 0 0] 34)).heap[b12]? = some (.cells #[.int .i64 0, .int .i64 0, .int .i64 0, .int .i64 0, .int .i64 0, .int .i64 0, .int .i64 0, .int .i64 0, .slice none 0 0, .slice none 0 0] 34 (0, 0)) := by rw [← hbx]; exact heap_alloc_new w7 _
 have Hbx := Lib.hid hbx
 clear hN hE hbx
 go_wp2_with (rw [Hbx.out]; refine wpList_stR rfl 34 _ _ rfl 10 b12 0 ((g : AHard).cells (.slice Qs g.snap.length qs) (.slice Ql g.log.length ql)) rfl rfl str_hard _ [.int .i64 0, .int .i64 0, .int .i64 0, .int .i64 0, .int .i64 0, .int .i64 0, .int .i64 0, .int .i64 0, .slice none 0 0, .slice none 0 0] ((g : AHard).cells (.slice Qs g.snap.length qs) (.slice Ql g.log.length ql)) hz rfl (by simp) (h_one _ _ _ _ _ _ _) rfl ?_)
 intro w8 hb hm hs
 have hE : Ext w7 w8 := ((Mod.refl (fun _ => False) w7).alloc (.cells #[.int .i64 0, .int .i64 0, .int .i64 0, .int .i64 0, .int .i64 0, .int .i64 0, .int .i64 0, .int .i64 0, .slice none 0 0, .slice none 0 0] 34)).trans hm (fun k hk e => by have := Hbx.out; omega)
 have HSw8 := Lib.hid (HSw7.out.ext hE)
 have HMw8 := Lib.hid (HMw7.out.ext hE)
 have HHw8 := Lib.hid (HHw7.out.mod hE (fun _ _ => id))
 have HGw8 := Lib.hid hb
 clear hE hb hm hs hz
 obtain ⟨nf, hnf⟩ : ∃ nf, D.file.length = nf := ⟨_, rfl⟩
 have Hnf := Lib.hid hnf
 go_wp2_with fail
 refine (d_size w8 d fv D HSw8.out.dk).mono ?_
 rintro e w9 ⟨rfl, rfl⟩
 rw [hnf]
 clear hnf
 have har := HP.out.armed 1 keep keep
 have Har := Lib.hid har
 clear har
 go_wp2_with fail
 refine (d_trip w8 d fv D HSw8.out.dk 1 keep (by omega) hk).mono ?_
 rintro e w9 ⟨rfl, hD, hM⟩
 obtain ⟨fv9, hS, hK⟩ := HSw8.out.dm (DM.of hD hM)
 have HSw9 := Lib.hid hS
 have HMw9 := Lib.hid (HMw8.out.self hK.md)
 have HHw9 := Lib.hid (hK.hm1 HHw8.out)
 have HGw9 := Lib.hid (hK.bx _ _ _ _ (by decide) (by decide) (by decide) HGw8.out)
 clear hS hK hD hM
 obtain ⟨D1, hD1⟩ : ∃ D1, D.arm 1 keep = D1 := ⟨_, rfl⟩
 rw [hD1] at HSw9 Har
 have hsame := save_same (D := D1) (g := g) Har.out.1 HP.out.hd
 have Hsame := Lib.hid hsame
 have hld := load_row (P := Tryz.prog) (o := 0) (cs := ((g : AHard).cells (.slice Qs g.snap.length qs) (.slice Ql g.log.length ql))) str_hard HGw9.out rfl (fun j u hu => by rw [Nat.zero_add]; exact hu)
 clear hD1 hsame
 go_wp2_with (refine wpList_ld rfl 34 _ rfl _ _ rfl hld ?_)
 clear hld
 refine (st_save w9 _ _ s d g g As _ cs Al _ cl0 Qs _ qs Ql _ ql fv9 D1 HSw9.out.st HSw9.out.dk HSw9.out.hm rfl rfl HHw9.out rfl rfl (fun k hk => ⟨hk.1, hk.2.2⟩) (by have := HP.out.lg; omega) (by have := HP.out.lg; omega) (by have := HP.out.hd.1.s; omega)).mono ?_
 intro e wa hO
 obtain ⟨rfl, fva, gsa, gla, hSa, hK⟩ := HSw9.out.save hO
 rw [Hsame.out] at hSa ⊢
 have HSwa : Hid (StM wa N s d fva gsa gla D1 g) := Lib.hid hSa
 have HMwa := Lib.hid (HMw9.out.self hK.md)
 have HHwa := Lib.hid (hK.hm1 HHw9.out)
 have HGwa := Lib.hid (hK.bx _ _ _ _ (by decide) (by decide) (by decide) HGw9.out)
 clear hO hSa hK
 go_wp2_with fail
 refine (d_off wa d fva D1 HSwa.out.dk).mono ?_
 rintro e wb ⟨rfl, rfl⟩
 rw [Har.out.1]
 go_wp2_with fail
 refine (d_size wa d fva D1 HSwa.out.dk).mono ?_
 rintro e wb ⟨rfl, rfl⟩
 rw [Har.out.2.1, Hnf.out]
 go_wp2_with fail
 refine (d_crash wa d fva D1 HSwa.out.dk keep hk).mono ?_
 rintro e wd ⟨rfl, hM⟩
 obtain ⟨fvd, hS, hK⟩ := HSwa.out.dm hM
 have HSwd := Lib.hid hS
 have HMwd := Lib.hid (HMwa.out.self hK.md)
 have HHwd := Lib.hid (hK.hm1 HHwa.out)
 have HGwd := Lib.hid (hK.bx _ _ _ _ (by decide) (by decide) (by decide) HGwa.out)
 clear hS hK hM
 go_wp2_with fail
 refine (d_start wd d fvd _ HSwd.out.dk).mono ?_
 rintro e we ⟨rfl, hD, hM⟩
 obtain ⟨fve, hS, hK⟩ := HSwd.out.dm (DM.of hD hM)
 have HSwe := Lib.hid hS
 have HMwe := Lib.hid (HMwd.out.self hK.md)
 have HHwe := Lib.hid (hK.hm1 HHwd.out)
 have HGwe := Lib.hid (hK.bx _ _ _ _ (by decide) (by decide) (by decide) HGwd.out)
 clear hS hK hD hM
 obtain ⟨D2, hD2⟩ : ∃ D2, (D1.crash keep).start = D2 := ⟨_, rfl⟩
 rw [hD2] at HSwe Har
 have hag := open_whole (first := beginH ⟨64, 0, 0, 0⟩) Har.out.2.2.1.wh Har.out.2.2.1.kp HSwe.out.dk.2.2 (by decide +kernel)
 have Hag := Lib.hid hag
 clear hD2 hag
 go_wp2_with fail
 refine (st_open we (fun _ => False) d (beginH ⟨64, 0, 0, 0⟩) (.slice none 0 0) (.slice none 0 0) fve _ HSwe.out.dk (begin_mem _ _ _) (by simp [beginH])).mono ?_
 intro e wf hO
 rw [Hag.out] at hO
 obtain ⟨s2, fvf, gsf, glf, rfl, hS, hKf⟩ := hO.yes (N := N) HSwe.out.dk rfl HSwe.out.nd HSwe.out.nf
 have HSwf : Hid (StM wf N s2 d fvf gsf glf D2 g) := Lib.hid hS
 have HMwf := Lib.hid (HMwe.out.self (hKf s).md)
 have HHwf := Lib.hid ((hKf s).hm1 HHwe.out)
 have HGwf := Lib.hid ((hKf s).bx _ _ _ _ (by decide) (by decide) (by decide) HGwe.out)
 clear hO hS hKf
 go_wp2_with fail
 refine wp_region_held_drew (S := fun W' => Ext wf W') (by kernel_rfl) (Mod.refl _ wf).drew (fun hS => ?_)
 refine tkH 0 (some 101) rfl rfl ?_ hS ?_ ?_; rotate_left; · rintro W' hW'; go_simp; try with_reducible rfl
 try simp only [pL]
 refine tkH 1 (some 102) rfl rfl ?_ hS ?_ ?_; rotate_left; · rintro W' hW'; go_simp; try with_reducible rfl
 try simp only [pL]
 refine tkH 2 (some 103) rfl rfl ?_ hS ?_ ?_; rotate_left; · rintro W' hW'; go_simp; try with_reducible rfl
 try simp only [pL]
 refine tkH 3 (some 104) rfl rfl ?_ hS ?_ ?_; rotate_left; · rintro W' hW'; go_simp; try with_reducible rfl
 try simp only [pL]
 refine tkH 4 (some 105) rfl rfl ?_ hS ?_ ?_; rotate_left; · rintro W' hW'; go_simp; try with_reducible rfl
 try simp only [pL]
 refine tkH 5 (some 106) rfl rfl ?_ hS ?_ ?_; rotate_left; · rintro W' hW'; go_simp; try with_reducible rfl
 try simp only [pL]
 refine tkH 6 (some 107) rfl rfl ?_ hS ?_ ?_; rotate_left; · rintro W' hW'; go_simp; try with_reducible rfl
 try simp only [pL]
 refine tkH 7 (some 108) rfl rfl ?_ hS ?_ ?_; rotate_left; · rintro W' hW'; go_simp; try with_reducible rfl
 try simp only [pL]
 refine takeH (i := 9) (v := .agg ((g : AHard).cells (.slice Qs g.snap.length qs) (.slice Ql g.log.length ql)).toArray) (some 110) rfl rfl (by kernel_rfl) (by kernel_rfl) (by kernel_rfl) (fun _ _ _ h => h) (Or.inl ⟨by kernel_rfl, ?_⟩) hS ?_
 ·
  rintro W' hW'
  exact exec_ld _ _ rfl (.pointer (some ⟨b12, 0, none⟩)) _ rfl (load_row (P := Tryz.prog) (o := 0) (cs := ((g : AHard).cells (.slice Qs g.snap.length qs) (.slice Ql g.log.length ql))) str_hard (hW'.blk HGwf.out id) rfl (fun j u hu => by rw [Nat.zero_add]; exact hu))
 try simp only [pL]
 refine wpAnyH_ready (rs := [8]) (by kernel_rfl) (by simp) ?_
 refine AllReadyH.cons rfl (fun K hK => ?_) AllReadyH.nil
 go_simp
 go_wp2_with fail
 refine (st_hard wf.drew _ s2 d g _ _ HSwf.out.st HSwf.out.hm (by have := HP.out.lg; omega) (by have := HP.out.hd.1.s; omega)).mono ?_
 rintro e wg ⟨sv2, lv2, rfl, hN2, hE2⟩
 have HSg := Lib.hid (HSwf.out.ext (Mod.ext (Mod.refl _ wf).drew hE2))
 have HHg := Lib.hid (HHwf.out.mod (S := fun _ => False) (Mod.ext (Mod.refl _ wf).drew hE2) (fun _ _ => id))
 have HN2 := Lib.hid hN2.mem
 clear hN2
 have hX := (hS.ext hE2)
 go_simp
 refine hK.out _ _ hX (fun hS => ?_)
 clear hK K hX
 try simp only [pL]
 refine wpAnyH_ready (rs := [10]) (by kernel_rfl) (by simp) ?_
 refine AllReadyH.cons rfl (fun K hK => ?_) AllReadyH.nil
 go_simp
 go_wp2_with fail
 refine (k_hard wg _ _ g g _ _ _ _ HN2.out HHg.out).mono ?_
 rintro e wh ⟨rfl, hE3⟩
 rw [eqHard_refl]
 have HSh := Lib.hid (HSg.out.ext hE3)
 have hX := (hS.ext hE3)
 go_simp
 refine hK.out _ _ hX (fun hS => ?_)
 clear hK K hX
 try simp only [pL]
 refine tkH 11 (some 112) rfl rfl ?_ hS ?_ ?_; rotate_left; · rintro W' hW'; go_simp; try with_reducible rfl
 try simp only [pL]
 refine tkH 12 (some 113) rfl rfl ?_ hS ?_ ?_; rotate_left; · rintro W' hW'; go_simp; try with_reducible rfl
 try simp only [pL]
 refine tkH 13 (some 114) rfl rfl ?_ hS ?_ ?_; rotate_left; · rintro W' hW'; go_simp; try with_reducible rfl
 try simp only [pL]
 refine tkH 15 (some 116) rfl rfl ?_ hS ?_ ?_; rotate_left; · rintro W' hW'; go_simp; try with_reducible rfl
 try simp only [pL]
 refine wpAnyH_ready (rs := [14]) (by kernel_rfl) (by simp) ?_
 refine AllReadyH.cons rfl (fun K hK => ?_) AllReadyH.nil
 go_simp
 go_wp2_with fail
 refine (d_size wh d fvf D2 HSh.out.dk).mono ?_
 rintro e wi ⟨rfl, rfl⟩
 rw [Har.out.2.2.2, Hnf.out]
 have hX := hS
 go_simp
 refine hK.out _ _ hX (fun hS => ?_)
 clear hK K hX
 try simp only [pL]
 refine tkH 16 (some 117) rfl rfl ?_ hS ?_ ?_; rotate_left; · rintro W' hW'; go_simp; try with_reducible rfl
 try simp only [pL]
 refine tkH 17 (some 118) rfl rfl ?_ hS ?_ ?_; rotate_left; · rintro W' hW'; go_simp; try with_reducible rfl
 try simp only [pL]
 refine tkH 18 (some 119) rfl rfl ?_ hS ?_ ?_; rotate_left; · rintro W' hW'; go_simp; try with_reducible rfl
 try simp only [pL]
 refine wpAnyH_ready (rs := [19]) (by kernel_rfl) (by simp) ?_
 refine AllReadyH.cons rfl (fun K hK => ?_) AllReadyH.nil
 go_simp
 go_wp2_with fail
 refine (l_wakes11 wh).mono ?_
 rintro e wi ⟨rfl, hE4⟩
 have hX := (hS.ext hE4)
 go_simp
 refine hK.out _ _ hX (fun hS => ?_)
 clear hK K hX
 try simp only [pL]
 refine tkH 20 (some 121) rfl rfl ?_ hS ?_ ?_; rotate_left; · rintro W' hW'; go_simp; try with_reducible rfl
 try simp only [pL]
 refine tkH 21 (some 6) rfl rfl ?_ hS ?_ ?_; rotate_left; · rintro W' hW'; go_simp; try with_reducible rfl
 try simp only [pL]
 refine wpAnyH_done (by kernel_rfl) ?_ _
 go_wp2_with fail
 go_ret
 exact ⟨rfl, Mod.below (HMwf.out.ext hS) (by have := HN.out; omega) (fun k hk => by have := HN.out; omega)⟩

end Go.Proofs.YtjhnlncgmejkcaaGreat
