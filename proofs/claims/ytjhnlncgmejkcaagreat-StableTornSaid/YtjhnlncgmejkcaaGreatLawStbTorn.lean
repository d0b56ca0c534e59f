/-
 The walk of StableTorn. Conditions: as the theorem names them.
-/
import Derived.Test.YtjhnlncgmejkcaaGreatStbTp
import Derived.Test.YtjhnlncgmejkcaaGreatS26
import Derived.Test.YtjhnlncgmejkcaaGreatStbNx
import Derived.Test.YtjhnlncgmejkcaaGreatS19
namespace Go.Proofs.YtjhnlncgmejkcaaGreat
set_option linter.unusedSimpArgs false
open Go.RowKit

set_option maxRecDepth 100000 in
set_option maxHeartbeats 4000000 in
theorem stableTorn_a (w : World) (c : AConf) (A : Option Addr) (n cp : Nat) (l : List AActM) (cut : Int) (E : Option Addr) (M ec : Nat) (more : List UInt8) (hco : c.ok) (hL : Acts w (fun g => g < w.heap.size) (.slice A n cp) l) (hn : l.length = n) (hB : Byt w (fun g => g < w.heap.size) (.slice E M ec) more) (hM : more.length = M) :
  Calls Tryz.prog 3 #[.agg #[.int .i64 c.full, .int .i64 c.wit, .int .i64 c.learn, .int .i64 c.learnWit], .slice A n cp, .int .i64 cut, .slice E M ec] w fun e w' => e = .returned (.bool true) ∧ Below w.heap.size w w' := by
 have HBm := Lib.hid hB
 have HM0 := Lib.hid hM
 clear hB hM
 obtain ⟨N, hN⟩ : ∃ N, w.heap.size = N := ⟨_, rfl⟩
 obtain ⟨W, hW⟩ : ∃ W, w.alloc (.cells #[.int .i64 c.full, .int .i64 c.wit, .int .i64 c.learn, .int .i64 c.learnWit] 23) = W := ⟨_, rfl⟩
 have hA : W.heap[N]? = some (.cells #[.int .i64 c.full, .int .i64 c.wit, .int .i64 c.learn, .int .i64 c.learnWit] 23 (0, 0)) := by rw [← hW, ← hN]; exact heap_alloc_new w _
 have hE : Ext w W := by rw [← hW]; exact (Mod.refl _ w).alloc _
 have hnl := hL.1.le
 rw [hn] at hnl
 unfold maxLen at hnl
 rw [hN] at hL
 have HN := Lib.hid hN
 have HW := Lib.hid hW
 have HA0 := Lib.hid hA
 have HX0 := Lib.hid hE
 have HL := Lib.hid hL
 have Hn := Lib.hid hn
 have Hco := Lib.hid hco
 clear hN hW hA hE hL hn hco
 go_enter Tryz.func3, Tryz.ntmps3
 go_wp2_with fail
 rw [HW.out, HN.out]
 refine (hv_acts W _ _ l (HL.out.mod HX0.out (fun _ _ => id))).mono ?_
 rintro e w1 ⟨rfl, hE⟩
 have HA1 := Lib.hid (hE.blk HA0.out id)
 have HX1 := Lib.hid (HX0.out.ext hE)
 clear hE
 rcases hh : heavyActs l with _ | _
 rotate_left
 ·
  go_wp2
  go_ret
  exact ⟨rfl, Mod.below HX1.out (by have := HN.out; omega) (fun _ _ => id)⟩
 have Hh := Lib.hid hh
 clear hh
 have hld := load_row (P := Tryz.prog) (o := 0) (cs := [.int .i64 c.full, .int .i64 c.wit, .int .i64 c.learn, .int .i64 c.learnWit]) str_conf HA1.out rfl (fun j u hu => by rw [Nat.zero_add]; exact hu)
 go_wp2_with (refine wpList_ldW (by kernel_rfl) 23 _ rfl _ _ rfl hld ?_)
 clear hld
 refine (r_conf c w1).mono ?_
 rintro e w2 ⟨rfl, hE⟩
 have HA2 := Lib.hid (hE.blk HA1.out id)
 have HX2 := Lib.hid (HX1.out.ext hE)
 clear hE
 rcases hc : confOk c with _ | _
 ·
  go_wp2
  go_ret
  exact ⟨rfl, Mod.below HX2.out (by have := HN.out; omega) (fun _ _ => id)⟩
 have Hc := Lib.hid hc
 clear hc
 by_cases hm1 : 1000 < M
 ·
  have dm : decide ((1000 : Int) < (M : Int)) = true := decide_eq_true (by omega)
  go_wp2
  go_ret
  exact ⟨rfl, Mod.below HX2.out (by have := HN.out; omega) (fun _ _ => id)⟩
 have dm : decide ((1000 : Int) < (M : Int)) = false := decide_eq_false (by omega)
 go_wp2_with fail
 refine (d_new 65536 (by omega) (by omega) w2).mono ?_
 rintro e w3 ⟨rfl, hD, hE⟩
 obtain ⟨d, hd⟩ : ∃ d, w2.heap.size = d := ⟨_, rfl⟩
 rw [hd] at hD ⊢
 have HNd : Hid (N ≤ d) := Lib.hid (by have := HX2.out.size; have := HN.out; omega)
 have HX3 := Lib.hid (HX2.out.ext hE)
 have HA3 := Lib.hid (hE.blk HA2.out id)
 have HD3 := Lib.hid hD
 clear hd hD hE
 have hld := load_row (P := Tryz.prog) (o := 0) (cs := [.int .i64 c.full, .int .i64 c.wit, .int .i64 c.learn, .int .i64 c.learnWit]) str_conf HA3.out rfl (fun j u hu => by rw [Nat.zero_add]; exact hu)
 go_wp2_with (refine wpList_ld rfl 23 _ rfl _ _ rfl hld ?_)
 clear hld
 refine (r8_begin w3 c).mono ?_
 rintro e w4 ⟨rfl, hE⟩
 have HX4 := Lib.hid (HX3.out.ext hE)
 have HD4 := Lib.hid (HD3.out.ext hE)
 obtain ⟨b9, hb9⟩ : ∃ b, w4.heap.size = b := ⟨_, rfl⟩
 have hz : (w4.alloc (.cells #[.int .i64 0, .int .i64 0, .int .i64 0, .int .i64 0, .int .i64 0, .int .i64 0, .int .i64 0, .int .i64 0, .slice none 0 0, .slice none 0 0] 34)).heap[b9]? = some (.cells #[.int .i64 0, .int .i64 0, .int .i64 0, .int .i64 0, .int .i64 0, .int .i64 0, .int .i64 0, .int .i64 0, .slice none 0 0, .slice none 0 0] 34 (0, 0)) := by rw [← hb9]; exact heap_alloc_new w4 _
 have Hb9 := Lib.hid hb9
 clear hE hb9
 go_wp2_with (rw [Hb9.out]; refine wpList_stR rfl 34 _ _ rfl 10 b9 0 ((beginH c : AHard).cells (.slice none 0 0) (.slice none 0 0)) rfl rfl str_hard _ [.int .i64 0, .int .i64 0, .int .i64 0, .int .i64 0, .int .i64 0, .int .i64 0, .int .i64 0, .int .i64 0, .slice none 0 0, .slice none 0 0] ((beginH c : AHard).cells (.slice none 0 0) (.slice none 0 0)) hz rfl (by simp) (h_one _ _ _ _ _ _ _) rfl ?_)
 intro w5 hb5 hm5 hs5
 have hE : Ext w4 w5 := ((Mod.refl (fun _ => False) w4).alloc (.cells #[.int .i64 0, .int .i64 0, .int .i64 0, .int .i64 0, .int .i64 0, .int .i64 0, .int .i64 0, .int .i64 0, .slice none 0 0, .slice none 0 0] 34)).trans hm5 (fun k hk e => by have := Hb9.out; omega)
 have HX5 := Lib.hid (HX4.out.ext hE)
 have HD5 := Lib.hid (HD4.out.ext hE)
 have HF5 := Lib.hid hb5
 clear hE hb5 hm5 hs5 hz
 have hld := load_row (P := Tryz.prog) (o := 0) (cs := ((beginH c : AHard).cells (.slice none 0 0) (.slice none 0 0))) str_hard HF5.out rfl (fun j u hu => by rw [Nat.zero_add]; exact hu)
 go_wp2_with (refine wpList_ld rfl 34 _ rfl _ _ rfl hld ?_)
 clear hld
 refine (st_open w5 (fun _ => False) d (beginH c) (.slice none 0 0) (.slice none 0 0) (.slice none 0 0) _ HD5.out (begin_mem _ _ _) (by simp [beginH])).mono ?_
 intro e w6 hO
 have hob : (openP (ADisk.new 65536) (beginH c)).2.1 = some (beginH c) ∧ (openP (ADisk.new 65536) (beginH c)).2.2 = 0 ∧ StP (openP (ADisk.new 65536) (beginH c)).1 (beginH c) 65536 0 := by
  rcases open_begin Hc.out Hco.out 65536 with ⟨_, h⟩ | h
  ·
   omega
  ·
   exact h
 obtain ⟨s, fv, gs, gl, rfl, hS, hK⟩ := hO.yes (N := N) HD5.out hob.1 HNd.out (by simp [Value.ownBlock])
 obtain ⟨D, hD⟩ : ∃ D, (openP (ADisk.new 65536) (beginH c)).1 = D := ⟨_, rfl⟩
 rw [hD] at hS hob
 have HS6 := Lib.hid hS
 have HP6 := Lib.hid hob.2.2
 have HM6 : Hid (Mod (fun k => N ≤ k) w w6) := Lib.hid (Mod.self (Ext.mod HX5.out _) (hK d).md)
 have HF6 := Lib.hid ((hK d).bx _ _ _ _ (by decide) (by decide) (by decide) HF5.out)
 clear hO hS hK hob hD
 go_upto_block 0 with fail
 go_cut [13] from 51 to 76 (fun _ wx => ∃ (fv gs gl : Value) (D : ADisk) (g : AHard), StM wx N s d fv gs gl D g ∧ StP D g 65536 8000 ∧ Mod (fun k => N ≤ k) w wx ∧ wx.heap[b9]? = some (.cells ((beginH c : AHard).cells (.slice none 0 0) (.slice none 0 0)).toArray 34 (0, 0)))
 case first =>
  go_wp2_with fail
  go_loopw [13] (fun iv wr => ∃ (i : Nat) (fv gs gl : Value) (D : ADisk) (g : AHard), i ≤ n ∧ i ≤ 40 ∧ iv = .int .i64 i ∧ StM wr N s d fv gs gl D g ∧ StP D g 65536 (200 * i) ∧ Mod (fun k => N ≤ k) w wr ∧ wr.heap[b9]? = some (.cells ((beginH c : AHard).cells (.slice none 0 0) (.slice none 0 0)).toArray 34 (0, 0))) (fun iv _ => n - (intOf iv).toNat)
  case atStart => exact ⟨0, fv, gs, gl, D, beginH c, by omega, by omega, rfl, HS6.out, HP6.out, HM6.out, HF6.out⟩
  case round =>
   clear HS6 HP6 HM6 HF6 fv gs gl D
   obtain ⟨i, fv, gs, gl, D, g, hin, hi40, rfl, hS, hP, hM, hF⟩ := hrel
   have HS := Lib.hid hS
   have HP := Lib.hid hP
   have HM := Lib.hid hM
   have HF := Lib.hid hF
   obtain ⟨As, cs, Al, cl0, rfl, rfl⟩ := hS.hm.forms
   clear hS hP hM hF
   have hi0 : (0 : Int) ≤ (i : Int) := by omega
   by_cases hi : i < n
   rotate_left
   ·
    have HPo : Hid (StP D g 65536 8000) := Lib.hid ⟨HP.out.wh, HP.out.kp, HP.out.hd, HP.out.rm, by have := HP.out.lg; omega⟩
    go_wp2_with fail
    go_meet
    exact ⟨fv, _, _, D, g, HS.out, HPo.out, HM.out, HF.out⟩
   by_cases hj : i < 40
   rotate_left
   ·
    have HPo : Hid (StP D g 65536 8000) := Lib.hid ⟨HP.out.wh, HP.out.kp, HP.out.hd, HP.out.rm, by have := HP.out.lg; omega⟩
    go_wp2_with fail
    go_meet
    exact ⟨fv, _, _, D, g, HS.out, HPo.out, HM.out, HF.out⟩
   obtain ⟨gb, ob, x, rfl, hgT, hx, hxok, hcx⟩ := (HL.out.mod HM.out (fun g hg => by omega)).at hi
   have hi1 : (i : Int) < (n : Int) := by omega
   have hgN : ¬ N ≤ gb := by omega
   have Hhx := Lib.hid (heavy_act Hh.out hj hx)
   obtain ⟨⟨ad, an, ak, ah, al, ab⟩, asv, alv, aev, abv⟩ := x
   obtain ⟨Bl, bl, hev⟩ := hxok.2.2.2.2.2.1.1.form
   obtain ⟨Cl, cl, hbv⟩ := hxok.2.2.2.2.2.2.form
   simp only at hev hbv
   subst hev hbv
   have x0 := hcx 0 _ rfl
   rw [Nat.add_zero] at x0
   have hq0 : (IntKind.u64.wrap ad).tmod 9 = um ad 9 := um_walk ad 9
   obtain ⟨q, hq⟩ : ∃ q, um ad 9 = q := ⟨_, rfl⟩
   rw [hq] at hq0
   have Hq := Lib.hid hq
   clear hq hx
   by_cases hq5 : q < 5
   rotate_left
   ·
    have dq : decide (q < 5) = false := decide_eq_false hq5
    have HP2 : Hid (StP D g 65536 (200 * (i + 1))) := Lib.hid ⟨HP.out.wh, HP.out.kp, HP.out.hd, HP.out.rm, by have := HP.out.lg; omega⟩
    clear hcx hxok Hhx
    go_wp2_with fail
    go_roundw
    case rel => exact ⟨i + 1, fv, _, _, D, g, by omega, by omega, by go_num, HS.out, HP2.out, HM.out, HF.out⟩
    case measure => simp [intOf]; omega
   have dq : decide (q < 5) = true := decide_eq_true hq5
   go_wp2_with fail
   refine wp_region_held_drew (S := fun W' => Mod (fun k => N ≤ k) wr W') (by kernel_rfl) (Mod.refl _ wr).drew (fun hS => ?_)
   refine tkH 0 (some 68) rfl rfl ?_ hS ?_ ?_; rotate_left; · rintro W' hW'; go_simp; try with_reducible rfl
   try simp only [pL]
   refine tkH 1 (some 69) rfl rfl ?_ hS ?_ ?_; rotate_left; · rintro W' hW'; go_simp; try with_reducible rfl
   try simp only [pL]
   refine tkH 3 (some 71) rfl rfl ?_ hS ?_ ?_; rotate_left; · rintro W' hW'; go_simp; try with_reducible rfl
   try simp only [pL]
   refine tkH 4 (some 72) rfl rfl ?_ hS ?_ ?_; rotate_left; · rintro W' hW'; go_simp; try with_reducible rfl
   try simp only [pL]
   refine tkH 5 (some 73) rfl rfl ?_ hS ?_ ?_; rotate_left; · rintro W' hW'; go_simp; try with_reducible rfl
   try simp only [pL]
   refine takeH (i := 6) (v := .agg (AActM.cells ⟨⟨ad, an, ak, ah, al, ab⟩, asv, alv, .slice Bl al.length bl, .slice Cl ab.length cl⟩).toArray) (some 74) rfl rfl (by kernel_rfl) (by kernel_rfl) (by kernel_rfl) (fun _ _ _ h => h) (Or.inl ⟨by kernel_rfl, ?_⟩) hS ?_
   ·
    rintro W' hW'
    exact exec_ld _ _ rfl (.pointer (some ⟨gb, ob + i * 15, none⟩)) _ rfl (load_at str_act rfl (fun j u hu => hW'.cell (hcx j u hu) hgN))
   try simp only [pL]
   refine wpAnyH_ready (rs := [2]) (by kernel_rfl) (by simp) ?_
   refine AllReadyH.cons rfl (fun K hK => ?_) AllReadyH.nil
   go_simp
   go_wp2_with fail
   refine (st_hard wr.drew _ s d g _ _ HS.out.st HS.out.hm (by have := HP.out.lg; omega) (by have := HP.out.hd.1.s; omega)).mono ?_
   rintro e wa ⟨sa, la, rfl, hNa, hEa⟩
   obtain ⟨Fs, fs, Fl, fl, rfl, rfl⟩ := hNa.forms
   have HSa := Lib.hid (HS.out.ext (Mod.ext (Mod.refl _ wr).drew hEa))
   have hEra : Ext wr wa := Mod.ext (Mod.refl _ wr).drew hEa
   have HXa := Lib.hid (hxok.mod (S := fun k => False) hEra (fun _ _ => id))
   have HHa : Hid (HardM wa (Apart s d fv) (.slice Fs g.snap.length fs) (.slice Fl g.log.length fl) g) := Lib.hid (HardM.mono hNa.mem (fun k hk => HS.out.new (by rcases hk with e | e; exact hNa.1.2 k e; exact hNa.2.2.2 k e)))
   clear hNa hEra
   have hX := (hS.ext hEa)
   go_simp
   refine hK.out _ _ hX (fun hS => ?_)
   clear hK K hX
   try simp only [pL]
   refine wpAnyH_ready (rs := [7]) (by kernel_rfl) (by simp) ?_
   refine AllReadyH.cons rfl (fun K hK => ?_) AllReadyH.nil
   go_simp
   go_wp2_with fail
   refine (l_next wa (Apart s d fv) g ah Fs _ fs Fl _ fl ad an ak asv alv Bl _ bl Cl _ cl al ab HHa.out rfl rfl (HXa.out.2.2.2.2.1.mono (fun k hk => HSa.out.low hk)) ⟨HXa.out.2.2.2.2.2.1.1.mono (fun k hk => HSa.out.low hk), HXa.out.2.2.2.2.2.1.2⟩ rfl (HXa.out.2.2.2.2.2.2.mono (fun k hk => HSa.out.low hk)) rfl HP.out.hd.1 (by have := HP.out.lg; omega) (by have := Hhx.out; omega) (by have := Hhx.out; omega)).mono ?_
   rintro e wb ⟨sb, lb, rfl, hMb, hEb⟩
   obtain ⟨y, hy⟩ : ∃ y, nextP g ⟨ad, an, ak, ah, al, ab⟩ = y := ⟨_, rfl⟩
   have hmo := act_more (i := i) (x := ⟨ad, an, ak, ah, al, ab⟩) HP.out.hd HP.out.lg HXa.out.fit.1 HXa.out.fit.2 Hhx.out
   rw [hy] at hMb hmo ⊢
   obtain ⟨Gs, gs2, Gl, gl2, rfl, rfl⟩ := hMb.forms
   have HSb := Lib.hid (HSa.out.ext hEb)
   have HHb : Hid (HardM wb (Apart s d fv) (.slice Gs y.snap.length gs2) (.slice Gl y.log.length gl2) y) := Lib.hid (hMb.mono (fun k hk => by rcases hk with e | e; exact e; exact HSa.out.new e))
   have Hmo := Lib.hid hmo
   clear hMb hmo hy
   have hX := (hS.ext hEb)
   go_simp
   refine hK.out _ _ hX (fun hS => ?_)
   clear hK K hX
   try simp only [pL]
   refine wpAnyH_ready (rs := [8]) (by kernel_rfl) (by simp) ?_
   refine AllReadyH.cons rfl (fun K hK => ?_) AllReadyH.nil
   go_simp
   go_wp2_with fail
   refine (st_save wb _ _ s d g y As _ cs Al _ cl0 Gs _ gs2 Gl _ gl2 fv D HSb.out.st HSb.out.dk HSb.out.hm rfl rfl HHb.out rfl rfl (fun k hk => ⟨hk.1, hk.2.2⟩) (by have := Hmo.out.2.1; omega) (by have := HP.out.lg; omega) (by have := Hmo.out.2.2; omega)).mono ?_
   rintro e wd hO
   obtain ⟨rfl, fvd, gsd, gld, hSd, hKp⟩ := HSb.out.save hO
   have hPd := HP.out.save (x := y) (k := 200 * (i + 1)) Hmo.out.1.1 Hmo.out.1.2 Hmo.out.2.1 (by omega) (by omega)
   have HSd := Lib.hid hSd
   have HPd := Lib.hid hPd
   have HBd := Lib.hid (hKp.bx _ _ _ _ (by decide) (by decide) (by decide) (Mod.blk (Mod.ext (Mod.ext (Mod.refl (fun _ => False) wr).drew hEa) hEb) HF.out id))
   clear hO hSd hPd
   have hX := (hS.self hKp.md)
   go_simp
   refine hK.out _ _ hX (fun hS => ?_)
   clear hK K hX
   try simp only [pL]
   refine wpAnyH_done (by kernel_rfl) ?_ _
   go_wp2_with fail
   go_roundw
   case rel => exact ⟨i + 1, fvd, gsd, gld, _, _, by omega, by omega, by go_num, HSd.out, HPd.out.1, HM.out.self hS, HBd.out⟩
   case measure => simp [intOf]; omega
 obtain ⟨fv, gs, gl, D, g, hS, hP, hM, hF⟩ := hcut
 clear HS6 HP6 HM6 HF6
 have HSwc := Lib.hid hS
 have HPwc := Lib.hid hP
 have HMwc := Lib.hid hM
 have HFwc := Lib.hid hF
 obtain ⟨As, cs, Al, cl0, rfl, rfl⟩ := hS.hm.forms
 clear hS hP hM hF
 have HP := HPwc
 go_wp2_with fail
 refine (st_hard wc _ s d g _ _ HSwc.out.st HSwc.out.hm (by have := HP.out.lg; omega) (by have := HP.out.hd.1.s; omega)).mono ?_
 rintro e w7 ⟨sv, lv, rfl, hN, hE⟩
 obtain ⟨Qs, qs, Ql, ql, rfl, rfl⟩ := hN.forms
 have HSw7 := Lib.hid (HSwc.out.ext hE)
 have HMw7 := Lib.hid (HMwc.out.ext hE)
 have HFw7 := Lib.hid (hE.blk HFwc.out id)
 have HHw7 : Hid (HardM w7 (Apart s d fv) (.slice Qs g.snap.length qs) (.slice Ql g.log.length ql) g) := Lib.hid (HardM.mono hN.mem (fun k hk => HSwc.out.new (by rcases hk with e | e; exact hN.1.2 k e; exact hN.2.2.2 k e)))
 obtain ⟨b14, hbx⟩ : ∃ b, w7.heap.size = b := ⟨_, rfl⟩
 have hz : (w7.alloc (.cells #[.int .i64 0, .int .i64 0, .int .i64 0, .int .i64 0, .int .i64 0, .int .i64 0, .int .i64 0, .int .i64 0, .slice none 0 0, .slice none 0 0] 34)).heap[b14]? = some (.cells #[.int .i64 0, .int .i64 0, .int .i64 0, .int .i64 0, .int .i64 0, .int .i64 0, .int .i64 0, .int .i64 0, .slice none 0 0, .slice none 0 0] 34 (0, 0)) := by rw [← hbx]; exact heap_alloc_new w7 _
 have Hbx := Lib.hid hbx
 clear hN hE hbx
 go_wp2_with (rw [Hbx.out]; refine wpList_stR rfl 34 _ _ rfl 10 b14 0 ((g : AHard).cells (.slice Qs g.snap.length qs) (.slice Ql g.log.length ql)) rfl rfl str_hard _ [.int .i64 0, .int .i64 0, .int .i64 0, .int .i64 0, .int .i64 0, .int .i64 0, .int .i64 0, .int .i64 0, .slice none 0 0, .slice none 0 0] ((g : AHard).cells (.slice Qs g.snap.length qs) (.slice Ql g.log.length ql)) hz rfl (by simp) (h_one _ _ _ _ _ _ _) rfl ?_)
 intro w8 hb hm hs
 have hE : Ext w7 w8 := ((Mod.refl (fun _ => False) w7).alloc (.cells #[.int .i64 0, .int .i64 0, .int .i64 0, .int .i64 0, .int .i64 0, .int .i64 0, .int .i64 0, .int .i64 0, .slice none 0 0, .slice none 0 0] 34)).trans hm (fun k hk e => by have := Hbx.out; omega)
 have HSw8 := Lib.hid (HSw7.out.ext hE)
 have HMw8 := Lib.hid (HMw7.out.ext hE)
 have HHw8 := Lib.hid (HHw7.out.mod hE (fun _ _ => id))
 have HGw8 := Lib.hid hb
 have HFw8 := Lib.hid (hE.blk HFw7.out id)
 clear hE hb hm hs hz
 obtain ⟨nf, hnf⟩ : ∃ nf, D.file.length = nf := ⟨_, rfl⟩
 have Hnf := Lib.hid hnf
 go_wp2_with fail
 refine (d_size w8 d fv D HSw8.out.dk).mono ?_
 rintro e w9 ⟨rfl, rfl⟩
 rw [hnf]
 clear hnf
 go_wp2_with fail
 refine (p_Entry tornX torn_ok.1 torn_ok.2 w8).mono ?_
 rintro e w9 ⟨v9, rfl, hN9, hE⟩
 rw [torn_bytes] at hN9 ⊢
 obtain ⟨A9, c9, rfl⟩ := own_form hN9.1
 have HSw9 := Lib.hid (HSw8.out.ext hE)
 have HMw9 := Lib.hid (HMw8.out.ext hE)
 have HHw9 := Lib.hid (HHw8.out.mod hE (fun _ _ => id))
 have HGw9 := Lib.hid (hE.blk HGw8.out id)
 have HFw9 := Lib.hid (hE.blk HFw8.out id)
 have HNw9 := Lib.hid hN9
 clear hN9 hE
 obtain ⟨we, hwe⟩ : ∃ we, w9.alloc (.cells #[.int .u8 157, .int .u8 0, .int .u8 0, .int .u8 0, .int .u8 3, .int .u8 1, .int .u8 2, .int .u8 3, .int .u8 4, .int .u8 4] 5) = we := ⟨_, rfl⟩
 obtain ⟨p9, hp9⟩ : ∃ p, w9.heap.size = p := ⟨_, rfl⟩
 have hN10 : NewB w9 we (.slice (some ⟨p9, 0, none⟩) 10 10) [157, 0, 0, 0, 3, 1, 2, 3, 4, 4] := by rw [← hwe, ← hp9]; exact newB_lit w9 [157, 0, 0, 0, 3, 1, 2, 3, 4, 4] 10 _ rfl (by decide) rfl
 have hE10 : Ext w9 we := by rw [← hwe]; exact (Mod.refl _ w9).alloc _
 have hb9 : Byt we _ (.slice A9 2 c9) [2, 0] := (NewB.sl (w := w8) HNw9.out).ext hE10
 have HN10 := Lib.hid hN10
 have HE10 := Lib.hid hE10
 have Hb9b := Lib.hid hb9
 have Hwe := Lib.hid hwe
 have Hp9 := Lib.hid hp9
 clear hN10 hE10 hb9 hwe hp9
 go_wp2_with (at_builtin; rw [Hwe.out, Hp9.out]; refine wpList_appB rfl _ _ rfl (.slice (some ⟨p9, 0, none⟩) 10 10) [157, 0, 0, 0, 3, 1, 2, 3, 4, 4] w9 rfl HN10.out HE10.out _ (.slice A9 2 c9) [2, 0] rfl Hb9b.out (by simp) ?_)
 rintro A3 n3 c3 wf hn3 hN3 hE3 _ _
 obtain rfl : n3 = 12 := hn3
 replace hN3 : NewB w9 wf (.slice A3 12 c3) tornB := hN3
 have hc3 : 12 ≤ c3 := by
  obtain ⟨_, A', c', e, h1, _⟩ := NewB.sl (w := w9) hN3
  injection e with _ e2 e3
  have : tornB.length = 12 := rfl
  omega
 have hq0 : (IntKind.u64.wrap cut).tmod 11 = um cut 11 := um_walk cut 11
 have hu11 := um_lt cut (m := 11) (by decide)
 obtain ⟨u, hu⟩ : ∃ u, um cut 11 = u := ⟨_, rfl⟩
 rw [hu] at hq0 hu11
 have iu : wrap64 u = u := IntWalk.wrap64_in _ (by omega)
 obtain ⟨k, hk⟩ : ∃ k : Nat, (1 + u).toNat = k := ⟨_, rfl⟩
 have hk1 : 1 ≤ k ∧ k < 12 := by omega
 have iuA : wrap64 (1 + u) = (k : Int) := by rw [IntWalk.wrap64_in _ (by omega)]; omega
 have iuB : IntKind.i64.wrap (1 + u) = (k : Int) := by rw [IntWalk.i64_in _ (by omega)]; omega
 have hk0 : (0 : Int) ≤ (k : Int) := by omega
 have hkc : (k : Int) ≤ (c3 : Int) := by omega
 have htl : (tornB.take k).length = k := by rw [List.length_take]; show min k 12 = k; omega
 have hNk : NewB w9 wf (.slice A3 k c3) (tornB.take k) := by
  have h1 := own_upto (m := k) hN3.1 (by show k ≤ 12; omega)
  refine ⟨?_, fun g hg => hN3.2 g (by cases A3 <;> exact hg)⟩
  rw [htl, List.map_take]
  simpa using h1
 have HNk := Lib.hid hNk
 have Hk1 := Lib.hid hk1
 have Htl := Lib.hid htl
 have HSwf := Lib.hid (HSw9.out.ext hE3)
 have HMwf := Lib.hid (HMw9.out.ext hE3)
 have HHwf := Lib.hid (HHw9.out.mod hE3 (fun _ _ => id))
 have HGwf := Lib.hid (hE3.blk HGw9.out id)
 have HFwf := Lib.hid (hE3.blk HFw9.out id)
 have Hw9f : Hid (w9.heap.size ≤ wf.heap.size) := Lib.hid hE3.size
 obtain ⟨tm, htm⟩ : ∃ tm, decide (0 < M) = tm := ⟨_, rfl⟩
 clear hu hk hk1 hN3 hE3 hNk htl
 go_upto_if 106 with fail
 go_cut [16] from 107 to 109 (fun s16 wx => ∃ (A : Option Addr) (m cc : Nat) (r : List UInt8), s16 = .slice A m cc ∧ r.length = m ∧ m ≤ 2000 ∧ NewB w9 wx (.slice A m cc) r ∧ firstP r = none ∧ r ≠ [] ∧ Ext wf wx)
 case first =>
  rcases tm with _ | _
  ·
   have hM0 : M = 0 := by have := of_decide_eq_false htm; omega
   go_wp2_with fail
   go_meet
   exact ⟨A3, k, c3, tornB.take k, rfl, Htl.out, by have := Hk1.out; omega, HNk.out, torn_cut k Hk1.out.2, fun e => by have h1 := Htl.out; rw [e] at h1; have := Hk1.out; simp at h1; omega, Mod.refl _ _⟩
  ·
   have hM0 : ¬ M = 0 := by have := of_decide_eq_true htm; omega
   obtain ⟨wg, hwg⟩ : ∃ wg, wf.alloc (.cells #[.int .u8 0] 5) = wg := ⟨_, rfl⟩
   obtain ⟨pf, hpf⟩ : ∃ p, wf.heap.size = p := ⟨_, rfl⟩
   have hN1 : NewB wf wg (.slice (some ⟨pf, 0, none⟩) 1 1) [0] := by rw [← hwg, ← hpf]; exact newB_lit wf [0] 1 _ rfl (by decide) rfl
   have hE1 : Ext wf wg := by rw [← hwg]; exact (Mod.refl _ wf).alloc _
   have hbm : Byt wg (fun g => g < N) (.slice E M ec) more := by
    have h0 : Byt w (fun g => g < N) (.slice E M ec) more := HBm.out.mono (fun g hg => by have := HN.out; omega)
    exact (h0.mod HMwf.out (fun g hg => by omega)).ext hE1
   have HN1 := Lib.hid hN1
   have HE1 := Lib.hid hE1
   have Hbm := Lib.hid hbm
   have Hwg := Lib.hid hwg
   have Hpf := Lib.hid hpf
   clear hN1 hE1 hbm hwg hpf
   go_wp2_with (at_builtin; rw [Hwg.out, Hpf.out]; refine wpList_appB rfl _ _ rfl (.slice (some ⟨pf, 0, none⟩) 1 1) [0] wf rfl HN1.out HE1.out _ (.slice E M ec) more rfl Hbm.out (by have := HM0.out; simp; omega) ?_)
   rintro A5 n5 c5 wh hn5 hN5 hE5 _ _
   have HN5 := Lib.hid hN5
   have HE5 := Lib.hid hE5
   have Hn5 := Lib.hid hn5
   clear hN5 hE5 hn5
   go_wp2_with fail
   go_meet
   exact ⟨A5, n5, c5, 0 :: more, rfl, Hn5.out.symm, by have h1 := Hn5.out; have := HM0.out; first | omega | (simp at h1; omega), ⟨HN5.out.1, fun g hg => Nat.le_trans Hw9f.out (HN5.out.2 g hg)⟩, torn_more more, by simp, HE5.out⟩
 obtain ⟨A4, m4, c4, r, rfl, hm4, hml, hNr, hfr, hr0, hX⟩ := hcut
 have HSwc := Lib.hid (HSwf.out.ext hX)
 have HMwc := Lib.hid (HMwf.out.ext hX)
 have HHwc := Lib.hid (HHwf.out.mod hX (fun _ _ => id))
 have HGwc := Lib.hid (hX.blk HGwf.out id)
 have HFwc := Lib.hid (hX.blk HFwf.out id)
 have HNr := Lib.hid (NewB.sl (w := w9) hNr)
 have Hfr := Lib.hid hfr
 have Hr0 := Lib.hid hr0
 have Hm4 := Lib.hid hm4
 clear hNr hfr hr0 hX hm4
 go_wp2_with fail
 refine (d_append wc d fv D HSwc.out.dk _ _ r HNr.out (by rw [Hm4.out]; omega)).mono ?_
 rintro e wd ⟨rfl, hM⟩
 obtain ⟨fvd, hS, hK⟩ := HSwc.out.dm hM
 have HMwd := Lib.hid (HMwc.out.self hK.md)
 have HHwd := Lib.hid (hK.hm1 HHwc.out)
 have HGwd := Lib.hid (hK.bx _ _ _ _ (by decide) (by decide) (by decide) HGwc.out)
 have HFwd := Lib.hid (hK.bx _ _ _ _ (by decide) (by decide) (by decide) HFwc.out)
 have HS0 := Lib.hid hS
 clear hM hS hK
 rcases HP.out.wh.append r with e1 | ⟨e1, e2⟩
 ·
  have HSwd : Hid (StM wd N s d fvd (.slice As _ cs) (.slice Al _ cl0) D g) := Lib.hid (by have h1 := HS0.out; rw [e1] at h1; exact h1)
  rw [e1]
  clear e1
  go_wp2_with fail
  refine (d_size wd d fvd D HSwd.out.dk).mono ?_
  rintro e w9 ⟨rfl, rfl⟩
  rw [Hnf.out]
  go_wp2_with fail
  refine (l_wakes11 wd).mono ?_
  rintro e wz ⟨rfl, hE⟩
  go_wp2_with fail
  go_ret
  exact ⟨rfl, Mod.below (HMwd.out.ext hE) (by have := HN.out; omega) (fun k hk => by have := HN.out; omega)⟩
 have HSwd : Hid (StM wd N s d fvd (.slice As _ cs) (.slice Al _ cl0) { D with file := D.file ++ r } g) := Lib.hid (by have h1 := HS0.out; rw [e2] at h1; exact h1)
 rw [e1]
 obtain ⟨D2, hag, hfl, hP2⟩ := HP.out.torn (first := beginH c) Hfr.out Hr0.out HSwd.out.dk.2.2 ((checkH_iff _).2 (begin_held Hc.out Hco.out).1)
 have Hag := Lib.hid hag
 have Hfl := Lib.hid hfl
 clear e1 e2 hag hfl hP2 HS0
 have hld := load_row (P := Tryz.prog) (o := 0) (cs := ((beginH c : AHard).cells (.slice none 0 0) (.slice none 0 0))) str_hard HFwd.out rfl (fun j u hu => by rw [Nat.zero_add]; exact hu)
 go_wp2_with (refine wpList_ld rfl 34 _ rfl _ _ rfl hld ?_)
 clear hld
 refine (st_open wd (fun _ => False) d (beginH c) (.slice none 0 0) (.slice none 0 0) fvd _ HSwd.out.dk (begin_mem _ _ _) (by simp [beginH])).mono ?_
 intro e wz hO
 rw [Hag.out] at hO
 obtain ⟨s2, fvz, gsz, glz, rfl, hS, hKf⟩ := hO.yes (N := N) HSwd.out.dk rfl HSwd.out.nd HSwd.out.nf
 have HSwz : Hid (StM wz N s2 d fvz gsz glz D2 g) := Lib.hid hS
 have HMwz := Lib.hid (HMwd.out.self (hKf s).md)
 have HHwz := Lib.hid ((hKf s).hm1 HHwd.out)
 have HGwz := Lib.hid ((hKf s).bx _ _ _ _ (by decide) (by decide) (by decide) HGwd.out)
 clear hO hS hKf
 go_wp2_with fail
 refine wp_region_held_drew (S := fun W' => Ext wz W') (by kernel_rfl) (Mod.refl _ wz).drew (fun hS => ?_)
 refine tkH 0 (some 127) rfl rfl ?_ hS ?_ ?_; rotate_left; · rintro W' hW'; go_simp; try with_reducible rfl
 try simp only [pL]
 refine tkH 1 (some 128) rfl rfl ?_ hS ?_ ?_; rotate_left; · rintro W' hW'; go_simp; try with_reducible rfl
 try simp only [pL]
 refine tkH 2 (some 129) rfl rfl ?_ hS ?_ ?_; rotate_left; · rintro W' hW'; go_simp; try with_reducible rfl
 try simp only [pL]
 refine tkH 3 (some 130) rfl rfl ?_ hS ?_ ?_; rotate_left; · rintro W' hW'; go_simp; try with_reducible rfl
 try simp only [pL]
 refine tkH 4 (some 131) rfl rfl ?_ hS ?_ ?_; rotate_left; · rintro W' hW'; go_simp; try with_reducible rfl
 try simp only [pL]
 refine tkH 5 (some 132) rfl rfl ?_ hS ?_ ?_; rotate_left; · rintro W' hW'; go_simp; try with_reducible rfl
 try simp only [pL]
 refine tkH 6 (some 133) rfl rfl ?_ hS ?_ ?_; rotate_left; · rintro W' hW'; go_simp; try with_reducible rfl
 try simp only [pL]
 refine tkH 7 (some 134) rfl rfl ?_ hS ?_ ?_; rotate_left; · rintro W' hW'; go_simp; try with_reducible rfl
 try simp only [pL]
 refine takeH (i := 9) (v := .agg ((g : AHard).cells (.slice Qs g.snap.length qs) (.slice Ql g.log.length ql)).toArray) (some 136) rfl rfl (by kernel_rfl) (by kernel_rfl) (by kernel_rfl) (fun _ _ _ h => h) (Or.inl ⟨by kernel_rfl, ?_⟩) hS ?_
 ·
  rintro W' hW'
  exact exec_ld _ _ rfl (.pointer (some ⟨b14, 0, none⟩)) _ rfl (load_row (P := Tryz.prog) (o := 0) (cs := ((g : AHard).cells (.slice Qs g.snap.length qs) (.slice Ql g.log.length ql))) str_hard (hW'.blk HGwz.out id) rfl (fun j u hu => by rw [Nat.zero_add]; exact hu))
 try simp only [pL]
 refine wpAnyH_ready (rs := [8]) (by kernel_rfl) (by simp) ?_
 refine AllReadyH.cons rfl (fun K hK => ?_) AllReadyH.nil
 go_simp
 go_wp2_with fail
 refine (st_hard wz.drew _ s2 d g _ _ HSwz.out.st HSwz.out.hm (by have := HP.out.lg; omega) (by have := HP.out.hd.1.s; omega)).mono ?_
 rintro e wg ⟨sv2, lv2, rfl, hN2, hE2⟩
 have HSg := Lib.hid (HSwz.out.ext (Mod.ext (Mod.refl _ wz).drew hE2))
 have HHg := Lib.hid (HHwz.out.mod (S := fun _ => False) (Mod.ext (Mod.refl _ wz).drew hE2) (fun _ _ => id))
 have HN2 := Lib.hid hN2.mem
 clear hN2
 have hX := (hS.ext hE2)
 go_simp
 refine hK.out _ _ hX (fun hS => ?_)
 clear hK K hX
 try simp only [pL]
 refine wpAnyH_ready (rs := [10]) (by kernel_rfl) (by simp) ?_
 refine AllReadyH.cons rfl (fun K hK => ?_) AllReadyH.nil
 go_simp
 go_wp2_with fail
 refine (k_hard wg _ _ g g _ _ _ _ HN2.out HHg.out).mono ?_
 rintro e wh ⟨rfl, hE3⟩
 rw [eqHard_refl]
 have HSh := Lib.hid (HSg.out.ext hE3)
 have hX := (hS.ext hE3)
 go_simp
 refine hK.out _ _ hX (fun hS => ?_)
 clear hK K hX
 try simp only [pL]
 refine tkH 11 (some 138) rfl rfl ?_ hS ?_ ?_; rotate_left; · rintro W' hW'; go_simp; try with_reducible rfl
 try simp only [pL]
 refine tkH 12 (some 139) rfl rfl ?_ hS ?_ ?_; rotate_left; · rintro W' hW'; go_simp; try with_reducible rfl
 try simp only [pL]
 refine tkH 13 (some 140) rfl rfl ?_ hS ?_ ?_; rotate_left; · rintro W' hW'; go_simp; try with_reducible rfl
 try simp only [pL]
 refine tkH 15 (some 142) rfl rfl ?_ hS ?_ ?_; rotate_left; · rintro W' hW'; go_simp; try with_reducible rfl
 try simp only [pL]
 refine wpAnyH_ready (rs := [14]) (by kernel_rfl) (by simp) ?_
 refine AllReadyH.cons rfl (fun K hK => ?_) AllReadyH.nil
 go_simp
 go_wp2_with fail
 refine (d_size wh d fvz D2 HSh.out.dk).mono ?_
 rintro e wi ⟨rfl, rfl⟩
 rw [Hfl.out, Hnf.out]
 have hX := hS
 go_simp
 refine hK.out _ _ hX (fun hS => ?_)
 clear hK K hX
 try simp only [pL]
 refine tkH 16 (some 143) rfl rfl ?_ hS ?_ ?_; rotate_left; · rintro W' hW'; go_simp; try with_reducible rfl
 try simp only [pL]
 refine tkH 17 (some 144) rfl rfl ?_ hS ?_ ?_; rotate_left; · rintro W' hW'; go_simp; try with_reducible rfl
 try simp only [pL]
 refine tkH 18 (some 145) rfl rfl ?_ hS ?_ ?_; rotate_left; · rintro W' hW'; go_simp; try with_reducible rfl
 try simp only [pL]
 refine wpAnyH_ready (rs := [19]) (by kernel_rfl) (by simp) ?_
 refine AllReadyH.cons rfl (fun K hK => ?_) AllReadyH.nil
 go_simp
 go_wp2_with fail
 refine (l_wakes11 wh).mono ?_
 rintro e wi ⟨rfl, hE4⟩
 have hX := (hS.ext hE4)
 go_simp
 refine hK.out _ _ hX (fun hS => ?_)
 clear hK K hX
 try simp only [pL]
 refine tkH 20 (some 147) rfl rfl ?_ hS ?_ ?_; rotate_left; · rintro W' hW'; go_simp; try with_reducible rfl
 try simp only [pL]
 refine tkH 21 (some 8) rfl rfl ?_ hS ?_ ?_; rotate_left; · rintro W' hW'; go_simp; try with_reducible rfl
 try simp only [pL]
 refine wpAnyH_done (by kernel_rfl) ?_ _
 go_wp2_with fail
 go_ret
 exact ⟨rfl, Mod.below (HMwz.out.ext hS) (by have := HN.out; omega) (fun k hk => by have := HN.out; omega)⟩
end Go.Proofs.YtjhnlncgmejkcaaGreat
