/-
 The walk of StableSmall. Conditions: as the theorem names them.
-/
import Derived.Test.YtjhnlncgmejkcaaGreatStbSp
import Derived.Test.YtjhnlncgmejkcaaGreatS26
import Derived.Test.YtjhnlncgmejkcaaGreatStbNx
namespace Go.Proofs.YtjhnlncgmejkcaaGreat
set_option linter.unusedSimpArgs false
open Go.RowKit

set_option maxRecDepth 100000 in
set_option maxHeartbeats 4000000 in
theorem stableSmall_a (w : World) (room : Int) (c : AConf) (A : Option Addr) (n cp : Nat) (l : List AActM) (hco : c.ok) (hL : Acts w (fun g => g < w.heap.size) (.slice A n cp) l) (hn : l.length = n) :
  Calls Tryz.prog 4 #[.int .i64 room, .agg #[.int .i64 c.full, .int .i64 c.wit, .int .i64 c.learn, .int .i64 c.learnWit], .slice A n cp] w fun e w' => e = .returned (.bool true) ∧ Below w.heap.size w w' := by
 obtain ⟨N, hN⟩ : ∃ N, w.heap.size = N := ⟨_, rfl⟩
 obtain ⟨W, hW⟩ : ∃ W, w.alloc (.cells #[.int .i64 c.full, .int .i64 c.wit, .int .i64 c.learn, .int .i64 c.learnWit] 23) = W := ⟨_, rfl⟩
 have hA : W.heap[N]? = some (.cells #[.int .i64 c.full, .int .i64 c.wit, .int .i64 c.learn, .int .i64 c.learnWit] 23 (0, 0)) := by rw [← hW, ← hN]; exact heap_alloc_new w _
 have hE : Ext w W := by rw [← hW]; exact (Mod.refl _ w).alloc _
 have hnl := hL.1.le
 rw [hn] at hnl
 unfold maxLen at hnl
 rw [hN] at hL
 have HN := Lib.hid hN
 have HW := Lib.hid hW
 have HA0 := Lib.hid hA
 have HX0 := Lib.hid hE
 have HL := Lib.hid hL
 have Hn := Lib.hid hn
 have Hco := Lib.hid hco
 clear hN hW hA hE hL hn hco
 go_enter Tryz.func4, Tryz.ntmps4
 go_wp2_with fail
 rw [HW.out, HN.out]
 refine (hv_acts W _ _ l (HL.out.mod HX0.out (fun _ _ => id))).mono ?_
 rintro e w1 ⟨rfl, hE⟩
 have HA1 := Lib.hid (hE.blk HA0.out id)
 have HX1 := Lib.hid (HX0.out.ext hE)
 clear hE
 rcases hh : heavyActs l with _ | _
 rotate_left
 ·
  go_wp2
  go_ret
  exact ⟨rfl, Mod.below HX1.out (by have := HN.out; omega) (fun _ _ => id)⟩
 have Hh := Lib.hid hh
 clear hh
 have hld := load_row (P := Tryz.prog) (o := 0) (cs := [.int .i64 c.full, .int .i64 c.wit, .int .i64 c.learn, .int .i64 c.learnWit]) str_conf HA1.out rfl (fun j u hu => by rw [Nat.zero_add]; exact hu)
 go_wp2_with (refine wpList_ldW (by kernel_rfl) 23 _ rfl _ _ rfl hld ?_)
 clear hld
 refine (r_conf c w1).mono ?_
 rintro e w2 ⟨rfl, hE⟩
 have HA2 := Lib.hid (hE.blk HA1.out id)
 have HX2 := Lib.hid (HX1.out.ext hE)
 clear hE
 rcases hc : confOk c with _ | _
 ·
  go_wp2
  go_ret
  exact ⟨rfl, Mod.below HX2.out (by have := HN.out; omega) (fun _ _ => id)⟩
 have Hc := Lib.hid hc
 clear hc
 by_cases r0 : room < 0
 ·
  have dm : decide (room < 0) = true := decide_eq_true r0
  go_wp2
  go_ret
  exact ⟨rfl, Mod.below HX2.out (by have := HN.out; omega) (fun _ _ => id)⟩
 have dm : decide (room < 0) = false := decide_eq_false r0
 by_cases r6 : 600 < room
 ·
  have dm6 : decide (600 < room) = true := decide_eq_true r6
  go_wp2
  go_ret
  exact ⟨rfl, Mod.below HX2.out (by have := HN.out; omega) (fun _ _ => id)⟩
 have dm6 : decide (600 < room) = false := decide_eq_false r6
 go_wp2_with fail
 refine (d_new room (by omega) (by omega) w2).mono ?_
 rintro e w3 ⟨rfl, hD, hE⟩
 obtain ⟨d, hd⟩ : ∃ d, w2.heap.size = d := ⟨_, rfl⟩
 rw [hd] at hD ⊢
 have HNd : Hid (N ≤ d) := Lib.hid (by have := HX2.out.size; have := HN.out; omega)
 have HX3 := Lib.hid (HX2.out.ext hE)
 have HA3 := Lib.hid (hE.blk HA2.out id)
 have HD3 := Lib.hid hD
 clear hd hD hE
 have hld := load_row (P := Tryz.prog) (o := 0) (cs := [.int .i64 c.full, .int .i64 c.wit, .int .i64 c.learn, .int .i64 c.learnWit]) str_conf HA3.out rfl (fun j u hu => by rw [Nat.zero_add]; exact hu)
 go_wp2_with (refine wpList_ld rfl 23 _ rfl _ _ rfl hld ?_)
 clear hld
 refine (r8_begin w3 c).mono ?_
 rintro e w4 ⟨rfl, hE⟩
 have HX4 := Lib.hid (HX3.out.ext hE)
 have HD4 := Lib.hid (HD3.out.ext hE)
 obtain ⟨b9, hb9⟩ : ∃ b, w4.heap.size = b := ⟨_, rfl⟩
 have hz : (w4.alloc (.cells #[.int .i64 0, .int .i64 0, .int .i64 0, .int .i64 0, .int .i64 0, .int .i64 0, .int .i64 0, .int .i64 0, .slice none 0 0, .slice none 0 0] 34)).heap[b9]? = some (.cells #[.int .i64 0, .int .i64 0, .int .i64 0, .int .i64 0, .int .i64 0, .int .i64 0, .int .i64 0, .int .i64 0, .slice none 0 0, .slice none 0 0] 34 (0, 0)) := by rw [← hb9]; exact heap_alloc_new w4 _
 have Hb9 := Lib.hid hb9
 clear hE hb9
 go_wp2_with (rw [Hb9.out]; refine wpList_stR rfl 34 _ _ rfl 10 b9 0 ((beginH c : AHard).cells (.slice none 0 0) (.slice none 0 0)) rfl rfl str_hard _ [.int .i64 0, .int .i64 0, .int .i64 0, .int .i64 0, .int .i64 0, .int .i64 0, .int .i64 0, .int .i64 0, .slice none 0 0, .slice none 0 0] ((beginH c : AHard).cells (.slice none 0 0) (.slice none 0 0)) hz rfl (by simp) (h_one _ _ _ _ _ _ _) rfl ?_)
 intro w5 hb5 hm5 hs5
 have hE : Ext w4 w5 := ((Mod.refl (fun _ => False) w4).alloc (.cells #[.int .i64 0, .int .i64 0, .int .i64 0, .int .i64 0, .int .i64 0, .int .i64 0, .int .i64 0, .int .i64 0, .slice none 0 0, .slice none 0 0] 34)).trans hm5 (fun k hk e => by have := Hb9.out; omega)
 have HX5 := Lib.hid (HX4.out.ext hE)
 have HD5 := Lib.hid (HD4.out.ext hE)
 have HF5 := Lib.hid hb5
 clear hE hb5 hm5 hs5 hz
 have hld := load_row (P := Tryz.prog) (o := 0) (cs := ((beginH c : AHard).cells (.slice none 0 0) (.slice none 0 0))) str_hard HF5.out rfl (fun j u hu => by rw [Nat.zero_add]; exact hu)
 go_wp2_with (refine wpList_ld rfl 34 _ rfl _ _ rfl hld ?_)
 clear hld
 refine (st_open w5 (fun _ => False) d (beginH c) (.slice none 0 0) (.slice none 0 0) (.slice none 0 0) _ HD5.out (begin_mem _ _ _) (by simp [beginH])).mono ?_
 intro e w6 hO
 rcases open_begin Hc.out Hco.out room with ⟨h5, _⟩ | hob
 ·
  rw [h5] at hO
  obtain ⟨fv, rfl, _, hD, hM, _⟩ := hO.no' (N := N) rfl HNd.out (by simp [Value.ownBlock])
  have HD6 := Lib.hid hD
  have HM6 : Hid (Mod (fun k => N ≤ k) w w6) := Lib.hid (Mod.self (Ext.mod HX5.out _) hM)
  clear hO hD hM h5
  go_wp2_with fail
  refine (d_size w6 d fv _ HD6.out).mono ?_
  rintro e w7 ⟨rfl, rfl⟩
  rw [show (((ADisk.new room).file.length : Nat) : Int) = 0 from rfl]
  go_wp2_with fail
  refine (l_wakes11 w6).mono ?_
  rintro e w7 ⟨rfl, hE⟩
  go_wp2_with fail
  go_ret
  exact ⟨rfl, Mod.below (HM6.out.ext hE) (by have := HN.out; omega) (fun k hk => by have := HN.out; omega)⟩
 obtain ⟨s, fv, gs, gl, rfl, hS, hK⟩ := hO.yes (N := N) HD5.out hob.1 HNd.out (by simp [Value.ownBlock])
 obtain ⟨D, hD⟩ : ∃ D, (openP (ADisk.new room) (beginH c)).1 = D := ⟨_, rfl⟩
 rw [hD] at hS hob
 have HS6 := Lib.hid hS
 have HP6 := Lib.hid hob.2.2
 have HM6 : Hid (Mod (fun k => N ≤ k) w w6) := Lib.hid (Mod.self (Ext.mod HX5.out _) (hK d).md)
 have HF6 := Lib.hid ((hK d).bx _ _ _ _ (by decide) (by decide) (by decide) HF5.out)
 clear hO hS hK hob hD
 have hld := load_row (P := Tryz.prog) (o := 0) (cs := ((beginH c : AHard).cells (.slice none 0 0) (.slice none 0 0))) str_hard HF6.out rfl (fun j u hu => by rw [Nat.zero_add]; exact hu)
 obtain ⟨b11, hbx⟩ : ∃ b, w6.heap.size = b := ⟨_, rfl⟩
 have hz : (w6.alloc (.cells #[.int .i64 0, .int .i64 0, .int .i64 0, .int .i64 0, .int .i64 0, .int .i64 0, .int .i64 0, .int .i64 0, .slice none 0 0, .slice none 0 0] 34)).heap[b11]? = some (.cells #[.int .i64 0, .int .i64 0, .int .i64 0, .int .i64 0, .int .i64 0, .int .i64 0, .int .i64 0, .int .i64 0, .slice none 0 0, .slice none 0 0] 34 (0, 0)) := by rw [← hbx]; exact heap_alloc_new w6 _
 have Hbx := Lib.hid hbx
 have Hb9n : Hid (b9 < b11) := Lib.hid (by have h1 := (Array.getElem?_eq_some_iff.1 HF6.out).1; have := Hbx.out; omega)
 have Hb11N : Hid (N ≤ b11) := Lib.hid (by have := HM6.out.size; have := HN.out; omega)
 clear hbx
 go_wp2_with (first | (refine wpList_ld rfl 34 _ rfl _ _ rfl hld ?_) | (rw [Hbx.out]; refine wpList_stR rfl 34 _ _ rfl 10 b11 0 ((beginH c : AHard).cells (.slice none 0 0) (.slice none 0 0)) rfl rfl str_hard _ [.int .i64 0, .int .i64 0, .int .i64 0, .int .i64 0, .int .i64 0, .int .i64 0, .int .i64 0, .int .i64 0, .slice none 0 0, .slice none 0 0] ((beginH c : AHard).cells (.slice none 0 0) (.slice none 0 0)) hz rfl (by simp) (h_one _ _ _ _ _ _ _) rfl ?_))
 intro w7 hb hm hs
 have hE : Ext w6 w7 := ((Mod.refl (fun _ => False) w6).alloc (.cells #[.int .i64 0, .int .i64 0, .int .i64 0, .int .i64 0, .int .i64 0, .int .i64 0, .int .i64 0, .int .i64 0, .slice none 0 0, .slice none 0 0] 34)).trans hm (fun k hk e => by have := Hbx.out; omega)
 have HS7 := Lib.hid (HS6.out.ext hE)
 have HM7 := Lib.hid (HM6.out.ext hE)
 have HF7 := Lib.hid (hE.blk HF6.out id)
 have HK7 := Lib.hid hb
 clear hE hb hm hs hz hld
 go_upto_block 0 with fail
 go_cut [12, 13, 14] from 66 to 112 (fun _ _ _ wx => ∃ (fv gs gl hv hl : Value) (D : ADisk) (g : AHard), StM wx N s d fv gs gl D g ∧ StP D g room 8000 ∧ Mod (fun k => N ≤ k) w wx ∧ wx.heap[b9]? = some (.cells ((beginH c : AHard).cells (.slice none 0 0) (.slice none 0 0)).toArray 34 (0, 0)) ∧ wx.heap[b11]? = some (.cells ((g : AHard).cells (hv) (hl)).toArray 34 (0, 0)) ∧ HardM wx (fun k => Apart s d fv k ∧ k ≠ b11) hv hl g)
 case first =>
  go_wp2_with fail
  go_loopw [12, 13, 14] (fun iv _ _ wr => ∃ (i : Nat) (fv gs gl hv hl : Value) (D : ADisk) (g : AHard), i ≤ n ∧ i ≤ 40 ∧ iv = .int .i64 i ∧ StM wr N s d fv gs gl D g ∧ StP D g room (200 * i) ∧ g.term ≤ 2 * (i : Int) ∧ Mod (fun k => N ≤ k) w wr ∧ wr.heap[b9]? = some (.cells ((beginH c : AHard).cells (.slice none 0 0) (.slice none 0 0)).toArray 34 (0, 0)) ∧ wr.heap[b11]? = some (.cells ((g : AHard).cells (hv) (hl)).toArray 34 (0, 0)) ∧ HardM wr (fun k => Apart s d fv k ∧ k ≠ b11) hv hl g) (fun iv _ _ _ => n - (intOf iv).toNat)
  case atStart => exact ⟨0, fv, gs, gl, .slice none 0 0, .slice none 0 0, D, beginH c, by omega, by omega, rfl, HS7.out, HP6.out, by simp [beginH], HM7.out, HF7.out, HK7.out, begin_mem _ _ _⟩
  case round =>
   have HK0 : Hid (b11 < w7.heap.size) := Lib.hid (Array.getElem?_eq_some_iff.1 HK7.out).1
   clear HS6 HP6 HM6 HF6 HS7 HM7 HF7 HK7 HK0 fv gs gl D
   obtain ⟨i, fv, gs, gl, hv, hl, D, g, hin, hi40, rfl, hS, hP, ht, hM, hF, hK, hH⟩ := hrel
   have HS := Lib.hid hS
   have HP := Lib.hid hP
   have HM := Lib.hid hM
   have HF := Lib.hid hF
   have HK := Lib.hid hK
   have HH := Lib.hid hH
   have Ht := Lib.hid ht
   have Hb11 : Hid (b11 < wr.heap.size) := Lib.hid (Array.getElem?_eq_some_iff.1 hK).1
   obtain ⟨As, cs, Al, cl0, rfl, rfl⟩ := hS.hm.forms
   obtain ⟨Ks, ks, Kl, kl, rfl, rfl⟩ := hH.forms
   clear hS hP hM hF hK hH ht
   have hi0 : (0 : Int) ≤ (i : Int) := by omega
   by_cases hi : i < n
   rotate_left
   ·
    have HPo : Hid (StP D g room 8000) := Lib.hid ⟨HP.out.wh, HP.out.kp, HP.out.hd, HP.out.rm, by have := HP.out.lg; omega⟩
    go_wp2_with fail
    go_meet
    exact ⟨fv, _, _, _, _, D, g, HS.out, HPo.out, HM.out, HF.out, HK.out, HH.out⟩
   by_cases hj : i < 40
   rotate_left
   ·
    have HPo : Hid (StP D g room 8000) := Lib.hid ⟨HP.out.wh, HP.out.kp, HP.out.hd, HP.out.rm, by have := HP.out.lg; omega⟩
    go_wp2_with fail
    go_meet
    exact ⟨fv, _, _, _, _, D, g, HS.out, HPo.out, HM.out, HF.out, HK.out, HH.out⟩
   obtain ⟨gb, ob, x, rfl, hgT, hx, hxok, hcx⟩ := (HL.out.mod HM.out (fun g hg => by omega)).at hi
   have hi1 : (i : Int) < (n : Int) := by omega
   have d40 : decide ((i : Int) < 40) = true := decide_eq_true (by omega)
   have Hhx := Lib.hid (heavy_act Hh.out hj hx)
   obtain ⟨⟨ad, an, ak, ah, al, ab⟩, asv, alv, aev, abv⟩ := x
   obtain ⟨Bl, bl, hev⟩ := hxok.2.2.2.2.2.1.1.form
   obtain ⟨Cl, cl, hbv⟩ := hxok.2.2.2.2.2.2.form
   simp only at hev hbv
   subst hev hbv
   have x0 := hcx 0 _ rfl
   rw [Nat.add_zero] at x0
   have hq0 : (IntKind.u64.wrap ad).tmod 9 = um ad 9 := um_walk ad 9
   obtain ⟨q, hq⟩ : ∃ q, um ad 9 = q := ⟨_, rfl⟩
   rw [hq] at hq0
   have Hq := Lib.hid hq
   clear hq hx
   by_cases hq5 : 4 ≤ q
   ·
    have dq : decide (4 ≤ q) = true := decide_eq_true hq5
    have HP2 : Hid (StP D g room (200 * (i + 1))) := Lib.hid ⟨HP.out.wh, HP.out.kp, HP.out.hd, HP.out.rm, by have := HP.out.lg; omega⟩
    clear hcx hxok Hhx
    go_wp2_with fail
    go_roundw
    case rel => exact ⟨i + 1, fv, _, _, _, _, D, g, by omega, by omega, by go_num, HS.out, HP2.out, by have := Ht.out; omega, HM.out, HF.out, HK.out, HH.out⟩
    case measure => simp [intOf]; omega
   have dq : decide (4 ≤ q) = false := decide_eq_false hq5
   have hsm := HP.out.small (x := ⟨ad, an, ak, ah, al, ab⟩) hj Ht.out (by simp only [Hq.out]; omega) hxok.fit.1 hxok.fit.2 Hhx.out
   obtain ⟨y, hy⟩ : ∃ y, nextP g ⟨ad, an, ak, ah, al, ab⟩ = y := ⟨_, rfl⟩
   rw [hy] at hsm
   have Hy := Lib.hid hy
   have Hsm := Lib.hid hsm
   have HHc : Hid (HardM wr (fun k => (Apart s d fv k ∧ k ≠ b11) ∧ k < wr.heap.size) _ _ g) := Lib.hid HH.out.cap
   have HXc : Hid (AActM.ok wr (fun k => (Apart s d fv k ∧ k ≠ b11) ∧ k < wr.heap.size) _) := Lib.hid (act_cap (T' := fun k => (Apart s d fv k ∧ k ≠ b11) ∧ k < wr.heap.size) hxok (fun k h1 h2 => ⟨⟨HS.out.low h1, by have := Hb11N.out; omega⟩, h2⟩))
   clear hy hsm hxok
   go_upto_region 15 with fail
   go_cut [13] from 84 to 89 (fun s13 wx => ∃ (b13 : Nat) (sb lb : Value), s13 = .pointer (some ⟨b13, 0, none⟩) ∧ wx.heap[b13]? = some (.cells ((y : AHard).cells (sb) (lb)).toArray 34 (0, 0)) ∧ HardM wx (fun k => Apart s d fv k ∧ k ≠ b11) sb lb y ∧ wr.heap.size ≤ b13 ∧ Ext wr wx)
   case first =>
    refine wp_region_held_drew (S := fun W' => Ext wr W') (by kernel_rfl) (Mod.refl _ wr).drew (fun hS => ?_)
    refine takeH (i := 0) (v := .agg ((g : AHard).cells (.slice Ks g.snap.length ks) (.slice Kl g.log.length kl)).toArray) (some 84) rfl rfl (by kernel_rfl) (by kernel_rfl) (by kernel_rfl) (fun _ _ _ h => h) (Or.inl ⟨by kernel_rfl, ?_⟩) hS ?_
    ·
     rintro W' hW'
     exact exec_ld _ _ rfl (.pointer (some ⟨b11, 0, none⟩)) _ rfl (load_row (P := Tryz.prog) (o := 0) (cs := ((g : AHard).cells (.slice Ks g.snap.length ks) (.slice Kl g.log.length kl))) str_hard (hW'.blk HK.out id) rfl (fun j u hu => by rw [Nat.zero_add]; exact hu))
    try simp only [pL]
    refine tkH 1 (some 85) rfl rfl ?_ hS ?_ ?_; rotate_left; · rintro W' hW'; go_simp; try with_reducible rfl
    try simp only [pL]
    refine tkH 2 (some 86) rfl rfl ?_ hS ?_ ?_; rotate_left; · rintro W' hW'; go_simp; try with_reducible rfl
    try simp only [pL]
    refine tkH 3 (some 87) rfl rfl ?_ hS ?_ ?_; rotate_left; · rintro W' hW'; go_simp; try with_reducible rfl
    try simp only [pL]
    refine takeH (i := 4) (v := .agg (AActM.cells ⟨⟨ad, an, ak, ah, al, ab⟩, asv, alv, .slice Bl al.length bl, .slice Cl ab.length cl⟩).toArray) (some 88) rfl rfl (by kernel_rfl) (by kernel_rfl) (by kernel_rfl) (fun _ _ _ h => h) (Or.inl ⟨by kernel_rfl, ?_⟩) hS ?_
    ·
     rintro W' hW'
     exact exec_ld _ _ rfl (.pointer (some ⟨gb, ob + i * 15, none⟩)) _ rfl (load_at str_act rfl (fun j u hu => hW'.cell (hcx j u hu) id))
    try simp only [pL]
    refine wpAnyH_ready (rs := [5, 6]) (by kernel_rfl) (by simp) ?_
    refine AllReadyH.cons rfl (fun K hK => ?_) (AllReadyH.cons rfl (fun K hK => ?_) AllReadyH.nil)
    ·
     go_simp
     go_wp2_with fail
     refine (l_next _ (fun k => (Apart s d fv k ∧ k ≠ b11) ∧ k < wr.heap.size) g ah Ks _ ks Kl _ kl ad an ak asv alv Bl _ bl Cl _ cl al ab (HHc.out.mod hS (fun _ _ => id)) rfl rfl (HXc.out.2.2.2.2.1.mod hS (fun _ _ => id)) (HXc.out.2.2.2.2.2.1.mod hS (fun _ _ => id)) rfl (HXc.out.2.2.2.2.2.2.mod hS (fun _ _ => id)) rfl HP.out.hd.1 (by have := HP.out.lg; omega) (by have := Hhx.out; omega) (by have := Hhx.out; omega)).mono ?_
     rintro e wb ⟨sb, lb, rfl, hMb, hEb⟩
     rw [Hy.out] at hMb ⊢
     obtain ⟨Gs, gs2, Gl, gl2, rfl, rfl⟩ := hMb.forms
     have HMb := Lib.hid hMb
     clear hMb
     have hX := (hS.ext hEb)
     go_simp
     refine hK.out _ _ hX (fun hS => ?_)
     clear hK K hX
     try simp only [pL]
     refine wpAnyH_ready (rs := [6]) (by kernel_rfl) (by simp) ?_
     refine AllReadyH.cons rfl (fun K hK => ?_) AllReadyH.nil
     refine step_allocH rfl rfl ?_
     intro b13 w6 hb6 hE6 hl6 hg6
     have HB6 := Lib.hid hb6
     refine hK.out _ _ ((hS.ext hE6)) (fun hS => ?_)
     clear hK K
     try simp only [pL]
     refine wpAnyH_ready (rs := [7]) (by kernel_rfl) (by simp) ?_
     refine AllReadyH.cons rfl (fun K hK => ?_) AllReadyH.nil
     have HB7 := Lib.hid hS
     first | (refine step_stR rfl 34 _ _ rfl 10 b13 0 ((y : AHard).cells (.slice Gs y.snap.length gs2) (.slice Gl y.log.length gl2)) rfl rfl str_hard _ [.int .i64 0, .int .i64 0, .int .i64 0, .int .i64 0, .int .i64 0, .int .i64 0, .int .i64 0, .int .i64 0, .slice none 0 0, .slice none 0 0] ((y : AHard).cells (.slice Gs y.snap.length gs2) (.slice Gl y.log.length gl2)) HB6.out rfl (by simp) (h_one _ _ _ _ _ _ _) rfl ?_) | (refine step_stR rfl 34 _ _ rfl 10 b13 0 ((y : AHard).cells (.slice Gs y.snap.length gs2) (.slice Gl y.log.length gl2)) rfl rfl str_hard _ [.int .i64 0, .int .i64 0, .int .i64 0, .int .i64 0, .int .i64 0, .int .i64 0, .int .i64 0, .int .i64 0, .slice none 0 0, .slice none 0 0] ((y : AHard).cells (.slice Gs y.snap.length gs2) (.slice Gl y.log.length gl2)) (hEb.blk HB6.out id) rfl (by simp) (h_one _ _ _ _ _ _ _) rfl ?_)
     intro w7 hb7 hm7 hs7
     refine hK.out _ _ ((HB7.out.trans hm7 (fun k hk e => by have h1 : wr.heap.size ≤ b13 := Nat.le_trans (by first | exact Nat.le_refl _ | exact hEb.size | exact (Nat.le_trans (Nat.le_of_eq rfl) hEb.size)) hl6; omega))) (fun hS => ?_)
     clear hK K
     try simp only [pL]
     refine wpAnyH_done (by kernel_rfl) ?_ _
     go_wp2_with fail
     go_meet
     have hT : ∀ k, (((Apart s d fv k ∧ k ≠ b11) ∧ k < wr.heap.size) ∨ wr.heap.size ≤ k) → Apart s d fv k ∧ k ≠ b11 := fun k hk => by
      rcases hk with e | e
      ·
       exact e.1
      ·
       exact ⟨HS.out.new e, by have := Hb11.out; omega⟩
     have h13 : wr.heap.size ≤ b13 := by first | exact hl6 | exact Nat.le_trans hEb.size hl6
     refine ⟨b13, _, _, rfl, hb7, ?_, by omega, hS⟩
     first
      | exact ((HMb.out.cap.mod hE6 (fun _ _ => id)).mod hm7 (fun k hk e => by have := hk.2; omega)).mono (fun k hk => hT k (by rcases hk.1 with e | e; exact .inl e; exact .inr e))
      | exact (HMb.out.mod hm7 (fun k hk e => by rcases hk with h | h; { have := h.2; omega }; { omega })).mono (fun k hk => hT k (by rcases hk with e | e; exact .inl e; exact .inr (by have := hE6.size; exact Nat.le_trans this e)))
    ·
     refine step_allocH rfl rfl ?_
     intro b13 w6 hb6 hE6 hl6 hg6
     have HB6 := Lib.hid hb6
     refine hK.out _ _ ((hS.ext hE6)) (fun hS => ?_)
     clear hK K
     try simp only [pL]
     refine wpAnyH_ready (rs := [5]) (by kernel_rfl) (by simp) ?_
     refine AllReadyH.cons rfl (fun K hK => ?_) AllReadyH.nil
     go_simp
     go_wp2_with fail
     refine (l_next _ (fun k => (Apart s d fv k ∧ k ≠ b11) ∧ k < wr.heap.size) g ah Ks _ ks Kl _ kl ad an ak asv alv Bl _ bl Cl _ cl al ab (HHc.out.mod hS (fun _ _ => id)) rfl rfl (HXc.out.2.2.2.2.1.mod hS (fun _ _ => id)) (HXc.out.2.2.2.2.2.1.mod hS (fun _ _ => id)) rfl (HXc.out.2.2.2.2.2.2.mod hS (fun _ _ => id)) rfl HP.out.hd.1 (by have := HP.out.lg; omega) (by have := Hhx.out; omega) (by have := Hhx.out; omega)).mono ?_
     rintro e wb ⟨sb, lb, rfl, hMb, hEb⟩
     rw [Hy.out] at hMb ⊢
     obtain ⟨Gs, gs2, Gl, gl2, rfl, rfl⟩ := hMb.forms
     have HMb := Lib.hid hMb
     clear hMb
     have hX := (hS.ext hEb)
     go_simp
     refine hK.out _ _ hX (fun hS => ?_)
     clear hK K hX
     try simp only [pL]
     refine wpAnyH_ready (rs := [7]) (by kernel_rfl) (by simp) ?_
     refine AllReadyH.cons rfl (fun K hK => ?_) AllReadyH.nil
     have HB7 := Lib.hid hS
     first | (refine step_stR rfl 34 _ _ rfl 10 b13 0 ((y : AHard).cells (.slice Gs y.snap.length gs2) (.slice Gl y.log.length gl2)) rfl rfl str_hard _ [.int .i64 0, .int .i64 0, .int .i64 0, .int .i64 0, .int .i64 0, .int .i64 0, .int .i64 0, .int .i64 0, .slice none 0 0, .slice none 0 0] ((y : AHard).cells (.slice Gs y.snap.length gs2) (.slice Gl y.log.length gl2)) HB6.out rfl (by simp) (h_one _ _ _ _ _ _ _) rfl ?_) | (refine step_stR rfl 34 _ _ rfl 10 b13 0 ((y : AHard).cells (.slice Gs y.snap.length gs2) (.slice Gl y.log.length gl2)) rfl rfl str_hard _ [.int .i64 0, .int .i64 0, .int .i64 0, .int .i64 0, .int .i64 0, .int .i64 0, .int .i64 0, .int .i64 0, .slice none 0 0, .slice none 0 0] ((y : AHard).cells (.slice Gs y.snap.length gs2) (.slice Gl y.log.length gl2)) (hEb.blk HB6.out id) rfl (by simp) (h_one _ _ _ _ _ _ _) rfl ?_)
     intro w7 hb7 hm7 hs7
     refine hK.out _ _ ((HB7.out.trans hm7 (fun k hk e => by have h1 : wr.heap.size ≤ b13 := Nat.le_trans (by first | exact Nat.le_refl _ | exact hEb.size | exact (Nat.le_trans (Nat.le_of_eq rfl) hEb.size)) hl6; omega))) (fun hS => ?_)
     clear hK K
     try simp only [pL]
     refine wpAnyH_done (by kernel_rfl) ?_ _
     go_wp2_with fail
     go_meet
     have hT : ∀ k, (((Apart s d fv k ∧ k ≠ b11) ∧ k < wr.heap.size) ∨ wr.heap.size ≤ k) → Apart s d fv k ∧ k ≠ b11 := fun k hk => by
      rcases hk with e | e
      ·
       exact e.1
      ·
       exact ⟨HS.out.new e, by have := Hb11.out; omega⟩
     have h13 : wr.heap.size ≤ b13 := by first | exact hl6 | exact Nat.le_trans hEb.size hl6
     refine ⟨b13, _, _, rfl, hb7, ?_, by omega, hS⟩
     first
      | exact ((HMb.out.cap.mod hE6 (fun _ _ => id)).mod hm7 (fun k hk e => by have := hk.2; omega)).mono (fun k hk => hT k (by rcases hk.1 with e | e; exact .inl e; exact .inr e))
      | exact (HMb.out.mod hm7 (fun k hk e => by rcases hk with h | h; { have := h.2; omega }; { omega })).mono (fun k hk => hT k (by rcases hk with e | e; exact .inl e; exact .inr (by have := hE6.size; exact Nat.le_trans this e)))
   obtain ⟨b13, sb, lb, rfl, hb13, hM13, hl13, hX13⟩ := hcut
   obtain ⟨Gs, gs2, Gl, gl2, rfl, rfl⟩ := hM13.forms
   have HSc := Lib.hid (HS.out.ext hX13)
   have HMc := Lib.hid (HM.out.ext hX13)
   have HFc := Lib.hid (hX13.blk HF.out id)
   have HKc := Lib.hid (hX13.blk HK.out id)
   have HGc := Lib.hid (HH.out.mod hX13 (fun _ _ => id))
   have HYc := Lib.hid hM13
   have HBc := Lib.hid hb13
   have hne : ¬ b13 = b11 := by have := Hb11.out; omega
   clear hb13 hM13 hl13 hX13 HHc HXc
   have hld := load_row (P := Tryz.prog) (o := 0) (cs := ((y : AHard).cells (.slice Gs y.snap.length gs2) (.slice Gl y.log.length gl2))) str_hard HBc.out rfl (fun j u hu => by rw [Nat.zero_add]; exact hu)
   go_wp2_with (refine wpList_ld rfl 34 _ rfl _ _ rfl hld ?_)
   clear hld
   refine (st_save wc _ _ s d g y As _ cs Al _ cl0 Gs _ gs2 Gl _ gl2 fv D HSc.out.st HSc.out.dk HSc.out.hm rfl rfl HYc.out rfl rfl (fun k hk => ⟨hk.1.1, hk.1.2.2⟩) (by have := Hsm.out.1; omega) (by have := HP.out.lg; omega) (by have := Hsm.out.2.1; omega)).mono ?_
   intro e wd hO
   obtain ⟨rfl, fve, gsd, gld, hSd, hKd⟩ := HSc.out.save hO
   have hsm := Hsm.out.2.2
   obtain ⟨D2, hD2⟩ : ∃ D2, (saveP D g y).1 = D2 := ⟨_, rfl⟩
   obtain ⟨g2, hg2⟩ : ∃ g2, (saveP D g y).2.1 = g2 := ⟨_, rfl⟩
   obtain ⟨cd, hcd⟩ : ∃ cd, (saveP D g y).2.2 = cd := ⟨_, rfl⟩
   rw [hD2, hg2] at hSd
   rw [hD2, hg2, hcd] at hsm
   rw [hcd]
   have HSd := Lib.hid hSd
   have HP2 : Hid (StP D2 g2 room (200 * (i + 1)) ∧ g2.term ≤ 2 * ((i + 1 : Nat) : Int)) := Lib.hid ⟨hsm.1, hsm.2.1⟩
   have hcase := hsm.2.2
   have HMd := Lib.hid (HMc.out.self hKd.md)
   have HFd := Lib.hid (hKd.bx _ _ _ _ (by decide) (by decide) (by decide) HFc.out)
   have HKd := Lib.hid (hKd.bx _ _ _ _ (by decide) (by decide) (by decide) HKc.out)
   have HBd := Lib.hid (hKd.bx _ _ _ _ (by decide) (by decide) (by decide) HBc.out)
   have HGd : Hid (HardM wd (fun k => Apart s d fve k ∧ k ≠ b11) _ _ g) := Lib.hid (hKd.hm _ _ _ _ HGc.out)
   have HYd : Hid (HardM wd (fun k => Apart s d fve k ∧ k ≠ b11) _ _ y) := Lib.hid (hKd.hm _ _ _ _ HYc.out)
   have Hb11d : Hid (N ≤ b11) := Hb11N
   clear hO hSd hKd hsm hD2 hg2 hcd Hsm
   go_upto_if 94 with fail
   go_cut [] from 95 to 101 (fun wx => ∃ hv2 hl2 : Value, StM wx N s d fve gsd gld D2 g2 ∧ Mod (fun k => N ≤ k) w wx ∧ wx.heap[b9]? = some (.cells ((beginH c : AHard).cells (.slice none 0 0) (.slice none 0 0)).toArray 34 (0, 0)) ∧ wx.heap[b11]? = some (.cells ((g2 : AHard).cells (hv2) (hl2)).toArray 34 (0, 0)) ∧ HardM wx (fun k => Apart s d fve k ∧ k ≠ b11) hv2 hl2 g2)
   case first =>
    rcases hcase with ⟨rfl, rfl⟩ | ⟨rfl, hcd⟩
    ·
     have hld := load_row (P := Tryz.prog) (o := 0) (cs := ((g2 : AHard).cells (.slice Gs g2.snap.length gs2) (.slice Gl g2.log.length gl2))) str_hard HBd.out rfl (fun j u hu => by rw [Nat.zero_add]; exact hu)
     go_wp2_with (first | (refine wpList_ld rfl 34 _ rfl _ _ rfl hld ?_) | (refine wpList_stR rfl 34 _ _ rfl 10 b11 0 ((g2 : AHard).cells (.slice Gs g2.snap.length gs2) (.slice Gl g2.log.length gl2)) rfl rfl str_hard _ _ ((g2 : AHard).cells (.slice Gs g2.snap.length gs2) (.slice Gl g2.log.length gl2)) HKd.out rfl (by simp) (h_one _ _ _ _ _ _ _) rfl ?_))
     intro we hbe hme hse
     have HSe := Lib.hid (StM.box HSd.out HKd.out hme (by decide) (by decide) (by decide) (by decide))
     have HMe := Lib.hid (HMd.out.trans hme (fun k _ e => by have := Hb11d.out; omega))
     have HFe := Lib.hid (hme.blk HFd.out (by have := Hb9n.out; omega))
     have HYe := Lib.hid (hard_box HYd.out hme (fun k hk => hk.2))
     have HKe := Lib.hid hbe
     clear hme hse hbe hld
     go_wp2_with fail
     go_meet
     exact ⟨_, _, HSe.out, HMe.out, HFe.out, HKe.out, HYe.out⟩
    ·
     have dc0 : (cd == 0) = false := by rcases hcd with rfl | rfl <;> rfl
     have hcd' := hcd
     rcases hcd with rfl | rfl
     all_goals
      go_wp2_with fail
      go_meet
      exact ⟨_, _, HSd.out, HMd.out, HFd.out, HKd.out, HGd.out⟩
   obtain ⟨hv2, hl2, hS2, hM2, hF2, hK2, hH2⟩ := hcut
   obtain ⟨Ms, ms, Ml, ml, rfl, rfl⟩ := hH2.forms
   obtain ⟨we, hwe⟩ : ∃ we, we = wc := ⟨_, rfl⟩
   rw [← hwe] at hS2 hM2 hF2 hK2 hH2 ⊢
   have HSe := Lib.hid hS2
   have HMe := Lib.hid hM2
   have HFe := Lib.hid hF2
   have HKe := Lib.hid hK2
   have HHe := Lib.hid hH2
   obtain ⟨nf, hnf⟩ : ∃ nf, D2.file.length = nf := ⟨_, rfl⟩
   have hle : (nf : Int) ≤ room := by
    have h1 := hS2.dk.2.2.2.2.2.1
    have h2 := HP2.out.1.rm
    omega
   have dle : decide (room < (nf : Int)) = false := decide_eq_false (by omega)
   have Hnf := Lib.hid hnf
   clear hS2 hM2 hF2 hK2 hH2 hwe hnf hle
   go_wp2_with fail
   refine wp_region_held_drew (S := fun W' => Ext we W') (by kernel_rfl) (Mod.refl _ we).drew (fun hS => ?_)
   refine tkH 0 (some 102) rfl rfl ?_ hS ?_ ?_; rotate_left; · rintro W' hW'; go_simp; try with_reducible rfl
   try simp only [pL]
   refine takeH (i := 2) (v := .agg ((g2 : AHard).cells (.slice Ms g2.snap.length ms) (.slice Ml g2.log.length ml)).toArray) (some 104) rfl rfl (by kernel_rfl) (by kernel_rfl) (by kernel_rfl) (fun _ _ _ h => h) (Or.inl ⟨by kernel_rfl, ?_⟩) hS ?_
   ·
    rintro W' hW'
    exact exec_ld _ _ rfl (.pointer (some ⟨b11, 0, none⟩)) _ rfl (load_row (P := Tryz.prog) (o := 0) (cs := ((g2 : AHard).cells (.slice Ms g2.snap.length ms) (.slice Ml g2.log.length ml))) str_hard (hW'.blk HKe.out id) rfl (fun j u hu => by rw [Nat.zero_add]; exact hu))
   try simp only [pL]
   refine wpAnyH_ready (rs := [1]) (by kernel_rfl) (by simp) ?_
   refine AllReadyH.cons rfl (fun K hK => ?_) AllReadyH.nil
   go_simp
   go_wp2_with fail
   refine (st_hard we.drew _ s d g2 _ _ HSe.out.st HSe.out.hm (by have := HP2.out.1.lg; omega) (by have := HP2.out.1.hd.1.s; omega)).mono ?_
   rintro e wf ⟨sf, lf, rfl, hNf, hEf⟩
   have HSf := Lib.hid (HSe.out.ext (Mod.ext (Mod.refl _ we).drew hEf))
   have HHf := Lib.hid (HHe.out.mod (S := fun _ => False) (Mod.ext (Mod.refl _ we).drew hEf) (fun _ _ => id))
   have HNf := Lib.hid hNf.mem
   clear hNf
   have hX := (hS.ext hEf)
   go_simp
   refine hK.out _ _ hX (fun hS => ?_)
   clear hK K hX
   try simp only [pL]
   refine wpAnyH_ready (rs := [3]) (by kernel_rfl) (by simp) ?_
   refine AllReadyH.cons rfl (fun K hK => ?_) AllReadyH.nil
   go_simp
   go_wp2_with fail
   refine (k_hard wf _ _ g2 g2 _ _ _ _ HNf.out HHf.out).mono ?_
   rintro e wg ⟨rfl, hEg⟩
   rw [eqHard_refl]
   have HSg := Lib.hid (HSf.out.ext hEg)
   have hX := (hS.ext hEg)
   go_simp
   refine hK.out _ _ hX (fun hS => ?_)
   clear hK K hX
   try simp only [pL]
   refine tkH 4 (some 106) rfl rfl ?_ hS ?_ ?_; rotate_left; · rintro W' hW'; go_simp; try with_reducible rfl
   try simp only [pL]
   refine tkH 5 (some 107) rfl rfl ?_ hS ?_ ?_; rotate_left; · rintro W' hW'; go_simp; try with_reducible rfl
   try simp only [pL]
   refine tkH 6 (some 108) rfl rfl ?_ hS ?_ ?_; rotate_left; · rintro W' hW'; go_simp; try with_reducible rfl
   try simp only [pL]
   refine tkH 8 (some 110) rfl rfl ?_ hS ?_ ?_; rotate_left; · rintro W' hW'; go_simp; try with_reducible rfl
   try simp only [pL]
   refine wpAnyH_ready (rs := [7]) (by kernel_rfl) (by simp) ?_
   refine AllReadyH.cons rfl (fun K hK => ?_) AllReadyH.nil
   go_simp
   go_wp2_with fail
   refine (d_size wg d fve D2 HSg.out.dk).mono ?_
   rintro e wh ⟨rfl, rfl⟩
   rw [Hnf.out]
   have hX := hS
   go_simp
   refine hK.out _ _ hX (fun hS => ?_)
   clear hK K hX
   try simp only [pL]
   refine tkH 9 (some 111) rfl rfl ?_ hS ?_ ?_; rotate_left; · rintro W' hW'; go_simp; try with_reducible rfl
   try simp only [pL]
   refine tkH 10 (some 112) rfl rfl ?_ hS ?_ ?_; rotate_left; · rintro W' hW'; go_simp; try with_reducible rfl
   try simp only [pL]
   refine wpAnyH_done (by kernel_rfl) ?_ _
   go_wp2_with fail
   go_roundw
   case rel => exact ⟨i + 1, fve, _, _, _, _, D2, g2, by omega, by omega, by go_num, HSg.out, HP2.out.1, HP2.out.2, HMe.out.ext hS, hS.blk HFe.out id, hS.blk HKe.out id, HHe.out.mod hS (fun _ _ => id)⟩
   case measure => simp [intOf]; omega
 obtain ⟨fv, gs, gl, hv, hl, D, g, hS, hP, hM, hF, hK, hH⟩ := hcut
 clear HS6 HP6 HM6 HF6 HS7 HM7 HF7 HK7
 obtain ⟨Qs, qs, Ql, ql, rfl, rfl⟩ := hH.forms
 have HSwc := Lib.hid hS
 have HP := Lib.hid hP
 have HMwc := Lib.hid hM
 have HFwc := Lib.hid hF
 have HGwc := Lib.hid hK
 have HHwc : Hid (HardM wc (Apart s d fv) _ _ g) := Lib.hid (hH.mono (fun k h => h.1))
 clear hS hP hM hF hK hH
 go_wp2_with fail
 refine (d_crash wc d fv D HSwc.out.dk 0 (by omega)).mono ?_
 rintro e wd ⟨rfl, hM⟩
 obtain ⟨fvd, hS, hK⟩ := HSwc.out.dm hM
 have HSwd := Lib.hid hS
 have HMwd := Lib.hid (HMwc.out.self hK.md)
 have HHwd := Lib.hid (hK.hm1 HHwc.out)
 have HGwd := Lib.hid (hK.bx _ _ _ _ (by decide) (by decide) (by decide) HGwc.out)
 have HFwd := Lib.hid (hK.bx _ _ _ _ (by decide) (by decide) (by decide) HFwc.out)
 clear hS hK hM
 go_wp2_with fail
 refine (d_start wd d fvd _ HSwd.out.dk).mono ?_
 rintro e we ⟨rfl, hD, hM⟩
 obtain ⟨fve, hS, hK⟩ := HSwd.out.dm (DM.of hD hM)
 have HSwe := Lib.hid hS
 have HMwe := Lib.hid (HMwd.out.self hK.md)
 have HHwe := Lib.hid (hK.hm1 HHwd.out)
 have HGwe := Lib.hid (hK.bx _ _ _ _ (by decide) (by decide) (by decide) HGwd.out)
 have HFwe := Lib.hid (hK.bx _ _ _ _ (by decide) (by decide) (by decide) HFwd.out)
 clear hS hK hD hM
 have hag := StP.again HP.out HSwc.out.dk.2.2 ((checkH_iff _).2 (begin_held Hc.out Hco.out).1) 0
 have Hag := Lib.hid hag
 clear hag
 have hld := load_row (P := Tryz.prog) (o := 0) (cs := ((beginH c : AHard).cells (.slice none 0 0) (.slice none 0 0))) str_hard HFwe.out rfl (fun j u hu => by rw [Nat.zero_add]; exact hu)
 go_wp2_with (refine wpList_ld rfl 34 _ rfl _ _ rfl hld ?_)
 clear hld
 refine (st_open we (fun _ => False) d (beginH c) (.slice none 0 0) (.slice none 0 0) fve _ HSwe.out.dk (begin_mem _ _ _) (by simp [beginH])).mono ?_
 intro e wf hO
 rw [Hag.out] at hO
 obtain ⟨s2, fvf, gsf, glf, rfl, hS, hKf⟩ := hO.yes (N := N) HSwe.out.dk rfl HSwe.out.nd HSwe.out.nf
 have HSwf : Hid (StM wf N s2 d fvf gsf glf D g) := Lib.hid hS
 have HMwf := Lib.hid (HMwe.out.self (hKf s).md)
 have HHwf := Lib.hid ((hKf s).hm1 HHwe.out)
 have HGwf := Lib.hid ((hKf s).bx _ _ _ _ (by decide) (by decide) (by decide) HGwe.out)
 clear hO hS hKf
 go_wp2_with fail
 refine wp_region_held_drew (S := fun W' => Ext wf W') (by kernel_rfl) (Mod.refl _ wf).drew (fun hS => ?_)
 refine tkH 0 (some 123) rfl rfl ?_ hS ?_ ?_; rotate_left; · rintro W' hW'; go_simp; try with_reducible rfl
 try simp only [pL]
 refine tkH 1 (some 124) rfl rfl ?_ hS ?_ ?_; rotate_left; · rintro W' hW'; go_simp; try with_reducible rfl
 try simp only [pL]
 refine tkH 2 (some 125) rfl rfl ?_ hS ?_ ?_; rotate_left; · rintro W' hW'; go_simp; try with_reducible rfl
 try simp only [pL]
 refine tkH 3 (some 126) rfl rfl ?_ hS ?_ ?_; rotate_left; · rintro W' hW'; go_simp; try with_reducible rfl
 try simp only [pL]
 refine tkH 4 (some 127) rfl rfl ?_ hS ?_ ?_; rotate_left; · rintro W' hW'; go_simp; try with_reducible rfl
 try simp only [pL]
 refine tkH 5 (some 128) rfl rfl ?_ hS ?_ ?_; rotate_left; · rintro W' hW'; go_simp; try with_reducible rfl
 try simp only [pL]
 refine tkH 6 (some 129) rfl rfl ?_ hS ?_ ?_; rotate_left; · rintro W' hW'; go_simp; try with_reducible rfl
 try simp only [pL]
 refine tkH 7 (some 130) rfl rfl ?_ hS ?_ ?_; rotate_left; · rintro W' hW'; go_simp; try with_reducible rfl
 try simp only [pL]
 refine takeH (i := 9) (v := .agg ((g : AHard).cells (.slice Qs g.snap.length qs) (.slice Ql g.log.length ql)).toArray) (some 132) rfl rfl (by kernel_rfl) (by kernel_rfl) (by kernel_rfl) (fun _ _ _ h => h) (Or.inl ⟨by kernel_rfl, ?_⟩) hS ?_
 ·
  rintro W' hW'
  exact exec_ld _ _ rfl (.pointer (some ⟨b11, 0, none⟩)) _ rfl (load_row (P := Tryz.prog) (o := 0) (cs := ((g : AHard).cells (.slice Qs g.snap.length qs) (.slice Ql g.log.length ql))) str_hard (hW'.blk HGwf.out id) rfl (fun j u hu => by rw [Nat.zero_add]; exact hu))
 try simp only [pL]
 refine wpAnyH_ready (rs := [8]) (by kernel_rfl) (by simp) ?_
 refine AllReadyH.cons rfl (fun K hK => ?_) AllReadyH.nil
 go_simp
 go_wp2_with fail
 refine (st_hard wf.drew _ s2 d g _ _ HSwf.out.st HSwf.out.hm (by have := HP.out.lg; omega) (by have := HP.out.hd.1.s; omega)).mono ?_
 rintro e wg ⟨sv2, lv2, rfl, hN2, hE2⟩
 have HSg := Lib.hid (HSwf.out.ext (Mod.ext (Mod.refl _ wf).drew hE2))
 have HHg := Lib.hid (HHwf.out.mod (S := fun _ => False) (Mod.ext (Mod.refl _ wf).drew hE2) (fun _ _ => id))
 have HN2 := Lib.hid hN2.mem
 clear hN2
 have hX := (hS.ext hE2)
 go_simp
 refine hK.out _ _ hX (fun hS => ?_)
 clear hK K hX
 try simp only [pL]
 refine wpAnyH_ready (rs := [10]) (by kernel_rfl) (by simp) ?_
 refine AllReadyH.cons rfl (fun K hK => ?_) AllReadyH.nil
 go_simp
 go_wp2_with fail
 refine (k_hard wg _ _ g g _ _ _ _ HN2.out HHg.out).mono ?_
 rintro e wh ⟨rfl, hE3⟩
 rw [eqHard_refl]
 have HSh := Lib.hid (HSg.out.ext hE3)
 have hX := (hS.ext hE3)
 go_simp
 refine hK.out _ _ hX (fun hS => ?_)
 clear hK K hX
 try simp only [pL]
 refine tkH 11 (some 134) rfl rfl ?_ hS ?_ ?_; rotate_left; · rintro W' hW'; go_simp; try with_reducible rfl
 try simp only [pL]
 refine tkH 12 (some 135) rfl rfl ?_ hS ?_ ?_; rotate_left; · rintro W' hW'; go_simp; try with_reducible rfl
 try simp only [pL]
 refine wpAnyH_ready (rs := [13]) (by kernel_rfl) (by simp) ?_
 refine AllReadyH.cons rfl (fun K hK => ?_) AllReadyH.nil
 go_simp
 go_wp2_with fail
 refine (l_wakes11 wh).mono ?_
 rintro e wi ⟨rfl, hE4⟩
 have hX := (hS.ext hE4)
 go_simp
 refine hK.out _ _ hX (fun hS => ?_)
 clear hK K hX
 try simp only [pL]
 refine tkH 14 (some 137) rfl rfl ?_ hS ?_ ?_; rotate_left; · rintro W' hW'; go_simp; try with_reducible rfl
 try simp only [pL]
 refine tkH 15 (some 6) rfl rfl ?_ hS ?_ ?_; rotate_left; · rintro W' hW'; go_simp; try with_reducible rfl
 try simp only [pL]
 refine wpAnyH_done (by kernel_rfl) ?_ _
 go_wp2_with fail
 go_ret
 exact ⟨rfl, Mod.below (HMwf.out.ext hS) (by have := HN.out; omega) (fun k hk => by have := HN.out; omega)⟩
end Go.Proofs.YtjhnlncgmejkcaaGreat
