/-
 The walk of StableExact (printed by stbexact.py). Conditions: as each theorem names them.
-/
import Derived.Test.YtjhnlncgmejkcaaGreatTakeI
import Derived.Test.YtjhnlncgmejkcaaGreatStbRj
import Derived.Test.YtjhnlncgmejkcaaGreatR3
import Derived.Test.YtjhnlncgmejkcaaGreatS26
set_option maxRecDepth 100000
set_option maxHeartbeats 4000000
namespace Go.Proofs.YtjhnlncgmejkcaaGreat
set_option linter.unusedSimpArgs false
open Go.RowKit
theorem zhL {D : zJ} {b : List UInt8} (h : D.off = false) (ht : D.trip = 0) : (D.replace b).1.off = false := by
 have hc : D.count = (D, false) := by unfold zJ.count; rw [if_pos ht]
 unfold zJ.replace
 split
 · exact h
 split
 · exact h
 rw [hc]
 exact h
theorem open_on {D : zJ} {fi : zC} (h : D.off = false) (ht : D.trip = 0) : (yW D fi).1.off = false := by
 unfold yW
 split
 · exact h
 split
 · exact h
 split
 ·
  show (xG D fi).1.off = false
  unfold xG
  split
  · exact h
  exact zhL h ht
 split
 · exact h
 split
 · exact zhL h ht
 exact h
def Good (D : zJ) (o : Option zC) : Prop := D.off = false ∧ ∀ g, o = some g → Few D.file g ∧ Right g
theorem zjY {D : zJ} {fi : zC} (hf : fi.log.length ≤ 200) (h : D.off = false) (ht : D.trip = 0) : Good (yW D fi).1 (yW D fi).2.1 := ⟨open_on h ht, fun _ hg => ⟨(zbS hf hg).1, (zbS hf hg).2.1⟩⟩
theorem znO (D : zJ) (k : Int) : (D.crash k).start.trip = 0 := by
 unfold zJ.start zJ.crash
 split <;> rfl
theorem zqX {fi g : zC} {D : zJ} {x : AAct} (hf : Few D.file g) (hg : zeQ g) (hfi : fi.log.length ≤ 200) (hn : ∀ y ∈ (zcA g x).log, y.ok) (hl : (zcA g x).log.length ≤ 1000000) (ho : (zcW fi D g x).1.off = false) : Good (zcW fi D g x).1 (zcW fi D g x).2 := by
 refine ⟨ho, fun g' hg' => ?_⟩
 unfold zcW at ho hg' ⊢
 split at hg'
 ·
  rename_i h
  rw [if_pos h]
  cases hg'
  refine ⟨?_, hg.1⟩
  have : (D.arm x.n x.keep).file = D.file := by unfold zJ.arm; split <;> rfl
  show Few (D.arm x.n x.keep).file g
  rw [this]
  exact hf
 rename_i h5
 rw [if_neg h5] at ho ⊢
 split at hg'
 ·
  rename_i h
  rw [if_pos h]
  exact ⟨(zbS hfi hg').1, (zbS hfi hg').2.1⟩
 rename_i h6
 rw [if_neg h6] at ho ⊢
 split at hg'
 ·
  rename_i h
  rw [if_pos h]
  exact ⟨(zbS hfi hg').1, (zbS hfi hg').2.1⟩
 rename_i h7
 rw [if_neg h7] at ho ⊢
 split at hg'
 ·
  rename_i h
  rw [if_pos h]
  exact ⟨(zbS hfi hg').1, (zbS hfi hg').2.1⟩
 rename_i h8
 rw [if_neg h8] at ho ⊢
 cases hg'
 exact save_few hf hg hn hl ho
theorem zqY {w : World} {d : Nat} {fv : Value} {D : zJ} (h : Dsk w d fv D) : D.file.length ≤ 65536 := zmG h
theorem Pr.drew {w : World} {N s d r q : Nat} {fv gs gl fq qs ql : Value} {D E : zJ} {g g2 : zC} {P : Nat → Prop} (h : Pr w N P s d fv gs gl D g r q fq qs ql E g2) : Pr w.drew N P s d fv gs gl D g r q fq qs ql E g2 := h.ext (Mod.refl (fun _ => False) w).drew
theorem zeF.drew {w : World} {N x d q : Nat} {fi : zC} {fs fl : Value} {D : zJ} {o : Option zC} (h : zeF w N x d q fi fs fl D o) : zeF w.drew N x d q fi fs fl D o := by
 cases o with
 | none =>
  obtain ⟨fv, fq, h1, h2⟩ := h
  exact ⟨fv, fq, h1.ext (Mod.refl (fun _ => False) w).drew, h2⟩
 | some g =>
  obtain ⟨s, fv, gs, gl, r, fq, qs, ql, h1, h2⟩ := h
  exact ⟨s, fv, gs, gl, r, fq, qs, ql, h1.drew, h2⟩
theorem stableExact_a (w : World) (room : Int) (fi : zC) (fs fl : Value) (A : Option Addr) (n cp : Nat) (l : List zbA) (hfi : zY w (fun g => g < w.heap.size) fs fl fi) (hL : Acts w (fun g => g < w.heap.size) (.slice A n cp) l) (hn : l.length = n) :
  Calls Tryz.prog 5 #[.int .i64 room, .agg #[.int .i64 fi.term, .int .i64 fi.vote, .int .i64 fi.base, .int .i64 fi.baseTerm, .int .i64 fi.conf.full, .int .i64 fi.conf.wit, .int .i64 fi.conf.learn, .int .i64 fi.conf.learnWit, fs, fl], .slice A n cp] w fun e w' => e = .returned (.bool true) ∧ Below w.heap.size w w' := by
 obtain ⟨N, hN⟩ : ∃ N, w.heap.size = N := ⟨_, rfl⟩
 obtain ⟨W, hW⟩ : ∃ W, w.alloc (.cells (fi.cells fs fl).toArray 34) = W := ⟨_, rfl⟩
 have hA : W.heap[N]? = some (.cells (fi.cells fs fl).toArray 34 (0, 0)) := by rw [← hW, ← hN]; exact heap_alloc_new w _
 have hE : Ext w W := by rw [← hW]; exact (Mod.refl _ w).alloc _
 have hnl := hL.1.le
 rw [hn] at hnl
 unfold maxLen at hnl
 rw [hN] at hL hfi
 have HN := hJ hN
 have HW := hJ hW
 have HA0 := hJ hA
 have HX0 := hJ hE
 have HL := hJ hL
 have Hfm := hJ hfi
 have Hn := hJ hn
 clear hN hW hA hE hL hn hfi
 go_enter Tryz.func5, Tryz.ntmps5
 go_wp2_with fail
 rw [HW.out, HN.out]
 refine (hv_acts W _ _ l (HL.out.mod HX0.out (fun _ _ => id))).mono ?_
 rintro e w1 ⟨rfl, hE⟩
 have HA1 := hJ (hE.blk HA0.out id)
 have HX1 := hJ (HX0.out.ext hE)
 clear hE
 rcases hh : xL l with _ | _
 rotate_left
 ·
  go_wp2
  go_ret
  exact ⟨rfl, Mod.below HX1.out (by have := HN.out; omega) (fun _ _ => id)⟩
 have Hh := hJ hh
 clear hh
 have hld := zF (P := Tryz.prog) (o := 0) (cs := fi.cells fs fl) zA HA1.out rfl (fun j u hu => by rw [Nat.zero_add]; exact hu)
 go_wp2_with (refine xO (by kernel_rfl) 34 _ rfl (.pointer (some ⟨N, 0, none⟩)) _ rfl hld ?_)
 clear hld
 refine (zpL w1 _ fi _ _ (Hfm.out.mod HX1.out (fun _ _ => id))).mono ?_
 rintro e w2 ⟨rfl, hE⟩
 have HA2 := hJ (hE.blk HA1.out id)
 have HX2 := hJ (HX1.out.ext hE)
 clear hE
 rcases hhf : jL fi with _ | _
 rotate_left
 ·
  go_wp2
  go_ret
  exact ⟨rfl, Mod.below HX2.out (by have := HN.out; omega) (fun _ _ => id)⟩
 have Hfi : Hid (fi.log.length ≤ 200) := hJ (zhG hhf).1
 clear hhf
 by_cases hr0 : room < 0
 ·
  go_wp2
  go_ret
  exact ⟨rfl, Mod.below HX2.out (by have := HN.out; omega) (fun _ _ => id)⟩
 by_cases hr1 : 65536 < room
 ·
  go_wp2
  go_ret
  exact ⟨rfl, Mod.below HX2.out (by have := HN.out; omega) (fun _ _ => id)⟩
 go_wp2_with fail
 refine (d_new room (by omega) (by omega) w2).mono ?_
 rintro e w3 ⟨rfl, hD, hE⟩
 obtain ⟨d, hd⟩ : ∃ d, w2.heap.size = d := ⟨_, rfl⟩
 rw [hd] at hD ⊢
 have HX3 := hJ (HX2.out.ext hE)
 have HA3 := hJ (hE.blk HA2.out id)
 have HNd : Hid (N ≤ d) := hJ (by have := HX2.out.size; have := HN.out; omega)
 have HD3 := hJ hD
 clear hd hD hE
 obtain ⟨w4, hw4⟩ : ∃ w4, w3.alloc (.cells #[.int .i64 room, .slice none 0 0, .int .i64 0, .bool false, .int .i64 0, .int .i64 0] 67) = w4 := ⟨_, rfl⟩
 obtain ⟨q, hq⟩ : ∃ q, w3.heap.size = q := ⟨_, rfl⟩
 have hE4 : Ext w3 w4 := by rw [← hw4]; exact (Mod.refl _ w3).alloc _
 have hQ : Qsk w4 q (.slice none 0 0) (zJ.new room) := ⟨by rw [← hw4, ← hq]; exact heap_alloc_new w3 _, World.ownsRow_nil _ _ _ _, ⟨by show (0 : Int) ≤ room; omega, by show room ≤ 65536; omega, Nat.le_refl _, by show ((0 : Nat) : Int) ≤ room; omega, by show (0 : Nat) < _; omega, by show (-9223372036854775808 : Int) ≤ 0; omega, by show (0 : Int) ≤ _; omega⟩⟩
 have hs4 : w4.heap.size = q + 1 := by rw [← hw4, ← hq]; simp
 obtain ⟨w5, hw5⟩ : ∃ w5, w4.alloc (.cells #[.pointer none, .pointer (some ⟨d, 0, none⟩), .pointer none, .pointer (some ⟨q, 0, none⟩), .int .i64 fi.term, .int .i64 fi.vote, .int .i64 fi.base, .int .i64 fi.baseTerm, .int .i64 fi.conf.full, .int .i64 fi.conf.wit, .int .i64 fi.conf.learn, .int .i64 fi.conf.learnWit, fs, fl] 70) = w5 := ⟨_, rfl⟩
 have hE5 : Ext w4 w5 := by rw [← hw5]; exact (Mod.refl _ w4).alloc _
 obtain ⟨x, hxe⟩ : ∃ x, q + 1 = x := ⟨_, rfl⟩
 have hB5 : PB w5 x d q (.pointer none) (.pointer none) fi fs fl := by unfold PB; rw [← hw5, ← hxe, ← hs4]; exact heap_alloc_new w4 _
 have hNq : N ≤ q := by have := HX3.out.size; have := HN.out; omega
 have hx : N ≤ x := by omega
 have hD5 : Dk2 w5 N d (.slice none 0 0) (zJ.new room) q (.slice none 0 0) (zJ.new room) := ⟨(HD3.out.ext hE4).ext hE5, hQ.ext hE5, ⟨HNd.out, by simp [Value.ownBlock]⟩, ⟨hNq, by simp [Value.ownBlock]⟩, by simp [Value.ownBlock]⟩
 have hld := zF (P := Tryz.prog) (o := 0) (cs := fi.cells fs fl) zA (hE4.blk HA3.out id) rfl (fun j u hu => by rw [Nat.zero_add]; exact hu)
 have hM5 : Mod (fun k => N ≤ k) w w5 := Ext.mod ((HX3.out.ext hE4).ext hE5) _
 have hF5 : FiM w N fi fs fl := ⟨Hfm.out, by have := Hfi.out; omega⟩
 have h0 : N ≤ w.heap.size := by have := HN.out; omega
 have HD5 := hJ hD5
 have HB5 := hJ hB5
 have HM5 := hJ hM5
 have HF := hJ hF5
 have Hw4 := hJ hw4
 have Hw5 := hJ hw5
 have Hq := hJ hq
 have Hs4 := hJ hs4
 have Hxe := hJ hxe
 clear hw4 hq hE4 hQ hs4 hw5 hE5 hxe hB5 hNq hD5 hM5 hF5
 go_upto_region 7 with (rw [Hw4.out, Hq.out]; refine zG rfl 34 _ rfl (.pointer (some ⟨N, 0, none⟩)) _ rfl hld ?_)
 clear hld
 rw [Hw5.out, Hs4.out, Hxe.out]
 go_wp2_with fail
 refine (ziK w5 N x d q fi fs fl _ ⟨_, _, _, _, HD5.out, HB5.out⟩ (HF.out.mod HM5.out) hx (Nat.le_trans h0 HM5.out.size)).mono ?_
 rintro e w6 ⟨rfl, hS6, hM6, _⟩
 have HS6 := hJ hS6
 have HM6 := hJ (HM5.out.self hM6)
 have HG6 := hJ (zjY (D := zJ.new room) Hfi.out rfl rfl)
 clear hS6 hM6 HD5 HB5
 go_upto_block 0 with fail
 go_cut [10, 11, 12, 13] from 45 to 158 (fun _ _ _ _ wx => Mod (fun k => N ≤ k) w wx)
 case first =>
  go_wp2_with fail
  go_loopw [10] (fun iv wr => ∃ (i : Nat) (D : zJ) (o : Option zC), i ≤ n ∧ i ≤ 40 ∧ iv = .int .i64 i ∧ zeF wr N x d q fi fs fl D o ∧ Good D o ∧ Mod (fun k => N ≤ k) w wr) (fun iv _ => n - (intOf iv).toNat)
  case atStart => exact ⟨0, _, _, by omega, by omega, rfl, HS6.out, HG6.out, HM6.out⟩
  clear HS6 HM6 HG6
  obtain ⟨i, D, o, hin, hi40, rfl, hS, hG, hM⟩ := hrel
  have HM := hJ hM
  have HG := hJ hG
  clear hM hG
  have hi0 : (0 : Int) ≤ (i : Int) := by omega
  by_cases hi : i < n
  rotate_left
  ·
   clear hS
   go_wp2_with fail
   go_meet
   exact HM.out
  by_cases hj : i < 40
  rotate_left
  ·
   clear hS
   go_wp2_with fail
   go_meet
   exact HM.out
  have hi1 : (i : Int) < (n : Int) := by omega
  have hj1 : (i : Int) < 40 := by omega
  cases o with
  | none =>
   obtain ⟨fv, fq, hD, hB⟩ := hS
   obtain ⟨c0, c1, c2, c3⟩ := hB.c
   clear hD hB
   go_wp2_with fail
   go_meet
   exact HM.out
  | some g =>
   have HS : Hid (zeF wr N x d q fi fs fl D (some g)) := hJ hS
   obtain ⟨s, fv, gs, gl, r, fq, qs, ql, hPr, hB⟩ := hS
   obtain ⟨c0, c1, c2, c3⟩ := hB.c
   have hfl := zqY hPr.dk.a
   have hgg := HG.out.2 g rfl
   have hgl : g.log.length ≤ 12400 := by have h1 := hgg.1; unfold Few at h1; omega
   have Hg : Hid (zeQ g) := hJ ⟨hgg.2, hPr.hs.2.2, zb9 hgg.2.c, by omega⟩
   have HB := hJ hB
   obtain ⟨gb, ob, xa, rfl, hgT, hxa, hxok, hcx⟩ := (HL.out.mod HM.out (fun g hg => by omega)).at hi
   have hgN : ¬ N ≤ gb := by omega
   have hhx := zqE Hh.out hj hxa
   obtain ⟨⟨ad, an, ak, ah, al, ab⟩, asv, alv, aev, abv⟩ := xa
   obtain ⟨Bl, bl, hev⟩ := hxok.2.2.2.2.2.1.1.form
   obtain ⟨Cl, cl, hbv⟩ := hxok.2.2.2.2.2.2.form
   simp only at hev hbv hhx
   subst hev hbv
   have x2 := hcx 2 _ rfl
   have hst : ∃ D2 o2, zcW fi D g ⟨ad, an, ak, ah, al, ab⟩ = (D2, o2) := ⟨_, _, rfl⟩
   obtain ⟨D2, o2, hst⟩ := hst
   have hgs := zqX (fi := fi) (D := D) (g := g) (x := ⟨ad, an, ak, ah, al, ab⟩) hgg.1 Hg.out Hfi.out (fun y hy => (next_fit (zeQ.fit Hg.out) (zbA.ok.fit hxok).1 (zbA.ok.fit hxok).2).1 y hy) (by have h1 := (zmM g ⟨ad, an, ak, ah, al, ab⟩).1; simp only at h1; omega)
   rw [hst] at hgs
   have Hst := hJ hst
   have Hgs := hJ hgs
   have Hhx := hJ hhx
   clear hst hgs hPr hB hgg hhx hxa
   go_upto_region 12 with fail
   go_cut [83] (fun s83 wx => s83 = .bool false ∧ zeF wx N x d q fi fs fl D2 o2 ∧ Mod (fun k => N ≤ k) wr wx)
   case first =>
    refine wp_region_held_drew (S := fun W' => Mod (fun k => N ≤ k) wr W' ∧ (∃ v0 v2, PB W' x d q v0 v2 fi fs fl)) (by kernel_rfl) ⟨(Mod.refl _ wr).drew, ⟨_, _, HB.out⟩⟩ (fun hS => ?_)
    iterate 4
     first | refine tkI 0 (some 62) rfl rfl ?_ hS ?_ ?_ | refine tkI 1 (some 63) rfl rfl ?_ hS ?_ ?_ | refine tkI 2 (some 64) rfl rfl ?_ hS ?_ ?_ | refine tkI 3 (some 65) rfl rfl ?_ hS ?_ ?_
     rotate_left
     · rintro W' hW'
       obtain ⟨hMW, v0', v2', hB'⟩ := hW'
       obtain ⟨y0, y1, y2, y3⟩ := hB'.c
       go_simp
       try rfl
     try simp only [pL]
    refine tkH 4 (some 66) rfl rfl (.agg (zbA.cells ⟨⟨ad, an, ak, ah, al, ab⟩, asv, alv, .slice Bl al.length bl, .slice Cl ab.length cl⟩).toArray) hS ?_ ?_
    · rintro W' hW'
      obtain ⟨hMW, v0', v2', hB'⟩ := hW'
      obtain ⟨y0, y1, y2, y3⟩ := hB'.c
      exact yD _ _ rfl (.pointer (some ⟨gb, ob + i * 15, none⟩)) _ rfl (jE zqF rfl (fun j u hu => hMW.cell (hcx j u hu) hgN))
    try simp only [pL]
    refine xJ 5 rfl (fun K hK => ?_)
    go_simp
    go_wp2_with fail
    refine (l_pstep wr.drew N x d q fi fs fl D g ah ad an ak asv alv Bl _ bl Cl _ cl al ab (HS.out.drew) ((HF.out.mod HM.out).mod (Mod.refl _ wr).drew) hx (Nat.le_trans h0 HM.out.size) (hxok.2.2.2.2.1.mod (Mod.refl (fun _ => False) wr).drew (fun _ _ => id)) (hxok.2.2.2.2.2.1.mod (Mod.refl (fun _ => False) wr).drew (fun _ _ => id)) rfl (hxok.2.2.2.2.2.2.mod (Mod.refl (fun _ => False) wr).drew (fun _ _ => id)) rfl ⟨hxok.2.1, hxok.2.2.1⟩ Hg.out hgl Hhx.out).mono ?_
    rintro e w2 ⟨rfl, hS2, hM2⟩
    rw [Hst.out] at hS2
    have HS2 := hJ hS2
    obtain ⟨f2, k2, va2, vb2, hD2, hB2⟩ := hS2.d
    have HD2 := hJ hD2
    have HB2 : Hid (∃ v0 v2, PB w2 x d q v0 v2 fi fs fl) := hJ ⟨_, _, hB2⟩
    have HM2 := hJ (hS.1.self hM2)
    have q3 : w2.cell? ⟨q, 3, none⟩ = some (.bool D2.off) := hD2.b.cells.2.2.2.1
    clear hS2 hM2 hD2 hB2
    have hX := And.intro HM2.out HB2.out
    go_simp
    refine hK.out _ _ hX (fun hS => ?_)
    clear hK K hX
    try simp only [pL]
    iterate 12
     first | refine tkI 6 (some 68) rfl rfl ?_ hS ?_ ?_ | refine tkI 7 (some 69) rfl rfl ?_ hS ?_ ?_ | refine tkI 8 (some 70) rfl rfl ?_ hS ?_ ?_ | refine tkI 9 (some 71) rfl rfl ?_ hS ?_ ?_ | refine tkI 10 (some 72) rfl rfl ?_ hS ?_ ?_ | refine tkI 11 (some 73) rfl rfl ?_ hS ?_ ?_ | refine tkI 13 (some 75) rfl rfl ?_ hS ?_ ?_ | refine tkI 14 (some 76) rfl rfl ?_ hS ?_ ?_ | refine tkI 15 (some 77) rfl rfl ?_ hS ?_ ?_ | refine tkI 16 (some 78) rfl rfl ?_ hS ?_ ?_ | refine tkI 17 (some 79) rfl rfl ?_ hS ?_ ?_ | refine tkI 18 (some 80) rfl rfl ?_ hS ?_ ?_
     rotate_left
     · rintro W' hW'
       obtain ⟨hMW, v0', v2', hB'⟩ := hW'
       obtain ⟨y0, y1, y2, y3⟩ := hB'.c
       go_simp
       try rfl
     try simp only [pL]
    refine rdy2 12 19 rfl rfl (fun K hK => ?_) (fun K hK => ?_)
    focus
     go_simp
     go_wp2_with fail
     refine (d_off w2 d f2 D2 HD2.out.a).mono ?_
     rintro e w3 ⟨rfl, rfl⟩
     have hX := hS
     go_simp
     refine hK.out _ _ hX (fun hS => ?_)
     clear hK K hX
     try simp only [pL]
     refine xJ 19 rfl (fun K hK => ?_)
     go_simp
     refine hK.out _ _ (hS) (fun hS => ?_)
     clear hK K
    rotate_left
    focus
     go_simp
     refine hK.out _ _ (hS) (fun hS => ?_)
     clear hK K
     try simp only [pL]
     refine xJ 12 rfl (fun K hK => ?_)
     go_simp
     go_wp2_with fail
     refine (d_off w2 d f2 D2 HD2.out.a).mono ?_
     rintro e w3 ⟨rfl, rfl⟩
     have hX := hS
     go_simp
     refine hK.out _ _ hX (fun hS => ?_)
     clear hK K hX
    all_goals
     try simp only [pL]
     iterate 2
      first | refine tkI 20 (some 82) rfl rfl ?_ hS ?_ ?_ | refine tkI 21 (some 83) rfl rfl ?_ hS ?_ ?_
      rotate_left
      · rintro W' hW'
        obtain ⟨hMW, v0', v2', hB'⟩ := hW'
        obtain ⟨y0, y1, y2, y3⟩ := hB'.c
        go_simp
        try rfl
      try simp only [pL]
     refine wpAnyH_done (by kernel_rfl) ?_ _
     go_wp2_with fail
     go_meet
     exact ⟨rfl, HS2.out, HM2.out⟩
   obtain ⟨rfl, hS2, hM2⟩ := hcut
   obtain ⟨w2, hw2⟩ : ∃ w2, wc = w2 := ⟨_, rfl⟩
   rw [hw2] at hS2 hM2 ⊢
   have x2w := hM2.cell x2 hgN
   have HS2 := hJ hS2
   have HM2 := hJ (HM.out.self hM2)
   obtain ⟨f2, k2, va2, vb2, hD2, hB2⟩ := hS2.d
   have q3 : w2.cell? ⟨q, 3, none⟩ = some (.bool D2.off) := hD2.b.cells.2.2.2.1
   obtain ⟨y0, y1, y2, y3⟩ := hB2.c
   clear hw2 hS2 hM2 hD2 hB2 HS HB Hg c0 c1 c2 c3 hcx
   go_upto_region 14 with fail
   go_cut [100] (fun s100 wx => s100 = .bool false ∧ ∃ D3 o3, zeF wx N x d q fi fs fl D3 o3 ∧ Good D3 o3 ∧ Mod (fun k => N ≤ k) w2 wx)
   case first =>
    rcases hoff : D2.off with _ | _
    ·
     rw [hoff] at q3
     have HG2 := hJ (Hgs.out hoff)
     clear hoff
     go_wp2_with fail
     go_meet
     exact ⟨rfl, D2, o2, HS2.out, HG2.out, Mod.refl _ w2⟩
    rw [hoff] at q3
    clear hoff
    go_wp2_with fail
    refine (zmP w2 N x d q fi fs fl D2 ak HS2.out.d (HF.out.mod HM2.out) hx (Nat.le_trans h0 HM2.out.size) hxok.2.2.1).mono ?_
    rintro e w3 ⟨rfl, hS3, hM3, _⟩
    have HS3 := hJ hS3
    have HM3 := hJ hM3
    clear hS3 hM3
    go_wp2_with fail
    go_meet
    exact ⟨rfl, _, _, HS3.out, zjY Hfi.out (zgO _ _) (znO _ _), HM3.out⟩
   obtain ⟨rfl, D3, o3, hS3, hG3, hM3⟩ := hcut
   obtain ⟨w3, hw3⟩ : ∃ w3, wc = w3 := ⟨_, rfl⟩
   rw [hw3] at hS3 hM3 ⊢
   have HS3 := hJ hS3
   have HG3 := hJ hG3
   have HM3 := hJ (HM2.out.self hM3)
   obtain ⟨f3, k3, va3, vb3, hD3, hB3⟩ := hS3.d
   obtain ⟨y0, y1, y2, y3⟩ := hB3.c
   clear hw3 hS3 hG3 hM3 HS2 HM2 q3 x2 x2w
   go_wp2_with fail
   refine (d_read w3 d f3 D3 hD3.a HG3.out.1).mono ?_
   rintro e w4 ⟨v4, rfl, hN4, hE4⟩
   have hD4 := hD3.ext hE4
   have hB4 : PB w4 x d q va3 vb3 fi fs fl := hE4.blk hB3 id
   obtain ⟨y0, y1, y2, y3⟩ := hB4.c
   have q1 : w4.cell? ⟨q, 1, none⟩ = some k3 := hD4.b.cells.2.1
   have hq4 : Byt w4 (fun k => k3.ownBlock = some k) k3 D3.file := Sl.of_own hD4.b.2.1 (fun _ e => e)
   have HE4 := hJ hE4
   have HN4 := hJ hN4.sl
   have Hq4 := hJ hq4
   clear hD3 hB3 hN4 hE4 hD4 hB4 hq4
   go_wp2_with fail
   refine (zkE w4 _ _ v4 k3 D3.file D3.file HN4.out Hq4.out).mono ?_
   rintro e w5 ⟨rfl, hE⟩
   have hfe : (D3.file == D3.file) = true := by simp
   rw [hfe]
   have HE5 := hJ (HE4.out.ext hE)
   have HM5 := hJ (HM3.out.ext HE5.out)
   clear hE hfe HN4 Hq4 HE4 q1 y0 y1 y2 y3
   cases o3 with
   | none =>
    obtain ⟨fv5, fq5, hD5, hB5⟩ := HS3.out
    have hB5 : PB w5 x d q (.pointer none) (.pointer none) fi fs fl := HE5.out.blk hB5 id
    obtain ⟨y0, y1, y2, y3⟩ := hB5.c
    clear hD5 hB5
    go_wp2_with fail
    go_meet
    exact HM5.out
   | some g2 =>
    obtain ⟨s, fv, gs, gl, r, fq, qs, ql, hP5, hB5⟩ := HS3.out
    have hP5 := hP5.ext HE5.out
    have hB5 : PB w5 x d q (.pointer (some ⟨s, 0, none⟩)) (.pointer (some ⟨r, 0, none⟩)) fi fs fl := HE5.out.blk hB5 id
    have hg3 := HG3.out.2 g2 rfl
    have hfl := zqY hP5.dk.a
    have hgl2 : g2.log.length ≤ 12400 := by have h1 := hg3.1; unfold Few at h1; omega
    have Hgo : Hid (g2.log.length ≤ 12400 ∧ g2.snap.length ≤ 16384) := hJ ⟨hgl2, hg3.2.s⟩
    obtain ⟨Qs, qc, Ql, qd, hqs, hql⟩ := hP5.hr.forms
    obtain ⟨kn, hkn⟩ : ∃ n, g2.snap.length = n := ⟨_, rfl⟩
    obtain ⟨km, hkm⟩ : ∃ n, g2.log.length = n := ⟨_, rfl⟩
    rw [hkn] at hqs
    rw [hkm] at hql
    subst hqs hql
    obtain ⟨y0, y1, y2, y3⟩ := hB5.c
    have HP5 := hJ hP5
    have HB5 := hJ hB5
    have Hkn := hJ hkn
    have Hkm := hJ hkm
    clear hP5 hB5 hg3 hfl hgl2 hkn hkm HS3 HE5
    go_wp2_with fail
    refine (zgI w5 _ s d g2 _ _ HP5.out.st HP5.out.hs (by have := Hgo.out; omega) (by have := Hgo.out; omega)).mono ?_
    rintro e w6 ⟨sv, lv, rfl, hN, hE⟩
    obtain ⟨Ks, kc, Kl, kd, e3, e4⟩ := hN.forms
    rw [Hkn.out] at e3
    rw [Hkm.out] at e4
    subst e3 e4
    have HP6 := hJ (HP5.out.more hE hN)
    have HB6 : Hid (PB w6 x d q (.pointer (some ⟨s, 0, none⟩)) (.pointer (some ⟨r, 0, none⟩)) fi fs fl) := hJ (hE.blk HB5.out id)
    have HM6 := hJ (HM5.out.ext hE)
    have HO6 := hJ hN.ho
    have Hap : Hid (∀ k, (Value.slice Ks kn kc).ownBlock = some k ∨ (Value.slice Kl km kd).ownBlock = some k → w5.heap.size ≤ k ∧ ¬ Gt d q s r fv fq k) := hJ (fun k hk => by
     have h1 : w5.heap.size ≤ k := by
      rcases hk with hk | hk
      · exact hN.1.2 k hk
      exact hN.2.2.2 k hk
     exact ⟨h1, fun e => by have := HP5.out.glt e; omega⟩)
    obtain ⟨b13, hb13⟩ : ∃ p, w6.heap.size = p := ⟨_, rfl⟩
    have hz : (w6.alloc (.cells zH.toArray 34)).heap[b13]? = some (.cells zH.toArray 34 (0, 0)) := by rw [← hb13]; exact heap_alloc_new w6 _
    have Hb13 := hJ hb13
    clear hE hN hb13
    go_wp2_with (rw [Hb13.out]; refine zD rfl 34 _ _ rfl 10 b13 0 (g2.cells (.slice Ks kn kc) (.slice Kl km kd)) rfl rfl zA _ zH (g2.cells (.slice Ks kn kc) (.slice Kl km kd)) hz rfl (by simp) (xS _ _ _ _ _ _ _) rfl ?_)
    intro w8 hb8 hm8 hs8
    have hE : Ext w6 w8 := ((Mod.refl (fun _ => False) w6).alloc (.cells zH.toArray 34)).trans hm8 (fun k hk e => by have := Hb13.out; omega)
    have HP8 := hJ (HP6.out.ext hE)
    have HB8 : Hid (PB w8 x d q (.pointer (some ⟨s, 0, none⟩)) (.pointer (some ⟨r, 0, none⟩)) fi fs fl) := hJ (hE.blk HB6.out id)
    have HM8 := hJ (HM6.out.ext hE)
    have HO8 := hJ (HO6.out.mod hE (fun _ _ => id))
    have HI := hJ hb8
    have HQt : Hid (QtB w8 r q g2 (.slice Qs kn qc) (.slice Ql km qd)) := hJ HP8.out.qt
    have p2 : w8.cell? ⟨x, 2, none⟩ = some (.pointer (some ⟨r, 0, none⟩)) := HB8.out.c.2.2.1
    clear hE hb8 hm8 hs8 hz y0 y1 y2 y3 HP6 HB6 HM6 HO6
    go_upto_region 21 with fail
    go_cut [142] (fun s142 wx => s142 = .bool false ∧ Ext w8 wx)
    case first =>
     refine wp_region_held_drew (S := fun W' => Ext w8 W') (by kernel_rfl) (Mod.refl _ w8).drew (fun hS => ?_)
     refine tkH 0 (some 133) rfl rfl (.agg (g2.cells (.slice Ks kn kc) (.slice Kl km kd)).toArray) hS ?_ ?_
     · rintro W' hW'
       have y2 := hW'.cell p2 id
       exact yD _ _ rfl (.pointer (some ⟨b13, 0, none⟩)) _ rfl (zF (P := Tryz.prog) (o := 0) (cs := g2.cells (.slice Ks kn kc) (.slice Kl km kd)) zA (hW'.blk HI.out id) rfl (fun j u hu => by rw [Nat.zero_add]; exact hu))
     try simp only [pL]
     iterate 6
      first | refine tkI 1 (some 134) rfl rfl ?_ hS ?_ ?_ | refine tkI 2 (some 135) rfl rfl ?_ hS ?_ ?_ | refine tkI 3 (some 136) rfl rfl ?_ hS ?_ ?_ | refine tkI 4 (some 137) rfl rfl ?_ hS ?_ ?_ | refine tkI 5 (some 138) rfl rfl ?_ hS ?_ ?_ | refine tkI 6 (some 139) rfl rfl ?_ hS ?_ ?_
      rotate_left
      · rintro W' hW'
        have y2 := hW'.cell p2 id
        go_simp
        try rfl
      try simp only [pL]
     refine tkH 7 (some 140) rfl rfl (.agg (g2.cells (.slice Qs kn qc) (.slice Ql km qd)).toArray) hS ?_ ?_
     · rintro W' hW'
       have y2 := hW'.cell p2 id
       exact yD _ _ rfl (.pointer (some ⟨r, 1, none⟩)) _ rfl (zF (P := Tryz.prog) (o := 1) (cs := g2.cells (.slice Qs kn qc) (.slice Ql km qd)) zA (hW'.blk HQt.out id) rfl (fun j u hu => by rw [Nat.add_comm]; exact hu))
     try simp only [pL]
     refine xJ 8 rfl (fun K hK => ?_)
     go_simp
     go_wp2_with fail
     refine (zl5 w8.drew _ _ g2 g2 _ _ _ _ (HO8.out.mem.mod (Mod.refl (fun _ => False) w8).drew (fun _ _ => id)) (HP8.out.hr.mod (Mod.refl (fun _ => False) w8).drew (fun _ _ => id))).mono ?_
     rintro e w9 ⟨rfl, hE9⟩
     rw [zcG]
     have hX := (hS.ext hE9)
     go_simp
     refine hK.out _ _ hX (fun hS => ?_)
     clear hK K hX
     try simp only [pL]
     refine tkH 9 (some 142) rfl rfl ?_ hS ?_ ?_
     rotate_left
     · rintro W' hW'
       have y2 := hW'.cell p2 id
       go_simp
       try rfl
     try simp only [pL]
     refine wpAnyH_done (by kernel_rfl) ?_ _
     go_wp2_with fail
     go_meet
     exact ⟨rfl, hS⟩
    obtain ⟨rfl, hE⟩ := hcut
    have HP9 := hJ (HP8.out.ext hE)
    have HB9 : Hid (PB wc x d q (.pointer (some ⟨s, 0, none⟩)) (.pointer (some ⟨r, 0, none⟩)) fi fs fl) := hJ (hE.blk HB8.out id)
    have HM9 := hJ (HM8.out.ext hE)
    have HO9 := hJ (HO8.out.mod hE (fun _ _ => id))
    have hl1 := zF (P := Tryz.prog) (o := 0) (cs := g2.cells (.slice Ks kn kc) (.slice Kl km kd)) zA (hE.blk HI.out id) rfl (fun j u hu => by rw [Nat.zero_add]; exact hu)
    clear hE p2
    go_wp2_with (refine zG rfl 34 _ rfl (.pointer (some ⟨b13, 0, none⟩)) _ rfl hl1 ?_)
    clear hl1
    refine (zgL wc _ _ g2 HO9.out (by have := Hgo.out; omega) (by have := Hgo.out; omega)).mono ?_
    rintro e wa ⟨rfl, hMs⟩
    have HPa := hJ (HP9.out.spoil hMs (fun k hk => (Hap.out k hk).2))
    have HBa : Hid (PB wa x d q (.pointer (some ⟨s, 0, none⟩)) (.pointer (some ⟨r, 0, none⟩)) fi fs fl) := hJ (hMs.blk HB9.out (fun e => by
     rcases e with e | e
     · exact zT HO9.out.1 e HB9.out (by decide) rfl
     exact zT HO9.out.2.1 e HB9.out (by decide) rfl))
    have HMa := hJ (HM9.out.self (hMs.mono (T := fun k => N ≤ k) (fun k _ e => by have h1 := (Hap.out k e).1; have h2 := HM5.out.size; omega)))
    have HQa : Hid (QtB wa r q g2 (.slice Qs kn qc) (.slice Ql km qd)) := hJ HPa.out.qt
    have p0 : wa.cell? ⟨x, 0, none⟩ = some (.pointer (some ⟨s, 0, none⟩)) := HBa.out.c.1
    have p2 : wa.cell? ⟨x, 2, none⟩ = some (.pointer (some ⟨r, 0, none⟩)) := HBa.out.c.2.2.1
    clear hMs HP9 HB9 HM9 HO9
    go_upto_region 24 with fail
    go_cut [158] (fun s158 wx => s158 = .bool false ∧ Ext wa wx)
    case first =>
     refine wp_region_held_drew (S := fun W' => Ext wa W') (by kernel_rfl) (Mod.refl _ wa).drew (fun hS => ?_)
     iterate 10
      first | refine tkI 0 (some 145) rfl rfl ?_ hS ?_ ?_ | refine tkI 1 (some 146) rfl rfl ?_ hS ?_ ?_ | refine tkI 2 (some 147) rfl rfl ?_ hS ?_ ?_ | refine tkI 3 (some 148) rfl rfl ?_ hS ?_ ?_ | refine tkI 5 (some 150) rfl rfl ?_ hS ?_ ?_ | refine tkI 6 (some 151) rfl rfl ?_ hS ?_ ?_ | refine tkI 7 (some 152) rfl rfl ?_ hS ?_ ?_ | refine tkI 8 (some 153) rfl rfl ?_ hS ?_ ?_ | refine tkI 9 (some 154) rfl rfl ?_ hS ?_ ?_ | refine tkI 10 (some 155) rfl rfl ?_ hS ?_ ?_
      rotate_left
      · rintro W' hW'
        have y0 := hW'.cell p0 id
        have y2 := hW'.cell p2 id
        go_simp
        try rfl
      try simp only [pL]
     refine tkH 11 (some 156) rfl rfl (.agg (g2.cells (.slice Qs kn qc) (.slice Ql km qd)).toArray) hS ?_ ?_
     · rintro W' hW'
       have y0 := hW'.cell p0 id
       have y2 := hW'.cell p2 id
       exact yD _ _ rfl (.pointer (some ⟨r, 1, none⟩)) _ rfl (zF (P := Tryz.prog) (o := 1) (cs := g2.cells (.slice Qs kn qc) (.slice Ql km qd)) zA (hW'.blk HQa.out id) rfl (fun j u hu => by rw [Nat.add_comm]; exact hu))
     try simp only [pL]
     refine xJ 4 rfl (fun K hK => ?_)
     go_simp
     go_wp2_with fail
     refine (zgI wa.drew _ s d g2 _ _ HPa.out.st (HPa.out.hs.mod (Mod.refl (fun _ => False) wa).drew (fun _ _ => id)) (by have := Hgo.out; omega) (by have := Hgo.out; omega)).mono ?_
     rintro e wb ⟨sb, lb, rfl, hNb, hEb⟩
     have HNb := hJ hNb.mem
     clear hNb
     have hX := (hS.ext hEb)
     go_simp
     refine hK.out _ _ hX (fun hS => ?_)
     clear hK K hX
     try simp only [pL]
     refine xJ 12 rfl (fun K hK => ?_)
     go_simp
     go_wp2_with fail
     refine (zl5 wb _ _ g2 g2 _ _ _ _ HNb.out (HPa.out.hr.mod hS (fun _ _ => id))).mono ?_
     rintro e w9 ⟨rfl, hE9⟩
     rw [zcG]
     have hX := (hS.ext hE9)
     go_simp
     refine hK.out _ _ hX (fun hS => ?_)
     clear hK K hX
     try simp only [pL]
     refine tkH 13 (some 158) rfl rfl ?_ hS ?_ ?_
     rotate_left
     · rintro W' hW'
       have y0 := hW'.cell p0 id
       have y2 := hW'.cell p2 id
       go_simp
       try rfl
     try simp only [pL]
     refine wpAnyH_done (by kernel_rfl) ?_ _
     go_wp2_with fail
     go_meet
     exact ⟨rfl, hS⟩
    obtain ⟨rfl, hE⟩ := hcut
    have hSz : zeF wc N x d q fi fs fl D3 (some g2) := ⟨s, fv, _, _, r, fq, _, _, HPa.out.ext hE, hE.blk HBa.out id⟩
    have HSz := hJ hSz
    have HMz := hJ (HMa.out.ext hE)
    clear hE hSz p0 p2
    go_wp2_with fail
    go_roundw
    case rel => exact ⟨i + 1, D3, some g2, by omega, by omega, by go_num, HSz.out, HG3.out, HMz.out⟩
    case measure => simp [intOf]; omega
 have hMc := hcut
 go_wp2_with fail
 refine (zqU wc).mono ?_
 rintro e wz ⟨rfl, hE⟩
 have hB : Below w.heap.size w wz := Mod.below (hMc.ext hE) (by have := HN.out; omega) (fun k hk => by have := HN.out; omega)
 have HBz := hJ hB
 clear hB hE hMc
 go_wp2
 go_ret
 exact ⟨rfl, HBz.out⟩
end Go.Proofs.YtjhnlncgmejkcaaGreat
