/-
 The law StableExact's pair: step (printed by stbrj.py). Conditions: as each theorem names them.
-/
import Derived.Test.YtjhnlncgmejkcaaGreatTakeI
import Derived.Test.YtjhnlncgmejkcaaGreatR3
import Derived.Test.YtjhnlncgmejkcaaGreatStbNx
import Derived.Test.YtjhnlncgmejkcaaGreatStbSp
set_option maxRecDepth 100000
set_option maxHeartbeats 4000000
namespace Go.Proofs.YtjhnlncgmejkcaaGreat
set_option linter.unusedSimpArgs false
open Go.RowKit
def zcW (fi : zC) (D : zJ) (g : zC) (x : AAct) : zJ × Option zC :=
 if um x.d 9 = 5 then (D.arm x.n x.keep, some g)
 else if um x.d 9 = 6 then ((yW (D.crash x.keep).start fi).1, (yW (D.crash x.keep).start fi).2.1)
 else if um x.d 9 = 7 then ((yW D fi).1, (yW D fi).2.1)
 else if um x.d 9 = 8 then ((yW (D.append x.b).1.sync.1 fi).1, (yW (D.append x.b).1.sync.1 fi).2.1)
 else ((yQ D g (zcA g x)).1, some (yQ D g (zcA g x)).2.1)
def AcB (w : World) (b : Nat) (ad an ak : Int) (ah : zC) (asv alv ev bv : Value) : Prop := w.heap[b]? = some (.cells #[.int .i64 ad, .int .i64 an, .int .i64 ak, .int .i64 ah.term, .int .i64 ah.vote, .int .i64 ah.base, .int .i64 ah.baseTerm, .int .i64 ah.conf.full, .int .i64 ah.conf.wit, .int .i64 ah.conf.learn, .int .i64 ah.conf.learnWit, asv, alv, ev, bv] 41 (0, 0))
theorem AcB.c {w : World} {b : Nat} {ad an ak : Int} {ah : zC} {asv alv ev bv : Value} (h : AcB w b ad an ak ah asv alv ev bv) : w.cell? ⟨b, 1, none⟩ = some (.int .i64 an) ∧ w.cell? ⟨b, 2, none⟩ = some (.int .i64 ak) ∧ w.cell? ⟨b, 14, none⟩ = some bv := by
 unfold AcB at h
 simp [World.cell?, h]
abbrev PBS (w : World) (x d q s r : Nat) (fi : zC) (fs fl : Value) : Prop := PB w x d q (.pointer (some ⟨s, 0, none⟩)) (.pointer (some ⟨r, 0, none⟩)) fi fs fl
theorem Kq.pbs {N x d q s r : Nat} {fi : zC} {fs fl : Value} {F F' : Nat → Prop} {w w' : World} (hK : Kq N F F' w w') (h : PBS w x d q s r fi fs fl) : PBS w' x d q s r fi fs fl := hK.bx _ _ _ _ (by decide) (by decide) (by decide) (by decide) (by decide) h
theorem Kq.acb {N b : Nat} {ad an ak : Int} {ah : zC} {asv alv ev bv : Value} {F F' : Nat → Prop} {w w' : World} (hK : Kq N F F' w w') (h : AcB w b ad an ak ah asv alv ev bv) : AcB w' b ad an ak ah asv alv ev bv := hK.bx _ _ _ _ (by decide) (by decide) (by decide) (by decide) (by decide) h
theorem l_pstep (w : World) (N x d q : Nat) (fi : zC) (fs fl : Value) (D : zJ) (g ah : zC) (ad an ak : Int) (asv alv : Value) (Bl : Option Addr) (gg bl : Nat) (Cl : Option Addr) (gc cl : Nat) (al : List zI) (ab : List UInt8)
  (hP : zeF w N x d q fi fs fl D (some g)) (hF : FiM w N fi fs fl) (hx : N ≤ x) (h0 : N ≤ w.heap.size) (hah : zY w (fun k => k < N) asv alv ah) (hL : zbJ w (fun k => k < N) (.slice Bl gg bl) al) (hgg : al.length = gg) (hB : Byt w (fun k => k < N) (.slice Cl gc cl) ab) (hgc : ab.length = gc) (h64 : I64 an ∧ I64 ak) (hg : zeQ g) (hgl : g.log.length ≤ 12400) (hlen : ah.log.length ≤ 200 ∧ ah.snap.length ≤ 32768 ∧ gg ≤ 200 ∧ gc ≤ 32768) :
  Calls Tryz.prog 25 #[.pointer (some ⟨x, 0, none⟩), .agg #[.int .i64 ad, .int .i64 an, .int .i64 ak, .int .i64 ah.term, .int .i64 ah.vote, .int .i64 ah.base, .int .i64 ah.baseTerm, .int .i64 ah.conf.full, .int .i64 ah.conf.wit, .int .i64 ah.conf.learn, .int .i64 ah.conf.learnWit, asv, alv, .slice Bl gg bl, .slice Cl gc cl]] w fun e w' => e = .returned (.bool true) ∧ zeF w' N x d q fi fs fl (zcW fi D g ⟨ad, an, ak, ah, al, ab⟩).1 (zcW fi D g ⟨ad, an, ak, ah, al, ab⟩).2 ∧ Mod (fun k => N ≤ k) w w' := by
 obtain ⟨s, fv, gs, gl, r, fq, qs, ql, hPr, hB0⟩ := hP
 obtain ⟨W, hW⟩ : ∃ W, w.alloc (.cells #[.int .i64 ad, .int .i64 an, .int .i64 ak, .int .i64 ah.term, .int .i64 ah.vote, .int .i64 ah.base, .int .i64 ah.baseTerm, .int .i64 ah.conf.full, .int .i64 ah.conf.wit, .int .i64 ah.conf.learn, .int .i64 ah.conf.learnWit, asv, alv, .slice Bl gg bl, .slice Cl gc cl] 41) = W := ⟨_, rfl⟩
 obtain ⟨b, hb⟩ : ∃ b, w.heap.size = b := ⟨_, rfl⟩
 have hE : Ext w W := by rw [← hW]; exact (Mod.refl _ w).alloc _
 have hA : W.heap[b]? = some (.cells #[.int .i64 ad, .int .i64 an, .int .i64 ak, .int .i64 ah.term, .int .i64 ah.vote, .int .i64 ah.base, .int .i64 ah.baseTerm, .int .i64 ah.conf.full, .int .i64 ah.conf.wit, .int .i64 ah.conf.learn, .int .i64 ah.conf.learnWit, asv, alv, .slice Bl gg bl, .slice Cl gc cl] 41 (0, 0)) := by rw [← hW, ← hb]; exact heap_alloc_new w _
 have hxb : x < w.heap.size := (Array.getElem?_eq_some_iff.1 hB0).1
 have hbx : b ≠ x := by omega
 have HPr := hJ (hPr.ext hE)
 have HB : Hid (PBS W x d q s r fi fs fl) := hJ (hE.blk hB0 id)
 have HA := hJ hA
 have HM : Hid (Mod (fun k => N ≤ k) w W) := hJ (hE.mod _)
 have HF := hJ hF
 have Hah := hJ (And.intro (hah.mod hE (fun _ _ => id)) (hL.mod hE (fun _ _ => id)))
 have Hah : Hid (zY W (fun k => k < N) asv alv ah ∧ zbJ W (fun k => k < N) (.slice Bl gg bl) al) := Hah
 have HBb := hJ (hB.ext hE)
 have Hgg := hJ hgg
 have Hgc := hJ hgc
 have Hg := hJ hg
 have HW := hJ hW
 have Hb := hJ hb
 have hq0 : (IntKind.u64.wrap ad).tmod 9 = um ad 9 := zcV ad 9
 obtain ⟨kd, hkd⟩ : ∃ q, um ad 9 = q := ⟨_, rfl⟩
 rw [hkd] at hq0
 have Hkd := hJ hkd
 have z0 : W.cell? ⟨b, 0, none⟩ = some (.int .i64 ad) := zB (cs := [.int .i64 ad, .int .i64 an, .int .i64 ak, .int .i64 ah.term, .int .i64 ah.vote, .int .i64 ah.base, .int .i64 ah.baseTerm, .int .i64 ah.conf.full, .int .i64 ah.conf.wit, .int .i64 ah.conf.learn, .int .i64 ah.conf.learnWit, asv, alv, .slice Bl gg bl, .slice Cl gc cl]) hA rfl
 have z2 : W.cell? ⟨b, 2, none⟩ = some (.int .i64 ak) := zB (cs := [.int .i64 ad, .int .i64 an, .int .i64 ak, .int .i64 ah.term, .int .i64 ah.vote, .int .i64 ah.base, .int .i64 ah.baseTerm, .int .i64 ah.conf.full, .int .i64 ah.conf.wit, .int .i64 ah.conf.learn, .int .i64 ah.conf.learnWit, asv, alv, .slice Bl gg bl, .slice Cl gc cl]) hA rfl
 clear hW hb hE hA hPr hB0 hF hah hL hB hkd
 go_enter Tryz.func25, Tryz.ntmps25
 go_upto_region 1 with fail
 rw [HW.out, Hb.out]
 rcases d5 : (kd == 5) with _ | _
 rotate_left
 ·
  have he : kd = 5 := by simpa using d5
  have Hst : Hid (zcW fi D g ⟨ad, an, ak, ah, al, ab⟩ = (D.arm an ak, some g)) := hJ (by unfold zcW; simp only [Hkd.out]; rw [if_pos he])
  clear he
  go_upto_region 3 with fail
  go_cut [23] (fun _ wx => ∃ fv' fq', Pr wx N (fun k => k ≠ x) s d fv' gs gl (D.arm an ak) g r q fq' qs ql (D) g ∧ PBS wx x d q s r fi fs fl ∧ AcB wx b ad an ak ah asv alv (.slice Bl gg bl) (.slice Cl gc cl) ∧ Mod (fun k => N ≤ k) W wx)
  case first =>
   refine wp_region_held_drew (S := fun W' => Mod (fun k => N ≤ k) W W' ∧ (∃ v0 v2, PB W' x d q v0 v2 fi fs fl) ∧ AcB W' b ad an ak ah asv alv (.slice Bl gg bl) (.slice Cl gc cl)) (by kernel_rfl) ⟨(Mod.refl _ W).drew, ⟨_, _, HB.out⟩, HA.out⟩ (fun hS => ?_)
   iterate 8
    first | refine tkI 0 (some 16) rfl rfl ?_ hS ?_ ?_ | refine tkI 1 (some 17) rfl rfl ?_ hS ?_ ?_ | refine tkI 2 (some 18) rfl rfl ?_ hS ?_ ?_ | refine tkI 3 (some 19) rfl rfl ?_ hS ?_ ?_ | refine tkI 4 (some 20) rfl rfl ?_ hS ?_ ?_ | refine tkI 5 (some 21) rfl rfl ?_ hS ?_ ?_ | refine tkI 6 (some 22) rfl rfl ?_ hS ?_ ?_ | refine tkI 7 (some 23) rfl rfl ?_ hS ?_ ?_
    rotate_left
    · rintro W' hW'
      obtain ⟨_, ⟨v0', v2', hB'⟩, hA'⟩ := hW'
      obtain ⟨y0, y1, y2, y3⟩ := hB'.c
      obtain ⟨z1, z2, z14⟩ := hA'.c
      go_simp
      try rfl
    try simp only [pL]
   refine xJ 8 rfl (fun K hK => ?_)
   go_simp
   go_wp2_with fail
   refine (d_trip _ d fv D (HPr.out.dk.a.ext (Mod.refl _ W).drew) an ak h64.1.2 h64.2).mono ?_
   rintro e w2 ⟨rfl, hD, hm⟩
   obtain ⟨fz, hP2, hK2⟩ := (HPr.out.ext (Mod.refl (fun _ => False) W).drew).dm (dm_of hD hm)
   have HP2 := hJ hP2
   have HB2 := hJ (hK2.pbs HB.out)
   have HA2 := hJ (hK2.acb HA.out)
   have HM2 := hJ (hS.1.self hK2.md)
   clear hD hm hP2 hK2
   have hX := (⟨HM2.out, ⟨_, _, HB2.out⟩, HA2.out⟩ : _ ∧ (∃ v0 v2, PB w2 x d q v0 v2 fi fs fl) ∧ _)
   go_simp
   refine hK.out _ _ hX (fun hS => ?_)
   clear hK K hX
   try simp only [pL]
   refine wpAnyH_done (by kernel_rfl) ?_ _
   go_wp2_with fail
   go_meet
   exact ⟨fz, fq, HP2.out, HB2.out, HA2.out, HM2.out⟩
  obtain ⟨fv, fq, hP1, hB1, hA1, hM1⟩ := hcut
  obtain ⟨w1, hw⟩ : ∃ w1, wc = w1 := ⟨_, rfl⟩
  rw [hw] at hP1 hB1 hA1 hM1 ⊢
  have HP1 := hJ hP1
  have HB1 := hJ hB1
  have HA1 := hJ hA1
  have HM1 := hJ (HM.out.self hM1)
  clear hP1 hB1 hA1 hM1 hw
  go_upto_region 4 with fail
  go_cut [32] (fun _ wx => ∃ fv' fq', Pr wx N (fun k => k ≠ x) s d fv' gs gl (D.arm an ak) g r q fq' qs ql (D.arm an ak) g ∧ PBS wx x d q s r fi fs fl ∧ AcB wx b ad an ak ah asv alv (.slice Bl gg bl) (.slice Cl gc cl) ∧ Mod (fun k => N ≤ k) w1 wx)
  case first =>
   refine wp_region_held_drew (S := fun W' => Mod (fun k => N ≤ k) w1 W' ∧ (∃ v0 v2, PB W' x d q v0 v2 fi fs fl) ∧ AcB W' b ad an ak ah asv alv (.slice Bl gg bl) (.slice Cl gc cl)) (by kernel_rfl) ⟨(Mod.refl _ w1).drew, ⟨_, _, HB1.out⟩, HA1.out⟩ (fun hS => ?_)
   iterate 8
    first | refine tkI 0 (some 25) rfl rfl ?_ hS ?_ ?_ | refine tkI 1 (some 26) rfl rfl ?_ hS ?_ ?_ | refine tkI 2 (some 27) rfl rfl ?_ hS ?_ ?_ | refine tkI 3 (some 28) rfl rfl ?_ hS ?_ ?_ | refine tkI 4 (some 29) rfl rfl ?_ hS ?_ ?_ | refine tkI 5 (some 30) rfl rfl ?_ hS ?_ ?_ | refine tkI 6 (some 31) rfl rfl ?_ hS ?_ ?_ | refine tkI 7 (some 32) rfl rfl ?_ hS ?_ ?_
    rotate_left
    · rintro W' hW'
      obtain ⟨_, ⟨v0', v2', hB'⟩, hA'⟩ := hW'
      obtain ⟨y0, y1, y2, y3⟩ := hB'.c
      obtain ⟨z1, z2, z14⟩ := hA'.c
      go_simp
      try rfl
    try simp only [pL]
   refine xJ 8 rfl (fun K hK => ?_)
   go_simp
   go_wp2_with fail
   refine (q_trip _ q fq D (HP1.out.dk.b.ext (Mod.refl _ w1).drew) an ak h64.1.2 h64.2).mono ?_
   rintro e w2 ⟨rfl, hD, hm⟩
   obtain ⟨fz, hP2, hK2⟩ := (HP1.out.ext (Mod.refl (fun _ => False) w1).drew).qm (qm_of hD hm)
   have HP2 := hJ hP2
   have HB2 := hJ (hK2.pbs HB1.out)
   have HA2 := hJ (hK2.acb HA1.out)
   have HM2 := hJ (hS.1.self hK2.md)
   clear hD hm hP2 hK2
   have hX := (⟨HM2.out, ⟨_, _, HB2.out⟩, HA2.out⟩ : _ ∧ (∃ v0 v2, PB w2 x d q v0 v2 fi fs fl) ∧ _)
   go_simp
   refine hK.out _ _ hX (fun hS => ?_)
   clear hK K hX
   try simp only [pL]
   refine wpAnyH_done (by kernel_rfl) ?_ _
   go_wp2_with fail
   go_meet
   exact ⟨fv, fz, HP2.out, HB2.out, HA2.out, HM2.out⟩
  obtain ⟨fv, fq, hP1, hB1, hA1, hM1⟩ := hcut
  obtain ⟨w2, hw⟩ : ∃ w1, wc = w1 := ⟨_, rfl⟩
  rw [hw] at hP1 hB1 hA1 hM1 ⊢
  have HP1 := hJ hP1
  have HB1 := hJ hB1
  have HA1 := hJ hA1
  have HM1 := hJ (HM1.out.self hM1)
  clear hP1 hB1 hA1 hM1 hw
  go_wp2
  go_ret
  exact ⟨rfl, by rw [Hst.out]; exact ⟨_, _, _, _, _, _, _, _, HP1.out, HB1.out⟩, HM1.out⟩
 have hn5 : ¬ kd = 5 := by simpa using d5
 rcases d6 : (kd == 6) with _ | _
 rotate_left
 ·
  have he : kd = 6 := by simpa using d6
  have Hst : Hid (zcW fi D g ⟨ad, an, ak, ah, al, ab⟩ = ((yW (D.crash ak).start fi).1, (yW (D.crash ak).start fi).2.1)) := hJ (by unfold zcW; simp only [Hkd.out]; rw [if_neg hn5]; rw [if_pos he])
  clear he
  go_wp2_with fail
  refine (zmP W N x d q fi fs fl D ak ⟨_, _, _, _, HPr.out.dk, HB.out⟩ (HF.out.mod HM.out) hx (Nat.le_trans h0 HM.out.size) h64.2).mono ?_
  rintro e w2 ⟨rfl, hS, hM, _⟩
  have HS2 := hJ hS
  have HM2 := hJ (HM.out.self hM)
  clear hS hM
  go_wp2
  go_ret
  exact ⟨rfl, by rw [Hst.out]; exact HS2.out, HM2.out⟩
 have hn6 : ¬ kd = 6 := by simpa using d6
 rcases d7 : (kd == 7) with _ | _
 rotate_left
 ·
  have he : kd = 7 := by simpa using d7
  have Hst : Hid (zcW fi D g ⟨ad, an, ak, ah, al, ab⟩ = ((yW D fi).1, (yW D fi).2.1)) := hJ (by unfold zcW; simp only [Hkd.out]; rw [if_neg hn5]; rw [if_neg hn6]; rw [if_pos he])
  clear he
  go_wp2_with fail
  refine (ziK W N x d q fi fs fl D ⟨_, _, _, _, HPr.out.dk, HB.out⟩ (HF.out.mod HM.out) hx (Nat.le_trans h0 HM.out.size)).mono ?_
  rintro e w2 ⟨rfl, hS, hM, _⟩
  have HS2 := hJ hS
  have HM2 := hJ (HM.out.self hM)
  clear hS hM
  go_wp2
  go_ret
  exact ⟨rfl, by rw [Hst.out]; exact HS2.out, HM2.out⟩
 have hn7 : ¬ kd = 7 := by simpa using d7
 rcases d8 : (kd == 8) with _ | _
 rotate_left
 ·
  have he : kd = 8 := by simpa using d8
  have Hst : Hid (zcW fi D g ⟨ad, an, ak, ah, al, ab⟩ = ((yW (D.append ab).1.sync.1 fi).1, (yW (D.append ab).1.sync.1 fi).2.1)) := hJ (by unfold zcW; simp only [Hkd.out]; rw [if_neg hn5]; rw [if_neg hn6]; rw [if_neg hn7]; rw [if_pos he])
  clear he
  go_upto_region 11 with fail
  refine wp_region_held_drew (S := fun W' => Mod (fun k => N ≤ k) W W' ∧ (∃ v0 v2, PB W' x d q v0 v2 fi fs fl) ∧ AcB W' b ad an ak ah asv alv (.slice Bl gg bl) (.slice Cl gc cl)) (by kernel_rfl) ⟨(Mod.refl _ W).drew, ⟨_, _, HB.out⟩, HA.out⟩ (fun hS => ?_)
  iterate 12
   first | refine tkI 0 (some 46) rfl rfl ?_ hS ?_ ?_ | refine tkI 1 (some 47) rfl rfl ?_ hS ?_ ?_ | refine tkI 2 (some 48) rfl rfl ?_ hS ?_ ?_ | refine tkI 3 (some 49) rfl rfl ?_ hS ?_ ?_ | refine tkI 4 (some 50) rfl rfl ?_ hS ?_ ?_ | refine tkI 5 (some 51) rfl rfl ?_ hS ?_ ?_ | refine tkI 7 (some 53) rfl rfl ?_ hS ?_ ?_ | refine tkI 8 (some 54) rfl rfl ?_ hS ?_ ?_ | refine tkI 9 (some 55) rfl rfl ?_ hS ?_ ?_ | refine tkI 10 (some 56) rfl rfl ?_ hS ?_ ?_ | refine tkI 11 (some 57) rfl rfl ?_ hS ?_ ?_ | refine tkI 12 (some 58) rfl rfl ?_ hS ?_ ?_
   rotate_left
   · rintro W' hW'
     obtain ⟨_, ⟨v0', v2', hB'⟩, hA'⟩ := hW'
     obtain ⟨y0, y1, y2, y3⟩ := hB'.c
     obtain ⟨z1, z2, z14⟩ := hA'.c
     go_simp
     try rfl
   try simp only [pL]
  refine xJ 6 rfl (fun K hK => ?_)
  go_simp
  go_wp2_with fail
  refine (zmC _ d fv D (HPr.out.dk.a.ext (Mod.refl _ W).drew) (fun k => k < N) _ ab (HBb.out.mod hS.1 (fun k hk e => by omega)) (by rw [Hgc.out]; omega)).mono ?_
  rintro e wa ⟨rfl, hM⟩
  obtain ⟨fa, hP, hK⟩ := (HPr.out.ext (Mod.refl (fun _ => False) W).drew).dm hM
  have HPa := hJ hP
  have HBa := hJ (hK.pbs HB.out)
  have HAa := hJ (hK.acb HA.out)
  have HMa := hJ (hS.1.self hK.md)
  clear hM hP hK
  have hX := (⟨HMa.out, ⟨_, _, HBa.out⟩, HAa.out⟩ : _ ∧ (∃ v0 v2, PB wa x d q v0 v2 fi fs fl) ∧ _)
  go_simp
  refine hK.out _ _ hX (fun hS => ?_)
  clear hK K hX
  try simp only [pL]
  refine xJ 13 rfl (fun K hK => ?_)
  go_simp
  go_wp2_with fail
  refine (zmD _ q fq D HPa.out.dk.b (fun k => k < N) _ ab (HBb.out.mod hS.1 (fun k hk e => by omega)) (by rw [Hgc.out]; omega)).mono ?_
  rintro e wc ⟨rfl, hM⟩
  obtain ⟨fc, hP, hK⟩ := (HPa.out).qm hM
  have HPc := hJ hP
  have HBc := hJ (hK.pbs HBa.out)
  have HAc := hJ (hK.acb HAa.out)
  have HMc := hJ (hS.1.self hK.md)
  clear hM hP hK
  have hX := (⟨HMc.out, ⟨_, _, HBc.out⟩, HAc.out⟩ : _ ∧ (∃ v0 v2, PB wc x d q v0 v2 fi fs fl) ∧ _)
  go_simp
  refine hK.out _ _ hX (fun hS => ?_)
  clear hK K hX
  try simp only [pL]
  iterate 10
   first | refine tkI 14 (some 60) rfl rfl ?_ hS ?_ ?_ | refine tkI 15 (some 61) rfl rfl ?_ hS ?_ ?_ | refine tkI 16 (some 62) rfl rfl ?_ hS ?_ ?_ | refine tkI 17 (some 63) rfl rfl ?_ hS ?_ ?_ | refine tkI 18 (some 64) rfl rfl ?_ hS ?_ ?_ | refine tkI 19 (some 65) rfl rfl ?_ hS ?_ ?_ | refine tkI 21 (some 67) rfl rfl ?_ hS ?_ ?_ | refine tkI 22 (some 68) rfl rfl ?_ hS ?_ ?_ | refine tkI 23 (some 69) rfl rfl ?_ hS ?_ ?_ | refine tkI 24 (some 70) rfl rfl ?_ hS ?_ ?_
   rotate_left
   · rintro W' hW'
     obtain ⟨_, ⟨v0', v2', hB'⟩, hA'⟩ := hW'
     obtain ⟨y0, y1, y2, y3⟩ := hB'.c
     obtain ⟨z1, z2, z14⟩ := hA'.c
     go_simp
     try rfl
   try simp only [pL]
  refine xJ 20 rfl (fun K hK => ?_)
  go_simp
  go_wp2_with fail
  refine (d_sync _ d fa _ HPc.out.dk.a).mono ?_
  rintro e we ⟨rfl, hM⟩
  obtain ⟨fe, hP, hK⟩ := (HPc.out).dm hM
  have HPe := hJ hP
  have HBe := hJ (hK.pbs HBc.out)
  have HAe := hJ (hK.acb HAc.out)
  have HMe := hJ (hS.1.self hK.md)
  clear hM hP hK
  have hX := (⟨HMe.out, ⟨_, _, HBe.out⟩, HAe.out⟩ : _ ∧ (∃ v0 v2, PB we x d q v0 v2 fi fs fl) ∧ _)
  go_simp
  refine hK.out _ _ hX (fun hS => ?_)
  clear hK K hX
  try simp only [pL]
  refine xJ 25 rfl (fun K hK => ?_)
  go_simp
  go_wp2_with fail
  refine (q_sync _ q fc _ HPe.out.dk.b).mono ?_
  rintro e wf ⟨rfl, hM⟩
  obtain ⟨ff, hP, hK⟩ := (HPe.out).qm hM
  have HPf := hJ hP
  have HBf := hJ (hK.pbs HBe.out)
  have HAf := hJ (hK.acb HAe.out)
  have HMf := hJ (hS.1.self hK.md)
  clear hM hP hK
  have hX := (⟨HMf.out, ⟨_, _, HBf.out⟩, HAf.out⟩ : _ ∧ (∃ v0 v2, PB wf x d q v0 v2 fi fs fl) ∧ _)
  go_simp
  refine hK.out _ _ hX (fun hS => ?_)
  clear hK K hX
  try simp only [pL]
  iterate 4
   first | refine tkI 26 (some 72) rfl rfl ?_ hS ?_ ?_ | refine tkI 27 (some 73) rfl rfl ?_ hS ?_ ?_ | refine tkI 28 (some 74) rfl rfl ?_ hS ?_ ?_ | refine tkI 29 (some 75) rfl rfl ?_ hS ?_ ?_
   rotate_left
   · rintro W' hW'
     obtain ⟨_, ⟨v0', v2', hB'⟩, hA'⟩ := hW'
     obtain ⟨y0, y1, y2, y3⟩ := hB'.c
     obtain ⟨z1, z2, z14⟩ := hA'.c
     go_simp
     try rfl
   try simp only [pL]
  refine xJ 30 rfl (fun K hK => ?_)
  go_simp
  go_wp2_with fail
  refine (ziK _ N x d q fi fs fl _ ⟨_, _, _, _, HPf.out.dk, HBf.out⟩ ((HF.out.mod HM.out).mod hS.1) hx (Nat.le_trans (Nat.le_trans h0 HM.out.size) hS.1.size)).mono ?_
  rintro e wg ⟨rfl, hSg, hMg, hKg⟩
  have HSg := hJ hSg
  have HMg := hJ (hS.1.self hMg)
  have HAg := hJ (hKg _ _ _ _ (by decide) (by decide) (by decide) hbx HAf.out)
  have HBg : Hid (∃ v0 v2, PB wg x d q v0 v2 fi fs fl) := hJ (by obtain ⟨_, _, v0, v2, _, h2⟩ := hSg.d; exact ⟨v0, v2, h2⟩)
  clear hSg hMg hKg
  have hX := And.intro HMg.out (And.intro HBg.out HAg.out)
  go_simp
  refine hK.out _ _ hX (fun hS => ?_)
  clear hK K hX
  try simp only [pL]
  iterate 2
   first | refine tkI 31 (some 77) rfl rfl ?_ hS ?_ ?_ | refine tkI 32 (some 4) rfl rfl ?_ hS ?_ ?_
   rotate_left
   · rintro W' hW'
     obtain ⟨_, ⟨v0', v2', hB'⟩, hA'⟩ := hW'
     obtain ⟨y0, y1, y2, y3⟩ := hB'.c
     obtain ⟨z1, z2, z14⟩ := hA'.c
     go_simp
     try rfl
   try simp only [pL]
  refine wpAnyH_done (by kernel_rfl) ?_ _
  go_wp2_with fail
  go_ret
  exact ⟨rfl, by rw [Hst.out]; exact HSg.out, HM.out.self HMg.out⟩
 have hn8 : ¬ kd = 8 := by simpa using d8
 have Hst : Hid (zcW fi D g ⟨ad, an, ak, ah, al, ab⟩ = ((yQ D g (zcA g ⟨ad, an, ak, ah, al, ab⟩)).1, some (yQ D g (zcA g ⟨ad, an, ak, ah, al, ab⟩)).2.1)) := hJ (by unfold zcW; simp only [Hkd.out]; rw [if_neg hn5, if_neg hn6, if_neg hn7, if_neg hn8])
 clear hn5 hn6 hn7 hn8
 obtain ⟨y, hy⟩ : ∃ y, zcA g ⟨ad, an, ak, ah, al, ab⟩ = y := ⟨_, rfl⟩
 rw [hy] at Hst
 have hnl := zmM g ⟨ad, an, ak, ah, al, ab⟩
 rw [hy] at hnl
 simp only at hnl
 have hgs := hg.1.s
 have hyl : y.log.length ≤ 12700 ∧ y.snap.length ≤ 32768 := by rw [hgg] at hnl; rw [hgc] at hnl; omega
 obtain ⟨gn2, hgn2⟩ : ∃ n, y.snap.length = n := ⟨_, rfl⟩
 obtain ⟨gm2, hgm2⟩ : ∃ n, y.log.length = n := ⟨_, rfl⟩
 rw [hgn2, hgm2] at hyl
 have Hy := hJ hy
 have Hyn := hJ hgn2
 have Hym := hJ hgm2
 obtain ⟨Qs, qc, Ql, qd, hqs, hql⟩ := HPr.out.hr.forms
 obtain ⟨qn, hqn⟩ : ∃ n, g.snap.length = n := ⟨_, rfl⟩
 obtain ⟨qm, hqm⟩ : ∃ n, g.log.length = n := ⟨_, rfl⟩
 rw [hqn] at hqs
 rw [hqm] at hql
 subst hqs hql
 obtain ⟨Ss, sc, Sl, sd, hss, hsl⟩ := HPr.out.hs.forms
 rw [hqn] at hss
 rw [hqm] at hsl
 subst hss hsl
 have Hqn := hJ hqn
 have Hqm := hJ hqm
 have HQt : Hid (QtB W r q g (.slice Qs qn qc) (.slice Ql qm qd)) := hJ HPr.out.qt
 have Hrc : Hid (zY W (fun k => (¬ Gt d q s r fv fq k ∧ k ≠ x) ∧ k < W.heap.size) (.slice Qs qn qc) (.slice Ql qm qd) g) := hJ HPr.out.hr.cap
 have Hac : Hid (zY W (fun k => (¬ Gt d q s r fv fq k ∧ k ≠ x) ∧ k < W.heap.size) asv alv ah ∧ zbJ W (fun k => (¬ Gt d q s r fv fq k ∧ k ≠ x) ∧ k < W.heap.size) (.slice Bl gg bl) al ∧ Byt W (fun k => (¬ Gt d q s r fv fq k ∧ k ≠ x) ∧ k < W.heap.size) (.slice Cl gc cl) ab) := hJ (by
  have ht : ∀ k, k < N → ((¬ Gt d q s r fv fq k ∧ k ≠ x) ∧ k < W.heap.size) := fun k hk => ⟨⟨fun e => by have := HPr.out.gn e; omega, by omega⟩, by have := HM.out.size; omega⟩
  exact ⟨Hah.out.1.mono ht, ⟨Hah.out.2.1.mono ht, Hah.out.2.2⟩, HBb.out.mono ht⟩)
 have p2 : W.cell? ⟨x, 2, none⟩ = some (.pointer (some ⟨r, 0, none⟩)) := HB.out.c.2.2.1
 rw [hqm] at hgl
 clear hy hnl hgn2 hgm2 hqn hqm
 go_upto_region 12 with fail
 go_cut [5] (fun s5 wx => ∃ b13 Gs gs2 Gl gl2, s5 = .pointer (some ⟨b13, 0, none⟩) ∧ wx.heap[b13]? = some (.cells (y.cells (.slice Gs gn2 gs2) (.slice Gl gm2 gl2)).toArray 34 (0, 0)) ∧ zY wx (fun k => ((¬ Gt d q s r fv fq k ∧ k ≠ x) ∧ k < W.heap.size) ∨ W.heap.size ≤ k) (.slice Gs gn2 gs2) (.slice Gl gm2 gl2) y ∧ W.heap.size ≤ b13 ∧ Ext W wx)
 case first =>
  refine wp_region_held_drew (S := fun W' => Ext W W') (by kernel_rfl) (Mod.refl _ W).drew (fun hS => ?_)
  iterate 6
   first | refine tkI 0 (some 78) rfl rfl ?_ hS ?_ ?_ | refine tkI 1 (some 79) rfl rfl ?_ hS ?_ ?_ | refine tkI 2 (some 80) rfl rfl ?_ hS ?_ ?_ | refine tkI 3 (some 81) rfl rfl ?_ hS ?_ ?_ | refine tkI 4 (some 82) rfl rfl ?_ hS ?_ ?_ | refine tkI 5 (some 83) rfl rfl ?_ hS ?_ ?_
   rotate_left
   · rintro W' hW'
     have y2 := hW'.cell p2 id
     go_simp
     try rfl
   try simp only [pL]
  refine tkH 6 (some 84) rfl rfl (.agg (g.cells (.slice Qs qn qc) (.slice Ql qm qd)).toArray) hS ?_ ?_
  · rintro W' hW'
    have y2 := hW'.cell p2 id
    exact yD _ _ rfl (.pointer (some ⟨r, 1, none⟩)) _ rfl (zF (P := Tryz.prog) (o := 1) (cs := g.cells (.slice Qs qn qc) (.slice Ql qm qd)) zA (hW'.blk HQt.out id) rfl (fun j u hu => by rw [Nat.add_comm]; exact hu))
  try simp only [pL]
  refine tkH 7 (some 85) rfl rfl (.agg ([.int .i64 ad, .int .i64 an, .int .i64 ak, .int .i64 ah.term, .int .i64 ah.vote, .int .i64 ah.base, .int .i64 ah.baseTerm, .int .i64 ah.conf.full, .int .i64 ah.conf.wit, .int .i64 ah.conf.learn, .int .i64 ah.conf.learnWit, asv, alv, .slice Bl gg bl, .slice Cl gc cl] : List Value).toArray) hS ?_ ?_
  · rintro W' hW'
    have y2 := hW'.cell p2 id
    exact yD _ _ rfl (.pointer (some ⟨b, 0, none⟩)) _ rfl (zF (P := Tryz.prog) (o := 0) (cs := [.int .i64 ad, .int .i64 an, .int .i64 ak, .int .i64 ah.term, .int .i64 ah.vote, .int .i64 ah.base, .int .i64 ah.baseTerm, .int .i64 ah.conf.full, .int .i64 ah.conf.wit, .int .i64 ah.conf.learn, .int .i64 ah.conf.learnWit, asv, alv, .slice Bl gg bl, .slice Cl gc cl]) zqF (hW'.blk HA.out id) rfl (fun j u hu => by rw [Nat.zero_add]; exact hu))
  try simp only [pL]
  refine rdy2 8 9 rfl rfl (fun K hK => ?_) (fun K hK => ?_)
  focus
   go_simp
   go_wp2_with fail
   refine (l_next _ (fun k => (¬ Gt d q s r fv fq k ∧ k ≠ x) ∧ k < W.heap.size) g ah Qs qn qc Ql qm qd ad an ak asv alv Bl gg bl Cl gc cl al ab (Hrc.out.mod hS (fun _ _ => id)) Hqn.out Hqm.out (Hac.out.1.mod hS (fun _ _ => id)) (Hac.out.2.1.mod hS (fun _ _ => id)) Hgg.out (Hac.out.2.2.mod hS (fun _ _ => id)) Hgc.out Hg.out.1 (by omega) (by omega) (by omega)).mono ?_
   rintro e wb ⟨sb, lb, rfl, hMb, hEb⟩
   rw [Hy.out] at hMb ⊢
   obtain ⟨Gs, gs2, Gl, gl2, rfl, rfl⟩ := hMb.forms
   rw [Hyn.out, Hym.out] at hMb ⊢
   have HMb := hJ hMb
   clear hMb
   have hX := (hS.ext hEb)
   go_simp
   refine hK.out _ _ hX (fun hS => ?_)
   clear hK K hX
   try simp only [pL]
   refine xJ 9 rfl (fun K hK => ?_)
   refine zgN rfl rfl ?_
   intro b13 w6 hb6 hE6 hl6 hg6
   have HB6 := hJ hb6
   refine hK.out _ _ ((hS.ext hE6)) (fun hS => ?_)
   clear hK K
  rotate_left
  focus
   refine zgN rfl rfl ?_
   intro b13 w6 hb6 hE6 hl6 hg6
   have HB6 := hJ hb6
   refine hK.out _ _ ((hS.ext hE6)) (fun hS => ?_)
   clear hK K
   try simp only [pL]
   refine xJ 8 rfl (fun K hK => ?_)
   go_simp
   go_wp2_with fail
   refine (l_next _ (fun k => (¬ Gt d q s r fv fq k ∧ k ≠ x) ∧ k < W.heap.size) g ah Qs qn qc Ql qm qd ad an ak asv alv Bl gg bl Cl gc cl al ab (Hrc.out.mod hS (fun _ _ => id)) Hqn.out Hqm.out (Hac.out.1.mod hS (fun _ _ => id)) (Hac.out.2.1.mod hS (fun _ _ => id)) Hgg.out (Hac.out.2.2.mod hS (fun _ _ => id)) Hgc.out Hg.out.1 (by omega) (by omega) (by omega)).mono ?_
   rintro e wb ⟨sb, lb, rfl, hMb, hEb⟩
   rw [Hy.out] at hMb ⊢
   obtain ⟨Gs, gs2, Gl, gl2, rfl, rfl⟩ := hMb.forms
   rw [Hyn.out, Hym.out] at hMb ⊢
   have HMb := hJ hMb
   clear hMb
   have hX := (hS.ext hEb)
   go_simp
   refine hK.out _ _ hX (fun hS => ?_)
   clear hK K hX
  all_goals
   try simp only [pL]
   refine xJ 10 rfl (fun K hK => ?_)
   have HB7 := hJ hS
   first | (refine jQ rfl 34 _ _ rfl 10 b13 0 (y.cells (.slice Gs gn2 gs2) (.slice Gl gm2 gl2)) rfl rfl zA _ zH (y.cells (.slice Gs gn2 gs2) (.slice Gl gm2 gl2)) HB6.out rfl (by simp) (xS _ _ _ _ _ _ _) rfl ?_) | (refine jQ rfl 34 _ _ rfl 10 b13 0 (y.cells (.slice Gs gn2 gs2) (.slice Gl gm2 gl2)) rfl rfl zA _ zH (y.cells (.slice Gs gn2 gs2) (.slice Gl gm2 gl2)) (hEb.blk HB6.out id) rfl (by simp) (xS _ _ _ _ _ _ _) rfl ?_)
   intro w7 hb7 hm7 hs7
   refine hK.out _ _ ((HB7.out.trans hm7 (fun k hk e => by have h1 : W.heap.size ≤ b13 := Nat.le_trans (by first | exact Nat.le_refl _ | exact hEb.size | exact (Nat.le_trans (Nat.le_of_eq rfl) hEb.size)) hl6; omega))) (fun hS => ?_)
   clear hK K
   try simp only [pL]
   refine wpAnyH_done (by kernel_rfl) ?_ _
   go_wp2_with fail
   go_meet
   have h13 : W.heap.size ≤ b13 := by first | exact hl6 | exact Nat.le_trans hEb.size hl6
   refine ⟨b13, Gs, gs2, Gl, gl2, rfl, hb7, ?_, h13, hS⟩
   first
    | exact ((HMb.out.cap.mod hE6 (fun _ _ => id)).mod hm7 (fun k hk e => by have := hk.2; omega)).mono (fun k hk => hk.1)
    | exact (HMb.out.mod hm7 (fun k hk e => by rcases hk with h | h; { have := h.2; omega }; { omega })).mono (fun k hk => by rcases hk with e | e; exact .inl e; exact .inr (by have := hE6.size; exact Nat.le_trans this e))
 obtain ⟨b13, Gs, gs2, Gl, gl2, rfl, hb7, hM7, h13, hE⟩ := hcut
 obtain ⟨w2, hw2⟩ : ∃ w2, wc = w2 := ⟨_, rfl⟩
 rw [hw2] at hb7 hM7 hE ⊢
 have HP2 := hJ (HPr.out.ext hE)
 have HB2 : Hid (PBS w2 x d q s r fi fs fl) := hJ (hE.blk HB.out id)
 have HM2 := hJ (HM.out.ext hE)
 have HY2 := hJ hb7
 have HH2 : Hid (zY w2 (fun k => ¬ Gt d q s r fv fq k ∧ True) (.slice Gs gn2 gs2) (.slice Gl gm2 gl2) y) := hJ (hM7.mono (fun k hk => ⟨fun e => by
  rcases hk with hk | hk
  · exact hk.1.1 e
  have := HPr.out.glt e; omega, trivial⟩))
 clear hw2 hb7 hM7 hE p2
 have hld := zF (P := Tryz.prog) (o := 0) (cs := y.cells (.slice Gs gn2 gs2) (.slice Gl gm2 gl2)) zA HY2.out rfl (fun j u hu => by rw [Nat.zero_add]; exact hu)
 go_wp2_with (refine zG rfl 34 _ rfl (.pointer (some ⟨b13, 0, none⟩)) _ rfl hld ?_)
 clear hld
 refine (zbE w2 _ y _ _ HH2.out (by rw [Hym.out]; omega) (by rw [Hyn.out]; omega)).mono ?_
 rintro e w3 ⟨sv3, lv3, rfl, hN, hE⟩
 obtain ⟨A3, c3, A4, c4, e3, e4⟩ := hN.forms
 rw [Hyn.out] at e3
 rw [Hym.out] at e4
 subst e3 e4
 have HP3 := hJ (HP2.out.more hE hN)
 have HB3 : Hid (PBS w3 x d q s r fi fs fl) := hJ (hE.blk HB2.out id)
 have HM3 := hJ (HM2.out.ext hE)
 have HY3 := hJ (hE.blk HY2.out id)
 have HH3 := hJ (HH2.out.mod hE (fun _ _ => id))
 have HN3 := hJ hN.ho
 have Hlow3 : Hid (∀ k, (Value.slice A3 gn2 c3).ownBlock = some k ∨ (Value.slice A4 gm2 c4).ownBlock = some k → N ≤ k) := hJ (fun k hk => by
  have := HM2.out.size
  rcases hk with hk | hk
  · have := hN.1.2 k hk; omega
  have := hN.2.2.2 k hk; omega)
 have Hap3 : Hid (∀ k, (Value.slice A3 gn2 c3).ownBlock = some k ∨ (Value.slice A4 gm2 c4).ownBlock = some k → ¬ Gt d q s r fv fq k) := hJ (fun k hk e => by
  have h1 := HP2.out.glt e
  rcases hk with hk | hk
  · have := hN.1.2 k hk; omega
  have := hN.2.2.2 k hk; omega)
 obtain ⟨b14, hb14⟩ : ∃ p, w3.heap.size = p := ⟨_, rfl⟩
 have hz : (w3.alloc (.cells zH.toArray 34)).heap[b14]? = some (.cells zH.toArray 34 (0, 0)) := by rw [← hb14]; exact heap_alloc_new w3 _
 have Hb14 := hJ hb14
 clear hE hN hb14
 go_wp2_with (rw [Hb14.out]; refine zD rfl 34 _ _ rfl 10 b14 0 (y.cells (.slice A3 gn2 c3) (.slice A4 gm2 c4)) rfl rfl zA _ zH (y.cells (.slice A3 gn2 c3) (.slice A4 gm2 c4)) hz rfl (by simp) (xS _ _ _ _ _ _ _) rfl ?_)
 intro w4 hb4 hm4 hs4
 have hE : Ext w3 w4 := ((Mod.refl (fun _ => False) w3).alloc (.cells zH.toArray 34)).trans hm4 (fun k hk e => by have := Hb14.out; omega)
 have HP4 := hJ (HP3.out.ext hE)
 have HB4 : Hid (PBS w4 x d q s r fi fs fl) := hJ (hE.blk HB3.out id)
 have HM4 := hJ (HM3.out.ext hE)
 have HY4 := hJ (hE.blk HY3.out id)
 have HH4 := hJ (HH3.out.mod hE (fun _ _ => id))
 have HN4 := hJ (HN3.out.mod hE (fun _ _ => id))
 have HI4 := hJ hb4
 clear hE hb4 hm4 hs4 hz HP2 HB2 HM2 HY2 HH2 HP3 HB3 HM3 HY3 HH3 HN3
 have p0 : w4.cell? ⟨x, 0, none⟩ = some (.pointer (some ⟨s, 0, none⟩)) := HB4.out.c.1
 have p2 : w4.cell? ⟨x, 2, none⟩ = some (.pointer (some ⟨r, 0, none⟩)) := HB4.out.c.2.2.1
 go_upto_region 14 with fail
 go_cut [7, 8] (fun s7 s8 wx => s7 = .int .i64 (yQ D g y).2.2 ∧ s8 = .int .i64 (yQ D g y).2.2 ∧ ∃ fv' gs' gl' fq' qs' ql', Pr wx N (fun k => k ≠ x ∧ ¬ InB (.slice A3 gn2 c3) (.slice A4 gm2 c4) k) s d fv' gs' gl' (yQ D g y).1 (yQ D g y).2.1 r q fq' qs' ql' (yQ D g y).1 (yQ D g y).2.1 ∧ PBS wx x d q s r fi fs fl ∧ wx.heap[b13]? = some (.cells (y.cells (.slice Gs gn2 gs2) (.slice Gl gm2 gl2)).toArray 34 (0, 0)) ∧ wx.heap[b14]? = some (.cells (y.cells (.slice A3 gn2 c3) (.slice A4 gm2 c4)).toArray 34 (0, 0)) ∧ zY wx (fun k => ¬ Gt d q s r fv' fq' k ∧ True) (.slice Gs gn2 gs2) (.slice Gl gm2 gl2) y ∧ ze4 wx (.slice A3 gn2 c3) (.slice A4 gm2 c4) y ∧ (∀ k, (Value.slice A3 gn2 c3).ownBlock = some k ∨ (Value.slice A4 gm2 c4).ownBlock = some k → ¬ Gt d q s r fv' fq' k) ∧ Mod (fun k => N ≤ k) w4 wx)
 case first =>
  refine wp_region_held_drew (S := fun W' => Mod (fun k => N ≤ k) w4 W' ∧ PBS W' x d q s r fi fs fl ∧ W'.heap[b13]? = some (.cells (y.cells (.slice Gs gn2 gs2) (.slice Gl gm2 gl2)).toArray 34 (0, 0)) ∧ W'.heap[b14]? = some (.cells (y.cells (.slice A3 gn2 c3) (.slice A4 gm2 c4)).toArray 34 (0, 0))) (by kernel_rfl) ⟨(Mod.refl _ w4).drew, HB4.out, HY4.out, HI4.out⟩ (fun hS => ?_)
  iterate 4
   first | refine tkI 0 (some 89) rfl rfl ?_ hS ?_ ?_ | refine tkI 1 (some 90) rfl rfl ?_ hS ?_ ?_ | refine tkI 2 (some 91) rfl rfl ?_ hS ?_ ?_ | refine tkI 3 (some 92) rfl rfl ?_ hS ?_ ?_
   rotate_left
   · rintro W' hW'
     obtain ⟨y0, y1, y2, y3⟩ := hW'.2.1.c
     go_simp
     try rfl
   try simp only [pL]
  refine tkH 4 (some 93) rfl rfl (.agg (y.cells (.slice A3 gn2 c3) (.slice A4 gm2 c4)).toArray) hS ?_ ?_
  · rintro W' hW'
    obtain ⟨y0, y1, y2, y3⟩ := hW'.2.1.c
    exact yD _ _ rfl (.pointer (some ⟨b14, 0, none⟩)) _ rfl (zF (P := Tryz.prog) (o := 0) (cs := y.cells (.slice A3 gn2 c3) (.slice A4 gm2 c4)) zA hW'.2.2.2 rfl (fun j u hu => by rw [Nat.zero_add]; exact hu))
  try simp only [pL]
  iterate 4
   first | refine tkI 6 (some 95) rfl rfl ?_ hS ?_ ?_ | refine tkI 7 (some 96) rfl rfl ?_ hS ?_ ?_ | refine tkI 8 (some 97) rfl rfl ?_ hS ?_ ?_ | refine tkI 9 (some 98) rfl rfl ?_ hS ?_ ?_
   rotate_left
   · rintro W' hW'
     obtain ⟨y0, y1, y2, y3⟩ := hW'.2.1.c
     go_simp
     try rfl
   try simp only [pL]
  refine tkH 10 (some 99) rfl rfl (.agg (y.cells (.slice Gs gn2 gs2) (.slice Gl gm2 gl2)).toArray) hS ?_ ?_
  · rintro W' hW'
    obtain ⟨y0, y1, y2, y3⟩ := hW'.2.1.c
    exact yD _ _ rfl (.pointer (some ⟨b13, 0, none⟩)) _ rfl (zF (P := Tryz.prog) (o := 0) (cs := y.cells (.slice Gs gn2 gs2) (.slice Gl gm2 gl2)) zA hW'.2.2.1 rfl (fun j u hu => by rw [Nat.zero_add]; exact hu))
  try simp only [pL]
  refine xJ 5 rfl (fun K hK => ?_)
  go_simp
  go_wp2_with fail
  refine (zqA w4.drew _ _ s d g y Ss qn sc Sl qm sd A3 gn2 c3 A4 gm2 c4 fv D (HP4.out.st) (HP4.out.dk.a.ext (Mod.refl _ w4).drew) (HP4.out.hs.mod (Mod.refl (fun _ => False) w4).drew (fun _ _ => id)) Hqn.out Hqm.out (HN4.out.mem.mod (Mod.refl (fun _ => False) w4).drew (fun _ _ => id)) Hyn.out Hym.out (fun k hk => ⟨fun e => Hap3.out k hk (.inl e), fun e => Hap3.out k hk (.inr (.inr (.inr (.inr (.inl e)))))⟩) hyl.1 (by omega) (by omega)).mono ?_
  rintro e w5 hOs
  obtain ⟨rfl, fv5, gs5, gl5, hP, hK⟩ := (HP4.out.ext (Mod.refl (fun _ => False) w4).drew).saveA hOs
  have HP5 := hJ hP
  have HB5 := hJ (hK.pbs HB4.out)
  have HY5 := hJ (hK.bx _ _ _ _ (by decide) (by decide) (by decide) (by decide) (by decide) HY4.out)
  have HI5 := hJ (hK.bx _ _ _ _ (by decide) (by decide) (by decide) (by decide) (by decide) HI4.out)
  have HH5 := hJ (hK.hm _ _ _ _ HH4.out)
  have hO := hK.ho _ _ _ HN4.out Hap3.out
  have HN5 := hJ hO.1
  have Hap5 := hJ hO.2
  have HM5 := hJ (hS.1.self hK.md)
  clear hOs hP hK hO
  have hX := And.intro HM5.out (And.intro HB5.out (And.intro HY5.out HI5.out))
  go_simp
  refine hK.out _ _ hX (fun hS => ?_)
  clear hK K hX
  try simp only [pL]
  refine xJ 11 rfl (fun K hK => ?_)
  go_simp
  go_wp2_with fail
  refine (r10_Save _ _ _ r q g y Qs qn qc Ql qm qd Gs gn2 gs2 Gl gm2 gl2 fq D HP5.out.qt HP5.out.dk.b HP5.out.hr Hqn.out Hqm.out HH5.out Hyn.out Hym.out (fun k hk => ⟨fun e => hk.1 (.inr (.inl e)), fun e => hk.1 (.inr (.inr (.inr (.inr (.inr e)))))⟩) hyl.1 Hg.out (by omega)).mono ?_
  rintro e w6 hOs
  obtain ⟨rfl, fq6, qs6, ql6, hP, hK⟩ := HP5.out.saveB hOs
  have HP6 := hJ hP
  have HB6 := hJ (hK.pbs HB5.out)
  have HY6 := hJ (hK.bx _ _ _ _ (by decide) (by decide) (by decide) (by decide) (by decide) HY5.out)
  have HI6 := hJ (hK.bx _ _ _ _ (by decide) (by decide) (by decide) (by decide) (by decide) HI5.out)
  have HH6 := hJ (hK.hm _ _ _ _ HH5.out)
  have hO := hK.ho _ _ _ HN5.out Hap5.out
  have HN6 := hJ hO.1
  have Hap6 := hJ hO.2
  have HM6 := hJ (hS.1.self hK.md)
  clear hOs hP hK hO
  have hX := And.intro HM6.out (And.intro HB6.out (And.intro HY6.out HI6.out))
  go_simp
  refine hK.out _ _ hX (fun hS => ?_)
  clear hK K hX
  try simp only [pL]
  iterate 2
   first | refine tkI 12 (some 7) rfl rfl ?_ hS ?_ ?_ | refine tkI 13 (some 8) rfl rfl ?_ hS ?_ ?_
   rotate_left
   · rintro W' hW'
     obtain ⟨y0, y1, y2, y3⟩ := hW'.2.1.c
     go_simp
     try rfl
   try simp only [pL]
  refine wpAnyH_done (by kernel_rfl) ?_ _
  go_wp2_with fail
  go_meet
  exact ⟨rfl, rfl, fv5, gs5, gl5, fq6, qs6, ql6, HP6.out, HB6.out, HY6.out, HI6.out, HH6.out, HN6.out, Hap6.out, HM6.out⟩
 obtain ⟨rfl, rfl, fv', gs', gl', fq', qs', ql', hP, hB, hY, hI, hH, hO, hap, hM⟩ := hcut
 obtain ⟨w7, hw7⟩ : ∃ w7, wc = w7 := ⟨_, rfl⟩
 rw [hw7] at hP hB hY hI hH hO hM ⊢
 have HP7 := hJ hP
 have HB7 := hJ hB
 have HY7 := hJ hY
 have HI7 := hJ hI
 have HH7 := hJ hH
 have HO7 := hJ hO
 have Hap7 := hJ hap
 have HM7 := hJ (HM4.out.self hM)
 clear hw7 hP hB hY hI hH hO hap hM p0 p2
 obtain ⟨cd, hcd⟩ : ∃ c, (yQ D g y).2.2 = c := ⟨_, rfl⟩
 rw [hcd]
 clear hcd
 have hl1 := zF (P := Tryz.prog) (o := 0) (cs := y.cells (.slice A3 gn2 c3) (.slice A4 gm2 c4)) zA HI7.out rfl (fun j u hu => by rw [Nat.zero_add]; exact hu)
 have hl2 := zF (P := Tryz.prog) (o := 0) (cs := y.cells (.slice Gs gn2 gs2) (.slice Gl gm2 gl2)) zA HY7.out rfl (fun j u hu => by rw [Nat.zero_add]; exact hu)
 go_wp2_with (first | (refine xO (by kernel_rfl) 34 _ rfl (.pointer (some ⟨b14, 0, none⟩)) _ rfl hl1 ?_) | (refine xO (by kernel_rfl) 34 _ rfl (.pointer (some ⟨b13, 0, none⟩)) _ rfl hl2 ?_))
 clear hl1 hl2
 refine (zl5 w7 _ _ y y _ _ _ _ HO7.out.mem HH7.out).mono ?_
 rintro e w8 ⟨rfl, hE⟩
 rw [zcG]
 have HP8 := hJ (HP7.out.ext hE)
 have HB8 : Hid (PBS w8 x d q s r fi fs fl) := hJ (hE.blk HB7.out id)
 have HO8 := hJ (HO7.out.mod hE (fun _ _ => id))
 have HM8 := hJ (HM7.out.ext hE)
 have hl1 := zF (P := Tryz.prog) (o := 0) (cs := y.cells (.slice A3 gn2 c3) (.slice A4 gm2 c4)) zA (hE.blk HI7.out id) rfl (fun j u hu => by rw [Nat.zero_add]; exact hu)
 clear hE
 go_wp2_with (refine zG rfl 34 _ rfl (.pointer (some ⟨b14, 0, none⟩)) _ rfl hl1 ?_)
 clear hl1
 refine (zgL w8 _ _ y HO8.out (by rw [Hym.out]; omega) (by rw [Hyn.out]; omega)).mono ?_
 rintro e w9 ⟨rfl, hM⟩
 have hP9 := HP8.out.spoil hM Hap7.out
 have HB9 : Hid (PBS w9 x d q s r fi fs fl) := hJ (hM.blk HB8.out (fun e => by
  rcases e with e | e
  · exact zT HO8.out.1 e HB8.out (by decide) rfl
  exact zT HO8.out.2.1 e HB8.out (by decide) rfl))
 have HP9 := hJ hP9
 have HM9 := hJ ((HM7.out.ext (Mod.refl _ w7)).self (Mod.refl _ w7))
 have HMz : Hid (Mod (fun k => N ≤ k) w w9) := hJ (HM8.out.self (hM.mono (fun k _ e => Hlow3.out k e)))
 clear hP9 hM HM9
 go_wp2
 go_ret
 exact ⟨rfl, by rw [Hst.out]; exact ⟨_, _, _, _, _, _, _, _, HP9.out, HB9.out⟩, HMz.out⟩
end Go.Proofs.YtjhnlncgmejkcaaGreat
