/-
 Layer 22 (node): (*Node).Machine and Raft: one of one's own. Conditions: as each theorem names them.
-/
import Derived.Test.YtjbkjhhjofeldaaGreatG44
import Derived.Test.YtjbkjhhjofeldaaGreatG45
set_option maxRecDepth 100000
set_option maxHeartbeats 2000000
namespace Go.Proofs.YtjbkjhhjofeldaaGreat
set_option linter.unusedSimpArgs false
set_option linter.unusedVariables false
open Go.RowKit
theorem sca_ses:Sca Tryz.prog 39:=⟨fun w=>by kernel_rfl,by kernel_rfl⟩
theorem zeQ (w0 w:World) (n:Nat) (V:NV) (N:yB) (hN:yD w0 w n V N) (hp:N.mach.pairs.length≤1000000) (hx:N.mach.sess.length≤1000000):
  Calls Tryz.prog 12 #[.pointer (some ⟨n,0,none⟩)] w fun e w'=>∃ pv xv,e=.returned (.agg #[pv,xv])∧zg7 w w' pv N.mach.pairs∧zj0 w w' xv N.mach.sess∧Ext w w':=by
 obtain ⟨b,hb0⟩:∃ b,w.heap.size=b:=⟨_,rfl⟩
 have hcp:=fun W (hE:Ext w W)=>zeK W _ V.pv N.mach.pairs (hN.ext hE).p.pp.prs hp
 have hcs:=fun W (hE:Ext w W)=>zj6 W _ V.xv N.mach.sess (hN.ext hE).p.xx.ses hx
 obtain ⟨Hcp0,Hcs0,HN⟩:=hJ3 hcp hcs hN
 clear hcp hcs hN hp hx
 go_enter Tryz.func12,Tryz.ntmps12
 go_upto_region 1 with fail
 obtain ⟨W1,hW1⟩:∃ W,w.alloc (.cells [Value.slice none 0 0,.slice none 0 0].toArray 41)=W:=⟨_,rfl⟩
 have hE1:Ext w W1:=hW1▸((Mod.refl _ w).alloc _)
 have hb1:W1.heap[b]? = some (.cells [Value.slice none 0 0,.slice none 0 0].toArray 41 (0,0)):=hb0▸hW1▸zI _ _
 rw[hW1]
 clear hW1
 obtain ⟨Wd,hWd⟩:∃ W,W1.drew=W:=⟨_,rfl⟩
 have hEd:Ext W1 Wd:=hWd▸(Mod.refl _ W1).drew
 have HE1:=hJ (hE1.ext hEd)
 have Hb1:=hJ (hEd.blk hb1 id)
 have HNd:=hJ (HN.out.ext (hE1.ext hEd))
 have Hcp:=hJ (fun W (hE:Ext Wd W)=>Hcp0.out W (HE1.out.ext hE))
 have Hcs:=hJ (fun W (hE:Ext Wd W)=>Hcs0.out W (HE1.out.ext hE))
 clear hE1 hb1 hEd Hcp0 Hcs0
 go_wp2_with fail
 refine yZ (fun W=>Ext Wd W) 13 (by show Ext Wd W1.drew;rw[hWd];exact Mod.refl _ _) (fun hS=>?_)
 rw[hWd] at hS ⊢
 clear hWd
 iterate 4
  (first|refine tP 0 3 ?_ hS (fun W'=>?_) ?_|refine tP 1 4 ?_ hS (fun W'=>?_) ?_|refine tP 2 5 ?_ hS (fun W'=>?_) ?_|refine tP 3 6 ?_ hS (fun W'=>?_) ?_);rotate_left;· go_simp;try rfl
  try simp only[pL]
 refine tU 4 7 (V.pv) hS n 43 (fun W' hW'=>zL zq5 (hW'.blk HNd.out.box id) rfl) ?_
 try simp only[pL]
 iterate 4
  (first|refine tP 6 9 ?_ hS (fun W'=>?_) ?_|refine tP 7 10 ?_ hS (fun W'=>?_) ?_|refine tP 8 11 ?_ hS (fun W'=>?_) ?_|refine tP 9 12 ?_ hS (fun W'=>?_) ?_);rotate_left;· go_simp;try rfl
  try simp only[pL]
 refine tU 10 13 (V.xv) hS n 44 (fun W' hW'=>zL sca_ses (hW'.blk HNd.out.box id) rfl) ?_
 try simp only[pL]
 refine jP 5 (fun K hK=>?_)
 go_simp
 go_wp2_with fail
 refine (Hcp.out _ hS).mono ?_
 rintro e w2 ⟨v2,rfl,hN2,hE2⟩
 obtain ⟨A2,c2,rfl⟩:=zC hN2.1
 have HN2:=hJ (zaQ hN2 (HE1.out.ext hS).size)
 clear hN2
 have hX:=hS.ext hE2
 go_simp
 refine hK.out _ _ hX (fun hS=>?_)
 clear hK K hX
 try simp only[pL]
 refine jP 11 (fun K hK=>?_)
 go_simp
 go_wp2_with fail
 refine (Hcs.out _ hS).mono ?_
 rintro e w3 ⟨v3,rfl,hN3,hE3⟩
 obtain ⟨A3,c3,rfl⟩:=zC hN3.1
 have HN3:=hJ (show zj0 w w3 (.slice A3 _ c3) N.mach.sess from ⟨hN3.1,hN3.2.1,fun g hg=>Nat.le_trans (HE1.out.ext hS).size (hN3.2.2 g hg)⟩)
 have HP3:=hJ (xV HN2.out hE3 (fun _ _=>id))
 clear hN3
 have hX:=hS.ext hE3
 go_simp
 refine hK.out _ _ hX (fun hS=>?_)
 clear hK K hX
 try simp only[pL]
 refine tP 12 15 ?_ hS (fun W'=>?_) ?_;rotate_left;· go_simp;try rfl
 try simp only[pL]
 refine xN 13 rfl ?_
 simp only[List.drop_succ_cons,List.drop_zero]
 have Hz:=hJ (hS.blk Hb1.out id)
 have HEz:=hJ (HE1.out.ext hS)
 clear hE2 hE3 hS
 go_wp2_with (refine zF ?_;refine stQ rfl 41 _ _ rfl 2 b 0 (.agg #[.slice A2 N.mach.pairs.length c2,.slice A3 N.mach.sess.length c3]) [.slice A2 N.mach.pairs.length c2,.slice A3 N.mach.sess.length c3] zcL.2 _ _ [.slice A2 N.mach.pairs.length c2,.slice A3 N.mach.sess.length c3] Hz.out rfl ?_;intro W4 hbW4 hmW4 hsW4)
 refine bodyPost_ret (zaZ rfl _ _ b 41 [.slice A2 N.mach.pairs.length c2,.slice A3 N.mach.sess.length c3] zcL rfl hbW4 rfl) rfl ⟨_,_,rfl,xV HP3.out hmW4 (fun g hg=>zG HP3.out.1 hg Hz.out (by decide)),?_,Mod.toExt ((Ext.mod HEz.out (zD w.heap.size)).trans hmW4 (fun k _ e=>by unfold zD;omega))⟩
 exact ⟨zN HN3.out.1 hmW4 (fun g hg=>zG HN3.out.1 hg Hz.out (by decide)),HN3.out.2⟩
theorem n_Raft (w0 w:World) (n:Nat) (V:NV) (N:yB) (hN:yD w0 w n V N) (hsn:N.r.hard.snap.length≤1000000) (hln:N.r.hard.log.length≤1000000) (hrn:N.rds.length≤1000):
  Calls Tryz.prog 20 #[.pointer (some ⟨n,0,none⟩)] w fun e w'=>∃ sv lv rv,e=.returned (.agg (N.r.cells sv lv rv).toArray)∧Ext w w':=by
 obtain ⟨b,hb0⟩:∃ b,w.heap.size=b:=⟨_,rfl⟩
 obtain ⟨q,hq0⟩:∃ q,b+1=q:=⟨_,rfl⟩
 have hbc:=fun W (hE:Ext w W)=>zdZ W _ V.sv N.r.hard.snap (hN.ext hE).p.rh.hard.mem.1 hsn
 have hec:=fun W (hE:Ext w W)=>zeZ W _ V.lv N.r.hard.log (hN.ext hE).p.rh.hard.mem.2 hln
 have hrc:=fun W (hE:Ext w W)=>zl8 W (fun _=>True) V.rv N.rds (Sl.of_own (hN.ext hE).p.rh.reads.1 (fun _ _=>trivial)) hrn
 obtain ⟨As,sn,cs,hsv⟩:∃ A n c,V.sv=.slice A n c:=⟨_,_,zC hN.p.rh.hard.1.1 |>.choose_spec⟩
 obtain ⟨Al,ln,cl,hlv⟩:∃ A n c,V.lv=.slice A n c:=⟨_,_,zC hN.p.rh.hard.2.1 |>.choose_spec⟩
 obtain ⟨Ar,rn,cr,hrv⟩:∃ A n c,V.rv=.slice A n c:=⟨_,_,zC hN.p.rh.reads.1 |>.choose_spec⟩
 have hnl:=fun W (hE:Ext w W)=>zcM (hN.ext hE).box
 rw[hsv] at hbc hnl
 rw[hlv] at hec hnl
 rw[hrv] at hrc hnl
 have Hnl:=hJ hnl
 clear hsv hlv hrv hnl
 obtain ⟨Hbc,Hec,Hrc,HN⟩:=hJ4 hbc hec hrc hN
 clear hbc hec hrc hN hsn hln hrn
 go_enter Tryz.func20,Tryz.ntmps20
 go_upto_region 1 with fail
 obtain ⟨W0,hW0⟩:∃ W,w.alloc (.cells rZ.toArray 65)=W:=⟨_,rfl⟩
 have hE0:Ext w W0:=hW0▸((Mod.refl _ w).alloc _)
 have hz0:W0.heap[b]? = some (.cells rZ.toArray 65 (0,0)):=hb0▸hW0▸zI _ _
 have hs0:W0.heap.size=q:=by rw[←hW0,←hq0,←hb0];exact Array.size_push _
 rw[hW0]
 clear hW0
 obtain ⟨HE0,Hz0,Hs0⟩:=hJ3 hE0 hz0 hs0
 clear hE0 hz0 hs0
 go_upto_region 2 with (first
  | (refine zK ?_;refine lD 65 n 3 (Hnl.out _ HE0.out) ?_)
  | (refine zF ?_;refine stQ rfl 65 _ _ rfl 40 W0.heap.size 0 (.agg (N.r.cells (.slice As sn cs) (.slice Al ln cl) (.slice Ar rn cr)).toArray) (N.r.cells (.slice As sn cs) (.slice Al ln cl) (.slice Ar rn cr)) yA.2 _ rZ (N.r.cells (.slice As sn cs) (.slice Al ln cl) (.slice Ar rn cr)) (zI W0 _) rfl ?_;intro W1 hbW1 hmW1 hsW1))
 have hE1:Ext W0 W1:=Mod.toExt (((Mod.refl (zD W0.heap.size) W0).alloc _).trans hmW1 (fun k _ e=>by unfold zD;omega))
 rw[Hs0.out] at hbW1 ⊢
 have HE1:=hJ (HE0.out.ext hE1)
 have Hb1:=hJ hbW1
 have Hz1:=hJ (hE1.blk Hz0.out id)
 clear hbW1 hmW1 hsW1 hE1
 go_wp2_with fail
 refine yZ (fun W=>Ext W1 W∧W.heap[q]? = some (.cells (N.r.cells (.slice As sn cs) (.slice Al ln cl) (.slice Ar rn cr)).toArray 65 (0,0))) 13 ⟨(Mod.refl (fun _=>False) W1).drew,((Mod.refl (fun _=>False) W1).drew).blk Hb1.out id⟩ (fun hS=>?_)
 iterate 2
  (first|refine tP 0 8 ?_ hS (fun W'=>?_) ?_|refine tP 1 9 ?_ hS (fun W'=>?_) ?_);rotate_left;· go_simp;try rfl
  try simp only[pL]
 refine zkH 2 (some 10) ?_ hS (Or.inl ⟨by kernel_rfl,?_⟩) ?_;rotate_left;· rintro W' ⟨hX1,hb9⟩;have p9:W'.cell? ⟨q,9,none⟩=some (.slice As sn cs):=zA hb9 rfl;have p10:W'.cell? ⟨q,10,none⟩=some (.slice Al ln cl):=zA hb9 rfl;have p39:W'.cell? ⟨q,39,none⟩=some (.slice Ar rn cr):=zA hb9 rfl;go_simp;try rfl
 try simp only[pL]
 iterate 2
  (first|refine tP 4 12 ?_ hS (fun W'=>?_) ?_|refine tP 5 13 ?_ hS (fun W'=>?_) ?_);rotate_left;· go_simp;try rfl
  try simp only[pL]
 refine zkH 6 (some 14) ?_ hS (Or.inl ⟨by kernel_rfl,?_⟩) ?_;rotate_left;· rintro W' ⟨hX1,hb9⟩;have p9:W'.cell? ⟨q,9,none⟩=some (.slice As sn cs):=zA hb9 rfl;have p10:W'.cell? ⟨q,10,none⟩=some (.slice Al ln cl):=zA hb9 rfl;have p39:W'.cell? ⟨q,39,none⟩=some (.slice Ar rn cr):=zA hb9 rfl;go_simp;try rfl
 try simp only[pL]
 refine tP 8 16 ?_ hS (fun W'=>?_) ?_;rotate_left;· go_simp;try rfl
 try simp only[pL]
 refine zkH 9 (some 17) ?_ hS (Or.inl ⟨by kernel_rfl,?_⟩) ?_;rotate_left;· rintro W' ⟨hX1,hb9⟩;have p9:W'.cell? ⟨q,9,none⟩=some (.slice As sn cs):=zA hb9 rfl;have p10:W'.cell? ⟨q,10,none⟩=some (.slice Al ln cl):=zA hb9 rfl;have p39:W'.cell? ⟨q,39,none⟩=some (.slice Ar rn cr):=zA hb9 rfl;go_simp;try rfl
 try simp only[pL]
 refine jP 3 (fun K hK=>?_)
 go_simp
 go_wp2_with fail
 refine (Hbc.out _ (HE1.out.ext hS.1)).mono ?_
 rintro e w2 ⟨v2,rfl,hN2,hE2⟩
 obtain ⟨A2,c2,rfl⟩:=zC hN2.1
 clear hN2
 have hX:=And.intro (hS.1.ext hE2) (hE2.blk hS.2 id)
 go_simp
 refine hK.out _ _ hX (fun hS=>?_)
 clear hK K hX
 try simp only[pL]
 iterate 2
  (first|refine tP 11 19 ?_ hS (fun W'=>?_) ?_|refine tP 12 20 ?_ hS (fun W'=>?_) ?_);rotate_left;· go_simp;try rfl
  try simp only[pL]
 refine jP 7 (fun K hK=>?_)
 go_simp
 go_wp2_with fail
 refine (Hec.out _ (HE1.out.ext hS.1)).mono ?_
 rintro e w3 ⟨v3,rfl,hN3,hE3⟩
 obtain ⟨A3,c3,rfl⟩:=hN3.form
 clear hN3
 have hX:=And.intro (hS.1.ext hE3) (hE3.blk hS.2 id)
 go_simp
 refine hK.out _ _ hX (fun hS=>?_)
 clear hK K hX
 try simp only[pL]
 refine jP 10 (fun K hK=>?_)
 go_simp
 go_wp2_with fail
 refine (Hrc.out _ (HE1.out.ext hS.1)).mono ?_
 rintro e w4 ⟨v4,rfl,hN4,hE4⟩
 obtain ⟨A4,c4,rfl⟩:=zC hN4.1
 clear hN4
 have hX:=And.intro (hS.1.ext hE4) (hE4.blk hS.2 id)
 go_simp
 refine hK.out _ _ hX (fun hS=>?_)
 clear hK K hX
 try simp only[pL]
 refine xN 13 rfl ?_
 simp only[List.drop_succ_cons,List.drop_zero]
 have hE4:=HE1.out.ext hS.1
 have hb4:=hS.2
 have Hz4:=hJ (hS.1.blk Hz1.out id)
 have p9:w4.cell? ⟨q,9,none⟩=some _:=zA hb4 rfl
 have p10:w4.cell? ⟨q,10,none⟩=some _:=zA hb4 rfl
 have p39:w4.cell? ⟨q,39,none⟩=some _:=zA hb4 rfl
 have f9:w4.frozen? ⟨q,9,none⟩=false:=zB 9 hb4
 have f10:w4.frozen? ⟨q,10,none⟩=false:=zB 10 hb4
 have f39:w4.frozen? ⟨q,39,none⟩=false:=zB 39 hb4
 obtain ⟨Hb4,HE4⟩:=hJ2 hb4 hE4
 clear hb4 hE4 hS hE2 hE3
 go_upto_region 3 with fail
 obtain ⟨W5,hW5⟩:∃ W5,((w4.setCell ⟨q,9,none⟩ (.slice A2 N.r.hard.snap.length c2)).setCell ⟨q,10,none⟩ (.slice A3 N.r.hard.log.length c3)).setCell ⟨q,39,none⟩ (.slice A4 N.rds.length c4)=W5:=⟨_,rfl⟩
 have hb5:W5.heap[q]? = some (.cells (N.r.cells (.slice A2 N.r.hard.snap.length c2) (.slice A3 N.r.hard.log.length c3) (.slice A4 N.rds.length c4)).toArray 65 (0,0)):=hW5▸jA (jA (jA Hb4.out 9 (.slice A2 N.r.hard.snap.length c2)) 10 (.slice A3 N.r.hard.log.length c3)) 39 (.slice A4 N.rds.length c4)
 have hm5:Mod (fun k=>k=q) w4 W5:=hW5▸zM (zM (zM (Mod.refl _ w4) 9 _) 10 _) 39 _
 rw[hW5]
 clear hW5
 have HE5:=hJ (Mod.toExt ((Ext.mod HE4.out (zD w.heap.size)).trans hm5 (fun k _ e=>by unfold zD;omega)))
 have Hz5:=hJ (hm5.blk Hz4.out (fun e=>by omega))
 have Hb5:=hJ hb5
 clear hm5 p9 p10 p39 f9 f10 f39 hb5
 go_wp2_with (first
  | (refine zK ?_;refine lD 65 q 0 (yY Hb5.out) ?_)
  | (refine zF ?_;refine stQ rfl 65 _ _ rfl 40 b 0 (.agg (N.r.cells (.slice A2 N.r.hard.snap.length c2) (.slice A3 N.r.hard.log.length c3) (.slice A4 N.rds.length c4)).toArray) (N.r.cells (.slice A2 N.r.hard.snap.length c2) (.slice A3 N.r.hard.log.length c3) (.slice A4 N.rds.length c4)) yA.2 _ rZ (N.r.cells (.slice A2 N.r.hard.snap.length c2) (.slice A3 N.r.hard.log.length c3) (.slice A4 N.rds.length c4)) Hz5.out rfl ?_;intro W6 hbW6 hmW6 hsW6))
 exact bodyPost_ret (zaZ rfl _ _ b 65 (N.r.cells (.slice A2 N.r.hard.snap.length c2) (.slice A3 N.r.hard.log.length c3) (.slice A4 N.rds.length c4)) yA rfl hbW6 rfl) rfl ⟨_,_,_,rfl,Mod.toExt ((Ext.mod HE5.out (zD w.heap.size)).trans hmW6 (fun k _ e=>by unfold zD;omega))⟩
def Cals (w:World) (T:Nat→Prop) (v:Value) (l:List zW):Prop:=Sl w T 10 v l.length (l.flatMap zW.cells)∧∀ x∈l,x.ok
theorem Cals.mod {w w':World} {S T:Nat→Prop} {v:Value} {l:List zW} (h:Cals w T v l) (hm:Mod S w w') (hd:∀ g,T g→¬ S g):Cals w' T v l:=⟨h.1.mod hm hd,h.2⟩
theorem Cals.form {w:World} {T:Nat→Prop} {v:Value} {l:List zW} (h:Cals w T v l):∃ A c,v=.slice A l.length c:=by
  obtain ⟨⟨_,A,c,e,_⟩,_⟩:=h
  exact ⟨A,c,e⟩
theorem Cals.at {w:World} {T:Nat→Prop} {A:Option Addr} {n c:Nat} {l:List zW} (h:Cals w T (.slice A n c) l) {i:Nat} (hi:i<n):
    ∃ g off x,A=some ⟨g,off,none⟩∧T g∧l[i]? = some x∧x.ok∧∀ j u,x.cells[j]? = some u→w.cell? ⟨g,off+i*10+j,none⟩=some u:=by
  obtain ⟨⟨hl,A',c',e,hn,hc,hx⟩,hf⟩:=h
  injection e with e1 e2 e3;subst e1;subst e2;subst e3
  obtain ⟨g,off,rfl,hT,hcell⟩:=hx (by omega)
  have hget:l[i]? = some l[i]:=List.getElem?_eq_getElem hi
  refine ⟨g,off,l[i],rfl,hT,hget,hf _ (List.getElem_mem hi),fun j u hu=>?_⟩
  have hj:j<10:=(List.getElem?_eq_some_iff.1 hu).1
  rw[Nat.add_assoc]
  exact hcell _ u (by rw[zdI (k:=10) (fun _=>rfl) l i j _ hget hj];exact hu)
def um4 (n:Int):Int:=n % 18446744073709551616 % 4
theorem um4_lt (n:Int):0≤um4 n∧um4 n<4:=by unfold um4;omega
theorem um4_walk (n:Int):(IntKind.u64.wrap n).tmod 4=um4 n:=by
  have h1:IntKind.u64.wrap n=n % 18446744073709551616:=by
    unfold IntKind.wrap
    first|rfl|(simp;done)
  unfold um4
  rw[h1,Int.tmod_eq_emod_of_nonneg (by omega)]
theorem lastS_in {l:List zR} {B:Int} (hB:0≤B) (h:∀ s∈l,0≤s.seq∧s.seq≤B) (k:Int):0≤(yJ l k).1∧(yJ l k).1≤B:=by
  induction l with
  | nil=>exact ⟨Int.le_refl _,hB⟩
  | cons s l ih=>
    rw[yJ]
    split
    · exact h s (by simp)
    · exact ih (fun t ht=>h t (by simp[ht]))
theorem zhZ {m:jK} (h:jU m=true) (k:Int):0≤(yJ m.sess k).1∧(yJ m.sess k).1≤1099511627776:=by
  unfold jU at h
  rw[Bool.and_eq_true] at h
  refine lastS_in (by omega) (fun s hs=>?_) k
  have h1:=((zaH m.sess).1 h.2).1 s hs
  unfold zaE zeX at h1
  simp only[Bool.and_eq_true,decide_eq_true_eq] at h1
  omega
def zlF (m:jK) (c:zW):zW:=⟨1+um4 c.client,(yJ m.sess (1+um4 c.client)).1+1,c.cmd⟩
theorem zrA {m:jK} (h:jU m=true) {c:zW} (hc:c.ok):(zlF m c).ok:=by
  have h1:=um4_lt c.client
  have h2:=zhZ h (1+um4 c.client)
  refine ⟨?_,?_,hc.2.2⟩
  · show -9223372036854775808≤1+um4 c.client∧1+um4 c.client≤9223372036854775807
    omega
  · show -9223372036854775808≤(yJ m.sess (1+um4 c.client)).1+1∧(yJ m.sess (1+um4 c.client)).1+1≤9223372036854775807
    omega
theorem zmO (m:jK) (c:zW):(yJ m.sess (zlF m c).client).1<(zlF m c).seq:=by
  show (yJ m.sess (1+um4 c.client)).1<(yJ m.sess (1+um4 c.client)).1+1
  omega
theorem l_next (m:jK) (c:zW) (pv xv:Value) (w:World) (T:Nat→Prop) (hS:Ses w T xv m.sess) (hpx:pv.oneCell'=true∧xv.oneCell'=true) (hm:jU m=true):
  Calls Tryz.prog 11 #[.agg #[pv,xv],.agg #[.int .i64 c.client,.int .i64 c.seq,.int .i64 c.cmd.kind,.string c.cmd.key,.int .i64 c.cmd.old.kind,.float .f64 c.cmd.old.num,.string c.cmd.old.text,.int .i64 c.cmd.val.kind,.float .f64 c.cmd.val.num,.string c.cmd.val.text]] w fun e w'=>e=.returned (.agg (zlF m c).cells.toArray)∧Ext w w':=by
 obtain ⟨b,hb⟩:∃ b,w.heap.size=b:=⟨_,rfl⟩
 have hum:=um4_lt c.client
 have hq0:=um4_walk c.client
 have hla:=zhZ hm (1+um4 c.client)
 obtain ⟨N,hN⟩:∃ N,zlF m c=N:=⟨_,rfl⟩
 have hNe:N=⟨1+um4 c.client,(yJ m.sess (1+um4 c.client)).1+1,c.cmd⟩:=hN▸rfl
 rw[hN]
 clear hN
 obtain ⟨q,hq⟩:∃ q,um4 c.client=q:=⟨_,rfl⟩
 rw[hq] at hum hq0 hla hNe
 obtain ⟨K,hK⟩:∃ K,1+q=K:=⟨_,rfl⟩
 have hKb:1≤K∧K≤4:=by omega
 rw[hK] at hla hNe
 have hrl:=fun W (hE:Ext w W)=>r_last W T pv xv m.sess K (hS.ext hE)
 obtain ⟨ls,hls⟩:∃ x,yJ m.sess K=x:=⟨_,rfl⟩
 rw[hls] at hrl hla hNe
 obtain ⟨l1,l2⟩:=ls
 obtain ⟨L,hL⟩:∃ L,l1+1=L:=⟨_,rfl⟩
 have hNe2:N=⟨K,L,c.cmd⟩:=by rw[hNe];show (⟨K,l1+1,c.cmd⟩:zW)=_;rw[hL]
 have hLb:1≤L∧L≤1099511627777:=by have:=hla;simp only at this;omega
 have hl1:0≤l1∧l1≤1099511627776:=hla
 obtain ⟨Hrl,HK,HL,HNe⟩:=hJ4 hrl hK hL hNe2
 obtain ⟨hum0,hum1⟩:=hum
 obtain ⟨hl10,hl11⟩:=hl1
 clear hrl hq hla hNe hNe2 hls hS hm hK hL
 go_enter Tryz.func11,Tryz.ntmps11
 go_upto_region 1 with fail
 obtain ⟨W1,hW1⟩:∃ W,((w.alloc (.cells [pv,xv].toArray 41)).alloc (.cells c.cells.toArray 29)).alloc (.cells [Value.int .i64 0,.int .i64 0,.int .i64 0,.string ⟨#[]⟩,.int .i64 0,.float .f64 0,.string ⟨#[]⟩,.int .i64 0,.float .f64 0,.string ⟨#[]⟩].toArray 29)=W:=⟨_,rfl⟩
 have h3:=zdN w (.cells [pv,xv].toArray 41) (.cells c.cells.toArray 29) (.cells [Value.int .i64 0,.int .i64 0,.int .i64 0,.string ⟨#[]⟩,.int .i64 0,.float .f64 0,.string ⟨#[]⟩,.int .i64 0,.float .f64 0,.string ⟨#[]⟩].toArray 29)
 have hE1:Ext w W1:=hW1▸((((Mod.refl _ w).alloc _).alloc _).alloc _)
 rw[hW1,hb] at h3
 first|rw[hW1]|skip
 clear hW1
 have HE1:=hJ hE1
 have Hm1:=hJ h3.1
 have Hc1:=hJ h3.2.1
 have Hz1:=hJ h3.2.2
 clear hE1 h3
 have p0:W1.cell? ⟨b+1,0,none⟩=some (.int .i64 c.client):=zA Hc1.out rfl
 go_upto_region 2 with (rw[HK.out];refine zF ?_;refine stQ rfl 3 _ _ rfl 1 (b+1) 0 (.int .i64 K) [.int .i64 K] zQ.size _ _ ([Value.int .i64 K,.int .i64 c.seq,.int .i64 c.cmd.kind,.string c.cmd.key,.int .i64 c.cmd.old.kind,.float .f64 c.cmd.old.num,.string c.cmd.old.text,.int .i64 c.cmd.val.kind,.float .f64 c.cmd.val.num,.string c.cmd.val.text]) Hc1.out rfl ?_;intro W2 hbW2 hmW2 hsW2)
 have hE2:Ext w W2:=Mod.toExt ((Ext.mod HE1.out (zD w.heap.size)).trans hmW2 (fun k _ e=>by unfold zD;omega))
 have HE2:=hJ hE2
 have Hm2:=hJ (hmW2.blk Hm1.out (fun e=>by omega))
 have Hz2:=hJ (hmW2.blk Hz1.out (fun e=>by omega))
 have Hc2:=hJ hbW2
 have Hzs2:=hJ (Array.getElem?_eq_some_iff.mp Hz2.out).1
 clear p0 hE2 hbW2 hmW2 hsW2 hq0 hum0 hum1
 go_upto_region 3 with (first
  | (refine zK ?_;first
    | (refine lD 41 b 0 (ld0 (cs:=[pv,xv]) zcL Hm2.out) ?_)
    | (refine lD 3 (b+1) 0 (zL zQ Hc2.out rfl) ?_))
  | (go_at_call 49;refine (Hrl.out _ HE2.out).mono ?_;rintro e w3 ⟨rfl,hE3⟩)
  | (refine zF ?_;refine stQ rfl 48 _ _ rfl 4 w3.heap.size 0 (.agg #[.int .i64 l2.code,.int .i64 l2.val.kind,.float .f64 l2.val.num,.string l2.val.text]) l2.cells yQ.2 _ [Value.int .i64 0,.int .i64 0,.float .f64 0,.string ⟨#[]⟩] l2.cells (zI w3 _) rfl ?_;intro W4 hbW4 hmW4 hsW4))
 have hE4:Ext W2 W4:=hE3.ext (Mod.toExt (((Mod.refl (zD w3.heap.size) w3).alloc _).trans hmW4 (fun k _ e=>by unfold zD;omega)))
 have HE4:=hJ (HE2.out.ext hE4)
 have Hc4:=hJ (hE4.blk Hc2.out id)
 have Hz4:=hJ (hE4.blk Hz2.out id)
 clear hE3 hbW4 hmW4 hsW4 hE4
 go_upto_region 4 with (rw[HL.out];refine zF ?_;refine stQ rfl 3 _ _ rfl 1 (b+1) 1 (.int .i64 L) [.int .i64 L] zQ.size _ _ ([Value.int .i64 K,.int .i64 L,.int .i64 c.cmd.kind,.string c.cmd.key,.int .i64 c.cmd.old.kind,.float .f64 c.cmd.old.num,.string c.cmd.old.text,.int .i64 c.cmd.val.kind,.float .f64 c.cmd.val.num,.string c.cmd.val.text]) Hc4.out rfl ?_;intro W5 hbW5 hmW5 hsW5)
 have HE5:=hJ (Mod.toExt ((Ext.mod HE4.out (zD w.heap.size)).trans hmW5 (fun k _ e=>by unfold zD;omega)))
 have Hz5:=hJ (hmW5.blk Hz4.out (fun e=>by omega))
 have Hc5:=hJ hbW5
 clear hbW5 hmW5 hsW5
 go_wp2_with (first
  | (refine zK ?_;refine lD 29 (b+1) 0 (ld0 (cs:=[Value.int .i64 K,.int .i64 L,.int .i64 c.cmd.kind,.string c.cmd.key,.int .i64 c.cmd.old.kind,.float .f64 c.cmd.old.num,.string c.cmd.old.text,.int .i64 c.cmd.val.kind,.float .f64 c.cmd.val.num,.string c.cmd.val.text]) zV Hc5.out) ?_)
  | (refine zF ?_;refine stQ rfl 29 _ _ rfl 10 (b+1+1) 0 (.agg ([Value.int .i64 K,.int .i64 L,.int .i64 c.cmd.kind,.string c.cmd.key,.int .i64 c.cmd.old.kind,.float .f64 c.cmd.old.num,.string c.cmd.old.text,.int .i64 c.cmd.val.kind,.float .f64 c.cmd.val.num,.string c.cmd.val.text]).toArray) ([Value.int .i64 K,.int .i64 L,.int .i64 c.cmd.kind,.string c.cmd.key,.int .i64 c.cmd.old.kind,.float .f64 c.cmd.old.num,.string c.cmd.old.text,.int .i64 c.cmd.val.kind,.float .f64 c.cmd.val.num,.string c.cmd.val.text]) zV.2 _ _ ([Value.int .i64 K,.int .i64 L,.int .i64 c.cmd.kind,.string c.cmd.key,.int .i64 c.cmd.old.kind,.float .f64 c.cmd.old.num,.string c.cmd.old.text,.int .i64 c.cmd.val.kind,.float .f64 c.cmd.val.num,.string c.cmd.val.text]) Hz5.out rfl ?_;intro W6 hbW6 hmW6 hsW6))
 rw[HNe.out]
 exact bodyPost_ret (zaZ rfl _ _ (b+1+1) 29 [Value.int .i64 K,.int .i64 L,.int .i64 c.cmd.kind,.string c.cmd.key,.int .i64 c.cmd.old.kind,.float .f64 c.cmd.old.num,.string c.cmd.old.text,.int .i64 c.cmd.val.kind,.float .f64 c.cmd.val.num,.string c.cmd.val.text] zV rfl hbW6 rfl) rfl ⟨rfl,Mod.toExt ((Ext.mod HE5.out (zD w.heap.size)).trans hmW6 (fun k _ e=>by unfold zD;omega))⟩
theorem kdo (l:List zJ) (c:jV) (hl:l.length≤1000000) (hcv:c.val.ok) {L:List zJ} {r:yH} (hr:doP l c=(L,r)):KDo l c r:=fun W T v h=>(zi1 W T v l c h hl hcv hr).mono fun e w' ⟨v',h1,h2,h3⟩=>⟨v',h1,h3⟩
theorem call_get {N:yB} {k:Nat} (hG:za3 N k) (hk:k≤50000) {c:zW} (hc:yX c=0) (hco:c.ok) (hck:c.cmd.kind=1):
    ∃ N5,za3 N5 (k+1)∧zgZ N c N5:=by
  have hL:=hG.L
  have hR:=hL.right
  have hH:=hR.hard
  have hl0:=hG.last0
  have hla:=hG.la
  have hlg:=hG.lg
  have hsn:=hG.sn
  have hlast:N.r.last=N.r.hard.base+N.r.hard.log.length:=rfl
  have hap:=hG.ap
  have hall:=hL.all
  obtain ⟨D',hs,hO⟩:=zgO (g:=N.g) hG.on hH (by rw[hG.g];exact Int.le_refl _) (by rw[hG.g];exact Int.le_refl _) (zbL hH hL.oks (by omega) hsn)
  rcases hd:doP N.mach.pairs c.cmd with ⟨L,rp⟩
  have hdo:=kdo N.mach.pairs c.cmd hG.small.1 hco.2.2.2.2.2 hd
  refine ⟨{ N with r:=N.r,rds:=[],g:=N.r.hard,dk:=D',told:=N.told++[⟨c,rp,N.applied⟩] },⟨hL,rfl,hG.w,hap,hG.m,rfl,hO,hlg,hsn,by show N.r.last≤((k+1:Nat):Int)+1;omega,hG.rn,by
    show (N.told++[_]).length≤k+1
    rw[List.length_append];have:=hG.tl;simp;omega,by show N.done.length≤k+1+1;have:=hG.dn;omega⟩,fun w0 w n V h0 hN hwv=>?_⟩
  exact zq8 w0 w n V N c rp D' h0 hN hwv hL hG.rd hG.w hc hco hck hG.rn hs (by omega) (by rw[hG.g];omega) (by omega) (by omega) (by omega) ⟨by omega,by omega⟩ (by omega) ⟨hH.b0,hH.b1⟩ hdo (by have:=hG.tl;omega)
def zlG (N:yB) (c:zW) (E:Int) (N5:yB):Prop:=∀ (w0 w:World) (n:Nat) (V:NV),w0.heap.size≤w.heap.size→yD w0 w n V N→V.wv=.slice none 0 0→Calls Tryz.prog 10 #[.pointer (some ⟨n,0,none⟩),.agg #[.int .i64 c.client,.int .i64 c.seq,.int .i64 c.cmd.kind,.string c.cmd.key,.int .i64 c.cmd.old.kind,.float .f64 c.cmd.old.num,.string c.cmd.old.text,.int .i64 c.cmd.val.kind,.float .f64 c.cmd.val.num,.string c.cmd.val.text]] w fun e w'=>e=.returned (.int .i64 E)∧∃ V',yD w0 w' n V' N5∧V'.wv=.slice none 0 0∧V'.d=V.d∧Mod (zD w0.heap.size) w w'
theorem yD.newer {w0 w w':World} {n:Nat} {V:NV} {N:yB} (h:yD w0 w n V N) (hM:Mod (NS n V) w w'):Mod (zD w0.heap.size) w w':=Mod.mono hM (fun k _ hk=>by
  unfold zD
  rcases hk with e|e|e|e|e|e
  · rw[e];exact h.p.nb.1
  · rw[e];exact h.p.nb.2.1
  · rw[e];exact h.p.nb.2.2
  · exact (h.p.ap k e).1
  · exact h.tt.2 k e
  · exact h.dd.2 k e)
theorem zgZ.any {N N5:yB} {c:zW} (h:zgZ N c N5) (hw:N5.waits=[]):zlG N c 0 N5:=fun w0 w n V h0 hN hwv=>(h w0 w n V h0 hN (fun _=>hwv)).mono fun e w' ⟨h1,V',h2,h3,h4,h5⟩=>⟨h1,V',h2,h3 hw,h5.d,hN.newer h4⟩
theorem any_bad {N:yB} {c:zW} {E:Int} (hL:zaD N.r) (hc:yX c=E) (hE:E≠0):zlG N c E N:=fun w0 w n V h0 hN hwv=>(zkC w0 w n V N c E hN hL hc hE).mono fun e w' ⟨h1,h2⟩=>⟨h1,V,hN.ext h2,hwv,rfl,h2.mod _⟩
theorem call_any {N:yB} {k:Nat} (hG:za3 N k) (hk:k≤50000) {c:zW} (hco:c.ok) (hls:(yJ N.mach.sess c.client).1<c.seq):∃ (E:Int) (N5:yB),za3 N5 (k+1)∧zlG N c E N5:=by
  by_cases hc:yX c=0
  · by_cases hck:c.cmd.kind=1
    · obtain ⟨N5,h1,h2⟩:=call_get hG hk hc hco hck
      exact ⟨0,N5,h1,h2.any h1.w⟩
    · obtain ⟨N5,h1,_,_,_,h2⟩:=zi3 hG hk hc hco hck hls
      exact ⟨0,N5,h1,h2.any h1.w⟩
  · exact ⟨_,N,hG.up (by omega),any_bad hG.L rfl hc⟩
end Go.Proofs.YtjbkjhhjofeldaaGreat
