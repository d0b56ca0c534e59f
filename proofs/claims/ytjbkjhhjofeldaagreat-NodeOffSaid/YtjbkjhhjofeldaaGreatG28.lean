/-
 Layer 22 (node): (*Node).answer where no question waits. Conditions: as each theorem names them.
-/
import Derived.Test.YtjbkjhhjofeldaaGreatG22
import Derived.Test.YtjbkjhhjofeldaaGreatG27
import Derived.Defers
import Derived.Recover
set_option maxRecDepth 100000
set_option maxHeartbeats 2000000
namespace Go.Proofs.YtjbkjhhjofeldaaGreat
set_option linter.unusedSimpArgs false
set_option linter.unusedVariables false
open Go.RowKit
theorem zp2 (w0 w:World) (n:Nat) (V:NV) (N:yB) (h0:w0.heap.size≤w.heap.size) (hN:yD w0 w n V N) (hr:zbF N.r N.rds) (hl:zdL N.r.hard) (hd:N.rds=[]):
  Calls Tryz.prog 97 #[.pointer (some ⟨n,0,none⟩)] w fun e w'=>e=.returned (.tuple #[])∧∃ sv lv,yD w0 w' n { V with sv:=sv,lv:=lv,rv:=.slice none 0 0 } N∧Mod (fun k=>k=n) w w':=by
 obtain ⟨HN,H0,Hr,Hl,Hrds⟩:=hJ5 hN h0 hr hl hd
 have Ho:=hJ (show ziN N.rds N.applied from .inl hd)
 clear hN h0 hr hl hd
 go_enter Tryz.func97,Tryz.ntmps97
 go_wp2_with fail
 go_cut [2,3,4] (fun s2 s3 s4 wx=>∃ p sv lv Ag cg,s2=.pointer (some ⟨p,0,none⟩)∧s3=.slice Ag ([]:List yL).length cg∧s4=.int .i64 0∧wx.heap[p]? = some (.cells (N.r.cells sv lv (.slice none 0 0)).toArray 65 (0,0))∧xQ w wx sv lv (.slice none 0 0) N.r []∧zb7 138 13 w wx (.slice Ag ([]:List yL).length cg) ([]:List yL).length (([]:List yL).flatMap yL.cells)∧Ext w wx)
 case first=>
  obtain ⟨Wd,hWd⟩:∃ W,w.drew=W:=⟨_,rfl⟩
  have hEd:Ext w Wd:=hWd▸(Mod.refl _ w).drew
  have HNd:=hJ (HN.out.ext hEd)
  have HEd:=hJ hEd
  have hrd:∀ W,Ext Wd W→Calls Tryz.prog 175 #[.agg (N.r.cells V.sv V.lv V.rv).toArray,.int .i64 N.applied] W (zpS W N.r ([]:List yL)):=fun W hE=>by
   have hf:=(HNd.out.ext hE).p.rh
   have h:=zpT N.r N.rds N.applied V.sv V.lv V.rv W (fun _=>True) ⟨⟨hf.hard.mem.1.mono (fun _ _=>trivial),hf.hard.mem.2.1.mono (fun _ _=>trivial),hf.hard.mem.2.2⟩,Sl.of_own hf.reads.1 (fun _ _=>trivial)⟩ Hr.out Hl.out Ho.out
   rw[Hrds.out] at h
   exact h
  have Hrd:=hJ hrd
  clear hrd hEd
  refine yZ (fun W=>Ext Wd W) 14 (by show Ext Wd w.drew;rw[hWd];exact Mod.refl _ _) (fun hS=>?_)
  rw[hWd] at hS ⊢
  clear hWd
  iterate 3
   (first|refine tP 0 10 ?_ hS (fun W'=>?_) ?_|refine tP 1 11 ?_ hS (fun W'=>?_) ?_|refine tP 2 12 ?_ hS (fun W'=>?_) ?_);rotate_left;· go_simp;try rfl
   try simp only[pL]
  refine tU 3 13 (.agg (N.r.cells V.sv V.lv V.rv).toArray) hS n 3 (fun W' hW'=>zcM (hW'.blk HNd.out.box id)) ?_
  try simp only[pL]
  iterate 3
   (first|refine tP 4 14 ?_ hS (fun W'=>?_) ?_|refine tP 5 15 ?_ hS (fun W'=>?_) ?_|refine tP 6 16 ?_ hS (fun W'=>?_) ?_);rotate_left;· go_simp;try rfl
   try simp only[pL]
  refine tU 7 17 (.int .i64 N.applied) hS n 45 (fun W' hW'=>zL zQ (hW'.blk HNd.out.box id) rfl) ?_
  try simp only[pL]
  refine twoU 8 13 (fun K hK=>?_) (fun K hK=>?_)
  · go_simp
    go_wp2_with fail
    refine (Hrd.out _ hS).mono ?_
    rintro e w11 ⟨sv,lv,gv,rfl,hF11,hG11,hE11⟩
    obtain ⟨A5,n5,c5,rfl⟩:∃ A n c,sv=.slice A n c:=⟨_,_,zC hF11.hard.1.1 |>.choose_spec⟩
    obtain ⟨B5,m5,d5,rfl⟩:∃ A n c,lv=.slice A n c:=⟨_,_,zC hF11.hard.2.1 |>.choose_spec⟩
    obtain ⟨Ag,cg,rfl⟩:=zC hG11.1
    have HF11:=hJ (hF11.up (HEd.out.ext hS))
    have HG11:=hJ (show zb7 138 13 w w11 (.slice Ag _ cg) _ _ from ⟨hG11.1,fun g hg=>Nat.le_trans (HEd.out.ext hS).size (hG11.2 g hg)⟩)
    clear hF11 hG11
    have hX:=hS.ext hE11
    go_simp
    refine hK.out _ _ hX (fun hS=>?_)
    clear hK K hX
    try simp only[pL]
    iterate 4
     (first|refine tP 9 9 ?_ hS (fun W'=>?_) ?_|refine tP 10 19 ?_ hS (fun W'=>?_) ?_|refine tP 11 20 ?_ hS (fun W'=>?_) ?_|refine tP 12 21 ?_ hS (fun W'=>?_) ?_);rotate_left;· go_simp;try rfl
     try simp only[pL]
    refine jP 13 (fun K hK=>?_)
    have hS0:=hS
    go_simp
    refine hK.out _ _ (hS0.alloc _) (fun hS=>?_)
    clear hK K
    try show yK _ _ _ _ _ _ _ _ (Act.put _ (some 2) _) _
    try simp only[pL]
    refine xN 14 rfl ?_
    simp only[List.drop_succ_cons,List.drop_zero]
    go_wp2_with (first|(refine zF ?_;refine stQ rfl 65 _ _ rfl 40 w11.heap.size 0 (.agg (N.r.cells (.slice A5 n5 c5) (.slice B5 m5 d5) (.slice none 0 0)).toArray) (N.r.cells (.slice A5 n5 c5) (.slice B5 m5 d5) (.slice none 0 0)) yA.2 _ rZ (N.r.cells (.slice A5 n5 c5) (.slice B5 m5 d5) (.slice none 0 0)) (zI w11 _) rfl ?_;intro Wn hbWn hmWn hsWn)|(refine zF ?_;refine stQ rfl 65 _ _ rfl 40 Wd.heap.size 0 (.agg (N.r.cells (.slice A5 n5 c5) (.slice B5 m5 d5) (.slice none 0 0)).toArray) (N.r.cells (.slice A5 n5 c5) (.slice B5 m5 d5) (.slice none 0 0)) yA.2 _ rZ (N.r.cells (.slice A5 n5 c5) (.slice B5 m5 d5) (.slice none 0 0)) (hE11.blk (zI Wd _) id) rfl ?_;intro Wn hbWn hmWn hsWn))
    go_meet
    refine ⟨_,_,_,Ag,cg,rfl,rfl,rfl,hbWn,?_,?_,Mod.toExt ((Ext.mod (HEd.out.ext hS) (zD w.heap.size)).trans hmWn (fun k _ e=>by have h1:=HEd.out.size;have h2:=hE11.size;unfold zD;omega))⟩
    · first
      | exact xQ.box ⟨HF11.out.hard.ext ((Mod.refl (fun _=>False) w11).alloc _),HF11.out.reads.ext ((Mod.refl (fun _=>False) w11).alloc _)⟩ (zI w11 _) hmWn (by decide) (by decide) (by decide)
      | exact HF11.out.box (hE11.blk (zI Wd _) id) hmWn (by decide) (by decide) (by decide)
    · first
      | (have h0:=zN HG11.out.1 ((Mod.refl (fun _=>False) w11).alloc (.cells rZ.toArray 65)) (fun _ _=>id)
         exact ⟨zN h0 hmWn (fun g hg=>zG h0 hg (zI w11 (.cells rZ.toArray 65)) (by decide)),HG11.out.2⟩)
      | exact ⟨zN HG11.out.1 hmWn (fun g hg=>zG HG11.out.1 hg (hE11.blk (zI Wd (.cells rZ.toArray 65)) id) (by decide)),HG11.out.2⟩
  · have hS0:=hS
    go_simp
    refine hK.out _ _ (hS0.alloc _) (fun hS=>?_)
    clear hK K
    try show yK _ _ _ _ _ _ _ _ (Act.put _ (some 2) _) _
    try simp only[pL]
    refine jP 8 (fun K hK=>?_)
    go_simp
    go_wp2_with fail
    refine (Hrd.out _ hS).mono ?_
    rintro e w11 ⟨sv,lv,gv,rfl,hF11,hG11,hE11⟩
    obtain ⟨A5,n5,c5,rfl⟩:∃ A n c,sv=.slice A n c:=⟨_,_,zC hF11.hard.1.1 |>.choose_spec⟩
    obtain ⟨B5,m5,d5,rfl⟩:∃ A n c,lv=.slice A n c:=⟨_,_,zC hF11.hard.2.1 |>.choose_spec⟩
    obtain ⟨Ag,cg,rfl⟩:=zC hG11.1
    have HF11:=hJ (hF11.up (HEd.out.ext hS))
    have HG11:=hJ (show zb7 138 13 w w11 (.slice Ag _ cg) _ _ from ⟨hG11.1,fun g hg=>Nat.le_trans (HEd.out.ext hS).size (hG11.2 g hg)⟩)
    clear hF11 hG11
    have hX:=hS.ext hE11
    go_simp
    refine hK.out _ _ hX (fun hS=>?_)
    clear hK K hX
    try simp only[pL]
    iterate 4
     (first|refine tP 9 9 ?_ hS (fun W'=>?_) ?_|refine tP 10 19 ?_ hS (fun W'=>?_) ?_|refine tP 11 20 ?_ hS (fun W'=>?_) ?_|refine tP 12 21 ?_ hS (fun W'=>?_) ?_);rotate_left;· go_simp;try rfl
     try simp only[pL]
    refine xN 14 rfl ?_
    simp only[List.drop_succ_cons,List.drop_zero]
    go_wp2_with (first|(refine zF ?_;refine stQ rfl 65 _ _ rfl 40 w11.heap.size 0 (.agg (N.r.cells (.slice A5 n5 c5) (.slice B5 m5 d5) (.slice none 0 0)).toArray) (N.r.cells (.slice A5 n5 c5) (.slice B5 m5 d5) (.slice none 0 0)) yA.2 _ rZ (N.r.cells (.slice A5 n5 c5) (.slice B5 m5 d5) (.slice none 0 0)) (zI w11 _) rfl ?_;intro Wn hbWn hmWn hsWn)|(refine zF ?_;refine stQ rfl 65 _ _ rfl 40 Wd.heap.size 0 (.agg (N.r.cells (.slice A5 n5 c5) (.slice B5 m5 d5) (.slice none 0 0)).toArray) (N.r.cells (.slice A5 n5 c5) (.slice B5 m5 d5) (.slice none 0 0)) yA.2 _ rZ (N.r.cells (.slice A5 n5 c5) (.slice B5 m5 d5) (.slice none 0 0)) (hE11.blk (zI Wd _) id) rfl ?_;intro Wn hbWn hmWn hsWn))
    go_meet
    refine ⟨_,_,_,Ag,cg,rfl,rfl,rfl,hbWn,?_,?_,Mod.toExt ((Ext.mod (HEd.out.ext hS) (zD w.heap.size)).trans hmWn (fun k _ e=>by have h1:=HEd.out.size;have h2:=hE11.size;unfold zD;omega))⟩
    · first
      | exact xQ.box ⟨HF11.out.hard.ext ((Mod.refl (fun _=>False) w11).alloc _),HF11.out.reads.ext ((Mod.refl (fun _=>False) w11).alloc _)⟩ (zI w11 _) hmWn (by decide) (by decide) (by decide)
      | exact HF11.out.box (hE11.blk (zI Wd _) id) hmWn (by decide) (by decide) (by decide)
    · first
      | (have h0:=zN HG11.out.1 ((Mod.refl (fun _=>False) w11).alloc (.cells rZ.toArray 65)) (fun _ _=>id)
         exact ⟨zN h0 hmWn (fun g hg=>zG h0 hg (zI w11 (.cells rZ.toArray 65)) (by decide)),HG11.out.2⟩)
      | exact ⟨zN HG11.out.1 hmWn (fun g hg=>zG HG11.out.1 hg (hE11.blk (zI Wd (.cells rZ.toArray 65)) id) (by decide)),HG11.out.2⟩
 obtain ⟨p,sv,lv,Ag,cg,rfl,rfl,rfl,hp,hF,hG,hE⟩:=hcut
 obtain ⟨A5,n5,c5,rfl⟩:∃ A n c,sv=.slice A n c:=⟨_,_,zC hF.hard.1.1 |>.choose_spec⟩
 obtain ⟨B5,m5,d5,rfl⟩:∃ A n c,lv=.slice A n c:=⟨_,_,zC hF.hard.2.1 |>.choose_spec⟩
 have HNc:=hJ (HN.out.ext hE)
 have Hq:=hJ HNc.out.box
 obtain ⟨Hp,HF,HE⟩:=hJ3 hp hF hE
 clear hp hF hG hE
 go_upto_region 3 with (first
  | (refine zK ?_;refine lD 65 p 0 (yY Hp.out) ?_)
  | (refine zF ?_;refine stQ rfl 65 _ _ rfl 40 n 3 (.agg (N.r.cells (.slice A5 n5 c5) (.slice B5 m5 d5) (.slice none 0 0)).toArray) (N.r.cells (.slice A5 n5 c5) (.slice B5 m5 d5) (.slice none 0 0)) yA.2 _ _ (yE false { V with sv:=.slice A5 n5 c5,lv:=.slice B5 m5 d5,rv:=.slice none 0 0 } N) Hq.out rfl ?_;intro W3 hbW3 hmW3 hsW3))
 have hN3:yD w0 W3 n { V with sv:=.slice A5 n5 c5,lv:=.slice B5 m5 d5,rv:=.slice none 0 0 } N:=HNc.out.turn hmW3 hbW3 (fun hP=>⟨hP.st,hP.dk,hP.gh,by
  have hf:=(HF.out.box Hq.out hmW3 (by decide) (by decide) (by decide))
  rw[show N.rds=[] from Hrds.out]
  exact ⟨⟨⟨hf.hard.1.1,fun g hg=>Nat.le_trans H0.out (hf.hard.1.2 g hg)⟩,jH hf.hard.2 H0.out⟩,⟨hf.reads.1,fun g hg=>Nat.le_trans H0.out (hf.reads.2 g hg)⟩⟩,hP.pp,hP.xx,hP.ww,fun k hk=>⟨(hP.ap k hk).1,(hP.ap k hk).2.1,fun e=>by
  have h1:=HF.out.hard.1.2 k e
  have h2:=za0 HN.out.p.dk.2.1 hk
  omega⟩,hP.nb⟩) ⟨rfl,rfl⟩ ⟨rfl,rfl⟩
 have HN3:=hJ hN3
 have HM3:=hJ (show Mod (fun k=>k=n) w W3 from (Ext.mod HE.out _).trans hmW3 (fun k _ e=>e))
 clear hN3 hbW3 hmW3 hsW3
 go_wp2_with fail
 go_loopw [30] (fun iv wr=>iv=.int .i64 0∧wr=W3) (fun _ _=>0)
 case atStart=>exact ⟨rfl,rfl⟩
 obtain ⟨rfl,rfl⟩:=hrel
 go_wp2
 go_end0
 exact ⟨rfl,_,_,HN3.out,HM3.out⟩
end Go.Proofs.YtjbkjhhjofeldaaGreat
set_option maxRecDepth 100000
set_option maxHeartbeats 2000000
namespace Go.Proofs.YtjbkjhhjofeldaaGreat
set_option linter.unusedSimpArgs false
set_option linter.unusedVariables false
open Go.RowKit
theorem znD (w0 w:World) (n:Nat) (V:NV) (N:yB) (hN:yD w0 w n V N) (hb:N.applied≤N.r.hard.base+16) (hb0:0≤N.r.hard.base∧N.r.hard.base≤1099511627776):
  Calls Tryz.prog 98 #[.pointer (some ⟨n,0,none⟩)] w fun e w'=>e=.returned (.tuple #[])∧Ext w w':=by
 have p6:w.cell? ⟨n,6,none⟩=some (.int .i64 N.r.hard.base):=zA hN.box rfl
 have p1:w.cell? ⟨n,1,none⟩=some (.bool false):=zA hN.box rfl
 have p45:w.cell? ⟨n,45,none⟩=some (.int .i64 N.applied):=zA hN.box rfl
 obtain ⟨B,hB⟩:∃ B,N.r.hard.base=B:=⟨_,rfl⟩
 obtain ⟨A,hA⟩:∃ A,N.applied=A:=⟨_,rfl⟩
 rw[hB] at p6 hb hb0
 rw[hA] at p45 hb
 obtain ⟨b0,b1⟩:=hb0
 have d1:IntKind.i64.wrap (B+16)=B+16:=IntWalk.i64_in _ (by omega)
 have d2:0≤B+16:=by omega
 clear hN hA hB
 go_enter Tryz.func98,Tryz.ntmps98
 go_wp2_with fail
 go_still (by kernel_rfl)
 try simp only[d1]
 go_wp2
 exact bodyPost_ret (results_none rfl _ _ _) rfl ⟨rfl,(Mod.refl _ w).drew⟩
def SEnc (m:jK) (bs:List UInt8):Prop:=∀ (W:World) (T U:Nat→Prop) (pv xv:Value),Prs W U pv m.pairs→Ses W T xv m.sess→Calls Tryz.prog 155 #[.agg #[pv,xv]] W fun e w'=>∃ vb,e=.returned (.tuple #[vb,.int .i64 0])∧zaN W w' vb bs∧Ext W w'
theorem znE (w0 w:World) (n:Nat) (V:NV) (N:yB) (bs:List UInt8) (D':zU) (h0:w0.heap.size≤w.heap.size) (hN:yD w0 w n V N) (hL:zaD N.r) (hrd:N.rds=[]) (hb:N.r.hard.base+16<N.applied) (hap:N.applied=N.r.commit) (hb2:N.r.commit≤1099511627776) (hen:SEnc N.mach bs) (hbl:bs.length≤16384) (hgl:N.g.log.length≤1000000) (hs:zb6 N.dk N.g (N.r.hard.snapped N.r.commit bs)=(D',N.r.hard.snapped N.r.commit bs,0)):
  Calls Tryz.prog 98 #[.pointer (some ⟨n,0,none⟩)] w fun e w'=>e=.returned (.tuple #[])∧∃ V',yD w0 w' n V' { N with r:=N.r.snapped bs,g:=N.r.hard.snapped N.r.commit bs,dk:=D' }∧Mod (NS n V) w w'∧zbM w V V'∧V'.wv=V.wv∧V'.tv=V.tv:=by
 have p6:w.cell? ⟨n,6,none⟩=some (.int .i64 N.r.hard.base):=zA hN.box rfl
 have p1:w.cell? ⟨n,1,none⟩=some (.bool false):=zA hN.box rfl
 have p45:w.cell? ⟨n,45,none⟩=some (.int .i64 N.applied):=zA hN.box rfl
 obtain ⟨B,hB⟩:∃ B,N.r.hard.base=B:=⟨_,rfl⟩
 obtain ⟨A,hA⟩:∃ A,N.applied=A:=⟨_,rfl⟩
 have hb0:0≤B∧B≤1099511627776:=by rw[←hB];exact hL.lone.base
 have hlt:N.r.hard.base<N.r.commit:=by omega
 rw[hB] at p6 hb
 rw[hA] at p45 hb
 obtain ⟨b0,b1⟩:=hb0
 have d1:IntKind.i64.wrap (B+16)=B+16:=IntWalk.i64_in _ (by omega)
 have d2:0≤B+16:=by omega
 have d3:¬ A≤B+16:=by omega
 obtain ⟨HN,H0,HL,Hrds,Hlt,Hb2,Hen,Hbl⟩:=hJ8 hN h0 hL hrd hlt hb2 hen hbl
 obtain ⟨Hgl,Hs⟩:=hJ2 hgl hs
 clear hN hA hB h0 hL hrd hlt hb2 hen hbl hgl hs hb hap
 go_enter Tryz.func98,Tryz.ntmps98
 go_wp2_with fail
 go_still (by kernel_rfl)
 try simp only[d1]
 go_upto_region 1 with fail
 clear p6 p1 p45 d1 d2 d3
 obtain ⟨Wd,hWd⟩:∃ W,w.drew=W:=⟨_,rfl⟩
 have HEd:=hJ (show Ext w Wd from hWd▸(Mod.refl _ w).drew)
 have HNd:=hJ (HN.out.ext HEd.out)
 first|rw[hWd]|(rw[show ({ heap:=w.heap,tape:=w.tape,drawn:=w.drawn+1,os:=w.os,output:=w.output }:World)=Wd from hWd])
 clear hWd
 go_upto_region 3 with (first
  | (refine zK ?_;refine lD 41 n 43 (zeI HNd.out.box) ?_)
  | (go_at_call 155;refine (Hen.out _ _ _ _ _ HNd.out.p.pp.prs HNd.out.p.xx.ses).mono ?_;rintro e w1 ⟨vb,rfl,hB1,hE1⟩;obtain ⟨Ab,nb,cb,rfl⟩:∃ A n c,vb=.slice A n c:=⟨_,_,zC hB1.1 |>.choose_spec⟩))
 have HN1:=hJ (HNd.out.ext hE1)
 have HE1:=hJ (HEd.out.ext hE1)
 have HB1:=hJ hB1
 clear hE1 hB1
 have hcp:Calls Tryz.prog 177 #[.agg (N.r.cells V.sv V.lv V.rv).toArray,.slice Ab nb cb] w1 (CpOut w1 (N.r.snapped bs)):=by
  have hf:=HN1.out.p.rh
  rw[show N.rds=[] from Hrds.out] at hf
  exact zpU N.r bs V.sv V.lv V.rv (.slice Ab nb cb) w1 (fun _=>True) (fun _=>True) ⟨⟨hf.hard.mem.1.mono (fun _ _=>trivial),hf.hard.mem.2.1.mono (fun _ _=>trivial),hf.hard.mem.2.2⟩,Sl.of_own hf.reads.1 (fun _ _=>trivial)⟩ HL.out (Sl.of_own HB1.out.1 (fun _ _=>trivial)) Hbl.out Hlt.out Hb2.out
 have Hcp:=hJ hcp
 clear hcp
 go_upto_region 4 with (first
  | (refine zK ?_;refine lD 65 n 3 (zcM HN1.out.box) ?_)
  | (go_at_call 177;refine Hcp.out.mono ?_;rintro e w2 ⟨sv,lv,rv,rfl,hF2,hE2⟩;obtain ⟨A5,n5,c5,rfl⟩:∃ A n c,sv=.slice A n c:=⟨_,_,zC hF2.hard.1.1 |>.choose_spec⟩;obtain ⟨B5,m5,d5,rfl⟩:∃ A n c,lv=.slice A n c:=⟨_,_,zC hF2.hard.2.1 |>.choose_spec⟩;obtain ⟨C5,k5,e5,rfl⟩:∃ A n c,rv=.slice A n c:=⟨_,_,zC hF2.reads.1 |>.choose_spec⟩)
  | (refine zF ?_;refine stQ rfl 65 _ _ rfl 40 w2.heap.size 0 (.agg ((N.r.snapped bs).cells (.slice A5 n5 c5) (.slice B5 m5 d5) (.slice C5 k5 e5)).toArray) ((N.r.snapped bs).cells (.slice A5 n5 c5) (.slice B5 m5 d5) (.slice C5 k5 e5)) yA.2 _ rZ ((N.r.snapped bs).cells (.slice A5 n5 c5) (.slice B5 m5 d5) (.slice C5 k5 e5)) (zI w2 _) rfl ?_;intro W3 hb3 hm3 hs3))
 obtain ⟨q,hq⟩:∃ q,w2.heap.size=q:=⟨_,rfl⟩
 have hE3:Ext w2 W3:=Mod.toExt (((Mod.refl (zD w2.heap.size) w2).alloc _).trans hm3 (fun k _ e=>by unfold zD;omega))
 have HF3:=hJ (show xQ w1 W3 (.slice A5 n5 c5) (.slice B5 m5 d5) (.slice C5 k5 e5) (N.r.snapped bs) [] from ⟨hF2.hard.ext hE3,hF2.reads.ext hE3⟩)
 rw[hq] at hb3 ⊢
 have Hq3:=hJ hb3
 have HN3:=hJ (HN1.out.ext (hE2.ext hE3))
 have HE3:=hJ (HE1.out.ext (hE2.ext hE3))
 clear hF2 hE2 hE3 hb3 hm3 hs3 hq
 have hsv:Calls Tryz.prog 94 #[.pointer (some ⟨n,0,none⟩),.agg ((N.r.hard.snapped N.r.commit bs).cells (.slice A5 n5 c5) (.slice B5 m5 d5)).toArray] W3 (SvOut w0 W3 n V { N with g:=N.r.hard.snapped N.r.commit bs,dk:=D' }):=
  zp0 w0 W3 n V N (N.r.hard.snapped N.r.commit bs) D' (.slice A5 n5 c5) (.slice B5 m5 d5) _ (Nat.le_trans H0.out HE3.out.size) HN3.out HF3.out.hard.mem (fun k hk=>by
   have hd:=HN1.out.p.dk.lt
   have hk1:w1.heap.size≤k:=by
    rcases hk with e|e
    · exact HF3.out.hard.1.2 k e
    · exact HF3.out.hard.2.2.2 k e
   exact ⟨by omega,fun e=>by have:=za0 HN1.out.p.dk.2.1 e;omega⟩) (by show ([]:List zO).length≤_;simp) Hgl.out (by show bs.length≤_;have:=Hbl.out;omega) Hs.out
 have Hsv:=hJ hsv
 clear hsv
 go_upto_region 6 with (first
  | (refine zK ?_;refine lD 61 q 1 (zbQ Hq3.out) ?_)
  | (go_at_call 94;refine Hsv.out.mono ?_;rintro e w4 ⟨rfl,fv,gs,gl,hN4,hM4,hf4⟩))
 have hq4:=hM4.blk Hq3.out (fun e=>by
  have hd:=HN3.out.p.dk
  rcases e with e|e|e
  · exact jZ Hq3.out hd.1 (by decide) e
  · exact zG hd.2.1 e Hq3.out (by decide) rfl
  · exact jZ Hq3.out HN3.out.p.st (by decide) e)
 obtain ⟨HN4,HM4,Hf4,Hq4⟩:=hJ4 hN4 hM4 hf4 hq4
 have Hn4:=hJ hN4.box
 clear hN4 hM4 hf4 hq4
 go_wp2_with (first
  | (refine zK ?_;refine lD 65 q 0 (yY Hq4.out) ?_)
  | (refine zF ?_;refine stQ rfl 65 _ _ rfl 40 n 3 (.agg ((N.r.snapped bs).cells (.slice A5 n5 c5) (.slice B5 m5 d5) (.slice C5 k5 e5)).toArray) ((N.r.snapped bs).cells (.slice A5 n5 c5) (.slice B5 m5 d5) (.slice C5 k5 e5)) yA.2 _ _ (yE false { V with fv:=fv,gs:=gs,gl:=gl,sv:=.slice A5 n5 c5,lv:=.slice B5 m5 d5,rv:=.slice C5 k5 e5 } { N with r:=N.r.snapped bs,g:=N.r.hard.snapped N.r.commit bs,dk:=D' }) Hn4.out rfl ?_;intro W5 hbW5 hmW5 hsW5))
 go_end0
 have hP3:=HN3.out.p
 have key:∀ {e:TypeId} {k m:Nat} {v:Value} {xs:List Value},W3.ownsRow 0 e k v m xs→(5≠e∨∀ j,V.fv.ownBlock=some j→v.ownBlock≠some j)→e≠140→e≠198→w4.ownsRow 0 e k v m xs:=fun h h1 h2 h3=>zfS hP3.st hP3.dk HM4.out h h1 h2 h3
 have hfl:∀ j,V.fv.ownBlock=some j→j<w1.heap.size:=fun j hj=>za0 HN1.out.p.dk.2.1 hj
 have hF4:xQ w1 w4 (.slice A5 n5 c5) (.slice B5 m5 d5) (.slice C5 k5 e5) (N.r.snapped bs) []:=⟨⟨⟨key HF3.out.hard.1.1 (.inr fun j hj e=>by have h1:=hfl j hj;have h2:=HF3.out.hard.1.2 j e;omega) (by decide) (by decide),HF3.out.hard.1.2⟩,⟨key HF3.out.hard.2.1 (.inl (by decide)) (by decide) (by decide),HF3.out.hard.2.2⟩⟩,⟨key HF3.out.reads.1 (.inl (by decide)) (by decide) (by decide),HF3.out.reads.2⟩⟩
 have hF5:=hF4.box Hn4.out hmW5 (by decide) (by decide) (by decide)
 have hs1:w0.heap.size≤w1.heap.size:=Nat.le_trans H0.out HE1.out.size
 refine ⟨rfl,{ V with fv:=fv,gs:=gs,gl:=gl,sv:=.slice A5 n5 c5,lv:=.slice B5 m5 d5,rv:=.slice C5 k5 e5 },HN4.out.turn hmW5 hbW5 (fun hP=>⟨hP.st,hP.dk,hP.gh,by
  rw[show N.rds=[] from Hrds.out]
  exact ⟨⟨⟨hF5.hard.1.1,fun g hg=>Nat.le_trans hs1 (hF5.hard.1.2 g hg)⟩,jH hF5.hard.2 hs1⟩,⟨hF5.reads.1,fun g hg=>Nat.le_trans hs1 (hF5.reads.2 g hg)⟩⟩,hP.pp,hP.xx,hP.ww,fun k hk=>⟨(hP.ap k hk).1,(hP.ap k hk).2.1,fun e=>by
  have h1:=za0 HF3.out.hard.1.1 e
  have h2:=HF3.out.hard.1.2 k e
  rcases Hf4.out k hk with h3|h3
  · have:=hfl k h3;omega
  · omega⟩,hP.nb⟩) ⟨rfl,rfl⟩ ⟨rfl,rfl⟩,?_,⟨rfl,rfl,fun k hk=>(Hf4.out k hk).elim .inl (fun e=>.inr (Nat.le_trans HE3.out.size e)),fun k=>.inl,fun k=>.inl⟩,rfl,rfl⟩
 refine ((Ext.mod HE3.out _).trans HM4.out (fun k _ e=>?_)).trans hmW5 (fun k _ e=>.inl e)
 rcases e with e|e|e
 · exact .inr (.inr (.inl e))
 · exact .inr (.inr (.inr (.inl e)))
 · exact .inr (.inl e)
end Go.Proofs.YtjbkjhhjofeldaaGreat
set_option maxRecDepth 100000
set_option maxHeartbeats 1000000
namespace Go.Proofs.YtjbkjhhjofeldaaGreat
set_option linter.unusedSimpArgs false
set_option linter.unusedVariables false
open Go.RowKit
theorem ta_nilN (w:World):(Instr.typeAssert .nilIface 20 238 true).run Tryz.prog w=.ok (.tuple #[.agg #[],.bool false]) w:=by kernel_rfl
attribute [local go_sem] ta_nilN
theorem zp3 {P:Program} {c:Code} {Q:Exit→Act→List Frame→World→Prop} {t:Array Value} (t':Array Value) {d:List Deferred} {cs:List Frame} {w:World} (e:t=t') (h:c.wpS P Q ⟨t',d⟩ cs w):c.wpS P Q ⟨t,d⟩ cs w:=e▸h
theorem zj2 (n:Nat) (pb pe:Addr) (w:World):
    CallsD Tryz.prog 93 #[.pointer (some ⟨n,0,none⟩),.pointer (some pb),.pointer (some pe)] .returning w fun e u' w'=>e=.returned (.tuple #[])∧u'=.returning∧Ext w w':=by
  refine callsD_of_wpS Tryz.func93 rfl fun c₀ cs hu=>?_
  apply wpS_seq
  apply wpS_region
  simp[wpOpsS,go_sem,recoverD,hu,Tryz.ntmps93,Exit.thenS]
  refine zp3 #[.pointer (some ⟨n,0,none⟩),.pointer (some pb),.pointer (some pe),undef,undef,undef,.pointer (some ⟨w.heap.size,0,none⟩),.bool false,.tuple #[.agg #[],.bool false],.nilIface,.tuple #[.agg #[],.bool false],.agg #[],.bool false,undef,undef,undef,undef,undef,undef,undef,undef] ?_ ?_
  · exact Array.ext' (by simp[Array.toList_replicate,List.replicate])
  refine wpS_of_wp ?_
  go_wp2
  cases c₀
  simp_all[bodyPostS,results,Tryz.results93]
  exact (Mod.refl _ w).alloc _
end Go.Proofs.YtjbkjhhjofeldaaGreat
