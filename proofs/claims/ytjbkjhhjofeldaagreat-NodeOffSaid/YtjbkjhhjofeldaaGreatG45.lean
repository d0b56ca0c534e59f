/-
 Layer 22 (node): (*Node).answer where one question waits. Conditions: as each theorem names them.
-/
import Derived.Test.YtjbkjhhjofeldaaGreatG30
set_option maxRecDepth 100000
set_option maxHeartbeats 2000000
namespace Go.Proofs.YtjbkjhhjofeldaaGreat
set_option linter.unusedSimpArgs false
set_option linter.unusedVariables false
open Go.RowKit
def KDo (l:List zJ) (c:jV) (r:yH):Prop:=∀ (W:World) (T:Nat→Prop) (v:Value),Prs W T v l→Calls Tryz.prog 176 #[v,.agg #[.int .i64 c.kind,.string c.key,.int .i64 c.old.kind,.float .f64 c.old.num,.string c.old.text,.int .i64 c.val.kind,.float .f64 c.val.num,.string c.val.text]] W fun e w'=>∃ v',e=.returned (.tuple #[v',.agg #[.int .i64 r.code,.int .i64 r.val.kind,.float .f64 r.val.num,.string r.val.text]])∧Ext W w'
theorem zeP:Str Tryz.prog 27 8:=⟨⟨_,Tryz.underlying27⟩,by kernel_rfl⟩
theorem zq5:Sca Tryz.prog 38:=⟨fun w=>by kernel_rfl,by kernel_rfl⟩
theorem zq6 (w0 w:World) (n:Nat) (V:NV) (N:yB) (x:yL) (rp:yH) (h0:w0.heap.size≤w.heap.size) (hN:yD w0 w n V N) (hr:zbF N.r N.rds) (hl:zdL N.r.hard) (hd:N.rds=[x]) (ha:x.acks=1) (hix:x.index≤N.applied) (hdo:KDo N.mach.pairs x.call.cmd rp) (hlt:N.told.length≤100000):
  Calls Tryz.prog 97 #[.pointer (some ⟨n,0,none⟩)] w fun e w'=>e=.returned (.tuple #[])∧∃ sv lv tv,yD w0 w' n { V with sv:=sv,lv:=lv,rv:=.slice none 0 0,tv:=tv } { N with rds:=[],told:=N.told++[⟨x.call,rp,N.applied⟩] }∧Mod (fun k=>k=n∨V.tv.ownBlock=some k) w w'∧(∀ k,tv.ownBlock=some k→V.tv.ownBlock=some k∨w.heap.size≤k):=by
 obtain ⟨ti,hti,htz0,htz1,htz2⟩:=info_parts zeH
 obtain ⟨At,ct,htv⟩:∃ A c,V.tv=.slice A N.told.length c:=zC hN.tt.1
 have Htv:=hJ htv
 clear htv
 obtain ⟨HN,H0,Hr,Hl,Hrds,Hdo,Hlt⟩:=hJ7 hN h0 hr hl hd hdo hlt
 have Ho:=hJ (show ziN N.rds N.applied from .inr ⟨x,hd,ha,hix⟩)
 clear hN h0 hr hl hd hdo hlt ha hix
 go_enter Tryz.func97,Tryz.ntmps97
 go_wp2_with fail
 go_cut [2,3,4] (fun s2 s3 s4 wx=>∃ p sv lv Ag cg,s2=.pointer (some ⟨p,0,none⟩)∧s3=.slice Ag ([x]:List yL).length cg∧s4=.int .i64 0∧wx.heap[p]? = some (.cells (N.r.cells sv lv (.slice none 0 0)).toArray 65 (0,0))∧xQ w wx sv lv (.slice none 0 0) N.r []∧zb7 138 13 w wx (.slice Ag ([x]:List yL).length cg) ([x]:List yL).length (([x]:List yL).flatMap yL.cells)∧Ext w wx)
 case first=>
  obtain ⟨Wd,hWd⟩:∃ W,w.drew=W:=⟨_,rfl⟩
  have hEd:Ext w Wd:=hWd▸(Mod.refl _ w).drew
  have HNd:=hJ (HN.out.ext hEd)
  have HEd:=hJ hEd
  have hrd:∀ W,Ext Wd W→Calls Tryz.prog 175 #[.agg (N.r.cells V.sv V.lv V.rv).toArray,.int .i64 N.applied] W (zpS W N.r ([x]:List yL)):=fun W hE=>by
   have hf:=(HNd.out.ext hE).p.rh
   have h:=zpT N.r N.rds N.applied V.sv V.lv V.rv W (fun _=>True) ⟨⟨hf.hard.mem.1.mono (fun _ _=>trivial),hf.hard.mem.2.1.mono (fun _ _=>trivial),hf.hard.mem.2.2⟩,Sl.of_own hf.reads.1 (fun _ _=>trivial)⟩ Hr.out Hl.out Ho.out
   rw[Hrds.out] at h
   exact h
  have Hrd:=hJ hrd
  clear hrd hEd
  refine yZ (fun W=>Ext Wd W) 14 (by show Ext Wd w.drew;rw[hWd];exact Mod.refl _ _) (fun hS=>?_)
  rw[hWd] at hS ⊢
  clear hWd
  iterate 3
   (first|refine tP 0 10 ?_ hS (fun W'=>?_) ?_|refine tP 1 11 ?_ hS (fun W'=>?_) ?_|refine tP 2 12 ?_ hS (fun W'=>?_) ?_);rotate_left;· go_simp;try rfl
   try simp only[pL]
  refine tU 3 13 (.agg (N.r.cells V.sv V.lv V.rv).toArray) hS n 3 (fun W' hW'=>zcM (hW'.blk HNd.out.box id)) ?_
  try simp only[pL]
  iterate 3
   (first|refine tP 4 14 ?_ hS (fun W'=>?_) ?_|refine tP 5 15 ?_ hS (fun W'=>?_) ?_|refine tP 6 16 ?_ hS (fun W'=>?_) ?_);rotate_left;· go_simp;try rfl
   try simp only[pL]
  refine tU 7 17 (.int .i64 N.applied) hS n 45 (fun W' hW'=>zL zQ (hW'.blk HNd.out.box id) rfl) ?_
  try simp only[pL]
  refine twoU 8 13 (fun K hK=>?_) (fun K hK=>?_)
  · go_simp
    go_wp2_with fail
    refine (Hrd.out _ hS).mono ?_
    rintro e w11 ⟨sv,lv,gv,rfl,hF11,hG11,hE11⟩
    obtain ⟨A5,n5,c5,rfl⟩:∃ A n c,sv=.slice A n c:=⟨_,_,zC hF11.hard.1.1 |>.choose_spec⟩
    obtain ⟨B5,m5,d5,rfl⟩:∃ A n c,lv=.slice A n c:=⟨_,_,zC hF11.hard.2.1 |>.choose_spec⟩
    obtain ⟨Ag,cg,rfl⟩:=zC hG11.1
    have HF11:=hJ (hF11.up (HEd.out.ext hS))
    have HG11:=hJ (show zb7 138 13 w w11 (.slice Ag _ cg) _ _ from ⟨hG11.1,fun g hg=>Nat.le_trans (HEd.out.ext hS).size (hG11.2 g hg)⟩)
    clear hF11 hG11
    have hX:=hS.ext hE11
    go_simp
    refine hK.out _ _ hX (fun hS=>?_)
    clear hK K hX
    try simp only[pL]
    iterate 4
     (first|refine tP 9 9 ?_ hS (fun W'=>?_) ?_|refine tP 10 19 ?_ hS (fun W'=>?_) ?_|refine tP 11 20 ?_ hS (fun W'=>?_) ?_|refine tP 12 21 ?_ hS (fun W'=>?_) ?_);rotate_left;· go_simp;try rfl
     try simp only[pL]
    refine jP 13 (fun K hK=>?_)
    have hS0:=hS
    go_simp
    refine hK.out _ _ (hS0.alloc _) (fun hS=>?_)
    clear hK K
    try show yK _ _ _ _ _ _ _ _ (Act.put _ (some 2) _) _
    try simp only[pL]
    refine xN 14 rfl ?_
    simp only[List.drop_succ_cons,List.drop_zero]
    go_wp2_with (first|(refine zF ?_;refine stQ rfl 65 _ _ rfl 40 w11.heap.size 0 (.agg (N.r.cells (.slice A5 n5 c5) (.slice B5 m5 d5) (.slice none 0 0)).toArray) (N.r.cells (.slice A5 n5 c5) (.slice B5 m5 d5) (.slice none 0 0)) yA.2 _ rZ (N.r.cells (.slice A5 n5 c5) (.slice B5 m5 d5) (.slice none 0 0)) (zI w11 _) rfl ?_;intro Wn hbWn hmWn hsWn)|(refine zF ?_;refine stQ rfl 65 _ _ rfl 40 Wd.heap.size 0 (.agg (N.r.cells (.slice A5 n5 c5) (.slice B5 m5 d5) (.slice none 0 0)).toArray) (N.r.cells (.slice A5 n5 c5) (.slice B5 m5 d5) (.slice none 0 0)) yA.2 _ rZ (N.r.cells (.slice A5 n5 c5) (.slice B5 m5 d5) (.slice none 0 0)) (hE11.blk (zI Wd _) id) rfl ?_;intro Wn hbWn hmWn hsWn))
    go_meet
    refine ⟨_,_,_,Ag,cg,rfl,rfl,rfl,hbWn,?_,?_,Mod.toExt ((Ext.mod (HEd.out.ext hS) (zD w.heap.size)).trans hmWn (fun k _ e=>by have h1:=HEd.out.size;have h2:=hE11.size;unfold zD;omega))⟩
    · first
      | exact xQ.box ⟨HF11.out.hard.ext ((Mod.refl (fun _=>False) w11).alloc _),HF11.out.reads.ext ((Mod.refl (fun _=>False) w11).alloc _)⟩ (zI w11 _) hmWn (by decide) (by decide) (by decide)
      | exact HF11.out.box (hE11.blk (zI Wd _) id) hmWn (by decide) (by decide) (by decide)
    · first
      | (have h0:=zN HG11.out.1 ((Mod.refl (fun _=>False) w11).alloc (.cells rZ.toArray 65)) (fun _ _=>id)
         exact ⟨zN h0 hmWn (fun g hg=>zG h0 hg (zI w11 (.cells rZ.toArray 65)) (by decide)),HG11.out.2⟩)
      | exact ⟨zN HG11.out.1 hmWn (fun g hg=>zG HG11.out.1 hg (hE11.blk (zI Wd (.cells rZ.toArray 65)) id) (by decide)),HG11.out.2⟩
  · have hS0:=hS
    go_simp
    refine hK.out _ _ (hS0.alloc _) (fun hS=>?_)
    clear hK K
    try show yK _ _ _ _ _ _ _ _ (Act.put _ (some 2) _) _
    try simp only[pL]
    refine jP 8 (fun K hK=>?_)
    go_simp
    go_wp2_with fail
    refine (Hrd.out _ hS).mono ?_
    rintro e w11 ⟨sv,lv,gv,rfl,hF11,hG11,hE11⟩
    obtain ⟨A5,n5,c5,rfl⟩:∃ A n c,sv=.slice A n c:=⟨_,_,zC hF11.hard.1.1 |>.choose_spec⟩
    obtain ⟨B5,m5,d5,rfl⟩:∃ A n c,lv=.slice A n c:=⟨_,_,zC hF11.hard.2.1 |>.choose_spec⟩
    obtain ⟨Ag,cg,rfl⟩:=zC hG11.1
    have HF11:=hJ (hF11.up (HEd.out.ext hS))
    have HG11:=hJ (show zb7 138 13 w w11 (.slice Ag _ cg) _ _ from ⟨hG11.1,fun g hg=>Nat.le_trans (HEd.out.ext hS).size (hG11.2 g hg)⟩)
    clear hF11 hG11
    have hX:=hS.ext hE11
    go_simp
    refine hK.out _ _ hX (fun hS=>?_)
    clear hK K hX
    try simp only[pL]
    iterate 4
     (first|refine tP 9 9 ?_ hS (fun W'=>?_) ?_|refine tP 10 19 ?_ hS (fun W'=>?_) ?_|refine tP 11 20 ?_ hS (fun W'=>?_) ?_|refine tP 12 21 ?_ hS (fun W'=>?_) ?_);rotate_left;· go_simp;try rfl
     try simp only[pL]
    refine xN 14 rfl ?_
    simp only[List.drop_succ_cons,List.drop_zero]
    go_wp2_with (first|(refine zF ?_;refine stQ rfl 65 _ _ rfl 40 w11.heap.size 0 (.agg (N.r.cells (.slice A5 n5 c5) (.slice B5 m5 d5) (.slice none 0 0)).toArray) (N.r.cells (.slice A5 n5 c5) (.slice B5 m5 d5) (.slice none 0 0)) yA.2 _ rZ (N.r.cells (.slice A5 n5 c5) (.slice B5 m5 d5) (.slice none 0 0)) (zI w11 _) rfl ?_;intro Wn hbWn hmWn hsWn)|(refine zF ?_;refine stQ rfl 65 _ _ rfl 40 Wd.heap.size 0 (.agg (N.r.cells (.slice A5 n5 c5) (.slice B5 m5 d5) (.slice none 0 0)).toArray) (N.r.cells (.slice A5 n5 c5) (.slice B5 m5 d5) (.slice none 0 0)) yA.2 _ rZ (N.r.cells (.slice A5 n5 c5) (.slice B5 m5 d5) (.slice none 0 0)) (hE11.blk (zI Wd _) id) rfl ?_;intro Wn hbWn hmWn hsWn))
    go_meet
    refine ⟨_,_,_,Ag,cg,rfl,rfl,rfl,hbWn,?_,?_,Mod.toExt ((Ext.mod (HEd.out.ext hS) (zD w.heap.size)).trans hmWn (fun k _ e=>by have h1:=HEd.out.size;have h2:=hE11.size;unfold zD;omega))⟩
    · first
      | exact xQ.box ⟨HF11.out.hard.ext ((Mod.refl (fun _=>False) w11).alloc _),HF11.out.reads.ext ((Mod.refl (fun _=>False) w11).alloc _)⟩ (zI w11 _) hmWn (by decide) (by decide) (by decide)
      | exact HF11.out.box (hE11.blk (zI Wd _) id) hmWn (by decide) (by decide) (by decide)
    · first
      | (have h0:=zN HG11.out.1 ((Mod.refl (fun _=>False) w11).alloc (.cells rZ.toArray 65)) (fun _ _=>id)
         exact ⟨zN h0 hmWn (fun g hg=>zG h0 hg (zI w11 (.cells rZ.toArray 65)) (by decide)),HG11.out.2⟩)
      | exact ⟨zN HG11.out.1 hmWn (fun g hg=>zG HG11.out.1 hg (hE11.blk (zI Wd (.cells rZ.toArray 65)) id) (by decide)),HG11.out.2⟩
 obtain ⟨p,sv,lv,Ag,cg,rfl,rfl,rfl,hp,hF,hG,hE⟩:=hcut
 obtain ⟨A5,n5,c5,rfl⟩:∃ A n c,sv=.slice A n c:=⟨_,_,zC hF.hard.1.1 |>.choose_spec⟩
 obtain ⟨B5,m5,d5,rfl⟩:∃ A n c,lv=.slice A n c:=⟨_,_,zC hF.hard.2.1 |>.choose_spec⟩
 have hG0:wc.ownsRow 0 138 13 (.slice Ag 1 cg) 1 x.cells:=by simpa using hG.1
 have HNc:=hJ (HN.out.ext hE)
 have Hq:=hJ HNc.out.box
 obtain ⟨Hp,HF,HE,HG0⟩:=hJ4 hp hF hE hG0
 clear hp hF hG hE hG0
 go_upto_region 3 with (first
  | (refine zK ?_;refine lD 65 p 0 (yY Hp.out) ?_)
  | (refine zF ?_;refine stQ rfl 65 _ _ rfl 40 n 3 (.agg (N.r.cells (.slice A5 n5 c5) (.slice B5 m5 d5) (.slice none 0 0)).toArray) (N.r.cells (.slice A5 n5 c5) (.slice B5 m5 d5) (.slice none 0 0)) yA.2 _ _ (yE false { V with sv:=.slice A5 n5 c5,lv:=.slice B5 m5 d5,rv:=.slice none 0 0 } { N with rds:=[] }) Hq.out rfl ?_;intro W3 hbW3 hmW3 hsW3))
 have hN3:yD w0 W3 n { V with sv:=.slice A5 n5 c5,lv:=.slice B5 m5 d5,rv:=.slice none 0 0 } { N with rds:=[] }:=HNc.out.turn hmW3 hbW3 (fun hP=>⟨hP.st,hP.dk,hP.gh,by
  have hf:=(HF.out.box Hq.out hmW3 (by decide) (by decide) (by decide))
  exact ⟨⟨⟨hf.hard.1.1,fun g hg=>Nat.le_trans H0.out (hf.hard.1.2 g hg)⟩,jH hf.hard.2 H0.out⟩,⟨hf.reads.1,fun g hg=>Nat.le_trans H0.out (hf.reads.2 g hg)⟩⟩,hP.pp,hP.xx,hP.ww,fun k hk=>⟨(hP.ap k hk).1,(hP.ap k hk).2.1,fun e=>by
  have h1:=HF.out.hard.1.2 k e
  have h2:=za0 HN.out.p.dk.2.1 hk
  omega⟩,hP.nb⟩) ⟨rfl,rfl⟩ ⟨rfl,rfl⟩
 have HN3:=hJ hN3
 have HM3:=hJ (show Mod (fun k=>k=n) w W3 from (Ext.mod HE.out _).trans hmW3 (fun k _ e=>e))
 have HG3:=hJ (zN HG0.out hmW3 (fun g hg=>zG HG0.out hg Hq.out (by decide)))
 clear hN3 hbW3 hmW3 hsW3
 obtain ⟨g,off,rfl,hcell⟩:∃ g off,Ag=some ⟨g,off,none⟩∧∀ j u,x.cells[j]? = some u→W3.cell? ⟨g,off+j,none⟩=some u:=by
  obtain ⟨_,A',c',e,_,_,hx'⟩:=Sl.of_own (T:=fun _=>True) HG3.out (fun _ _=>trivial)
  injection e with e1 _ e3;subst e1;subst e3
  obtain ⟨g,off,rfl,hg,hcell⟩:=hx' (by omega)
  exact ⟨g,off,rfl,hcell⟩
 have Hcell:=hJ hcell
 clear hcell
 have h1l:([x]:List yL).length=1:=rfl
 try simp only[h1l]
 go_wp2_with fail
 go_loopw [30] (fun iv wr=>(iv=.int .i64 0∧wr=W3)∨(iv=.int .i64 1∧∃ tv,yD w0 wr n { V with sv:=.slice A5 n5 c5,lv:=.slice B5 m5 d5,rv:=.slice none 0 0,tv:=tv } { N with rds:=[],told:=N.told++[⟨x.call,rp,N.applied⟩] }∧Mod (fun k=>k=n∨V.tv.ownBlock=some k) w wr∧(∀ k,tv.ownBlock=some k→V.tv.ownBlock=some k∨w.heap.size≤k))) (fun iv _=>1-(intOf iv).toNat)
 case atStart=>exact .inl ⟨rfl,rfl⟩
 rcases hrel with ⟨rfl,rfl⟩|⟨rfl,tv,hNe,hMe,hge⟩
 · have hld:(Instr.loadAt 138 (.pointer (some ⟨g,off,none⟩))).run Tryz.prog wr=.ok (.agg x.cells.toArray) wr:=jE zeE rfl (fun j u hu=>Hcell.out j u hu)
   go_upto_region 6 with (first
    | (refine zK ?_;refine lD 138 g off hld ?_)
    | (refine zF ?_;refine stQ rfl 138 _ _ rfl 13 wr.heap.size 0 (.agg x.cells.toArray) x.cells zeE.2 _ [Value.int .i64 0,.int .i64 0,.int .i64 0,.string ⟨#[]⟩,.int .i64 0,.float .f64 0,.string ⟨#[]⟩,.int .i64 0,.float .f64 0,.string ⟨#[]⟩,.int .i64 0,.int .i64 0,.int .i64 0] x.cells (zI wr _) rfl ?_;intro W4 hbW4 hmW4 hsW4))
   obtain ⟨e3,he3⟩:∃ q,wr.heap.size=q:=⟨_,rfl⟩
   have hE4:Ext wr W4:=Mod.toExt (((Mod.refl (zD wr.heap.size) wr).alloc _).trans hmW4 (fun k _ e=>by unfold zD;omega))
   have he4:W4.heap[e3]? = some (.cells x.cells.toArray 138 (0,0)):=he3▸hbW4
   first|rw[he3]|skip
   have HN4:=hJ (HN3.out.ext hE4)
   have He4:=hJ he4
   have HM4:=hJ (HM3.out.ext hE4)
   clear hbW4 hmW4 hsW4 he4 he3 hE4 hld
   try simp only[pL]
   go_cut [8] (fun s8 wx=>∃ p,s8=.pointer (some ⟨p,0,none⟩)∧wx.heap[p]? = some (.cells rp.cells.toArray 48 (0,0))∧Ext W4 wx)
   case first=>
    obtain ⟨Wd,hWd⟩:∃ W,W4.drew=W:=⟨_,rfl⟩
    have hEd:Ext W4 Wd:=hWd▸(Mod.refl _ W4).drew
    have HNd:=hJ (HN4.out.ext hEd)
    have Hed:=hJ (hEd.blk He4.out id)
    have HEd:=hJ hEd
    have hkd:∀ W,Ext Wd W→Calls Tryz.prog 176 #[V.pv,.agg #[.int .i64 x.call.cmd.kind,.string x.call.cmd.key,.int .i64 x.call.cmd.old.kind,.float .f64 x.call.cmd.old.num,.string x.call.cmd.old.text,.int .i64 x.call.cmd.val.kind,.float .f64 x.call.cmd.val.num,.string x.call.cmd.val.text]] W fun e w'=>∃ v',e=.returned (.tuple #[v',.agg #[.int .i64 rp.code,.int .i64 rp.val.kind,.float .f64 rp.val.num,.string rp.val.text]])∧Ext W w':=fun W hE=>Hdo.out W _ V.pv (HNd.out.ext hE).p.pp.prs
    have Hkd:=hJ hkd
    clear hkd hEd
    refine yZ (fun W=>Ext Wd W) 14 (by show Ext Wd W4.drew;rw[hWd];exact Mod.refl _ _) (fun hS=>?_)
    rw[hWd] at hS ⊢
    clear hWd
    iterate 4
     (first|refine tP 0 35 ?_ hS (fun W'=>?_) ?_|refine tP 1 36 ?_ hS (fun W'=>?_) ?_|refine tP 2 37 ?_ hS (fun W'=>?_) ?_|refine tP 3 38 ?_ hS (fun W'=>?_) ?_);rotate_left;· go_simp;try rfl
     try simp only[pL]
    refine tU 4 39 (V.pv) hS n 43 (fun W' hW'=>zL zq5 (hW'.blk HNd.out.box id) rfl) ?_
    try simp only[pL]
    iterate 2
     (first|refine tP 5 40 ?_ hS (fun W'=>?_) ?_|refine tP 6 41 ?_ hS (fun W'=>?_) ?_);rotate_left;· go_simp;try rfl
     try simp only[pL]
    refine tU 7 42 (.agg #[.int .i64 x.call.cmd.kind,.string x.call.cmd.key,.int .i64 x.call.cmd.old.kind,.float .f64 x.call.cmd.old.num,.string x.call.cmd.old.text,.int .i64 x.call.cmd.val.kind,.float .f64 x.call.cmd.val.num,.string x.call.cmd.val.text]) hS e3 2 (fun W' hW'=>xH (P:=Tryz.prog) (o:=2) (cs:=[.int .i64 x.call.cmd.kind,.string x.call.cmd.key,.int .i64 x.call.cmd.old.kind,.float .f64 x.call.cmd.old.num,.string x.call.cmd.old.text,.int .i64 x.call.cmd.val.kind,.float .f64 x.call.cmd.val.num,.string x.call.cmd.val.text]) zeP (hW'.blk Hed.out id) rfl (fun j u hu=>by rcases j with _|_|_|_|_|_|_|_|j <;> first|exact hu|cases hu)) ?_
    try simp only[pL]
    refine twoU 8 12 (fun K hK=>?_) (fun K hK=>?_)
    · go_simp
      go_wp2_with fail
      refine (Hkd.out _ hS).mono ?_
      rintro e w11 ⟨v11,rfl,hE11⟩
      have hX:=hS.ext hE11
      go_simp
      refine hK.out _ _ hX (fun hS=>?_)
      clear hK K hX
      try simp only[pL]
      iterate 3
       (first|refine tP 9 34 ?_ hS (fun W'=>?_) ?_|refine tP 10 44 ?_ hS (fun W'=>?_) ?_|refine tP 11 45 ?_ hS (fun W'=>?_) ?_);rotate_left;· go_simp;try rfl
       try simp only[pL]
      refine jP 12 (fun K hK=>?_)
      have hS0:=hS
      go_simp
      refine hK.out _ _ (hS0.alloc _) (fun hS=>?_)
      clear hK K
      try show yK _ _ _ _ _ _ _ _ (Act.put _ (some 8) _) _
      try simp only[pL]
      refine tP 13 7 ?_ hS (fun W'=>?_) ?_;rotate_left;· go_simp;try rfl
      try simp only[pL]
      refine xN 14 rfl ?_
      simp only[List.drop_succ_cons,List.drop_zero]
      go_wp2_with (first|(refine zF ?_;refine stQ rfl 48 _ _ rfl 4 w11.heap.size 0 (.agg #[.int .i64 rp.code,.int .i64 rp.val.kind,.float .f64 rp.val.num,.string rp.val.text]) rp.cells yQ.2 _ [Value.int .i64 0,.int .i64 0,.float .f64 0,.string ⟨#[]⟩] rp.cells (zI w11 _) rfl ?_;intro Wn hbWn hmWn hsWn)|(refine zF ?_;refine stQ rfl 48 _ _ rfl 4 Wd.heap.size 0 (.agg #[.int .i64 rp.code,.int .i64 rp.val.kind,.float .f64 rp.val.num,.string rp.val.text]) rp.cells yQ.2 _ [Value.int .i64 0,.int .i64 0,.float .f64 0,.string ⟨#[]⟩] rp.cells (hE11.blk (zI Wd _) id) rfl ?_;intro Wn hbWn hmWn hsWn))
      go_meet
      exact ⟨_,rfl,hbWn,Mod.toExt ((Ext.mod (HEd.out.ext hS) (zD W4.heap.size)).trans hmWn (fun k _ e=>by have h1:=HEd.out.size;have h2:=hE11.size;unfold zD;omega))⟩
    · have hS0:=hS
      go_simp
      refine hK.out _ _ (hS0.alloc _) (fun hS=>?_)
      clear hK K
      try show yK _ _ _ _ _ _ _ _ (Act.put _ (some 8) _) _
      try simp only[pL]
      refine jP 8 (fun K hK=>?_)
      go_simp
      go_wp2_with fail
      refine (Hkd.out _ hS).mono ?_
      rintro e w11 ⟨v11,rfl,hE11⟩
      have hX:=hS.ext hE11
      go_simp
      refine hK.out _ _ hX (fun hS=>?_)
      clear hK K hX
      try simp only[pL]
      iterate 4
       (first|refine tP 9 34 ?_ hS (fun W'=>?_) ?_|refine tP 10 44 ?_ hS (fun W'=>?_) ?_|refine tP 11 45 ?_ hS (fun W'=>?_) ?_|refine tP 13 7 ?_ hS (fun W'=>?_) ?_);rotate_left;· go_simp;try rfl
       try simp only[pL]
      refine xN 14 rfl ?_
      simp only[List.drop_succ_cons,List.drop_zero]
      go_wp2_with (first|(refine zF ?_;refine stQ rfl 48 _ _ rfl 4 w11.heap.size 0 (.agg #[.int .i64 rp.code,.int .i64 rp.val.kind,.float .f64 rp.val.num,.string rp.val.text]) rp.cells yQ.2 _ [Value.int .i64 0,.int .i64 0,.float .f64 0,.string ⟨#[]⟩] rp.cells (zI w11 _) rfl ?_;intro Wn hbWn hmWn hsWn)|(refine zF ?_;refine stQ rfl 48 _ _ rfl 4 Wd.heap.size 0 (.agg #[.int .i64 rp.code,.int .i64 rp.val.kind,.float .f64 rp.val.num,.string rp.val.text]) rp.cells yQ.2 _ [Value.int .i64 0,.int .i64 0,.float .f64 0,.string ⟨#[]⟩] rp.cells (hE11.blk (zI Wd _) id) rfl ?_;intro Wn hbWn hmWn hsWn))
      go_meet
      exact ⟨_,rfl,hbWn,Mod.toExt ((Ext.mod (HEd.out.ext hS) (zD W4.heap.size)).trans hmWn (fun k _ e=>by have h1:=HEd.out.size;have h2:=hE11.size;unfold zD;omega))⟩
   obtain ⟨p,rfl,hp5,hE5⟩:=hcut
   obtain ⟨W13,hW13⟩:∃ W,wc.drew=W:=⟨_,rfl⟩
   have hE13:Ext wc W13:=hW13▸(Mod.refl _ wc).drew
   have HN13:=hJ (HN4.out.ext (hE5.ext hE13))
   have He13:=hJ ((hE5.ext hE13).blk He4.out id)
   have Hp13:=hJ (hE13.blk hp5 id)
   have HM13:=hJ (HM4.out.ext (hE5.ext hE13))
   have Htt:=hJ (show W13.ownsRow 0 50 15 (.slice At N.told.length ct) N.told.length (N.told.flatMap yU.cells) from Htv.out▸HN13.out.tt.1)
   clear hp5 hE5 hE13
   go_wp2_with fail
   refine yZ (fun W=>W.heap[n]? = some (.cells (yE false { V with sv:=.slice A5 n5 c5,lv:=.slice B5 m5 d5,rv:=.slice none 0 0 } { N with rds:=[] }).toArray 112 (0,0))∧W.heap[e3]? = some (.cells x.cells.toArray 138 (0,0))∧W.heap[p]? = some (.cells rp.cells.toArray 48 (0,0))) 17 (by rw[hW13];exact ⟨HN13.out.box,He13.out,Hp13.out⟩) (fun hS=>?_)
   rw[hW13] at hS ⊢
   clear hW13
   iterate 4
    (first|refine tP 0 46 ?_ hS (fun W'=>?_) ?_|refine tP 1 47 ?_ hS (fun W'=>?_) ?_|refine tP 2 48 ?_ hS (fun W'=>?_) ?_|refine tP 3 49 ?_ hS (fun W'=>?_) ?_);rotate_left;· go_simp;try rfl
    try simp only[pL]
   refine tU 4 50 (.slice At N.told.length ct) hS n 47 (fun W' ⟨hX1,hX2,hX3⟩=>zL zbR hX1 (show some V.tv=_ by rw[Htv.out])) ?_
   try simp only[pL]
   refine tP 5 51 ?_ hS (fun W'=>?_) ?_;rotate_left;· go_simp;try rfl
   try simp only[pL]
   refine tU 6 52 (.agg x.call.cells.toArray) hS e3 0 (fun W' ⟨hX1,hX2,hX3⟩=>xH (P:=Tryz.prog) (o:=0) (cs:=x.call.cells) zV hX2 rfl (fun j u hu=>by rcases j with _|_|_|_|_|_|_|_|_|_|j <;> first|exact hu|cases hu)) ?_
   try simp only[pL]
   refine tU 7 53 (.agg #[.int .i64 rp.code,.int .i64 rp.val.kind,.float .f64 rp.val.num,.string rp.val.text]) hS p 0 (fun W' ⟨hX1,hX2,hX3⟩=>ld0 (cs:=rp.cells) yQ hX3) ?_
   try simp only[pL]
   iterate 3
    (first|refine tP 8 54 ?_ hS (fun W'=>?_) ?_|refine tP 9 55 ?_ hS (fun W'=>?_) ?_|refine tP 10 56 ?_ hS (fun W'=>?_) ?_);rotate_left;· go_simp;try rfl
    try simp only[pL]
   refine tU 11 57 (.int .i64 N.applied) hS n 45 (fun W' ⟨hX1,hX2,hX3⟩=>zL zQ hX1 rfl) ?_
   try simp only[pL]
   refine tP 12 58 ?_ hS (fun W'=>?_) ?_;rotate_left;· go_simp;try rfl
   try simp only[pL]
   refine jP 13 (fun K hK=>?_)
   go_simp
   refine hK.out _ _ (⟨((Mod.refl (fun _=>False) W13).alloc _).blk hS.1 id,((Mod.refl (fun _=>False) W13).alloc _).blk hS.2.1 id,((Mod.refl (fun _=>False) W13).alloc _).blk hS.2.2 id⟩) (fun hS=>?_)
   clear hK K
   try show yK _ _ _ _ _ _ _ _ (Act.put _ (some 59) _) _
   try simp only[pL]
   refine jP 14 (fun K hK=>?_)
   refine zbN _ rfl _ _ 44 rfl 50 ti _ 15 152 Tryz.underlying44 hti htz0 htz1 htz2 rfl (by omega) (.slice At N.told.length ct) N.told.length (N.told.flatMap yU.cells) rfl (zN Htt.out ((Mod.refl (fun _=>False) W13).alloc _) (fun _ _=>id)) (fun _=>True) _ 1 (yU.cells (⟨x.call,rp,N.applied⟩:yU)) rfl (zeF W13 (yU.cells (⟨x.call,rp,N.applied⟩:yU)) _ 15 rfl) (ziR (⟨x.call,rp,N.applied⟩:yU)) (by simp only[maxLen];have:=Hlt.out;omega) (by have:=Hlt.out;omega) ?_
   intro v14 w14 ho hgr hat
   obtain ⟨A14,c14,rfl⟩:=zC ho
   have hM14:Mod (fun k=>(Value.slice At N.told.length ct).ownBlock=some k) W13 w14:=((Mod.refl _ W13).alloc _).grown hgr (fun k hk=>.inr hk)
   refine hK.out _ _ (⟨hM14.blk HN13.out.box (fun e=>zG Htt.out e HN13.out.box (by decide) rfl),hM14.blk He13.out (fun e=>zG Htt.out e He13.out (by decide) rfl),hM14.blk Hp13.out (fun e=>zG Htt.out e Hp13.out (by decide) rfl)⟩) (fun hS=>?_)
   clear hK K
   try show yK _ _ _ _ _ _ _ _ (Act.put _ (some 60) _) _
   try simp only[pL]
   iterate 2
    (first|refine tP 15 61 ?_ hS (fun W'=>?_) ?_|refine tP 16 62 ?_ hS (fun W'=>?_) ?_);rotate_left;· go_simp;try rfl
    try simp only[pL]
   refine xN 17 rfl ?_
   simp only[List.drop_succ_cons,List.drop_zero]
   have Hqn14:=hJ hS.1
   go_wp2_with (refine zF ?_;refine stQ rfl 44 _ _ rfl 1 n 47 (.slice A14 (N.told.length+1) c14) [.slice A14 (N.told.length+1) c14] zbR.size _ _ (yE false { V with sv:=.slice A5 n5 c5,lv:=.slice B5 m5 d5,rv:=.slice none 0 0,tv:=.slice A14 (N.told.length+1) c14 } { N with rds:=[],told:=N.told++[⟨x.call,rp,N.applied⟩] }) Hqn14.out rfl ?_;intro W15 hbW15 hmW15 hsW15)
   have hN15:yD w0 W15 n { V with sv:=.slice A5 n5 c5,lv:=.slice B5 m5 d5,rv:=.slice none 0 0,tv:=.slice A14 (N.told.length+1) c14 } { N with rds:=[],told:=N.told++[⟨x.call,rp,N.applied⟩] }:=by
    have hP14:zeG w0 w14 n _ _:=HN13.out.p.odd hM14 (fun k hk=>zgP Htt.out hk (by decide))
    have hd14:=zN HN13.out.dd.1 hM14 (fun g hg e=>jT Htt.out HN13.out.dd.1 (by decide) e hg)
    have hp:=hP14.odd hmW15 (fun k hk=>⟨_,_,_,hk▸hS.1,by decide,by decide,by decide,by decide,by decide,by decide,by decide,by decide⟩)
    refine ⟨⟨hp.st,hp.dk,hp.gh,hp.rh,hp.pp,hp.xx,hp.ww,hp.ap,hp.nb⟩,hbW15,⟨?_,fun g hg=>?_⟩,⟨zN hd14 hmW15 (fun g hg=>zG hd14 hg hS.1 (by decide)),HN13.out.dd.2⟩⟩
    · have h9:=zN ho hmW15 (fun g hg=>zG ho hg hS.1 (by decide))
      have hl:(N.told++[(⟨x.call,rp,N.applied⟩:yU)]).length=N.told.length+1:=by simp
      have hf:(N.told++[(⟨x.call,rp,N.applied⟩:yU)]).flatMap yU.cells=N.told.flatMap yU.cells++(⟨x.call,rp,N.applied⟩:yU).cells:=by simp
      show W15.ownsRow 0 50 15 (.slice A14 (N.told.length+1) c14) (N.told++[(⟨x.call,rp,N.applied⟩:yU)]).length ((N.told++[(⟨x.call,rp,N.applied⟩:yU)]).flatMap yU.cells)
      rw[hl,hf]
      exact h9
    · rcases hat with e|e <;> rw[e] at hg
      · exact HN13.out.tt.2 g (Htv.out▸hg)
      · have h1:=HM13.out.size
        have h2:=H0.out
        simp at hg;omega
   have hgt:∀ k,(Value.slice A14 (N.told.length+1) c14).ownBlock=some k→V.tv.ownBlock=some k∨w.heap.size≤k:=fun k hk=>by
    rcases hat with e|e <;> rw[e] at hk
    · exact .inl (Htv.out▸hk)
    · have h1:=HM13.out.size
      simp at hk;exact .inr (by omega)
   exact ⟨.inr ⟨rfl,_,hN15,((Mod.mono HM13.out (fun k _ e=>.inl e)).trans hM14 (fun k _ e=>.inr (by rw[Htv.out];exact e))).trans hmW15 (fun k _ e=>.inl e),hgt⟩,by simp only[intOf];omega⟩
 · have HNe:=hJ hNe
   obtain ⟨HMe,Hge⟩:=hJ2 hMe hge
   clear hNe hMe hge
   go_wp2
   go_end0
   exact ⟨rfl,_,_,tv,HNe.out,HMe.out,Hge.out⟩
theorem zkB (w0:World) (n:Nat) (N:yB) (x:yL) (rp:yH) (hr:zbF N.r N.rds) (hl:zdL N.r.hard) (hd:N.rds=[x]) (ha:x.acks=1) (hix:x.index≤N.applied) (hdo:KDo N.mach.pairs x.call.cmd rp) (hlt:N.told.length≤100000):zdP w0 n (fun _=>True) 97 #[.pointer (some ⟨n,0,none⟩)] N { N with rds:=[],told:=N.told++[⟨x.call,rp,N.applied⟩] }:=fun W V h0 hN hw _=>(zq6 w0 W n V N x rp h0 hN hr hl hd ha hix hdo hlt).mono fun e w' ⟨h1,sv,lv,tv,h2,h3,h4⟩=>⟨h1,_,h2,hw,Mod.mono h3 (fun k _ e=>e.elim .inl (fun e=>.inr (.inr (.inr (.inr (.inl e)))))),⟨rfl,rfl,fun _=>.inl,h4,fun _=>.inl⟩⟩
theorem zbF.asked {r:zS} (h:zbF r []) (h3:r.role=3) {x:yL} (hx:yX x.call=0∧(0≤x.index∧x.index≤r.commit)∧(0≤x.round∧x.round≤1099511627776)∧(0≤x.acks∧x.acks≤127)):zbF r [x]:=
  { h with asks:=Nat.le_refl _,ask:=fun y hy=>by rw[List.mem_singleton.1 hy];exact hx,rule:=fun _=>h3 }
theorem zq7 (w0 W:World) (n b:Nat) (V:NV) (N:yB) (c:zW) (rp:yH) (D':zU) (h0:w0.heap.size≤W.heap.size) (hN:yD w0 W n V N) (hwv:N.waits=[]→V.wv=.slice none 0 0) (hB:W.heap[b]? = some (.cells c.cells.toArray 29 (0,0)))
  (hL:zaD N.r) (hrd:N.rds=[]) (hw:N.waits=[]) (hc:yX c=0) (hco:c.ok) (hrn:0≤N.r.round∧N.r.round<1000000) (hs:zb6 N.dk N.g N.r.hard=(D',N.r.hard,0)) (hll:N.r.hard.log.length≤12700) (hgl:N.g.log.length≤1000000) (hsn:N.r.hard.snap.length≤1000000) (hb:N.r.hard.base≤N.applied) (hap:N.r.commit=N.applied) (hi:0≤N.applied∧N.applied≤1099511627776) (hb2:N.applied≤N.r.hard.base+16) (hb0:0≤N.r.hard.base∧N.r.hard.base≤1099511627776) (hdo:KDo N.mach.pairs c.cmd rp) (hlt:N.told.length≤100000):
  Calls Tryz.prog 42 #[.pointer (some ⟨n,0,none⟩),.func (Fn.func 43) #[] #[.pointer (some ⟨b,0,none⟩)],.func (Fn.func 45) #[] #[]] W (zfK w0 W n V (fun _=>False) { N with r:=N.r,rds:=[],g:=N.r.hard,dk:=D',told:=N.told++[⟨c,rp,N.applied⟩] }):=by
 obtain ⟨x,hx⟩:∃ x:yL,(⟨c,N.r.commit,N.r.round+1,1⟩:yL)=x:=⟨_,rfl⟩
 have hxc:x.call=c:=by rw[←hx]
 have hR1:zbF N.r [x]:=by
  rw[←hx]
  exact hL.right.asked hL.role ⟨hc,⟨by show 0≤N.r.commit;omega,by show N.r.commit≤N.r.commit;omega⟩,⟨by show 0≤N.r.round+1;omega,by show N.r.round+1≤_;omega⟩,⟨by show (0:Int)≤1;omega,by show (1:Int)≤127;omega⟩⟩
 obtain ⟨N1,hN1⟩:∃ N1:yB,{ N with r:=N.r,rds:=[x],g:=N.r.hard,dk:=D' }=N1:=⟨_,rfl⟩
 obtain ⟨N5,hN5⟩:∃ N5:yB,{ N with r:=N.r,rds:=[],g:=N.r.hard,dk:=D',told:=N.told++[⟨c,rp,N.applied⟩] }=N5:=⟨_,rfl⟩
 have e1:N1.r=N.r:=by rw[←hN1]
 have e2:N1.rds=[x]:=by rw[←hN1]
 have e3:N1.applied=N.applied:=by rw[←hN1]
 have e4:N5.r=N.r:=by rw[←hN5]
 have e5:N5.applied=N.applied:=by rw[←hN5]
 have hA:zdP w0 n (fun _=>True) 97 #[.pointer (some ⟨n,0,none⟩)] N1 N5:=by
  have h:=zkB w0 n N1 x rp (by rw[e1,e2];exact hR1) (by rw[e1];exact hL.lone) e2 (by rw[←hx]) (by rw[e3,←hx];show N.r.commit≤N.applied;omega) (by rw[hxc,←hN1];exact hdo) (by rw[←hN1];exact hlt)
  have e:({ N1 with rds:=[],told:=N1.told++[⟨x.call,rp,N1.applied⟩] }:yB)=N5:=by rw[hxc,←hN1,←hN5]
  rw[e] at h
  exact h
 rw[hN5]
 have nb:=hN.ns hB (by decide)
 refine zk3 w0 W n V N N1 N1 N5 N5 43 45 #[.pointer (some ⟨b,0,none⟩)] #[] (fun _=>False) (fun _=>True) N.r [x] D' h0 hN hwv (fun _ _=>rfl) (fun _ _=>rfl) ?_ (fun W1 W' hE hM=>(hN.ext hE).ext hM) (fun _ h=>h.elim) (fun _ _ _ _=>trivial) hs hll hgl hsn hb (by rw[hN1];exact zgQ w0 n _ N1) (zgR w0 n N1 (by rw[e1,e3];exact hap) (by rw[e3];exact hi)) (by rw[e1];exact hL.role) hA (za7 w0 n N5 (by rw[e4,e5];exact hb2) (by rw[e4];exact hb0))
 rw[←hx]
 intro W1 hE
 have hh:=(hN.ext hE).p.rh
 rw[hrd] at hh
 refine Calls.mono (n_call1 N.r c b V.sv V.lv V.rv W1 (fun _=>True) ⟨⟨hh.hard.mem.1.mono (fun _ _=>trivial),hh.hard.mem.2.1.mono (fun _ _=>trivial),hh.hard.mem.2.2⟩,Sl.of_own hh.reads.1 (fun _ _=>trivial)⟩ hL hc hco hrn (hE.blk hB id)) ?_
 rintro e w' ⟨sv,lv,rv,rfl,hF,hM,hE2⟩
 exact ⟨sv,lv,rv,rfl,hF,hM,hE2⟩
theorem zq8 (w0 w:World) (n:Nat) (V:NV) (N:yB) (c:zW) (rp:yH) (D':zU) (h0:w0.heap.size≤w.heap.size) (hN:yD w0 w n V N) (hwv:N.waits=[]→V.wv=.slice none 0 0)
  (hL:zaD N.r) (hrd:N.rds=[]) (hw:N.waits=[]) (hc:yX c=0) (hco:c.ok) (hck:c.cmd.kind=1) (hrn:0≤N.r.round∧N.r.round<1000000) (hs:zb6 N.dk N.g N.r.hard=(D',N.r.hard,0)) (hll:N.r.hard.log.length≤12700) (hgl:N.g.log.length≤1000000) (hsn:N.r.hard.snap.length≤1000000) (hb:N.r.hard.base≤N.applied) (hap:N.r.commit=N.applied) (hi:0≤N.applied∧N.applied≤1099511627776) (hb2:N.applied≤N.r.hard.base+16) (hbb:0≤N.r.hard.base∧N.r.hard.base≤1099511627776) (hdo:KDo N.mach.pairs c.cmd rp) (hlt:N.told.length≤100000):
  Calls Tryz.prog 10 #[.pointer (some ⟨n,0,none⟩),.agg #[.int .i64 c.client,.int .i64 c.seq,.int .i64 c.cmd.kind,.string c.cmd.key,.int .i64 c.cmd.old.kind,.float .f64 c.cmd.old.num,.string c.cmd.old.text,.int .i64 c.cmd.val.kind,.float .f64 c.cmd.val.num,.string c.cmd.val.text]] w (zdD w0 w n V { N with r:=N.r,rds:=[],g:=N.r.hard,dk:=D',told:=N.told++[⟨c,rp,N.applied⟩] }):=by
 obtain ⟨b,hb0⟩:∃ b,w.heap.size=b:=⟨_,rfl⟩
 have hst:=fun W (hE:Ext w W) (hB:W.heap[b]? = some (.cells c.cells.toArray 29 (0,0)))=>zq7 w0 W n b V N c rp D' (Nat.le_trans h0 hE.size) (hN.ext hE) hwv hB hL hrd hw hc hco hrn hs hll hgl hsn hb hap hi hb2 hbb hdo hlt
 have hkd:=fun W (hE:Ext w W)=>zhS w0 W n V N (hN.ext hE) hL.lone hL.id
 have hrg:=fun W=>jS c W
 rw[hc] at hrg
 obtain ⟨Hst,Hkd,Hrg,HN⟩:=hJ4 hst hkd hrg hN
 have Hro:=hJ hL.role
 have Hck:=hJ hck
 clear hst hkd hrg hN hwv hL hrd hw hc hco hck hrn hs hll hgl hsn hb hap hi hb2 hbb hdo hlt h0
 have hmf:∀ (fn:Fn) (first cap:Array Value) (w:World),(Instr.makeFunc fn first cap).run Tryz.prog w=.ok (.func fn first cap) w:=fun _ _ _ _=>rfl
 go_enter Tryz.func10,Tryz.ntmps10
 go_upto_region 1 with fail
 obtain ⟨W1,hW1⟩:∃ W,w.alloc (.cells c.cells.toArray 29)=W:=⟨_,rfl⟩
 have hE1:Ext w W1:=hW1▸((Mod.refl _ w).alloc _)
 have hb1:W1.heap[b]? = some (.cells c.cells.toArray 29 (0,0)):=hb0▸hW1▸zI _ _
 rw[hW1]
 clear hW1
 obtain ⟨HE1,Hb1⟩:=hJ2 hE1 hb1
 clear hE1 hb1
 go_upto_region 4 with (first
  | (refine zK ?_;refine lD 29 b 0 (ld0 zV Hb1.out) ?_)
  | (go_at_call 41;refine (Hrg.out _).mono ?_;rintro e w2 ⟨rfl,hE2⟩;have p2:w2.cell? ⟨n,2,none⟩=some (.bool false):=zA (HN.out.ext (HE1.out.ext hE2)).box rfl;have p15:w2.cell? ⟨n,15,none⟩=some (.int .i64 3):=by rw[←Hro.out];exact zA (HN.out.ext (HE1.out.ext hE2)).box rfl))
 have HE2:=hJ (HE1.out.ext hE2)
 have Hb2:=hJ (hE2.blk Hb1.out id)
 clear hE2
 go_upto_region 6 with (go_at_call 40;refine (Hkd.out _ HE2.out).mono ?_;rintro e w3 ⟨rfl,hE3⟩;have p1:w3.cell? ⟨n,1,none⟩=some (.bool false):=zA (HN.out.ext (HE2.out.ext hE3)).box rfl)
 have HE3:=hJ (HE2.out.ext hE3)
 have Hb3:=hJ (hE3.blk Hb2.out id)
 have pk:w3.cell? ⟨b,2,none⟩=some (.int .i64 1):=by rw[←Hck.out];exact zA Hb3.out rfl
 clear p2 p15 hE3
 have hs3:=Hst.out w3 HE3.out Hb3.out
 have Hs3:=hJ hs3
 clear hs3
 go_upto_region 9 with fail
 clear pk p1
 go_upto_region 10 with (go_at_call 42;refine Hs3.out.mono ?_;rintro e w4 ⟨rfl,V4,hN4,hw4,hM4,hG4⟩)
 have HF:=hJ (show zdD w0 w n V { N with r:=N.r,rds:=[],g:=N.r.hard,dk:=D',told:=N.told++[⟨c,rp,N.applied⟩] } (.returned (.int .i64 0)) w4 from zdD.up HE3.out ⟨rfl,V4,hN4,hw4,Mod.mono hM4 (fun k _ h=>h.elim id (fun e=>e.elim)),hG4⟩)
 clear hN4 hw4 hM4 hG4
 go_wp2_with fail
 first|(go_end0;exact HF.out)|(go_ret;exact HF.out)
theorem zkC (w0 w:World) (n:Nat) (V:NV) (N:yB) (c:zW) (E:Int) (hN:yD w0 w n V N) (hL:zaD N.r) (hc:yX c=E) (hE0:E≠0):
  Calls Tryz.prog 10 #[.pointer (some ⟨n,0,none⟩),.agg #[.int .i64 c.client,.int .i64 c.seq,.int .i64 c.cmd.kind,.string c.cmd.key,.int .i64 c.cmd.old.kind,.float .f64 c.cmd.old.num,.string c.cmd.old.text,.int .i64 c.cmd.val.kind,.float .f64 c.cmd.val.num,.string c.cmd.val.text]] w fun e w'=>e=.returned (.int .i64 E)∧Ext w w':=by
 obtain ⟨b,hb0⟩:∃ b,w.heap.size=b:=⟨_,rfl⟩
 have hst:True:=trivial
 have hkd:=fun W (hE:Ext w W)=>zhS w0 W n V N (hN.ext hE) hL.lone hL.id
 have hrg:=fun W=>jS c W
 rw[hc] at hrg
 obtain ⟨Hst,Hkd,Hrg,HN⟩:=hJ4 hst hkd hrg hN
 have Hro:=hJ hL.role
 clear hst hkd hrg hN hL hc
 go_enter Tryz.func10,Tryz.ntmps10
 go_upto_region 1 with fail
 obtain ⟨W1,hW1⟩:∃ W,w.alloc (.cells c.cells.toArray 29)=W:=⟨_,rfl⟩
 have hE1:Ext w W1:=hW1▸((Mod.refl _ w).alloc _)
 have hb1:W1.heap[b]? = some (.cells c.cells.toArray 29 (0,0)):=hb0▸hW1▸zI _ _
 rw[hW1]
 clear hW1
 obtain ⟨HE1,Hb1⟩:=hJ2 hE1 hb1
 clear hE1 hb1
 go_upto_region 4 with (first
  | (refine zK ?_;refine lD 29 b 0 (ld0 zV Hb1.out) ?_)
  | (go_at_call 41;refine (Hrg.out _).mono ?_;rintro e w2 ⟨rfl,hE2⟩;have p2:w2.cell? ⟨n,2,none⟩=some (.bool false):=zA (HN.out.ext (HE1.out.ext hE2)).box rfl;have p15:w2.cell? ⟨n,15,none⟩=some (.int .i64 3):=by rw[←Hro.out];exact zA (HN.out.ext (HE1.out.ext hE2)).box rfl))
 have HE2:=hJ (HE1.out.ext hE2)
 have Hb2:=hJ (hE2.blk Hb1.out id)
 clear hE2
 go_upto_region 6 with (go_at_call 40;refine (Hkd.out _ HE2.out).mono ?_;rintro e w3 ⟨rfl,hE3⟩;have p1:w3.cell? ⟨n,1,none⟩=some (.bool false):=zA (HN.out.ext (HE2.out.ext hE3)).box rfl)
 have HE3:=hJ (HE2.out.ext hE3)
 have Hb3:=hJ (hE3.blk Hb2.out id)
 clear p2 p15 hE3
 go_wp2_with fail
 first|(go_end0;exact ⟨rfl,HE3.out⟩)|(go_ret;exact ⟨rfl,HE3.out⟩)
end Go.Proofs.YtjbkjhhjofeldaaGreat
