/-
 Layer 22 (node): (*Node).Call of a node that leads alone, of a call that was told before, or of an elder number. Conditions: as each theorem names them.
-/
import Derived.Test.YtjbkjhhjofeldaaGreatG30
set_option maxRecDepth 100000
set_option maxHeartbeats 2000000
namespace Go.Proofs.YtjbkjhhjofeldaaGreat
set_option linter.unusedSimpArgs false
set_option linter.unusedVariables false
open Go.RowKit
theorem zq9 (w0 w:World) (n:Nat) (V:NV) (N:yB) (c:zW) (h0:w0.heap.size≤w.heap.size) (hN:yD w0 w n V N) (hwv:N.waits=[]→V.wv=.slice none 0 0) (hL:zaD N.r) (hc:yX c=0) (hck:c.cmd.kind≠1) (hsl:zp5 N.mach.sess) (hls:c.seq=(yJ N.mach.sess c.client).1) (hlt:N.told.length≤100000):
  Calls Tryz.prog 10 #[.pointer (some ⟨n,0,none⟩),.agg #[.int .i64 c.client,.int .i64 c.seq,.int .i64 c.cmd.kind,.string c.cmd.key,.int .i64 c.cmd.old.kind,.float .f64 c.cmd.old.num,.string c.cmd.old.text,.int .i64 c.cmd.val.kind,.float .f64 c.cmd.val.num,.string c.cmd.val.text]] w (zdD w0 w n V { N with told:=N.told++[⟨c,(yJ N.mach.sess c.client).2,N.applied⟩] }):=by
 obtain ⟨b,hb0⟩:∃ b,w.heap.size=b:=⟨_,rfl⟩
 have hst:True:=trivial
 have hkd:=fun W (hE:Ext w W)=>zhS w0 W n V N (hN.ext hE) hL.lone hL.id
 have hrg:=fun W=>jS c W
 rw[hc] at hrg
 obtain ⟨Hst,Hkd,Hrg,HN⟩:=hJ4 hst hkd hrg hN
 have Hro:=hJ hL.role
 have hla:=fun W (hE:Ext w W)=>hsl W _ V.pv V.xv c.client ((hN.ext hE).p.xx.ses)
 obtain ⟨Hla,Hls,Hck⟩:=hJ3 hla hls hck
 obtain ⟨ti,hti,htz0,htz1,htz2⟩:=info_parts zeH
 obtain ⟨At,ct,htv⟩:∃ A c,V.tv=.slice A N.told.length c:=zC hN.tt.1
 obtain ⟨Htv,Hwv,H0,Hlt⟩:=hJ4 htv hwv h0 hlt
 clear hst Hst hkd hrg hN hL hc hla hsl hls htv hwv h0 hlt
 go_enter Tryz.func10,Tryz.ntmps10
 go_upto_region 1 with fail
 obtain ⟨W1,hW1⟩:∃ W,w.alloc (.cells c.cells.toArray 29)=W:=⟨_,rfl⟩
 have hE1:Ext w W1:=hW1▸((Mod.refl _ w).alloc _)
 have hb1:W1.heap[b]? = some (.cells c.cells.toArray 29 (0,0)):=hb0▸hW1▸zI _ _
 rw[hW1]
 clear hW1
 obtain ⟨HE1,Hb1⟩:=hJ2 hE1 hb1
 clear hE1 hb1
 go_upto_region 4 with (first
  | (refine zK ?_;refine lD 29 b 0 (ld0 zV Hb1.out) ?_)
  | (go_at_call 41;refine (Hrg.out _).mono ?_;rintro e w2 ⟨rfl,hE2⟩;have p2:w2.cell? ⟨n,2,none⟩=some (.bool false):=zA (HN.out.ext (HE1.out.ext hE2)).box rfl;have p15:w2.cell? ⟨n,15,none⟩=some (.int .i64 3):=by rw[←Hro.out];exact zA (HN.out.ext (HE1.out.ext hE2)).box rfl))
 have HE2:=hJ (HE1.out.ext hE2)
 have Hb2:=hJ (hE2.blk Hb1.out id)
 clear hE2
 go_upto_region 6 with (go_at_call 40;refine (Hkd.out _ HE2.out).mono ?_;rintro e w3 ⟨rfl,hE3⟩;have p1:w3.cell? ⟨n,1,none⟩=some (.bool false):=zA (HN.out.ext (HE2.out.ext hE3)).box rfl)
 have HE3:=hJ (HE2.out.ext hE3)
 have Hb3:=hJ (hE3.blk Hb2.out id)
 have pk:w3.cell? ⟨b,2,none⟩=some (.int .i64 c.cmd.kind):=zA Hb3.out rfl
 clear p2 p15 hE3
 go_upto_region 11 with fail
 clear pk p1
 have HN3:=hJ (HN.out.ext HE3.out)
 obtain ⟨ls,hls0⟩:∃ x,yJ N.mach.sess c.client=x:=⟨_,rfl⟩
 obtain ⟨l1,l2⟩:=ls
 rw[hls0] at Hla Hls
 have Hl0:=hJ hls0
 clear hls0
 go_wp2_with fail
 go_cut [6,7] (fun s6 s7 wx=>∃ p,s6=.int .i64 l1∧s7=.pointer (some ⟨p,0,none⟩)∧wx.heap[p]? = some (.cells l2.cells.toArray 48 (0,0))∧Ext w3 wx)
 case first=>
  obtain ⟨Wd,hWd⟩:∃ W,w3.drew=W:=⟨_,rfl⟩
  have hEd:Ext w3 Wd:=hWd▸(Mod.refl _ w3).drew
  have HNd:=hJ (HN3.out.ext hEd)
  have Hbd:=hJ (hEd.blk Hb3.out id)
  have HEd:=hJ hEd
  clear hEd
  refine yZ (fun W=>Ext Wd W) 12 (by show Ext Wd w3.drew;rw[hWd];exact Mod.refl _ _) (fun hS=>?_)
  rw[hWd] at hS ⊢
  clear hWd
  iterate 3
   (first|refine tP 0 50 ?_ hS (fun W'=>?_) ?_|refine tP 1 51 ?_ hS (fun W'=>?_) ?_|refine tP 2 52 ?_ hS (fun W'=>?_) ?_);rotate_left;· go_simp;try rfl
   try simp only[pL]
  refine tU 3 53 (.agg #[V.pv,V.xv]) hS n 43 (fun W' hW'=>zeI (hW'.blk HNd.out.box id)) ?_
  try simp only[pL]
  refine tP 4 54 ?_ hS (fun W'=>?_) ?_;rotate_left;· go_simp;try rfl
  try simp only[pL]
  refine tU 5 55 (.int .i64 c.client) hS b 0 (fun W' hW'=>zL zQ (hW'.blk Hbd.out id) rfl) ?_
  try simp only[pL]
  refine twoU 6 10 (fun K hK=>?_) (fun K hK=>?_)
  · go_simp
    go_wp2_with fail
    refine (Hla.out _ (HE3.out.ext (HEd.out.ext hS))).mono ?_
    rintro e w11 ⟨rfl,hE11⟩
    have hX:=hS.ext hE11
    go_simp
    refine hK.out _ _ hX (fun hS=>?_)
    clear hK K hX
    try simp only[pL]
    iterate 3
     (first|refine tP 7 49 ?_ hS (fun W'=>?_) ?_|refine tP 8 57 ?_ hS (fun W'=>?_) ?_|refine tP 9 58 ?_ hS (fun W'=>?_) ?_);rotate_left;· go_simp;try rfl
     try simp only[pL]
    refine jP 10 (fun K hK=>?_)
    have hS0:=hS
    go_simp
    refine hK.out _ _ (hS0.alloc _) (fun hS=>?_)
    clear hK K
    try show yK _ _ _ _ _ _ _ _ (Act.put _ (some 7) _) _
    try simp only[pL]
    refine tP 11 6 ?_ hS (fun W'=>?_) ?_;rotate_left;· go_simp;try rfl
    try simp only[pL]
    refine xN 12 rfl ?_
    simp only[List.drop_succ_cons,List.drop_zero]
    go_wp2_with (first|(refine zF ?_;refine stQ rfl 48 _ _ rfl 4 w11.heap.size 0 (.agg #[.int .i64 l2.code,.int .i64 l2.val.kind,.float .f64 l2.val.num,.string l2.val.text]) l2.cells yQ.2 _ [Value.int .i64 0,.int .i64 0,.float .f64 0,.string ⟨#[]⟩] l2.cells (zI w11 _) rfl ?_;intro Wn hbWn hmWn hsWn)|(refine zF ?_;refine stQ rfl 48 _ _ rfl 4 Wd.heap.size 0 (.agg #[.int .i64 l2.code,.int .i64 l2.val.kind,.float .f64 l2.val.num,.string l2.val.text]) l2.cells yQ.2 _ [Value.int .i64 0,.int .i64 0,.float .f64 0,.string ⟨#[]⟩] l2.cells (hE11.blk (zI Wd _) id) rfl ?_;intro Wn hbWn hmWn hsWn))
    go_meet
    exact ⟨_,rfl,rfl,hbWn,Mod.toExt ((Ext.mod (HEd.out.ext hS) (zD w3.heap.size)).trans hmWn (fun k _ e=>by have h1:=HEd.out.size;have h2:=hE11.size;unfold zD;omega))⟩
  · have hS0:=hS
    go_simp
    refine hK.out _ _ (hS0.alloc _) (fun hS=>?_)
    clear hK K
    try show yK _ _ _ _ _ _ _ _ (Act.put _ (some 7) _) _
    try simp only[pL]
    refine jP 6 (fun K hK=>?_)
    go_simp
    go_wp2_with fail
    refine (Hla.out _ (HE3.out.ext (HEd.out.ext hS))).mono ?_
    rintro e w11 ⟨rfl,hE11⟩
    have hX:=hS.ext hE11
    go_simp
    refine hK.out _ _ hX (fun hS=>?_)
    clear hK K hX
    try simp only[pL]
    iterate 4
     (first|refine tP 7 49 ?_ hS (fun W'=>?_) ?_|refine tP 8 57 ?_ hS (fun W'=>?_) ?_|refine tP 9 58 ?_ hS (fun W'=>?_) ?_|refine tP 11 6 ?_ hS (fun W'=>?_) ?_);rotate_left;· go_simp;try rfl
     try simp only[pL]
    refine xN 12 rfl ?_
    simp only[List.drop_succ_cons,List.drop_zero]
    go_wp2_with (first|(refine zF ?_;refine stQ rfl 48 _ _ rfl 4 w11.heap.size 0 (.agg #[.int .i64 l2.code,.int .i64 l2.val.kind,.float .f64 l2.val.num,.string l2.val.text]) l2.cells yQ.2 _ [Value.int .i64 0,.int .i64 0,.float .f64 0,.string ⟨#[]⟩] l2.cells (zI w11 _) rfl ?_;intro Wn hbWn hmWn hsWn)|(refine zF ?_;refine stQ rfl 48 _ _ rfl 4 Wd.heap.size 0 (.agg #[.int .i64 l2.code,.int .i64 l2.val.kind,.float .f64 l2.val.num,.string l2.val.text]) l2.cells yQ.2 _ [Value.int .i64 0,.int .i64 0,.float .f64 0,.string ⟨#[]⟩] l2.cells (hE11.blk (zI Wd _) id) rfl ?_;intro Wn hbWn hmWn hsWn))
    go_meet
    exact ⟨_,rfl,rfl,hbWn,Mod.toExt ((Ext.mod (HEd.out.ext hS) (zD w3.heap.size)).trans hmWn (fun k _ e=>by have h1:=HEd.out.size;have h2:=hE11.size;unfold zD;omega))⟩
 obtain ⟨p,rfl,rfl,hp4,hE4⟩:=hcut
 have HN4:=hJ (HN3.out.ext hE4)
 have Hb4:=hJ (hE4.blk Hb3.out id)
 have HE4:=hJ (HE3.out.ext hE4)
 have ps:wc.cell? ⟨b,1,none⟩=some (.int .i64 l1):=by rw[←Hls.out];exact zA Hb4.out rfl
 clear hE4
 go_upto_region 13 with fail
 clear ps hck
 obtain ⟨W13,hW13⟩:∃ W,wc.drew=W:=⟨_,rfl⟩
 have hE13:Ext wc W13:=hW13▸(Mod.refl _ wc).drew
 have HN13:=hJ (HN4.out.ext hE13)
 have Hb13:=hJ (hE13.blk Hb4.out id)
 have Hp13:=hJ (hE13.blk hp4 id)
 have HE13:=hJ (HE4.out.ext hE13)
 have Htt:=hJ (show W13.ownsRow 0 50 15 (.slice At N.told.length ct) N.told.length (N.told.flatMap yU.cells) from Htv.out▸HN13.out.tt.1)
 clear hE13
 go_wp2_with fail
 refine yZ (fun W=>W.heap[n]? = some (.cells (yE false V N).toArray 112 (0,0))∧W.heap[b]? = some (.cells c.cells.toArray 29 (0,0))∧W.heap[p]? = some (.cells l2.cells.toArray 48 (0,0))) 16 (by rw[hW13];exact ⟨HN13.out.box,Hb13.out,Hp13.out⟩) (fun hS=>?_)
 rw[hW13] at hS ⊢
 clear hW13
 iterate 4
  (first|refine tP 0 64 ?_ hS (fun W'=>?_) ?_|refine tP 1 65 ?_ hS (fun W'=>?_) ?_|refine tP 2 66 ?_ hS (fun W'=>?_) ?_|refine tP 3 67 ?_ hS (fun W'=>?_) ?_);rotate_left;· go_simp;try rfl
  try simp only[pL]
 refine tU 4 68 (.slice At N.told.length ct) hS n 47 (fun W' ⟨hX1,hX2,hX3⟩=>zL zbR hX1 (show some V.tv=_ by rw[Htv.out])) ?_
 try simp only[pL]
 refine tU 5 69 (.agg c.cells.toArray) hS b 0 (fun W' ⟨hX1,hX2,hX3⟩=>ld0 zV hX2) ?_
 try simp only[pL]
 refine tU 6 70 (.agg #[.int .i64 l2.code,.int .i64 l2.val.kind,.float .f64 l2.val.num,.string l2.val.text]) hS p 0 (fun W' ⟨hX1,hX2,hX3⟩=>ld0 (cs:=l2.cells) yQ hX3) ?_
 try simp only[pL]
 iterate 3
  (first|refine tP 7 71 ?_ hS (fun W'=>?_) ?_|refine tP 8 72 ?_ hS (fun W'=>?_) ?_|refine tP 9 73 ?_ hS (fun W'=>?_) ?_);rotate_left;· go_simp;try rfl
  try simp only[pL]
 refine tU 10 74 (.int .i64 N.applied) hS n 45 (fun W' ⟨hX1,hX2,hX3⟩=>zL zQ hX1 rfl) ?_
 try simp only[pL]
 refine tP 11 75 ?_ hS (fun W'=>?_) ?_;rotate_left;· go_simp;try rfl
 try simp only[pL]
 refine jP 12 (fun K hK=>?_)
 go_simp
 refine hK.out _ _ (⟨((Mod.refl (fun _=>False) W13).alloc _).blk hS.1 id,((Mod.refl (fun _=>False) W13).alloc _).blk hS.2.1 id,((Mod.refl (fun _=>False) W13).alloc _).blk hS.2.2 id⟩) (fun hS=>?_)
 clear hK K
 try show yK _ _ _ _ _ _ _ _ (Act.put _ (some 76) _) _
 try simp only[pL]
 refine jP 13 (fun K hK=>?_)
 refine zbN _ rfl _ _ 44 rfl 50 ti _ 15 152 Tryz.underlying44 hti htz0 htz1 htz2 rfl (by omega) (.slice At N.told.length ct) N.told.length (N.told.flatMap yU.cells) rfl (zN Htt.out ((Mod.refl (fun _=>False) W13).alloc _) (fun _ _=>id)) (fun _=>True) _ 1 (yU.cells (⟨c,l2,N.applied⟩:yU)) rfl (zeF W13 (yU.cells (⟨c,l2,N.applied⟩:yU)) _ 15 rfl) (ziR (⟨c,l2,N.applied⟩:yU)) (by simp only[maxLen];have:=Hlt.out;omega) (by have:=Hlt.out;omega) ?_
 intro v14 w14 ho hgr hat
 obtain ⟨A14,c14,rfl⟩:=zC ho
 have hM14:Mod (fun k=>(Value.slice At N.told.length ct).ownBlock=some k) W13 w14:=((Mod.refl _ W13).alloc _).grown hgr (fun k hk=>.inr hk)
 refine hK.out _ _ (⟨hM14.blk HN13.out.box (fun e=>zG Htt.out e HN13.out.box (by decide) rfl),hM14.blk Hb13.out (fun e=>zG Htt.out e Hb13.out (by decide) rfl),hM14.blk Hp13.out (fun e=>zG Htt.out e Hp13.out (by decide) rfl)⟩) (fun hS=>?_)
 clear hK K
 try show yK _ _ _ _ _ _ _ _ (Act.put _ (some 77) _) _
 try simp only[pL]
 iterate 2
  (first|refine tP 14 78 ?_ hS (fun W'=>?_) ?_|refine tP 15 79 ?_ hS (fun W'=>?_) ?_);rotate_left;· go_simp;try rfl
  try simp only[pL]
 refine xN 16 rfl ?_
 simp only[List.drop_succ_cons,List.drop_zero]
 have Hqn14:=hJ hS.1
 go_wp2_with (refine zF ?_;refine stQ rfl 44 _ _ rfl 1 n 47 (.slice A14 (N.told.length+1) c14) [.slice A14 (N.told.length+1) c14] zbR.size _ _ (yE false { V with tv:=.slice A14 (N.told.length+1) c14 } { N with told:=N.told++[(⟨c,l2,N.applied⟩:yU)] }) Hqn14.out rfl ?_;intro W15 hbW15 hmW15 hsW15)
 have hN15:yD w0 W15 n { V with tv:=.slice A14 (N.told.length+1) c14 } { N with told:=N.told++[(⟨c,l2,N.applied⟩:yU)] }:=by
  have hP14:zeG w0 w14 n _ _:=HN13.out.p.odd hM14 (fun k hk=>zgP Htt.out hk (by decide))
  have hd14:=zN HN13.out.dd.1 hM14 (fun g hg e=>jT Htt.out HN13.out.dd.1 (by decide) e hg)
  have hp:=hP14.odd hmW15 (fun k hk=>⟨_,_,_,hk▸hS.1,by decide,by decide,by decide,by decide,by decide,by decide,by decide,by decide⟩)
  refine ⟨⟨hp.st,hp.dk,hp.gh,hp.rh,hp.pp,hp.xx,hp.ww,hp.ap,hp.nb⟩,hbW15,⟨?_,fun g hg=>?_⟩,⟨zN hd14 hmW15 (fun g hg=>zG hd14 hg hS.1 (by decide)),HN13.out.dd.2⟩⟩
  · have h9:=zN ho hmW15 (fun g hg=>zG ho hg hS.1 (by decide))
    have hl:(N.told++[(⟨c,l2,N.applied⟩:yU)]).length=N.told.length+1:=by simp
    have hf:(N.told++[(⟨c,l2,N.applied⟩:yU)]).flatMap yU.cells=N.told.flatMap yU.cells++(⟨c,l2,N.applied⟩:yU).cells:=by simp
    show W15.ownsRow 0 50 15 (.slice A14 (N.told.length+1) c14) (N.told++[(⟨c,l2,N.applied⟩:yU)]).length ((N.told++[(⟨c,l2,N.applied⟩:yU)]).flatMap yU.cells)
    rw[hl,hf]
    exact h9
  · rcases hat with e|e <;> rw[e] at hg
    · exact HN13.out.tt.2 g (Htv.out▸hg)
    · have h1:=HE13.out.size
      have h2:=H0.out
      simp at hg;omega
 have hgt:∀ k,(Value.slice A14 (N.told.length+1) c14).ownBlock=some k→V.tv.ownBlock=some k∨w.heap.size≤k:=fun k hk=>by
  rcases hat with e|e <;> rw[e] at hk
  · exact .inl (Htv.out▸hk)
  · have h1:=HE13.out.size
    simp at hk;exact .inr (by omega)
 have HF:=hJ (show zdD w0 w n V { N with told:=N.told++[(⟨c,l2,N.applied⟩:yU)] } (.returned (.int .i64 0)) W15 from ⟨rfl,_,hN15,fun e=>Hwv.out e,((Ext.mod HE13.out _).trans hM14 (fun k _ e=>.inr (.inr (.inr (.inr (.inl (by rw[Htv.out];exact e))))))).trans hmW15 (fun k _ e=>.inl e),⟨rfl,rfl,fun _=>.inl,hgt,fun _=>.inl⟩⟩)
 rw[show l2=(yJ N.mach.sess c.client).2 by rw[Hl0.out]] at HF
 clear hbW15 hmW15 hsW15 hN15 hgt ho hgr hat hM14 hS
 first|(go_end0;exact HF.out)|(go_ret;exact HF.out)
theorem zlE (w0 w:World) (n:Nat) (V:NV) (N:yB) (c:zW) (hN:yD w0 w n V N) (hL:zaD N.r) (hc:yX c=0) (hck:c.cmd.kind≠1) (hsl:zp5 N.mach.sess) (hls:c.seq<(yJ N.mach.sess c.client).1):
  Calls Tryz.prog 10 #[.pointer (some ⟨n,0,none⟩),.agg #[.int .i64 c.client,.int .i64 c.seq,.int .i64 c.cmd.kind,.string c.cmd.key,.int .i64 c.cmd.old.kind,.float .f64 c.cmd.old.num,.string c.cmd.old.text,.int .i64 c.cmd.val.kind,.float .f64 c.cmd.val.num,.string c.cmd.val.text]] w fun e w'=>e=.returned (.int .i64 10)∧Ext w w':=by
 obtain ⟨b,hb0⟩:∃ b,w.heap.size=b:=⟨_,rfl⟩
 have hst:True:=trivial
 have hkd:=fun W (hE:Ext w W)=>zhS w0 W n V N (hN.ext hE) hL.lone hL.id
 have hrg:=fun W=>jS c W
 rw[hc] at hrg
 obtain ⟨Hst,Hkd,Hrg,HN⟩:=hJ4 hst hkd hrg hN
 have Hro:=hJ hL.role
 have hla:=fun W (hE:Ext w W)=>hsl W _ V.pv V.xv c.client ((hN.ext hE).p.xx.ses)
 obtain ⟨Hla,Hls,Hck⟩:=hJ3 hla hls hck
 clear hst Hst hkd hrg hN hL hc hla hsl hls
 go_enter Tryz.func10,Tryz.ntmps10
 go_upto_region 1 with fail
 obtain ⟨W1,hW1⟩:∃ W,w.alloc (.cells c.cells.toArray 29)=W:=⟨_,rfl⟩
 have hE1:Ext w W1:=hW1▸((Mod.refl _ w).alloc _)
 have hb1:W1.heap[b]? = some (.cells c.cells.toArray 29 (0,0)):=hb0▸hW1▸zI _ _
 rw[hW1]
 clear hW1
 obtain ⟨HE1,Hb1⟩:=hJ2 hE1 hb1
 clear hE1 hb1
 go_upto_region 4 with (first
  | (refine zK ?_;refine lD 29 b 0 (ld0 zV Hb1.out) ?_)
  | (go_at_call 41;refine (Hrg.out _).mono ?_;rintro e w2 ⟨rfl,hE2⟩;have p2:w2.cell? ⟨n,2,none⟩=some (.bool false):=zA (HN.out.ext (HE1.out.ext hE2)).box rfl;have p15:w2.cell? ⟨n,15,none⟩=some (.int .i64 3):=by rw[←Hro.out];exact zA (HN.out.ext (HE1.out.ext hE2)).box rfl))
 have HE2:=hJ (HE1.out.ext hE2)
 have Hb2:=hJ (hE2.blk Hb1.out id)
 clear hE2
 go_upto_region 6 with (go_at_call 40;refine (Hkd.out _ HE2.out).mono ?_;rintro e w3 ⟨rfl,hE3⟩;have p1:w3.cell? ⟨n,1,none⟩=some (.bool false):=zA (HN.out.ext (HE2.out.ext hE3)).box rfl)
 have HE3:=hJ (HE2.out.ext hE3)
 have Hb3:=hJ (hE3.blk Hb2.out id)
 have pk:w3.cell? ⟨b,2,none⟩=some (.int .i64 c.cmd.kind):=zA Hb3.out rfl
 clear p2 p15 hE3
 go_upto_region 11 with fail
 clear pk p1
 have HN3:=hJ (HN.out.ext HE3.out)
 obtain ⟨ls,hls0⟩:∃ x,yJ N.mach.sess c.client=x:=⟨_,rfl⟩
 obtain ⟨l1,l2⟩:=ls
 rw[hls0] at Hla Hls
 have Hl0:=hJ hls0
 clear hls0
 go_wp2_with fail
 go_cut [6,7] (fun s6 s7 wx=>∃ p,s6=.int .i64 l1∧s7=.pointer (some ⟨p,0,none⟩)∧wx.heap[p]? = some (.cells l2.cells.toArray 48 (0,0))∧Ext w3 wx)
 case first=>
  obtain ⟨Wd,hWd⟩:∃ W,w3.drew=W:=⟨_,rfl⟩
  have hEd:Ext w3 Wd:=hWd▸(Mod.refl _ w3).drew
  have HNd:=hJ (HN3.out.ext hEd)
  have Hbd:=hJ (hEd.blk Hb3.out id)
  have HEd:=hJ hEd
  clear hEd
  refine yZ (fun W=>Ext Wd W) 12 (by show Ext Wd w3.drew;rw[hWd];exact Mod.refl _ _) (fun hS=>?_)
  rw[hWd] at hS ⊢
  clear hWd
  iterate 3
   (first|refine tP 0 50 ?_ hS (fun W'=>?_) ?_|refine tP 1 51 ?_ hS (fun W'=>?_) ?_|refine tP 2 52 ?_ hS (fun W'=>?_) ?_);rotate_left;· go_simp;try rfl
   try simp only[pL]
  refine tU 3 53 (.agg #[V.pv,V.xv]) hS n 43 (fun W' hW'=>zeI (hW'.blk HNd.out.box id)) ?_
  try simp only[pL]
  refine tP 4 54 ?_ hS (fun W'=>?_) ?_;rotate_left;· go_simp;try rfl
  try simp only[pL]
  refine tU 5 55 (.int .i64 c.client) hS b 0 (fun W' hW'=>zL zQ (hW'.blk Hbd.out id) rfl) ?_
  try simp only[pL]
  refine twoU 6 10 (fun K hK=>?_) (fun K hK=>?_)
  · go_simp
    go_wp2_with fail
    refine (Hla.out _ (HE3.out.ext (HEd.out.ext hS))).mono ?_
    rintro e w11 ⟨rfl,hE11⟩
    have hX:=hS.ext hE11
    go_simp
    refine hK.out _ _ hX (fun hS=>?_)
    clear hK K hX
    try simp only[pL]
    iterate 3
     (first|refine tP 7 49 ?_ hS (fun W'=>?_) ?_|refine tP 8 57 ?_ hS (fun W'=>?_) ?_|refine tP 9 58 ?_ hS (fun W'=>?_) ?_);rotate_left;· go_simp;try rfl
     try simp only[pL]
    refine jP 10 (fun K hK=>?_)
    have hS0:=hS
    go_simp
    refine hK.out _ _ (hS0.alloc _) (fun hS=>?_)
    clear hK K
    try show yK _ _ _ _ _ _ _ _ (Act.put _ (some 7) _) _
    try simp only[pL]
    refine tP 11 6 ?_ hS (fun W'=>?_) ?_;rotate_left;· go_simp;try rfl
    try simp only[pL]
    refine xN 12 rfl ?_
    simp only[List.drop_succ_cons,List.drop_zero]
    go_wp2_with (first|(refine zF ?_;refine stQ rfl 48 _ _ rfl 4 w11.heap.size 0 (.agg #[.int .i64 l2.code,.int .i64 l2.val.kind,.float .f64 l2.val.num,.string l2.val.text]) l2.cells yQ.2 _ [Value.int .i64 0,.int .i64 0,.float .f64 0,.string ⟨#[]⟩] l2.cells (zI w11 _) rfl ?_;intro Wn hbWn hmWn hsWn)|(refine zF ?_;refine stQ rfl 48 _ _ rfl 4 Wd.heap.size 0 (.agg #[.int .i64 l2.code,.int .i64 l2.val.kind,.float .f64 l2.val.num,.string l2.val.text]) l2.cells yQ.2 _ [Value.int .i64 0,.int .i64 0,.float .f64 0,.string ⟨#[]⟩] l2.cells (hE11.blk (zI Wd _) id) rfl ?_;intro Wn hbWn hmWn hsWn))
    go_meet
    exact ⟨_,rfl,rfl,hbWn,Mod.toExt ((Ext.mod (HEd.out.ext hS) (zD w3.heap.size)).trans hmWn (fun k _ e=>by have h1:=HEd.out.size;have h2:=hE11.size;unfold zD;omega))⟩
  · have hS0:=hS
    go_simp
    refine hK.out _ _ (hS0.alloc _) (fun hS=>?_)
    clear hK K
    try show yK _ _ _ _ _ _ _ _ (Act.put _ (some 7) _) _
    try simp only[pL]
    refine jP 6 (fun K hK=>?_)
    go_simp
    go_wp2_with fail
    refine (Hla.out _ (HE3.out.ext (HEd.out.ext hS))).mono ?_
    rintro e w11 ⟨rfl,hE11⟩
    have hX:=hS.ext hE11
    go_simp
    refine hK.out _ _ hX (fun hS=>?_)
    clear hK K hX
    try simp only[pL]
    iterate 4
     (first|refine tP 7 49 ?_ hS (fun W'=>?_) ?_|refine tP 8 57 ?_ hS (fun W'=>?_) ?_|refine tP 9 58 ?_ hS (fun W'=>?_) ?_|refine tP 11 6 ?_ hS (fun W'=>?_) ?_);rotate_left;· go_simp;try rfl
     try simp only[pL]
    refine xN 12 rfl ?_
    simp only[List.drop_succ_cons,List.drop_zero]
    go_wp2_with (first|(refine zF ?_;refine stQ rfl 48 _ _ rfl 4 w11.heap.size 0 (.agg #[.int .i64 l2.code,.int .i64 l2.val.kind,.float .f64 l2.val.num,.string l2.val.text]) l2.cells yQ.2 _ [Value.int .i64 0,.int .i64 0,.float .f64 0,.string ⟨#[]⟩] l2.cells (zI w11 _) rfl ?_;intro Wn hbWn hmWn hsWn)|(refine zF ?_;refine stQ rfl 48 _ _ rfl 4 Wd.heap.size 0 (.agg #[.int .i64 l2.code,.int .i64 l2.val.kind,.float .f64 l2.val.num,.string l2.val.text]) l2.cells yQ.2 _ [Value.int .i64 0,.int .i64 0,.float .f64 0,.string ⟨#[]⟩] l2.cells (hE11.blk (zI Wd _) id) rfl ?_;intro Wn hbWn hmWn hsWn))
    go_meet
    exact ⟨_,rfl,rfl,hbWn,Mod.toExt ((Ext.mod (HEd.out.ext hS) (zD w3.heap.size)).trans hmWn (fun k _ e=>by have h1:=HEd.out.size;have h2:=hE11.size;unfold zD;omega))⟩
 obtain ⟨p,rfl,rfl,hp4,hE4⟩:=hcut
 have Hb4:=hJ (hE4.blk Hb3.out id)
 have HE4:=hJ (HE3.out.ext hE4)
 obtain ⟨sq,hsq⟩:∃ x,c.seq=x:=⟨_,rfl⟩
 have ps:wc.cell? ⟨b,1,none⟩=some (.int .i64 sq):=by rw[←hsq];exact zA Hb4.out rfl
 have hq1:sq<l1:=by have:=Hls.out;omega
 have hq2:¬ sq=l1:=by omega
 clear hE4 hp4 hsq
 go_wp2_with fail
 first|(go_end0;exact ⟨rfl,HE4.out⟩)|(go_ret;exact ⟨rfl,HE4.out⟩)
end Go.Proofs.YtjbkjhhjofeldaaGreat
