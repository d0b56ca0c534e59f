/-
 Layer 22 (node): (*Node).apply of an entry of kind none, nobody waiting. Conditions: as each theorem names them.
-/
import Derived.Test.YtjbkjhhjofeldaaGreatG30
set_option maxRecDepth 100000
set_option maxHeartbeats 2000000
namespace Go.Proofs.YtjbkjhhjofeldaaGreat
set_option linter.unusedSimpArgs false
set_option linter.unusedVariables false
open Go.RowKit
theorem n_applyN (w0 w:World) (n:Nat) (V:NV) (N:yB) (tm i:Int) (k:Nat) (h0:w0.heap.size≤w.heap.size) (hN:yD w0 w n V N) (hxo:(zcK tm).ok) (hlo:zdL N.r.hard) (hw:N.waits=[]) (hi:N.applied+1=i) (hi1:0≤N.applied∧i≤1099511627776) (hcm:N.r.commit=i) (hk:i=N.r.hard.base+1+k) (hx:N.r.hard.log[k]? = some (zcK tm)) (hlt:N.told.length≤100000∧N.done.length≤100000):
  Calls Tryz.prog 96 #[.pointer (some ⟨n,0,none⟩)] w (ApOut w0 w n V { N with applied:=i,waits:=[],done:=N.done++[⟨i,(zcK tm)⟩] }):=by
 obtain ⟨As,cs,Al,cl,e1,e2⟩:=hN.p.rh.hard.forms
 have hen:∀ W,Ext w W→Calls Tryz.prog 172 #[.agg (N.r.hard.cells V.sv V.lv).toArray,.int .i64 i] W fun e w'=>e=.returned (.tuple #[.agg (zcK tm).cells.toArray,.bool true])∧Ext W w':=fun W hE=>ziJ W _ N.r.hard V.sv V.lv i (zcK tm) (hN.ext hE).p.rh.hard.mem hlo.few hlo.base k hk hx
 obtain ⟨x,hX⟩:∃ x,(zcK tm)=x:=⟨_,rfl⟩
 rw[hX] at hen ⊢
 have Hx:=hJ hX
 have Hkx:=hJ (show x.kind=0∧x.call=zW.zero∧x.ok∧True from ⟨hX▸rfl,hX▸rfl,hX▸hxo,trivial⟩)
 clear hX
 obtain ⟨ji,hji,hjz0,hjz1,hjz2⟩:=info_parts zj1
 obtain ⟨ti,hti,htz0,htz1,htz2⟩:=info_parts zeH
 have hdv:∃ A c,V.dv=.slice A N.done.length c:=zC hN.dd.1
 obtain ⟨Ad,cd,hdv⟩:=hdv
 have htv:∃ A c,V.tv=.slice A N.told.length c:=zC hN.tt.1
 obtain ⟨At,ct,htv⟩:=htv
 have hwv:∃ A c,V.wv=.slice A N.waits.length c:=zC hN.p.ww.1
 obtain ⟨Aw,cw,hwv⟩:=hwv
 rw[hw] at hwv
 obtain ⟨Hdv,Htv⟩:=hJ2 hdv htv
 have Hwv:=hJ (show V.wv=.slice Aw 0 cw from hwv)
 clear hdv htv hwv
 obtain ⟨Hen,HN,H0,Hw,Hi,Hcm,Hlt,Hi1⟩:=hJ8 hen hN h0 hw hi hcm hlt hi1
 have d1:i+1≤9223372036854775807:=by omega
 have d2:¬ i+1≤i:=by omega
 have d3:0≤i:=by omega
 have hai:Value.int .i64 N.applied=.int .i64 (i-1):=by rw[←hi];simp
 have Hai:=hJ hai
 clear hen hN h0 hw hi hcm hlt hi1 hlo hk hx e1 e2 hai hxo
 go_enter Tryz.func96,Tryz.ntmps96
 go_wp2_with (refine zK ?_;refine lD 3 n 45 (zL zQ HN.out.box (show some (Value.int .i64 N.applied)=some (.int .i64 (i-1)) by rw[Hai.out])) ?_)
 go_loopw [2] (fun iv wr=>(iv=.int .i64 i∧wr=w)∨(iv=.int .i64 (i+1)∧∃ pv xv tv dv,yD w0 wr n { V with pv:=pv,xv:=xv,wv:=.slice none 0 0,tv:=tv,dv:=dv } { N with waits:=[],done:=N.done++[⟨i,x⟩] }∧Mod (fun k=>k=n∨V.tv.ownBlock=some k∨V.dv.ownBlock=some k) w wr∧(∀ k,tv.ownBlock=some k→V.tv.ownBlock=some k∨w.heap.size≤k)∧(∀ k,dv.ownBlock=some k→V.dv.ownBlock=some k∨w.heap.size≤k))) (fun iv _=>(i+1-intOf iv).toNat)
 case atStart=>exact .inl ⟨rfl,rfl⟩
 rcases hrel with ⟨rfl,rfl⟩|⟨rfl,pv,xv,tv,dv,hNe,hMe,hge,hde⟩
 · go_upto_region 3 with (first
   | (refine zK ?_;refine lD 3 n 14 (zL zQ HN.out.box (show some (Value.int .i64 N.r.commit)=some (.int .i64 i) by rw[Hcm.out])) ?_)
   | (refine xR (by kernel_rfl) 4 _ rfl (.pointer (some ⟨n,1,none⟩)) _ rfl (zL zfT HN.out.box rfl) ?_))
   go_upto_region 5 with (first
   | (refine zK ?_;refine lD 61 n 4 (zmB HN.out.box) ?_)
   | (go_at_call 172;refine (Hen.out _ (Mod.refl _ _)).mono ?_;rintro e w3 ⟨rfl,hE3⟩)
   | (refine zF ?_;refine zb8 rfl 100 _ _ rfl 16 w3.heap.size 0 (.agg x.cells.toArray) x.cells rfl rfl rfl yR.2 _ zO.zero.cells x.cells (zI w3 _) (by simp) (by simp) (zpM x) rfl ?_;intro W4 hbW4 hmW4 hsW4))
   obtain ⟨e3,he3⟩:∃ q,w3.heap.size=q:=⟨_,rfl⟩
   obtain ⟨W5,hW5⟩:∃ W,W4.alloc (.cells [Value.int .i64 0,.int .i64 0,.float .f64 0,.string ⟨#[]⟩].toArray 48)=W:=⟨_,rfl⟩
   have hE4:Ext w3 W4:=Mod.toExt (((Mod.refl (zD w3.heap.size) w3).alloc _).trans hmW4 (fun k _ e=>by unfold zD;omega))
   have hE45:Ext W4 W5:=hW5▸(Mod.refl _ W4).alloc _
   have hq5:W4.heap.size=e3+1:=by rw[hsW4,←he3];exact Array.size_push _
   have hq:W5.heap[(e3+1)]? = some (.cells [Value.int .i64 0,.int .i64 0,.float .f64 0,.string ⟨#[]⟩].toArray 48 (0,0)):=hq5▸hW5▸zI _ _
   have he5:W5.heap[e3]? = some (.cells x.cells.toArray 100 (0,0)):=he3▸hE45.blk hbW4 id
   rw[hW5]
   first|rw[he3]|skip
   have HE5:=hJ (hE3.ext (hE4.ext hE45))
   have HN5:=hJ (HN.out.ext (hE3.ext (hE4.ext hE45)))
   obtain ⟨He5,Hq5⟩:=hJ2 he5 hq
   have Hqw:=hJ (show wr.heap.size≤(e3+1) from hq5▸Nat.le_trans hE3.size hE4.size)
   clear hbW4 hmW4 hsW4 hW5 hE4 hE45 hE3 hq he5 he3 hq5
   go_upto_region 7 with (refine zK ?_;refine lD 3 e3 1 (zL zQ He5.out (show some (Value.int .i64 x.kind)=some (.int .i64 0) by rw[Hkx.out.1])) ?_)
   have HM5:=hJ (show Mod (fun k=>k=n∨V.tv.ownBlock=some k∨V.dv.ownBlock=some k) wr W5 from Ext.mod HE5.out _)
   obtain ⟨W5d,hW5d⟩:∃ W,W5.drew=W:=⟨_,rfl⟩
   have hE5d:Ext W5 W5d:=hW5d▸(Mod.refl _ W5).drew
   have HN5d:=hJ (HN5.out.ext hE5d)
   have He5d:=hJ (hE5d.blk He5.out id)
   have Hq5d:=hJ (hE5d.blk Hq5.out id)
   have HM5d:=hJ (HM5.out.ext hE5d)
   clear hE5d
   refine yZ (fun W=>W.heap[n]? = some (.cells (yE false V N).toArray 112 (0,0))∧W.heap[e3]? = some (.cells x.cells.toArray 100 (0,0))∧W.heap[(e3+1)]? = some (.cells [Value.int .i64 0,.int .i64 0,.float .f64 0,.string ⟨#[]⟩].toArray 48 (0,0))) 12 (hW5d▸⟨HN5d.out.box,He5d.out,Hq5d.out⟩) (fun hS=>?_)
   rw[hW5d] at hS ⊢
   clear hW5d
   iterate 4
    (first|refine tP 0 56 ?_ hS (fun W'=>?_) ?_|refine tP 1 57 ?_ hS (fun W'=>?_) ?_|refine tP 2 58 ?_ hS (fun W'=>?_) ?_|refine tP 3 59 ?_ hS (fun W'=>?_) ?_);rotate_left;· go_simp;try rfl
    try simp only[pL]
   refine tU 4 60 (.slice Ad N.done.length cd) hS n 48 (fun W' ⟨hX1,hX2,hX3⟩=>zL zdO hX1 (show some V.dv=_ by rw[Hdv.out])) ?_
   try simp only[pL]
   refine tP 5 61 ?_ hS (fun W'=>?_) ?_;rotate_left;· go_simp;try rfl
   try simp only[pL]
   refine tU 6 62 (.agg x.cells.toArray) hS e3 0 (fun W' ⟨hX1,hX2,hX3⟩=>ld0 yR hX2) ?_
   try simp only[pL]
   refine tP 7 63 ?_ hS (fun W'=>?_) ?_;rotate_left;· go_simp;try rfl
   try simp only[pL]
   refine jP 8 (fun K hK=>?_)
   go_simp
   refine hK.out _ _ (⟨((Mod.refl (fun _=>False) W5d).alloc _).blk hS.1 id,((Mod.refl (fun _=>False) W5d).alloc _).blk hS.2.1 id,((Mod.refl (fun _=>False) W5d).alloc _).blk hS.2.2 id⟩) (fun hS=>?_)
   clear hK K
   try show yK _ _ _ _ _ _ _ _ (Act.put _ (some 64) _) _
   try simp only[pL]
   refine jP 9 (fun K hK=>?_)
   refine zbN _ rfl _ _ 97 rfl 102 ji _ 17 160 Tryz.underlying97 hji hjz0 hjz1 hjz2 rfl (by omega) (.slice Ad N.done.length cd) N.done.length (N.done.flatMap qD.cells) rfl (zN (Hdv.out▸HN5d.out.dd.1) ((Mod.refl (fun _=>False) W5d).alloc _) (fun _ _=>id)) (fun _=>True) _ 1 (qD.cells ⟨i,x⟩) rfl (zeF W5d (qD.cells ⟨i,x⟩) _ 17 rfl) (zmA ⟨i,x⟩) (by simp only[maxLen];have:=Hlt.out;omega) (by have:=Hlt.out;omega) ?_
   intro v9 w9 ho hgr hat
   obtain ⟨A9,c9,rfl⟩:=zC ho
   have hM9:Mod (fun k=>(Value.slice Ad N.done.length cd).ownBlock=some k) W5d w9:=((Mod.refl _ W5d).alloc _).grown hgr (fun k hk=>.inr hk)
   have hdd:=Hdv.out▸HN5d.out.dd.1
   refine hK.out _ _ (⟨hM9.blk HN5d.out.box (fun e=>zG hdd e HN5d.out.box (by decide) rfl),hM9.blk He5d.out (fun e=>zG hdd e He5d.out (by decide) rfl),hM9.blk Hq5d.out (fun e=>zG hdd e Hq5d.out (by decide) rfl)⟩) (fun hS=>?_)
   clear hK K
   try show yK _ _ _ _ _ _ _ _ (Act.put _ (some 65) _) _
   try simp only[pL]
   iterate 2
    (first|refine tP 10 66 ?_ hS (fun W'=>?_) ?_|refine tP 11 67 ?_ hS (fun W'=>?_) ?_);rotate_left;· go_simp;try rfl
    try simp only[pL]
   refine xN 12 rfl ?_
   simp only[List.drop_succ_cons,List.drop_zero]
   have Hqn9:=hJ hS.1
   go_upto_region 8 with (refine zF ?_;refine stQ rfl 97 _ _ rfl 1 n 48 (.slice A9 (N.done.length+1) c9) [.slice A9 (N.done.length+1) c9] zdO.size _ _ (yE false { V with dv:=.slice A9 (N.done.length+1) c9 } { N with done:=N.done++[⟨i,x⟩] }) Hqn9.out rfl ?_;intro W10 hbW10 hmW10 hsW10)
   have hN10:yD w0 W10 n { V with dv:=.slice A9 (N.done.length+1) c9 } { N with done:=N.done++[⟨i,x⟩] }:=by
    have hP9:zeG w0 w9 n _ _:=HN5d.out.p.odd hM9 (fun k hk=>zgP hdd hk (by decide))
    have ht9:=zN HN5d.out.tt.1 hM9 (fun g hg e=>jT hdd HN5d.out.tt.1 (by decide) e hg)
    have hp:=hP9.odd hmW10 (fun k hk=>⟨_,_,_,hk▸hS.1,by decide,by decide,by decide,by decide,by decide,by decide,by decide,by decide⟩)
    refine ⟨⟨hp.st,hp.dk,hp.gh,hp.rh,hp.pp,hp.xx,hp.ww,hp.ap,hp.nb⟩,hbW10,⟨zN ht9 hmW10 (fun g hg=>zG ht9 hg hS.1 (by decide)),HN5d.out.tt.2⟩,⟨?_,fun g hg=>?_⟩⟩
    · have h9:=zN ho hmW10 (fun g hg=>zG ho hg hS.1 (by decide))
      have hl:(N.done++[(⟨i,x⟩:qD)]).length=N.done.length+1:=by simp
      have hf:(N.done++[(⟨i,x⟩:qD)]).flatMap qD.cells=N.done.flatMap qD.cells++(⟨i,x⟩:qD).cells:=by simp
      show W10.ownsRow 0 102 17 (.slice A9 (N.done.length+1) c9) (N.done++[(⟨i,x⟩:qD)]).length ((N.done++[(⟨i,x⟩:qD)]).flatMap qD.cells)
      rw[hl,hf]
      exact h9
    · rcases hat with e|e <;> rw[e] at hg
      · exact HN5d.out.dd.2 g (Hdv.out▸hg)
      · have h1:=HM5d.out.size
        have h2:=H0.out
        simp at hg;omega
   have HM10:=hJ (show Mod (fun k=>k=n∨V.tv.ownBlock=some k∨V.dv.ownBlock=some k) wr W10 from (HM5d.out.trans hM9 (fun k _ e=>.inr (.inr (by rw[Hdv.out];exact e)))).trans hmW10 (fun k _ e=>.inl e))
   have hgd:∀ k,(Value.slice A9 (N.done.length+1) c9).ownBlock=some k→V.dv.ownBlock=some k∨wr.heap.size≤k:=fun k hk=>by
    rcases hat with e|e <;> rw[e] at hk
    · exact .inl (Hdv.out▸hk)
    · have h1:=HM5d.out.size
      simp at hk;exact .inr (by omega)
   obtain ⟨Hgd,HN10⟩:=hJ2 hgd hN10
   have He10:=hJ (hmW10.blk hS.2.1 (fun e=>jZ hS.2.1 hS.1 (by decide) e))
   have Hq10:=hJ (hmW10.blk hS.2.2 (fun e=>jZ hS.2.2 hS.1 (by decide) e))
   clear hN10 hgd hbW10 hmW10 hsW10 ho hgr hat hM9 hdd hS
   simp only[pL]
   go_cut [6,7,8] (fun s6 s7 s8 wx=>∃ p,s6=.slice none 0 0∧s7=.pointer (some ⟨p,0,none⟩)∧s8=.bool false∧wx.heap[p]? = some (.cells zW.zero.cells.toArray 29 (0,0))∧Ext W10 wx)
   case first=>
    obtain ⟨Wd,hWd⟩:∃ W,W10.drew=W:=⟨_,rfl⟩
    have hEd:Ext W10 Wd:=hWd▸(Mod.refl _ W10).drew
    have HNd:=hJ (HN10.out.ext hEd)
    have Hed:=hJ (hEd.blk He10.out id)
    have HEd:=hJ hEd
    have htk:∀ W,Ext Wd W→Calls Tryz.prog 174 #[.slice Aw 0 cw,.int .i64 i,.agg x.cells.toArray] W (GkOut W zW.zero false):=fun W hE=>by
     exact g_take0 Aw cw i x W
    have Htk:=hJ htk
    clear htk hEd
    refine yZ (fun W=>Ext Wd W) 13 (hWd▸(Mod.refl _ _)) (fun hS=>?_)
    rw[hWd] at hS ⊢
    clear hWd
    iterate 3
     (first|refine tP 0 69 ?_ hS (fun W'=>?_) ?_|refine tP 1 70 ?_ hS (fun W'=>?_) ?_|refine tP 2 71 ?_ hS (fun W'=>?_) ?_);rotate_left;· go_simp;try rfl
     try simp only[pL]
    refine tU 3 72 (.slice Aw 0 cw) hS n 46 (fun W' hW'=>zL zaF (hW'.blk HNd.out.box id) (show some V.wv=_ by rw[Hwv.out])) ?_
    try simp only[pL]
    refine tP 4 73 ?_ hS (fun W'=>?_) ?_;rotate_left;· go_simp;try rfl
    try simp only[pL]
    refine tU 5 74 (.agg x.cells.toArray) hS e3 0 (fun W' hW'=>ld0 yR (hW'.blk Hed.out id)) ?_
    try simp only[pL]
    refine twoU 6 11 (fun K hK=>?_) (fun K hK=>?_)
    · go_simp
      go_wp2_with fail
      refine (Htk.out _ hS).mono ?_
      rintro e w11 ⟨rfl,hE11⟩
      have hX:=hS.ext hE11
      go_simp
      refine hK.out _ _ hX (fun hS=>?_)
      clear hK K hX
      try simp only[pL]
      iterate 4
       (first|refine tP 7 68 ?_ hS (fun W'=>?_) ?_|refine tP 8 76 ?_ hS (fun W'=>?_) ?_|refine tP 9 77 ?_ hS (fun W'=>?_) ?_|refine tP 10 78 ?_ hS (fun W'=>?_) ?_);rotate_left;· go_simp;try rfl
       try simp only[pL]
      refine jP 11 (fun K hK=>?_)
      have hS0:=hS
      go_simp
      refine hK.out _ _ (hS0.alloc _) (fun hS=>?_)
      clear hK K
      try show yK _ _ _ _ _ _ _ _ (Act.put _ (some 7) _) _
      try simp only[pL]
      refine tP 12 6 ?_ hS (fun W'=>?_) ?_;rotate_left;· go_simp;try rfl
      try simp only[pL]
      refine xN 13 rfl ?_
      simp only[List.drop_succ_cons,List.drop_zero]
      go_wp2_with (first|(refine zF ?_;refine stQ rfl 29 _ _ rfl 10 w11.heap.size 0 (.agg zW.zero.cells.toArray) zW.zero.cells zV.2 _ [Value.int .i64 0,.int .i64 0,.int .i64 0,.string ⟨#[]⟩,.int .i64 0,.float .f64 0,.string ⟨#[]⟩,.int .i64 0,.float .f64 0,.string ⟨#[]⟩] zW.zero.cells (zI w11 _) rfl ?_;intro Wn hbWn hmWn hsWn)|(refine zF ?_;refine stQ rfl 29 _ _ rfl 10 Wd.heap.size 0 (.agg zW.zero.cells.toArray) zW.zero.cells zV.2 _ [Value.int .i64 0,.int .i64 0,.int .i64 0,.string ⟨#[]⟩,.int .i64 0,.float .f64 0,.string ⟨#[]⟩,.int .i64 0,.float .f64 0,.string ⟨#[]⟩] zW.zero.cells (hE11.blk (zI Wd _) id) rfl ?_;intro Wn hbWn hmWn hsWn))
      go_meet
      exact ⟨_,rfl,rfl,rfl,hbWn,Mod.toExt ((Ext.mod (HEd.out.ext hS) (zD W10.heap.size)).trans hmWn (fun k _ e=>by have h1:=HEd.out.size;have h2:=hE11.size;unfold zD;omega))⟩
    · have hS0:=hS
      go_simp
      refine hK.out _ _ (hS0.alloc _) (fun hS=>?_)
      clear hK K
      try show yK _ _ _ _ _ _ _ _ (Act.put _ (some 7) _) _
      try simp only[pL]
      refine jP 6 (fun K hK=>?_)
      go_simp
      go_wp2_with fail
      refine (Htk.out _ hS).mono ?_
      rintro e w11 ⟨rfl,hE11⟩
      have hX:=hS.ext hE11
      go_simp
      refine hK.out _ _ hX (fun hS=>?_)
      clear hK K hX
      try simp only[pL]
      iterate 5
       (first|refine tP 7 68 ?_ hS (fun W'=>?_) ?_|refine tP 8 76 ?_ hS (fun W'=>?_) ?_|refine tP 9 77 ?_ hS (fun W'=>?_) ?_|refine tP 10 78 ?_ hS (fun W'=>?_) ?_|refine tP 12 6 ?_ hS (fun W'=>?_) ?_);rotate_left;· go_simp;try rfl
       try simp only[pL]
      refine xN 13 rfl ?_
      simp only[List.drop_succ_cons,List.drop_zero]
      go_wp2_with (first|(refine zF ?_;refine stQ rfl 29 _ _ rfl 10 w11.heap.size 0 (.agg zW.zero.cells.toArray) zW.zero.cells zV.2 _ [Value.int .i64 0,.int .i64 0,.int .i64 0,.string ⟨#[]⟩,.int .i64 0,.float .f64 0,.string ⟨#[]⟩,.int .i64 0,.float .f64 0,.string ⟨#[]⟩] zW.zero.cells (zI w11 _) rfl ?_;intro Wn hbWn hmWn hsWn)|(refine zF ?_;refine stQ rfl 29 _ _ rfl 10 Wd.heap.size 0 (.agg zW.zero.cells.toArray) zW.zero.cells zV.2 _ [Value.int .i64 0,.int .i64 0,.int .i64 0,.string ⟨#[]⟩,.int .i64 0,.float .f64 0,.string ⟨#[]⟩,.int .i64 0,.float .f64 0,.string ⟨#[]⟩] zW.zero.cells (hE11.blk (zI Wd _) id) rfl ?_;intro Wn hbWn hmWn hsWn))
      go_meet
      exact ⟨_,rfl,rfl,rfl,hbWn,Mod.toExt ((Ext.mod (HEd.out.ext hS) (zD W10.heap.size)).trans hmWn (fun k _ e=>by have h1:=HEd.out.size;have h2:=hE11.size;unfold zD;omega))⟩
   obtain ⟨p,rfl,rfl,rfl,hp11,hE11⟩:=hcut
   have HN11:=hJ (HN10.out.ext hE11)
   have Hp11:=hJ hp11
   have Hq11:=hJ (hE11.blk Hq10.out id)
   have HM11:=hJ (HM10.out.ext hE11)
   have Hqn11:=hJ HN11.out.box
   clear hp11 hE11
   go_wp2_with (refine zF ?_;refine stQ rfl 110 _ _ rfl 1 n 46 (.slice none 0 0) [.slice none 0 0] zaF.size _ _ (yE false { V with wv:=.slice none 0 0,dv:=.slice A9 (N.done.length+1) c9 } { N with waits:=[],done:=N.done++[⟨i,x⟩] }) Hqn11.out rfl ?_;intro W12 hbW12 hmW12 hsW12)
   have HN12:=hJ (show yD w0 W12 n { V with wv:=.slice none 0 0,dv:=.slice A9 (N.done.length+1) c9 } { N with waits:=[],done:=N.done++[⟨i,x⟩] } from HN11.out.turn hmW12 hbW12 (fun hP=>⟨hP.st,hP.dk,hP.gh,hP.rh,hP.pp,hP.xx,⟨World.ownsRow_nil _ _ _ _,by simp[Value.ownBlock]⟩,hP.ap,hP.nb⟩) ⟨rfl,rfl⟩ ⟨rfl,rfl⟩)
   have Hp12:=hJ (hmW12.blk Hp11.out (fun e=>jZ Hp11.out Hqn11.out (by decide) e))
   have Hq12:=hJ (hmW12.blk Hq11.out (fun e=>jZ Hq11.out Hqn11.out (by decide) e))
   have HM12:=hJ (HM11.out.trans hmW12 (fun k _ e=>.inl e))
   clear hbW12 hmW12 hsW12
   exact ⟨.inr ⟨rfl,V.pv,V.xv,V.tv,_,HN12.out,HM12.out,fun k=>.inl,Hgd.out⟩,by simp only[intOf];omega⟩
 · have HNe:=hJ hNe
   obtain ⟨HMe,Hge,Hde⟩:=hJ3 hMe hge hde
   clear hNe hMe hge hde
   have Hqe:=hJ HNe.out.box
   go_wp2_with (first
    | (refine zK ?_;refine lD 3 n 14 (zL zQ Hqe.out (show some (Value.int .i64 N.r.commit)=some (.int .i64 i) by rw[Hcm.out])) ?_)
    | (refine zF ?_;refine stQ rfl 3 _ _ rfl 1 n 45 (.int .i64 i) [.int .i64 i] zQ.size _ _ (yE false { V with pv:=pv,xv:=xv,wv:=.slice none 0 0,tv:=tv,dv:=dv } { N with applied:=i,waits:=[],done:=N.done++[⟨i,x⟩] }) Hqe.out rfl ?_;intro We hbWe hmWe hsWe))
   go_end0
   exact ⟨rfl,pv,xv,tv,dv,HNe.out.turn hmWe hbWe (fun hP=>⟨hP.st,hP.dk,hP.gh,hP.rh,hP.pp,hP.xx,hP.ww,hP.ap,hP.nb⟩) ⟨rfl,rfl⟩ ⟨rfl,rfl⟩,HMe.out.trans hmWe (fun k _ e=>.inl e),Hge.out,Hde.out⟩
theorem zk5 (w0:World) (n:Nat) (N:yB) (tm i:Int) (k:Nat) (hxo:(zcK tm).ok) (hlo:zdL N.r.hard) (hw:N.waits=[]) (hi:N.applied+1=i) (hi1:0≤N.applied∧i≤1099511627776) (hcm:N.r.commit=i) (hk:i=N.r.hard.base+1+k) (hx:N.r.hard.log[k]? = some (zcK tm)) (hlt:N.told.length≤100000∧N.done.length≤100000):zdP w0 n (fun _=>True) 96 #[.pointer (some ⟨n,0,none⟩)] N { N with applied:=i,waits:=[],done:=N.done++[⟨i,(zcK tm)⟩] }:=fun W V h0 hN hwv _=>(n_applyN w0 W n V N tm i k h0 hN hxo hlo hw hi hi1 hcm hk hx hlt).mono fun e w' ⟨h1,pv,xv,tv,dv,h2,h3,h4,h5⟩=>⟨h1,_,h2,fun _=>rfl,Mod.mono h3 (fun k _ e=>by
  rcases e with e|e|e
  · exact .inl e
  · exact .inr (.inr (.inr (.inr (.inl e))))
  · exact .inr (.inr (.inr (.inr (.inr e))))),⟨rfl,rfl,fun _=>.inl,h4,h5⟩⟩
theorem znH (w0 w:World) (n:Nat) (V:NV) (N N3 N5:yB) (r':zS) (D':zU) (h0:w0.heap.size≤w.heap.size) (hN:yD w0 w n V N) (hwv:N.waits=[]→V.wv=.slice none 0 0) (hrd:N.rds=[])
  (hT:∀ (W:World) (T:Nat→Prop),RM W T V.sv V.lv V.rv N.r []→Calls Tryz.prog 66 #[.agg (N.r.cells V.sv V.lv V.rv).toArray] W (TkOut W r'))
  (hs:zb6 N.dk N.g r'.hard=(D',r'.hard,0)) (hl:r'.hard.log.length≤12700) (hgl:N.g.log.length≤1000000) (hsn:r'.hard.snap.length≤1000000) (hb:r'.hard.base≤N.applied)
  (hP:zdP w0 n (fun _=>True) 96 #[.pointer (some ⟨n,0,none⟩)] { N with r:=r',rds:=[],g:=r'.hard,dk:=D' } N3) (hro:N3.r.role=3)
  (hAn:zdP w0 n (fun _=>True) 97 #[.pointer (some ⟨n,0,none⟩)] N3 N3) (hCm:zdP w0 n (fun _=>True) 98 #[.pointer (some ⟨n,0,none⟩)] N3 N5):
  Calls Tryz.prog 25 #[.pointer (some ⟨n,0,none⟩)] w (zfK w0 w n V (fun _=>False) N5):=by
 refine n_Tick w0 w n V _ ?_
 refine zk3 w0 w n V N { N with r:=r',rds:=[],g:=r'.hard,dk:=D' } N3 N3 N5 66 45 #[] #[] (fun _=>False) (fun _=>True) r' [] D' h0 hN hwv (fun _ _=>rfl) (fun _ _=>rfl) ?_ (fun W W' hE hM=>(hN.ext hE).ext hM) (fun _ h=>h.elim) (fun _ _ _ _=>trivial) hs hl hgl hsn hb (zgQ w0 n _ _) hP hro hAn hCm
 intro W hE
 have hh:=(hN.ext hE).p.rh
 rw[hrd] at hh
 refine Calls.mono (hT W (fun _=>True) ⟨⟨hh.hard.mem.1.mono (fun _ _=>trivial),hh.hard.mem.2.1.mono (fun _ _=>trivial),hh.hard.mem.2.2⟩,Sl.of_own hh.reads.1 (fun _ _=>trivial)⟩) ?_
 rintro e w' ⟨sv,lv,rv,rfl,hF,hE2⟩
 exact ⟨sv,lv,rv,rfl,hF,hE2.mod _,trivial⟩
end Go.Proofs.YtjbkjhhjofeldaaGreat
