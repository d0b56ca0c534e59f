/-
 Layer 22 (node): logs.Compact and raft.Compact of a node alone that leads. Conditions: as each theorem names them.
-/
import Derived.Test.YtjbkjhhjofeldaaGreatG21
set_option maxRecDepth 100000
set_option maxHeartbeats 2000000
namespace Go.Proofs.YtjbkjhhjofeldaaGreat
set_option linter.unusedSimpArgs false
set_option linter.unusedVariables false
open Go.RowKit
section
variable {P:Program} {w:World} {ops:Array Oper} {o:Oper} {a:Act} {Q:Exit→Act→World→Prop}
theorem ziO {K:Act→World→Prop} {E:Prop} (hgd:o.guard=none) (t:TypeId) (p x:Operand) (ho:o.op=.store t p x) (k g j:Nat) (xv:Value) (vs:List Value) (hp:a.eval p=.pointer (some ⟨g,j,none⟩)) (hx:a.eval x=xv) (hv:xv.cells=vs.toArray)
    (hz:(P.info? t).map (·.size)=some k) (e:TypeId) (cur cur':List Value) (hg:w.heap[g]? = some (.cells cur.toArray e (0,0))) (hc:vs.length=k) (hfit:j+k≤cur.length) (h1:∀ v∈vs,v.oneCell'=true) (hcur:put cur j vs=cur')
    (h:∀ w',w'.heap[g]? = some (.cells cur'.toArray e (0,0))→Mod (fun k=>k=g) w w'→w'.heap.size=w.heap.size→K (a.put o.dst undef) w'):if Region.wanted o (yielded ops a.tmps)=true then Oper.wp P o a w K Q else E:=by
  have hw:Region.wanted o (yielded ops a.tmps)=true:=by simp[Region.wanted,hgd]
  rw[if_pos hw]
  unfold Oper.wp execOp
  simp only[ho,hp,hx,Sem.run_bind,Sem.run_pure,zjZ hz hg hv hc hfit h1,Result.andThen_ok]
  refine h _ ?_ ?_ ?_
  · rw[hcur];exact setRow_heap w g _ _ e _ hg
  · exact ⟨rfl,rfl,rfl,by simp,fun k hk hn=>setRow_other w g k _ hn⟩
  · simp
end
theorem zgJ:Sca Tryz.prog 58:=⟨fun w=>by kernel_rfl,by kernel_rfl⟩
def CmpOut (w:World) (h':zX) (e:Ending) (w':World):Prop:=∃ sv lv,e=.returned (.tuple #[.agg (h'.cells sv lv).toArray,.int .i64 0])∧zcS w w' sv lv h'∧Ext w w'
theorem znA (w:World) (T U:Nat→Prop) (g:zX) (sv lv snv:Value) (bs:List UInt8) (i:Int) (hm:xP w T sv lv g) (hb:Byt w U snv bs) (hbl:bs.length≤16384) (hr:Right g) (hl:zdL g) (hi:zjQ g=i) (hi1:g.base<i) (hi2:i≤1099511627776) (ht:Tat g i g.term):
  Calls Tryz.prog 280 #[.agg (g.cells sv lv).toArray,.int .i64 i,snv] w (CmpOut w (g.snapped i bs)):=by
 obtain ⟨As,cs,Al,cl,rfl,rfl⟩:=hm.forms
 obtain ⟨S2,sn2,cs2,rfl⟩:∃ A n c,snv=.slice A n c:=⟨_,_,hb.form.choose_spec⟩
 obtain ⟨sn,hsn⟩:∃ n,g.snap.length=n:=⟨_,rfl⟩
 obtain ⟨ln,hln⟩:∃ n,g.log.length=n:=⟨_,rfl⟩
 rw[hsn,hln] at hm ⊢
 obtain ⟨b,hb0⟩:∃ b,w.heap.size=b:=⟨_,rfl⟩
 have hs2:sn2=bs.length:=by obtain ⟨_,A,c,e,_⟩:=hb;injection e
 have hlen:(sn2:Int)≤16384:=by omega
 have hck:∀ W,Ext w W→Calls Tryz.prog 118 #[.agg (g.cells (.slice As sn cs) (.slice Al ln cl)).toArray] W fun e w'=>e=.returned (.int .i64 0)∧Ext W w':=fun W hE=>by
  have h0:=zdY W T g _ _ (hm.ext hE) hl.few
  rw[(jM _).2 hr] at h0
  exact h0
 have hla:∀ W,Ext w W→Calls Tryz.prog 162 #[.agg (g.cells (.slice As sn cs) (.slice Al ln cl)).toArray] W fun e w'=>(∃ t:Int,e=.returned (.tuple #[.int .i64 i,.int .i64 t]))∧Ext W w':=fun W hE=>(zjR W T g _ _ (hm.ext hE) hl.few hl.base.1 hl.base.2).mono fun e w' hx=>⟨⟨_,hi▸hx.1⟩,hx.2⟩
 have hco:∀ W,Ext w W→Calls Tryz.prog 166 #[.agg (g.cells (.slice As sn cs) (.slice Al ln cl)).toArray,.int .i64 i] W fun e w'=>e=.returned (.tuple #[c1v,.int .i64 g.base])∧Ext W w':=fun W hE=>zkW W T g _ _ i (hm.ext hE) hl.alone hl.few hl.base
 have hte:∀ W,Ext w W→Calls Tryz.prog 282 #[.agg (g.cells (.slice As sn cs) (.slice Al ln cl)).toArray,.int .i64 i] W fun e w'=>e=.returned (.int .i64 g.term)∧Ext W w':=fun W hE=>zpG W T g _ _ i g.term (hm.ext hE) hl.few hl.base ht
 have hbc:=fun W (hE:Ext w W)=>zdZ W U (.slice S2 sn2 cs2) bs (hb.ext hE) (by omega)
 have hec:∀ W,Ext w W→Calls Tryz.prog 60 #[.slice (cutA Al ln cl 16) 0 (cl-ln)] W fun e w'=>∃ v',e=.returned v'∧ziF W w' v' []∧Ext W w':=fun W hE=>by
  have h00:Sl W T 16 (.slice Al ln cl) ln (g.log.flatMap zO.cells):=hln▸(hm.ext hE).2.1
  have h0:=Sl.cutA h00 (m:=ln) (Nat.le_refl _)
  have hx:List.drop (ln*16) (g.log.flatMap zO.cells)=[]:=List.drop_eq_nil_of_le (by have:=h00.1;omega)
  rw[hx,Nat.sub_self] at h0
  exact zeZ W T _ [] ⟨h0,by simp⟩ (by simp)
 obtain ⟨Hck,Hla,Hco,Hte,Hbc,Hec⟩:=hJ6 hck hla hco hte hbc hec
 have hib:i=g.base+(ln:Int):=by rw[←hi];unfold zjQ;rw[hln]
 have d1:¬ i≤g.base:=by omega
 have d2:¬ 1099511627776<i:=by omega
 have d3:i-g.base=(ln:Int):=by omega
 have d4:¬ (16384:Int)<(sn2:Int):=by omega
 have d5:¬ i<i:=by omega
 have d6:0≤g.base:=hl.base.1
 have d7:i≤1099511627776:=hi2
 have Hbs:=hJ hs2
 have Hwl:=hJ (show IntKind.i64.wrap (i-g.base)=(ln:Int) from by rw[IntWalk.i64_in _ (by omega)];exact d3)
 clear d3
 clear hm hb hr hl ht hi hsn hln hck hla hco hte hbc hec hs2 hlen hib hi1 hi2 hbl
 go_enter Tryz.func280,Tryz.ntmps280
 go_upto_region 1 with fail
 obtain ⟨W1,hW1⟩:∃ W,(w.alloc (.cells ((g:zX).cells (.slice As sn cs) (.slice Al ln cl)).toArray 61)).alloc (.cells (zX.cells ⟨0,0,0,0,⟨0,0,0,0⟩,[],[]⟩ (.slice none 0 0) (.slice none 0 0)).toArray 61)=W:=⟨_,rfl⟩
 have hE1:Ext w W1:=hW1▸(((Mod.refl _ w).alloc _).alloc _)
 have hb1:W1.heap[b]? = some (.cells ((g:zX).cells (.slice As sn cs) (.slice Al ln cl)).toArray 61 (0,0)):=hb0▸hW1▸xE _ _ _
 have hz1:W1.heap[b+1]? = some (.cells (zX.cells ⟨0,0,0,0,⟨0,0,0,0⟩,[],[]⟩ (.slice none 0 0) (.slice none 0 0)).toArray 61 (0,0)):=by rw[←hW1,←hb0];exact xA _ _ _
 obtain ⟨HE1,Hb1,Hz1⟩:=hJ3 hE1 hb1 hz1
 rw[hW1]
 clear hW1 hE1 hb1 hz1
 have hLd:∀ W,W.heap[b]? = some (.cells ((g:zX).cells (.slice As sn cs) (.slice Al ln cl)).toArray 61 (0,0))→(Instr.loadAt 61 (.pointer (some ⟨b,0,none⟩))).run Tryz.prog W=.ok (.agg ((g:zX).cells (.slice As sn cs) (.slice Al ln cl)).toArray) W:=fun W hB=>ld0 yF hB
 have HLd:=hJ hLd
 clear hLd
 go_upto_region 2 with (first
  | (refine zK ?_;refine lD 61 b 0 (HLd.out _ Hb1.out) ?_)
  | (go_at_call 118;refine (Hck.out _ HE1.out).mono ?_;rintro e w2 ⟨rfl,hE2⟩))
 have HE2:=hJ (HE1.out.ext hE2)
 have Hb2:=hJ (hE2.blk Hb1.out id)
 have Hz2:=hJ (hE2.blk Hz1.out id)
 clear hE2
 go_upto_region 3 with (first
  | (refine zK ?_;refine lD 61 b 0 (HLd.out _ Hb2.out) ?_)
  | (go_at_call 162;refine (Hla.out _ HE2.out).mono ?_;rintro e w3 ⟨⟨t3,rfl⟩,hE3⟩))
 have HE3:=hJ (HE2.out.ext hE3)
 have Hb3:=hJ (hE3.blk Hb2.out id)
 have Hz3:=hJ (hE3.blk Hz2.out id)
 clear hE3
 have p2:w3.cell? ⟨b,2,none⟩=some (.int .i64 g.base):=zA Hb3.out rfl
 go_upto_region 9 with fail
 clear p2
 go_upto_region 10 with (first
  | (refine zK ?_;refine lD 61 b 0 (HLd.out _ Hb3.out) ?_)
  | (go_at_call 166;refine (Hco.out _ HE3.out).mono ?_;rintro e w4 ⟨rfl,hE4⟩))
 obtain ⟨W5,hW5⟩:∃ W5,w4.alloc (.cells [Value.int .i64 1,.int .i64 0,.int .i64 0,.int .i64 0].toArray 57)=W5:=⟨_,rfl⟩
 have hE5:Ext w3 W5:=hW5▸hE4.alloc _
 obtain ⟨d,hd⟩:∃ q,w4.heap.size=q:=⟨_,rfl⟩
 have hd5:W5.heap[d]? = some (.cells [Value.int .i64 1,.int .i64 0,.int .i64 0,.int .i64 0].toArray 57 (0,0)):=hd▸hW5▸zI _ _
 rw[hW5,hd]
 have HE5:=hJ (HE3.out.ext hE5)
 have Hb5:=hJ (hE5.blk Hb3.out id)
 have Hz5:=hJ (hE5.blk Hz3.out id)
 have Hd5:=hJ hd5
 clear hW5 hE5 hE4 hd hd5
 go_upto_region 11 with (first
  | (refine zK ?_;refine lD 61 b 0 (HLd.out _ Hb5.out) ?_))
 obtain ⟨W6,hW6⟩:∃ W,W5.alloc (.cells ((g:zX).cells (.slice As sn cs) (.slice Al ln cl)).toArray 61)=W:=⟨_,rfl⟩
 have hE6:Ext W5 W6:=hW6▸(Mod.refl _ W5).alloc _
 obtain ⟨o,ho⟩:∃ q,W5.heap.size=q:=⟨_,rfl⟩
 have ho6:W6.heap[o]? = some (.cells ((g:zX).cells (.slice As sn cs) (.slice Al ln cl)).toArray 61 (0,0)):=ho▸hW6▸zI _ _
 rw[hW6,ho]
 have HE6:=hJ (HE5.out.ext hE6)
 have Hb6:=hJ (hE6.blk Hb5.out id)
 have Hz6:=hJ (hE6.blk Hz5.out id)
 have Hd6:=hJ (hE6.blk Hd5.out id)
 have Ho6:=hJ ho6
 have Hob:=hJ (show ¬ b=o from fun e=>by have h1:=(Array.getElem?_eq_some_iff.1 Hb5.out).1;omega)
 have Hod:=hJ (show ¬ d=o from fun e=>by have h1:=(Array.getElem?_eq_some_iff.1 Hd5.out).1;omega)
 have Hoz:=hJ (show ¬ b+1=o from fun e=>by have h1:=(Array.getElem?_eq_some_iff.1 Hz5.out).1;omega)
 have Hon:=hJ (show w.heap.size≤o from by have:=HE5.out.size;omega)
 clear hW6 hE6 ho6 ho
 obtain ⟨W6d,hW6d⟩:∃ W,W6.drew=W:=⟨_,rfl⟩
 have hE6d:Ext W6 W6d:=hW6d▸(Mod.refl _ W6).drew
 refine yZ (fun W=>W.heap[b]? = some (.cells ((g:zX).cells (.slice As sn cs) (.slice Al ln cl)).toArray 61 (0,0))∧W.heap[d]? = some (.cells [Value.int .i64 1,.int .i64 0,.int .i64 0,.int .i64 0].toArray 57 (0,0))) 10 (hW6d▸⟨hE6d.blk Hb6.out id,hE6d.blk Hd6.out id⟩) (fun hS=>?_)
 rw[hW6d] at hS ⊢
 clear hW6d
 refine tP 0 50 ?_ hS (fun W'=>?_) ?_;rotate_left;· go_simp;try rfl
 try simp only[pL]
 refine tU 1 51 (.agg ((g:zX).cells (.slice As sn cs) (.slice Al ln cl)).toArray) hS b 0 (fun W' ⟨hX1,hX2⟩=>HLd.out _ hX1) ?_
 try simp only[pL]
 refine tP 2 52 ?_ hS (fun W'=>?_) ?_;rotate_left;· go_simp;try rfl
 try simp only[pL]
 refine tU 4 54 (c1v) hS d 0 (fun W' ⟨hX1,hX2⟩=>ld0 za5 hX2) ?_
 try simp only[pL]
 refine tP 5 55 ?_ hS (fun W'=>?_) ?_;rotate_left;· go_simp;try rfl
 try simp only[pL]
 refine jP 3 (fun K hK=>?_)
 go_simp
 go_wp2_with fail
 refine (Hte.out _ (HE6.out.ext hE6d)).mono ?_
 rintro e w7 ⟨rfl,hE7⟩
 have hE67:=hE6d.ext hE7
 have Ho7:=hJ (hE67.blk Ho6.out id)
 have Hz7:=hJ (hE67.blk Hz6.out id)
 have HE7:=hJ (HE6.out.ext hE67)
 clear hE67
 have hX:=And.intro (hE7.blk hS.1 id) (hE7.blk hS.2 id)
 go_simp
 refine hK.out _ _ hX (fun hS=>?_)
 clear hK K hX
 try simp only[pL]
 refine jP 6 (fun K hK=>?_)
 refine ziO rfl 3 _ _ rfl 1 o 2 (.int .i64 i) [.int .i64 i] rfl rfl rfl zQ.size _ _ (({ g with base:=i }:zX).cells (.slice As sn cs) (.slice Al ln cl)) Ho7.out (by simp) (by simp) (by simp[Value.oneCell']) rfl ?_
 intro W8 hbW8 hmW8 hsW8
 refine hK.out _ _ (⟨hmW8.blk hS.1 Hob.out,hmW8.blk hS.2 Hod.out⟩) (fun hS=>?_)
 clear hK K
 try show yK _ _ _ _ _ _ _ _ (Act.put _ none _) _
 try simp only[pL]
 refine tP 7 56 ?_ hS (fun W'=>?_) ?_;rotate_left;· go_simp;try rfl
 try simp only[pL]
 refine jP 8 (fun K hK=>?_)
 refine ziO rfl 3 _ _ rfl 1 o 3 (.int .i64 g.term) [.int .i64 g.term] rfl rfl rfl zQ.size _ _ (({ g with base:=i,baseTerm:=g.term }:zX).cells (.slice As sn cs) (.slice Al ln cl)) hbW8 (by simp) (by simp) (by simp[Value.oneCell']) rfl ?_
 intro W9 hbW9 hmW9 hsW9
 refine hK.out _ _ (⟨hmW9.blk hS.1 Hob.out,hmW9.blk hS.2 Hod.out⟩) (fun hS=>?_)
 clear hK K
 try show yK _ _ _ _ _ _ _ _ (Act.put _ none _) _
 try simp only[pL]
 refine tP 9 57 ?_ hS (fun W'=>?_) ?_;rotate_left;· go_simp;try rfl
 try simp only[pL]
 refine xN 10 rfl ?_
 simp only[List.drop_succ_cons,List.drop_zero]
 have Ho9:=hJ hbW9
 go_upto_region 12 with (refine zF ?_;refine stQ rfl 57 _ _ rfl 4 o 4 (c1v) [Value.int .i64 1,.int .i64 0,.int .i64 0,.int .i64 0] za5.2 _ _ (({ g with base:=i,baseTerm:=g.term,conf:=C1 }:zX).cells (.slice As sn cs) (.slice Al ln cl)) Ho9.out rfl ?_;intro W10 hbW10 hmW10 hsW10)
 have hm10:=(hmW8.self hmW9).self hmW10
 have HE10:=hJ (Mod.toExt ((Ext.mod HE7.out (zD w.heap.size)).trans hm10 (fun k _ e=>e▸Hon.out)))
 have Hb10:=hJ (hmW10.blk hS.1 Hob.out)
 have Hz10:=hJ (hm10.blk Hz7.out Hoz.out)
 have Ho10:=hJ hbW10
 clear hbW8 hbW9 hbW10 hmW8 hmW9 hmW10 hsW8 hsW9 hsW10 hm10 hS hE6d hE7 Ho9
 obtain ⟨W10d,hW10d⟩:∃ W,W10.drew=W:=⟨_,rfl⟩
 have hE10d:Ext W10 W10d:=hW10d▸(Mod.refl _ W10).drew
 refine yZ (fun W=>W.heap[b]? = some (.cells ((g:zX).cells (.slice As sn cs) (.slice Al ln cl)).toArray 61 (0,0))) 13 (hW10d▸hE10d.blk Hb10.out id) (fun hS=>?_)
 rw[hW10d] at hS ⊢
 clear hW10d
 iterate 2
  (first|refine tP 0 58 ?_ hS (fun W'=>?_) ?_|refine tP 2 60 ?_ hS (fun W'=>?_) ?_);rotate_left;· go_simp;try rfl
  try simp only[pL]
 refine tU 3 61 (.slice Al ln cl) hS b 9 (fun W' hX1=>zL ze2 hX1 rfl) ?_
 try simp only[pL]
 iterate 2
  (first|refine tP 4 62 ?_ hS (fun W'=>?_) ?_|refine tP 5 63 ?_ hS (fun W'=>?_) ?_);rotate_left;· go_simp;try rfl
  try simp only[pL]
 refine tU 6 64 (.int .i64 g.base) hS b 2 (fun W' hX1=>zL zQ hX1 rfl) ?_
 try simp only[pL]
 refine tP 7 65 ?_ hS (fun W'=>?_) ?_;rotate_left;· go_simp;try rfl
 try simp only[pL]
 simp only[Hwl.out]
 refine tP 8 66 ?_ hS (fun W'=>?_) ?_;rotate_left;· go_simp;try rfl
 try simp only[pL]
 refine jP 1 (fun K hK=>?_)
 go_simp
 go_wp2_with fail
 refine (Hbc.out _ (HE10.out.ext hE10d)).mono ?_
 rintro e w11 ⟨v11,rfl,hN11,hE11⟩
 obtain ⟨A11,n11,c11,rfl⟩:∃ A n c,v11=.slice A n c:=⟨_,_,zC hN11.1 |>.choose_spec⟩
 have HE11:=hJ ((HE10.out.ext hE10d).ext hE11)
 have HX11:=hJ (hE10d.ext hE11)
 have HN11:=hJ (hN11.up (HE10.out.ext hE10d))
 clear hN11
 have hX:=hE11.blk hS id
 go_simp
 refine hK.out _ _ hX (fun hS=>?_)
 clear hK K hX
 try simp only[pL]
 refine tP 10 68 ?_ hS (fun W'=>?_) ?_;rotate_left;· go_simp;try rfl
 try simp only[pL]
 refine jP 9 (fun K hK=>?_)
 go_simp
 go_wp2_with fail
 refine (Hec.out _ HE11.out).mono ?_
 rintro e w12 ⟨v12,rfl,hN12,hE12⟩
 obtain ⟨A12,c12,rfl⟩:=hN12.form
 have HE12:=hJ (HE11.out.ext hE12)
 have HX12:=hJ (HX11.out.ext hE12)
 have HN12:=hJ (jH hN12 HE11.out.size)
 have HN11b:=hJ (HN11.out.ext hE12)
 have Ho12:=hJ (HX12.out.blk Ho10.out id)
 clear hN12
 have hX:=hE12.blk hS id
 go_simp
 refine hK.out _ _ hX (fun hS=>?_)
 clear hK K hX
 try simp only[pL]
 refine jP 11 (fun K hK=>?_)
 refine ziO rfl 58 _ _ rfl 1 o 8 (.slice A11 n11 c11) [.slice A11 n11 c11] rfl rfl rfl zgJ.size _ _ ((({ g with base:=i,baseTerm:=g.term,conf:=C1 }:zX).cells (.slice A11 n11 c11) (.slice Al ln cl))) Ho12.out (by simp) (by simp) (by simp[Value.oneCell']) rfl ?_
 intro W13 hbW13 hmW13 hsW13
 refine hK.out _ _ (hmW13.blk hS Hob.out) (fun hS=>?_)
 clear hK K
 try show yK _ _ _ _ _ _ _ _ (Act.put _ none _) _
 try simp only[pL]
 refine tP 12 69 ?_ hS (fun W'=>?_) ?_;rotate_left;· go_simp;try rfl
 try simp only[pL]
 refine xN 13 rfl ?_
 simp only[List.drop_succ_cons,List.drop_zero]
 have Ho13:=hJ hbW13
 clear hE10d
 go_upto_region 13 with (refine zF ?_;refine stQ rfl 59 _ _ rfl 1 o 9 (.slice A12 0 c12) [.slice A12 0 c12] ze2.size _ _ (({ g with base:=i,baseTerm:=g.term,conf:=C1 }:zX).cells (.slice A11 n11 c11) (.slice A12 0 c12)) Ho13.out rfl ?_;intro W14 hbW14 hmW14 hsW14)
 have hm14:=hmW13.self hmW14
 have HE14:=hJ (Mod.toExt ((Ext.mod HE12.out (zD w.heap.size)).trans hm14 (fun k _ e=>e▸Hon.out)))
 have Hz14:=hJ (hm14.blk (HX12.out.blk Hz10.out id) Hoz.out)
 have HN14:=hJ (show zcS w W14 (.slice A11 n11 c11) (.slice A12 0 c12) (g.snapped i bs) from ⟨⟨zN HN11b.out.1 hm14 (fun k hk=>zG HN11b.out.1 hk Ho12.out (by decide)),HN11b.out.2⟩,zeC HN12.out Ho12.out hm14 (by decide)⟩)
 have Ho14:=hJ hbW14
 clear hbW13 hbW14 hmW13 hmW14 hsW13 hsW14 hm14 hS
 go_wp2_with (first
  | (refine zK ?_;refine lD 61 o 0 (ld0 (cs:=(g.snapped i bs).cells (.slice A11 n11 c11) (.slice A12 0 c12)) yF Ho14.out) ?_)
  | (refine zF ?_;refine stQ rfl 61 _ _ rfl 10 (b+1) 0 (.agg ((g.snapped i bs).cells (.slice A11 n11 c11) (.slice A12 0 c12)).toArray) ((g.snapped i bs).cells (.slice A11 n11 c11) (.slice A12 0 c12)) yF.2 _ _ ((g.snapped i bs).cells (.slice A11 n11 c11) (.slice A12 0 c12)) Hz14.out rfl ?_;intro W15 hbW15 hmW15 hsW15))
 exact bodyPost_ret (zaA rfl _ _ (b+1) 61 ((g.snapped i bs).cells (.slice A11 n11 c11) (.slice A12 0 c12)) yF rfl hbW15 rfl) rfl ⟨_,_,rfl,HN14.out.box Hz14.out hmW15 (by decide) (by decide),Mod.toExt ((Ext.mod HE14.out (zD w.heap.size)).trans hmW15 (fun k _ e=>by unfold zD;omega))⟩
def CpOut (w:World) (r:zS) (e:Ending) (w':World):Prop:=∃ sv lv rv,e=.returned (.tuple #[.agg (r.cells sv lv rv).toArray,.int .i64 0])∧xQ w w' sv lv rv r []∧Ext w w'
theorem zpU (r:zS) (bs:List UInt8) (sv lv rv snv:Value) (w:World) (T U:Nat→Prop) (hm:RM w T sv lv rv r []) (hL:zaD r) (hb:Byt w U snv bs) (hbl:bs.length≤16384) (h1:r.hard.base<r.commit) (h2:r.commit≤1099511627776):
  Calls Tryz.prog 177 #[.agg (r.cells sv lv rv).toArray,snv] w (CpOut w (r.snapped bs)):=by
 have hr:=hL.right
 have Hsb:=hJ hb
 clear hb
 obtain ⟨S2,sn2,cs2,rfl⟩:∃ A n c,snv=.slice A n c:=⟨_,_,Hsb.out.form.choose_spec⟩
 obtain ⟨As,cs,Al,cl,Ra,rc,rfl,rfl,rfl⟩:=hm.forms
 obtain ⟨sn,hsn⟩:∃ n,r.hard.snap.length=n:=⟨_,rfl⟩
 obtain ⟨ln,hln⟩:∃ n,r.hard.log.length=n:=⟨_,rfl⟩
 rw[hsn,hln,show ([]:List yL).length=0 from rfl] at hm ⊢
 obtain ⟨b,hb⟩:∃ b,w.heap.size=b:=⟨_,rfl⟩
 have hof:=fun W (hE:Ext w W)=>r_of r [] _ _ _ W T (hm.ext hE) hr
 have Hof:=hJ hof
 clear hof
 obtain ⟨HL,Hbl,H1,H2⟩:=hJ4 hL hbl h1 h2
 clear hm hr hL hbl h1 h2 hsn hln
 go_enter Tryz.func177,Tryz.ntmps177
 go_upto_region 1 with fail
 obtain ⟨W1,hW1⟩:∃ W,(w.alloc (.cells (r.cells (.slice As sn cs) (.slice Al ln cl) (.slice Ra 0 rc)).toArray 65)).alloc (.cells rZ.toArray 65)=W:=⟨_,rfl⟩
 have hE1:Ext w W1:=hW1▸(((Mod.refl _ w).alloc _).alloc _)
 have hb1:W1.heap[b]? = some (.cells (r.cells (.slice As sn cs) (.slice Al ln cl) (.slice Ra 0 rc)).toArray 65 (0,0)):=hb▸hW1▸xE _ _ _
 have hz1:W1.heap[b+1]? = some (.cells rZ.toArray 65 (0,0)):=by rw[←hW1,←hb];exact xA _ _ _
 obtain ⟨HE1,Hb1,Hz1⟩:=hJ3 hE1 hb1 hz1
 rw[hW1]
 clear hW1 hE1 hb1 hz1
 go_upto_region 4 with (first
  | (refine zK ?_;refine lD 65 b 0 (yY Hb1.out) ?_)
  | (go_at_call 99;go_must (refine (Hof.out _ HE1.out).mono ?_;rintro e w2 ⟨q,sv2,lv2,rv2,rfl,hR2,hE2⟩)))
 have hb2:=hE2.blk Hb1.out id
 have hz2:=hE2.blk Hz1.out id
 obtain ⟨W2,hW2⟩:∃ W,w2.drew=W:=⟨_,rfl⟩
 have hEd:Ext w2 W2:=hW2▸(Mod.refl _ w2).drew
 have HE2:=hJ (HE1.out.ext (hE2.ext hEd))
 have HE12:=hJ (hE2.ext hEd)
 have HR2:=hJ (hR2.ext hEd)
 have Hz2:=hJ (hEd.blk hz2 id)
 clear hb2 hz2 hE2 hR2 hEd
 obtain ⟨Ra2,rc2,rfl⟩:∃ A c,rv2=.slice A 0 c:=⟨_,_,zC HR2.out.reads.1 |>.choose_spec.choose_spec⟩
 obtain ⟨A5,n5,c5,rfl⟩:∃ A n c,sv2=.slice A n c:=⟨_,_,zC HR2.out.hard.1.1 |>.choose_spec⟩
 obtain ⟨B5,m5,d5,rfl⟩:∃ A n c,lv2=.slice A n c:=⟨_,_,zC HR2.out.hard.2.1 |>.choose_spec⟩
 have hcp:=fun W (hE:Ext W2 W)=>znA W _ U r.hard (.slice A5 n5 c5) (.slice B5 m5 d5) (.slice S2 sn2 cs2) bs r.commit (HR2.out.hard.mem.ext hE) (Hsb.out.ext (HE2.out.ext hE)) Hbl.out HL.out.right.hard HL.out.lone HL.out.all.symm H1.out H2.out (by rw[HL.out.all];exact HL.out.tat)
 have Hcp:=hJ hcp
 clear hcp
 refine yZ (fun W=>Ext W2 W) 19 (hW2▸(Mod.refl _ _)) (fun hS=>?_)
 rw[hW2] at hS ⊢
 clear hW2
 iterate 5
  (first|refine tP 0 18 ?_ hS (fun W'=>?_) ?_|refine tP 1 19 ?_ hS (fun W'=>?_) ?_|refine tP 2 20 ?_ hS (fun W'=>?_) ?_|refine tP 3 21 ?_ hS (fun W'=>?_) ?_|refine tP 4 22 ?_ hS (fun W'=>?_) ?_);rotate_left;· go_simp;try rfl
  try simp only[pL]
 refine tU 5 23 (.agg (r.hard.cells (.slice A5 n5 c5) (.slice B5 m5 d5)).toArray) hS q 1 (fun W' hW'=>zkX (r:=r) (hW'.blk HR2.out.box id)) ?_
 try simp only[pL]
 iterate 4
  (first|refine tP 6 24 ?_ hS (fun W'=>?_) ?_|refine tP 7 25 ?_ hS (fun W'=>?_) ?_|refine tP 8 26 ?_ hS (fun W'=>?_) ?_|refine tP 9 27 ?_ hS (fun W'=>?_) ?_);rotate_left;· go_simp;try rfl
  try simp only[pL]
 refine tU 10 28 (.int .i64 r.commit) hS q 11 (fun W' hW'=>zL zQ (hW'.blk HR2.out.box id) rfl) ?_
 try simp only[pL]
 refine tP 11 29 ?_ hS (fun W'=>?_) ?_;rotate_left;· go_simp;try rfl
 try simp only[pL]
 refine jP 12 (fun K hK=>?_)
 go_simp
 go_wp2_with fail
 refine (Hcp.out _ hS).mono ?_
 rintro e w3 ⟨sv6,lv6,rfl,hN6,hE6⟩
 obtain ⟨A6,n6,c6,rfl⟩:∃ A n c,sv6=.slice A n c:=⟨_,_,zC hN6.1.1 |>.choose_spec⟩
 obtain ⟨B6,m6,d6,rfl⟩:∃ A n c,lv6=.slice A n c:=⟨_,_,zC hN6.2.1 |>.choose_spec⟩
 have HN6:=hJ (hN6.up (HE12.out.ext hS))
 clear hN6
 have hX:=hS.ext hE6
 go_simp
 refine hK.out _ _ hX (fun hS=>?_)
 clear hK K hX
 try simp only[pL]
 iterate 6
  (first|refine tP 13 17 ?_ hS (fun W'=>?_) ?_|refine tP 14 31 ?_ hS (fun W'=>?_) ?_|refine tP 15 32 ?_ hS (fun W'=>?_) ?_|refine tP 16 33 ?_ hS (fun W'=>?_) ?_|refine tP 17 34 ?_ hS (fun W'=>?_) ?_|refine tP 18 35 ?_ hS (fun W'=>?_) ?_);rotate_left;· go_simp;try rfl
  try simp only[pL]
 refine xN 19 rfl ?_
 simp only[List.drop_succ_cons,List.drop_zero]
 have HR3:=hJ (HR2.out.ext hS)
 have Hz3:=hJ (hS.blk Hz2.out id)
 have HE3:=hJ (HE2.out.ext hS)
 have Hq3:=hJ HR3.out.box
 clear hS hE6
 go_upto_region 7 with (refine zF ?_;refine stQ rfl 61 _ _ rfl 10 q 1 (.agg ((r.hard.snapped r.commit bs).cells (.slice A6 n6 c6) (.slice B6 m6 d6)).toArray) ((r.hard.snapped r.commit bs).cells (.slice A6 n6 c6) (.slice B6 m6 d6)) yF.2 _ _ ((r.snapped bs).cells (.slice A6 n6 c6) (.slice B6 m6 d6) (.slice Ra2 0 rc2)++[Value.slice none 0 0]) Hq3.out rfl ?_;intro W4 hbW4 hmW4 hsW4)
 have HF4:=hJ (show xQ W1 W4 (.slice A6 n6 c6) (.slice B6 m6 d6) (.slice Ra2 0 rc2) (r.snapped bs) [] from ⟨HN6.out.box Hq3.out hmW4 (by decide) (by decide),⟨zN HR3.out.reads.1 hmW4 (fun g hg=>zG HR3.out.reads.1 hg Hq3.out (by decide)),HR3.out.reads.2⟩⟩)
 have Hz4:=hJ (hmW4.blk Hz3.out (fun e=>by have h1:=(Array.getElem?_eq_some_iff.1 Hz1.out).1;have:=HR2.out.new;omega))
 have HE4:=hJ (Mod.toExt ((Ext.mod HE3.out (zD w.heap.size)).trans hmW4 (fun k _ e=>by have:=HR2.out.new;have:=HE1.out.size;unfold zD;omega)))
 have Hq4:=hJ hbW4
 clear hbW4 hmW4 hsW4
 go_wp2_with (first
  | (refine zK ?_;refine lD 65 q 0 (zb9 Hq4.out) ?_)
  | (refine zF ?_;refine stQ rfl 65 _ _ rfl 40 (b+1) 0 (.agg ((r.snapped bs).cells (.slice A6 n6 c6) (.slice B6 m6 d6) (.slice Ra2 0 rc2)).toArray) ((r.snapped bs).cells (.slice A6 n6 c6) (.slice B6 m6 d6) (.slice Ra2 0 rc2)) yA.2 _ _ ((r.snapped bs).cells (.slice A6 n6 c6) (.slice B6 m6 d6) (.slice Ra2 0 rc2)) Hz4.out rfl ?_;intro W6 hbW6 hmW6 hsW6))
 exact bodyPost_ret (zaA rfl _ _ (b+1) 65 ((r.snapped bs).cells (.slice A6 n6 c6) (.slice B6 m6 d6) (.slice Ra2 0 rc2)) yA rfl hbW6 rfl) rfl ⟨_,_,_,rfl,(HF4.out.up HE1.out).box Hz4.out hmW6 (by decide) (by decide) (by decide),Mod.toExt ((Ext.mod HE4.out (zD w.heap.size)).trans hmW6 (fun k _ e=>by unfold zD;omega))⟩
abbrev zpV (h:zX) (n:Int):zS:=⟨0,h,h.base,0,-1,n,0,0,0,⟨0,0,0,0,0,0,0⟩,⟨0,0,0,0,0,0,0⟩,⟨0,0,0,0,0,0,0⟩⟩
def za6 (h:zX):zS:=zpV h 6
def NwOut (w:World) (r:zS) (e:Ending) (w':World):Prop:=∃ sv lv,e=.returned (.tuple #[.agg (r.cells sv lv (.slice none 0 0)).toArray,.int .i64 0])∧xQ w w' sv lv (.slice none 0 0) r []∧Ext w w'
theorem r_New (h:zX) (sv lv:Value) (w:World) (T:Nat→Prop) (hm:xP w T sv lv h) (hr:Right h) (hl:zdL h):
  Calls Tryz.prog 63 #[.int .i64 0,.agg (h.cells sv lv).toArray] w (NwOut w (za6 h)):=by
 obtain ⟨As,cs,Al,cl,rfl,rfl⟩:=hm.forms
 have hsn0:h.snap.length≤1000000:=by have:=hr.s;omega
 have hck:∀ W,Ext w W→Calls Tryz.prog 118 #[.agg (h.cells (.slice As h.snap.length cs) (.slice Al h.log.length cl)).toArray] W fun e w'=>e=.returned (.int .i64 0)∧Ext W w':=fun W hE=>by
  have h0:=zdY W T h _ _ (hm.ext hE) hl.few
  rw[(jM _).2 hr] at h0
  exact h0
 have hbc:=fun W (hE:Ext w W)=>zdZ W T _ h.snap (hm.ext hE).1 hsn0
 have hec:=fun W (hE:Ext w W)=>zeZ W T _ h.log (hm.ext hE).2 hl.few
 obtain ⟨sn,hsn⟩:∃ n,h.snap.length=n:=⟨_,rfl⟩
 obtain ⟨ln,hln⟩:∃ n,h.log.length=n:=⟨_,rfl⟩
 rw[hsn,hln] at hck
 rw[hsn] at hbc
 rw[hln] at hec
 rw[hsn,hln]
 obtain ⟨b,hb⟩:∃ b,w.heap.size=b:=⟨_,rfl⟩
 obtain ⟨g,hg⟩:∃ g,h=g:=⟨_,rfl⟩
 rw[hg] at hck hbc hec hl ⊢
 obtain ⟨Hck,Hbc,Hec,Hl⟩:=hJ4 hck hbc hec hl
 clear hm hr hl hck hbc hec hsn hln hg hsn0
 clear h
 go_enter Tryz.func63,Tryz.ntmps63
 go_upto_region 1 with fail
 obtain ⟨W1,hW1⟩:∃ W,(w.alloc (.cells (g.cells (.slice As sn cs) (.slice Al ln cl)).toArray 61)).alloc (.cells rZ.toArray 65)=W:=⟨_,rfl⟩
 have hE1:Ext w W1:=hW1▸(((Mod.refl _ w).alloc _).alloc _)
 have hb1:W1.heap[b]? = some (.cells (g.cells (.slice As sn cs) (.slice Al ln cl)).toArray 61 (0,0)):=hb▸hW1▸xE _ _ _
 have hz1:W1.heap[b+1]? = some (.cells rZ.toArray 65 (0,0)):=by rw[←hW1,←hb];exact xA _ _ _
 obtain ⟨HE1,Hb1,Hz1⟩:=hJ3 hE1 hb1 hz1
 rw[hW1]
 clear hW1 hE1 hb1 hz1
 go_upto_region 6 with (first
  | (refine zK ?_;refine lD 61 b 0 (ld0 (cs:=g.cells (.slice As sn cs) (.slice Al ln cl)) yF Hb1.out) ?_)
  | (go_at_call 118;refine (Hck.out _ HE1.out).mono ?_;rintro e w2 ⟨rfl,hE2⟩))
 obtain ⟨W2,hW2⟩:∃ W,w2.drew=W:=⟨_,rfl⟩
 have hEd:Ext w2 W2:=hW2▸(Mod.refl _ w2).drew
 have HE2:=hJ (HE1.out.ext (hE2.ext hEd))
 have Hb2:=hJ ((hE2.ext hEd).blk Hb1.out id)
 have Hz2:=hJ ((hE2.ext hEd).blk Hz1.out id)
 clear hE2 hEd
 refine yZ (fun W=>Ext W2 W) 7 (hW2▸(Mod.refl _ _)) (fun hS=>?_)
 rw[hW2] at hS ⊢
 clear hW2
 refine tP 0 23 ?_ hS (fun W'=>?_) ?_;rotate_left;· go_simp;try rfl
 try simp only[pL]
 refine tU 1 24 (.slice As sn cs) hS b 8 (fun W' hW'=>zL zgJ (hW'.blk Hb2.out id) rfl) ?_
 try simp only[pL]
 refine tP 3 26 ?_ hS (fun W'=>?_) ?_;rotate_left;· go_simp;try rfl
 try simp only[pL]
 refine tU 4 27 (.slice Al ln cl) hS b 9 (fun W' hW'=>zL ze2 (hW'.blk Hb2.out id) rfl) ?_
 try simp only[pL]
 refine jP 2 (fun K hK=>?_)
 go_simp
 go_wp2_with fail
 refine (Hbc.out _ (HE2.out.ext hS)).mono ?_
 rintro e w3 ⟨v3,rfl,hN3,hE3⟩
 obtain ⟨A2,n2,c2,rfl⟩:∃ A n c,v3=.slice A n c:=⟨_,_,zC hN3.1 |>.choose_spec⟩
 have HN3:=hJ (hN3.up (HE2.out.ext hS))
 clear hN3
 have hX:=hS.ext hE3
 go_simp
 refine hK.out _ _ hX (fun hS=>?_)
 clear hK K hX
 try simp only[pL]
 refine tP 6 29 ?_ hS (fun W'=>?_) ?_;rotate_left;· go_simp;try rfl
 try simp only[pL]
 refine jP 5 (fun K hK=>?_)
 go_simp
 go_wp2_with fail
 refine (Hec.out _ (HE2.out.ext hS)).mono ?_
 rintro e w4 ⟨v4,rfl,hN4,hE4⟩
 obtain ⟨A3,n3,c3,rfl⟩:∃ A n c,v4=.slice A n c:=⟨_,_,zC hN4.1 |>.choose_spec⟩
 have HN4:=hJ (jH hN4 (HE2.out.ext hS).size)
 have HN3b:=hJ (HN3.out.ext hE4)
 clear hN4
 have hX:=hS.ext hE4
 go_simp
 refine hK.out _ _ hX (fun hS=>?_)
 clear hK K hX
 try simp only[pL]
 refine xN 7 rfl ?_
 simp only[List.drop_succ_cons,List.drop_zero]
 have Hb4:=hJ (hS.blk Hb2.out id)
 have Hz4:=hJ (hS.blk Hz2.out id)
 have HE4:=hJ (HE2.out.ext hS)
 clear hS hE3 hE4
 go_upto_region 7 with (refine zF ?_;first
  | (refine stQ rfl 58 _ _ rfl 1 b 8 (.slice A2 n2 c2) [.slice A2 n2 c2] zgJ.size _ _ (g.cells (.slice A2 n2 c2) (.slice Al ln cl)) Hb4.out rfl ?_;intro W5 hbW5 hmW5 hsW5;have HbW5:=hJ hbW5)
  | (refine stQ rfl 59 _ _ rfl 1 b 9 (.slice A3 n3 c3) [.slice A3 n3 c3] ze2.size _ _ (g.cells (.slice A2 n2 c2) (.slice A3 n3 c3)) HbW5.out rfl ?_;intro W6 hbW6 hmW6 hsW6))
 have hm6:=hmW5.self hmW6
 have Hb6:=hJ hbW6
 have HH6:=hJ (show zcS w W6 (.slice A2 n2 c2) (.slice A3 n3 c3) g from zcS.box ⟨HN3b.out,HN4.out⟩ Hb4.out hm6 (by decide) (by decide))
 have Hz6:=hJ (hm6.blk Hz4.out (by omega))
 have HE6:=hJ (Mod.toExt ((Ext.mod HE4.out (zD w.heap.size)).trans hm6 (fun k _ e=>by unfold zD;omega)))
 clear hbW5 hbW6 hmW5 hmW6 hsW5 hsW6 hm6 HbW5
 have p2:W6.cell? ⟨b,2,none⟩=some (.int .i64 g.base):=zA Hb6.out rfl
 go_upto_region 8 with (first
  | (refine zK ?_;refine lD 61 b 0 (ld0 (cs:=g.cells (.slice A2 n2 c2) (.slice A3 n3 c3)) yF Hb6.out) ?_)
  | (refine zF ?_;refine stQ rfl 65 _ _ rfl 40 W6.heap.size 0 (.agg ((zpV g 0).cells (.slice A2 n2 c2) (.slice A3 n3 c3) (.slice none 0 0)).toArray) ((zpV g 0).cells (.slice A2 n2 c2) (.slice A3 n3 c3) (.slice none 0 0)) yA.2 _ rZ ((zpV g 0).cells (.slice A2 n2 c2) (.slice A3 n3 c3) (.slice none 0 0)) (zI W6 _) rfl ?_;intro W7 hbW7 hmW7 hsW7))
 clear p2
 obtain ⟨q,hq⟩:∃ q,W6.heap.size=q:=⟨_,rfl⟩
 have hE7:Ext W6 W7:=Mod.toExt (((Mod.refl (zD W6.heap.size) W6).alloc _).trans hmW7 (fun k _ e=>by unfold zD;omega))
 rw[hq] at hbW7 ⊢
 have Hq7:=hJ hbW7
 have Hb7:=hJ (hE7.blk Hb6.out id)
 have Hz7:=hJ (hE7.blk Hz6.out id)
 have HE7:=hJ (HE6.out.ext hE7)
 have HH7:=hJ (HH6.out.ext hE7)
 have Hqn:=hJ (show w.heap.size≤q∧b+1<q from ⟨hq▸HE6.out.size,hq▸(Array.getElem?_eq_some_iff.1 Hz6.out).1⟩)
 clear hbW7 hmW7 hsW7 hE7 hq
 have hco:=fun W (hE:Ext W7 W)=>zcJ (zpV g 0) (.slice A2 n2 c2) (.slice A3 n3 c3) none 0 0 W _ (HH7.out.mem.ext hE) Hl.out
 have Hco:=hJ hco
 clear hco
 go_upto_region 9 with (first
  | (refine zK ?_;refine lD 65 q 0 (yY Hq7.out) ?_)
  | (go_at_call 90;refine (Hco.out _ (Mod.refl _ W7)).mono ?_;rintro e w8 ⟨rfl,hE8⟩;have Hq8:=hJ (hE8.blk Hq7.out id))
  | (go_at_call 125;refine (ziK _).mono ?_;rintro e w9 ⟨rfl,hE9⟩;have Hq9:=hJ (hE9.blk Hq8.out id))
  | (refine zF ?_;refine stQ rfl 3 _ _ rfl 1 q 14 (.int .i64 6) [.int .i64 6] zQ.size _ _ ((za6 g).cells (.slice A2 n2 c2) (.slice A3 n3 c3) (.slice none 0 0)) Hq9.out rfl ?_;intro W10 hbW10 hmW10 hsW10))
 have HF10:=hJ (show xQ w W10 (.slice A2 n2 c2) (.slice A3 n3 c3) (.slice none 0 0) (za6 g) [] from ⟨zcS.box (HH7.out.ext (hE8.ext hE9)) Hq9.out hmW10 (by decide) (by decide),⟨World.ownsRow_nil _ _ _ _,by simp[Value.ownBlock]⟩⟩)
 have Hz10:=hJ (hmW10.blk ((hE8.ext hE9).blk Hz7.out id) (by have:=Hqn.out.2;omega))
 have HE10:=hJ (Mod.toExt ((Ext.mod (HE7.out.ext (hE8.ext hE9)) (zD w.heap.size)).trans hmW10 (fun k _ e=>e▸Hqn.out.1)))
 have Hq10:=hJ hbW10
 clear hbW10 hmW10 hsW10 hE8 hE9 Hq8 Hq9
 go_wp2_with (first
  | (refine zK ?_;refine lD 65 q 0 (yY Hq10.out) ?_)
  | (refine zF ?_;refine stQ rfl 65 _ _ rfl 40 (b+1) 0 (.agg ((za6 g).cells (.slice A2 n2 c2) (.slice A3 n3 c3) (.slice none 0 0)).toArray) ((za6 g).cells (.slice A2 n2 c2) (.slice A3 n3 c3) (.slice none 0 0)) yA.2 _ _ ((za6 g).cells (.slice A2 n2 c2) (.slice A3 n3 c3) (.slice none 0 0)) Hz10.out rfl ?_;intro W11 hbW11 hmW11 hsW11))
 exact bodyPost_ret (zaA rfl _ _ (b+1) 65 ((za6 g).cells (.slice A2 n2 c2) (.slice A3 n3 c3) (.slice none 0 0)) yA rfl hbW11 rfl) rfl ⟨_,_,rfl,HF10.out.box Hz10.out hmW11 (by decide) (by decide) (by decide),Mod.toExt ((Ext.mod HE10.out (zD w.heap.size)).trans hmW11 (fun k _ e=>by unfold zD;omega))⟩
end Go.Proofs.YtjbkjhhjofeldaaGreat
