/-
 Layer 22 (node): raft.Propose of a node alone that leads. Conditions: as each theorem names them.
-/
import Derived.Test.YtjbkjhhjofeldaaGreatG20
set_option maxRecDepth 100000
set_option maxHeartbeats 2000000
namespace Go.Proofs.YtjbkjhhjofeldaaGreat
set_option linter.unusedSimpArgs false
set_option linter.unusedVariables false
open Go.RowKit
theorem zdN (w:World) (o p q:Obj):(((w.alloc o).alloc p).alloc q).heap[w.heap.size]? = some o∧(((w.alloc o).alloc p).alloc q).heap[w.heap.size+1]? = some p∧(((w.alloc o).alloc p).alloc q).heap[w.heap.size+1+1]? = some q:=by
  have h1:=xE w o p
  have h2:=xA w o p
  have h3:=xA (w.alloc o) p q
  rw[show (w.alloc o).heap.size=w.heap.size+1 from Array.size_push _] at h3
  exact ⟨((Mod.refl (fun _=>False) ((w.alloc o).alloc p)).alloc q).blk h1 id,((Mod.refl (fun _=>False) ((w.alloc o).alloc p)).alloc q).blk h2 id,h3⟩
def zT (t:Int) (c:zW):zO:=⟨t,1,c,jB.zero⟩
def ProOut (w:World) (r:zS) (at_:Int) (e:Ending) (w':World):Prop:=∃ sv lv rv,e=.returned (.tuple #[.agg (r.cells sv lv rv).toArray,.int .i64 at_,.int .i64 0])∧xQ w w' sv lv rv r []∧Ext w w'
theorem zpR (r:zS) (c:zW) (sv lv rv:Value) (w:World) (T:Nat→Prop) (hm:RM w T sv lv rv r []) (hL:zaD r) (hc:yX c=0) (hco:c.ok) (hn:r.hard.log.length<64):
  Calls Tryz.prog 106 #[.agg (r.cells sv lv rv).toArray,.agg #[.int .i64 c.client,.int .i64 c.seq,.int .i64 c.cmd.kind,.string c.cmd.key,.int .i64 c.cmd.old.kind,.float .f64 c.cmd.old.num,.string c.cmd.old.text,.int .i64 c.cmd.val.kind,.float .f64 c.cmd.val.num,.string c.cmd.val.text]] w (ProOut w (r.put (zT r.hard.term c)) (r.last+1)):=by
 have hr:=hL.right
 obtain ⟨As,cs,Al,cl,Ra,rc,rfl,rfl,rfl⟩:=hm.forms
 obtain ⟨sn,hsn⟩:∃ n,r.hard.snap.length=n:=⟨_,rfl⟩
 obtain ⟨ln,hln⟩:∃ n,r.hard.log.length=n:=⟨_,rfl⟩
 rw[hsn,hln,show ([]:List yL).length=0 from rfl] at hm ⊢
 obtain ⟨b,hb⟩:∃ b,w.heap.size=b:=⟨_,rfl⟩
 have hof:=fun W (hE:Ext w W)=>r_of r [] _ _ _ W T (hm.ext hE) hr
 have Hof:=hJ hof
 clear hof
 have hld:=fun W (hE:Ext w W)=>zl7 r (.slice As sn cs) (.slice Al ln cl) Ra 0 rc W T (hm.hard.ext hE) hL.lone hL.role hL.id
 have hsr:=fun W=>jS c W
 rw[hc] at hsr
 obtain ⟨Hld,Hsr,HL,Hcc,Hco⟩:=hJ5 hld hsr hL hc hco
 have d1:¬ (64:Int)≤(ln:Int):=by omega
 have Hn:=hJ (show r.hard.log.length<1000 by omega)
 have Hi:=hJ (show I64 r.hard.term from by have:=hL.right.hard.t0;have:=hL.right.hard.t1;unfold I64;omega)
 clear hm hr hL hc hco hn hsn hln hld hsr
 go_enter Tryz.func106,Tryz.ntmps106
 go_upto_region 1 with fail
 obtain ⟨W1,hW1⟩:∃ W,((w.alloc (.cells (r.cells (.slice As sn cs) (.slice Al ln cl) (.slice Ra 0 rc)).toArray 65)).alloc (.cells c.cells.toArray 29)).alloc (.cells rZ.toArray 65)=W:=⟨_,rfl⟩
 have hE1:Ext w W1:=hW1▸((((Mod.refl _ w).alloc _).alloc _).alloc _)
 obtain ⟨hb1,hc1,hz1⟩:=zdN w (.cells (r.cells (.slice As sn cs) (.slice Al ln cl) (.slice Ra 0 rc)).toArray 65) (.cells c.cells.toArray 29) (.cells rZ.toArray 65)
 rw[hW1,hb] at hb1 hc1 hz1
 have Hc1:=hJ hc1
 clear hc1
 obtain ⟨HE1,Hb1,Hz1⟩:=hJ3 hE1 hb1 hz1
 rw[hW1]
 clear hW1 hE1 hb1 hz1
 go_upto_region 3 with (first
  | (refine zK ?_;refine lD 65 b 0 (yY Hb1.out) ?_)
  | (go_at_call 99;go_must (refine (Hof.out _ HE1.out).mono ?_;rintro e w2 ⟨q,sv2,lv2,rv2,rfl,hR2,hE2⟩)))
 obtain ⟨HR2,HEx⟩:=hJ2 hR2 hE2
 have HE2:=hJ (HE1.out.ext hE2)
 have Hb2:=hJ (hE2.blk Hb1.out id)
 have Hc2:=hJ (hE2.blk Hc1.out id)
 have Hz2:=hJ (hE2.blk Hz1.out id)
 clear hR2 hE2
 obtain ⟨Ra2,rc2,rfl⟩:∃ A c,rv2=.slice A 0 c:=⟨_,_,zC HR2.out.reads.1 |>.choose_spec.choose_spec⟩
 go_upto_region 4 with (first
  | (refine zK ?_;first|(refine lD 65 b 0 (yY Hb2.out) ?_)|(refine lD 29 (b+1) 0 (ld0 (cs:=c.cells) zV Hc2.out) ?_))
  | (go_at_call 100;refine (Hld.out _ HE2.out).mono ?_;rintro e w3 ⟨rfl,hE3⟩))
 have HE3:=hJ (HE2.out.ext hE3)
 have Hb3:=hJ (hE3.blk Hb2.out id)
 have Hc3:=hJ (hE3.blk Hc2.out id)
 have Hz3:=hJ (hE3.blk Hz2.out id)
 have HR3:=hJ (HR2.out.ext hE3)
 clear hE3
 go_upto_region 6 with (first
  | (refine zK ?_;first|(refine lD 65 b 0 (yY Hb3.out) ?_)|(refine lD 29 (b+1) 0 (ld0 (cs:=c.cells) zV Hc3.out) ?_))
  | (go_at_call 41;refine (Hsr.out _).mono ?_;rintro e w4 ⟨rfl,hE4⟩))
 have HE4:=hJ (HE3.out.ext hE4)
 have Hb4:=hJ (hE4.blk Hb3.out id)
 have Hc4:=hJ (hE4.blk Hc3.out id)
 have Hz4:=hJ (hE4.blk Hz3.out id)
 have HR4:=hJ (HR3.out.ext hE4)
 clear hE4
 have p10:w4.cell? ⟨b,10,none⟩=some (.slice Al ln cl):=zA Hb4.out rfl
 go_upto_region 10 with fail
 clear p10
 have p1:w4.cell? ⟨q,1,none⟩=some (.int .i64 r.hard.term):=zA HR4.out.box rfl
 have y0:w4.cell? ⟨(b+1),0,none⟩=some _:=zA Hc4.out rfl
 have y1:w4.cell? ⟨(b+1),1,none⟩=some _:=zA Hc4.out rfl
 have y2:w4.cell? ⟨(b+1),2,none⟩=some _:=zA Hc4.out rfl
 have y3:w4.cell? ⟨(b+1),3,none⟩=some _:=zA Hc4.out rfl
 have y4:w4.cell? ⟨(b+1),4,none⟩=some _:=zA Hc4.out rfl
 have y5:w4.cell? ⟨(b+1),5,none⟩=some _:=zA Hc4.out rfl
 have y6:w4.cell? ⟨(b+1),6,none⟩=some _:=zA Hc4.out rfl
 have y7:w4.cell? ⟨(b+1),7,none⟩=some _:=zA Hc4.out rfl
 have y8:w4.cell? ⟨(b+1),8,none⟩=some _:=zA Hc4.out rfl
 have y9:w4.cell? ⟨(b+1),9,none⟩=some _:=zA Hc4.out rfl
 go_still_tail 9,(by kernel_rfl)
 go_upto_region 11 with (go_at_call 164;go_must (refine (r_add W1 _ q _ _ _ r (zT r.hard.term c) (HR4.out.ext ((Mod.refl (fun _=>False) w4).drew)) HL.out.lone ⟨_,_,rfl⟩ ⟨Hi.out,(show I64 1 from ⟨by decide,by decide⟩),Hco.out,zc1,zc1,zc1,zc1⟩ (by show (1:Int)≠2;omega) Hn.out rfl HL.out.right.hard.t0 HL.out.id ⟨_,HL.out.m⟩ ⟨HL.out.right.base,HL.out.right.commit⟩).mono ?_;rintro e w5 ⟨rfl,lv5,hR5,hM5⟩))
 have hM5':Mod (zD W1.heap.size) w4 w5:=((Mod.refl _ w4).drew).trans hM5 (fun k _ h=>h)
 have Hz5:=hJ (hM5'.blk Hz4.out (fun e=>by have h1:=(Array.getElem?_eq_some_iff.1 Hz1.out).1;unfold zD at e;omega))
 have HE5:=hJ (Mod.toExt ((Ext.mod HE4.out (zD w.heap.size)).trans hM5' (fun k _ e=>by have:=HE1.out.size;unfold zD at *;omega)))
 obtain ⟨A5,n5,c5,rfl⟩:∃ A n c,sv2=.slice A n c:=⟨_,_,zC hR5.hard.1.1 |>.choose_spec⟩
 obtain ⟨B5,m5,d5,rfl⟩:∃ A n c,lv5=.slice A n c:=⟨_,_,zC hR5.hard.2.1 |>.choose_spec⟩
 have HR5:=hJ hR5
 clear hR5 hM5 hM5' p1 y0 y1 y2 y3 y4 y5 y6 y7 y8 y9
 go_wp2_with (first
  | (refine zK ?_;refine lD 65 q 0 (zb9 HR5.out.box) ?_)
  | (refine zF ?_;refine stQ rfl 65 _ _ rfl 40 (b+1+1) 0 (.agg ((r.put (zT r.hard.term c)).cells (.slice A5 n5 c5) (.slice B5 m5 d5) (.slice Ra2 0 rc2)).toArray) ((r.put (zT r.hard.term c)).cells (.slice A5 n5 c5) (.slice B5 m5 d5) (.slice Ra2 0 rc2)) yA.2 _ _ ((r.put (zT r.hard.term c)).cells (.slice A5 n5 c5) (.slice B5 m5 d5) (.slice Ra2 0 rc2)) Hz5.out rfl ?_;intro W6 hbW6 hmW6 hsW6))
 refine bodyPost_ret (zaB rfl _ _ (b+1+1) 65 ((r.put (zT r.hard.term c)).cells (.slice A5 n5 c5) (.slice B5 m5 d5) (.slice Ra2 0 rc2)) yA rfl hbW6 rfl) rfl ⟨_,_,_,rfl,(HR5.out.fresh.up HE1.out).box Hz5.out hmW6 (by decide) (by decide) (by decide),Mod.toExt ((Ext.mod HE5.out (zD w.heap.size)).trans hmW6 (fun k _ e=>by unfold zD;omega))⟩
def AskOut (w:World) (r:zS) (x:yL) (e:Ending) (w':World):Prop:=∃ sv lv rv,e=.returned (.tuple #[.agg (r.cells sv lv rv).toArray,.int .i64 0])∧xQ w w' sv lv rv r [x]∧Ext w w'
theorem r_Ask (r:zS) (c:zW) (sv lv rv:Value) (w:World) (T:Nat→Prop) (hm:RM w T sv lv rv r []) (hL:zaD r) (hc:yX c=0) (hco:c.ok) (hrd:0≤r.round∧r.round<1000000):
  Calls Tryz.prog 44 #[.agg (r.cells sv lv rv).toArray,.agg #[.int .i64 c.client,.int .i64 c.seq,.int .i64 c.cmd.kind,.string c.cmd.key,.int .i64 c.cmd.old.kind,.float .f64 c.cmd.old.num,.string c.cmd.old.text,.int .i64 c.cmd.val.kind,.float .f64 c.cmd.val.num,.string c.cmd.val.text]] w (AskOut w r (⟨c,r.commit,r.round+1,1⟩:yL)):=by
 obtain ⟨i0,hi0,hz0,hz1,hz2⟩:=info_parts zgH
 obtain ⟨hrd0,hrd1⟩:=hrd
 have hrd2:r.round+1≤1099511627776:=by omega
 have hrd3:¬ 1099511627776<r.round+1:=by omega
 have hwr:IntKind.i64.wrap (r.round+1)=r.round+1:=IntWalk.i64_in _ (by omega)
 have Hv:=hJ (show (if 1099511627776<IntKind.i64.wrap (r.round+1) then 1099511627776 else IntKind.i64.wrap (r.round+1))=r.round+1∧IntKind.i64.wrap 1=1 from ⟨by rw[hwr,if_neg hrd3],by decide +kernel⟩)
 clear hwr
 have hr:=hL.right
 obtain ⟨As,cs,Al,cl,Ra,rc,rfl,rfl,rfl⟩:=hm.forms
 obtain ⟨sn,hsn⟩:∃ n,r.hard.snap.length=n:=⟨_,rfl⟩
 obtain ⟨ln,hln⟩:∃ n,r.hard.log.length=n:=⟨_,rfl⟩
 rw[hsn,hln,show ([]:List yL).length=0 from rfl] at hm ⊢
 obtain ⟨b,hb⟩:∃ b,w.heap.size=b:=⟨_,rfl⟩
 have hof:=fun W (hE:Ext w W)=>r_of r [] _ _ _ W T (hm.ext hE) hr
 have Hof:=hJ hof
 clear hof
 have hld:=fun W (hE:Ext w W)=>zl7 r (.slice As sn cs) (.slice Al ln cl) Ra 0 rc W T (hm.hard.ext hE) hL.lone hL.role hL.id
 have hsr:=fun W=>jS c W
 rw[hc] at hsr
 obtain ⟨Hld,Hsr,HL,Hcc,Hco⟩:=hJ5 hld hsr hL hc hco
 have how:=fun W (hE:Ext w W)=>t_own W T r.hard (.slice As sn cs) (.slice Al ln cl) r.commit (hm.hard.ext hE) hL.lone.few hL.lone.base (by rw[hL.all];exact hL.tat) hr.hard.t0
 have How:=hJ how
 clear hm hr hL hc hco hsn hln hld hsr how
 go_enter Tryz.func44,Tryz.ntmps44
 go_upto_region 1 with fail
 obtain ⟨W1,hW1⟩:∃ W,((w.alloc (.cells (r.cells (.slice As sn cs) (.slice Al ln cl) (.slice Ra 0 rc)).toArray 65)).alloc (.cells c.cells.toArray 29)).alloc (.cells rZ.toArray 65)=W:=⟨_,rfl⟩
 have hE1:Ext w W1:=hW1▸((((Mod.refl _ w).alloc _).alloc _).alloc _)
 obtain ⟨hb1,hc1,hz1⟩:=zdN w (.cells (r.cells (.slice As sn cs) (.slice Al ln cl) (.slice Ra 0 rc)).toArray 65) (.cells c.cells.toArray 29) (.cells rZ.toArray 65)
 rw[hW1,hb] at hb1 hc1 hz1
 have Hc1:=hJ hc1
 clear hc1
 obtain ⟨HE1,Hb1,Hz1⟩:=hJ3 hE1 hb1 hz1
 rw[hW1]
 clear hW1 hE1 hb1 hz1
 go_upto_region 3 with (first
  | (refine zK ?_;refine lD 65 b 0 (yY Hb1.out) ?_)
  | (go_at_call 99;go_must (refine (Hof.out _ HE1.out).mono ?_;rintro e w2 ⟨q,sv2,lv2,rv2,rfl,hR2,hE2⟩)))
 obtain ⟨HR2,HEx⟩:=hJ2 hR2 hE2
 have HE2:=hJ (HE1.out.ext hE2)
 have Hb2:=hJ (hE2.blk Hb1.out id)
 have Hc2:=hJ (hE2.blk Hc1.out id)
 have Hz2:=hJ (hE2.blk Hz1.out id)
 clear hR2 hE2
 obtain ⟨Ra2,rc2,rfl⟩:∃ A c,rv2=.slice A 0 c:=⟨_,_,zC HR2.out.reads.1 |>.choose_spec.choose_spec⟩
 go_upto_region 4 with (first
  | (refine zK ?_;first|(refine lD 65 b 0 (yY Hb2.out) ?_)|(refine lD 29 (b+1) 0 (ld0 (cs:=c.cells) zV Hc2.out) ?_))
  | (go_at_call 100;refine (Hld.out _ HE2.out).mono ?_;rintro e w3 ⟨rfl,hE3⟩))
 have HE3:=hJ (HE2.out.ext hE3)
 have Hb3:=hJ (hE3.blk Hb2.out id)
 have Hc3:=hJ (hE3.blk Hc2.out id)
 have Hz3:=hJ (hE3.blk Hz2.out id)
 have HR3:=hJ (HR2.out.ext hE3)
 clear hE3
 have p11:w3.cell? ⟨b,11,none⟩=some (.int .i64 r.commit):=zA Hb3.out rfl
 go_upto_region 6 with (first
  | (refine xR (by kernel_rfl) 61 _ rfl (.pointer (some ⟨b,1,none⟩)) _ rfl (zbQ Hb3.out) ?_)
  | (go_at_call 101;refine (How.out _ HE3.out).mono ?_;rintro e w4 ⟨rfl,hE4⟩))
 clear p11
 have HE4:=hJ (HE3.out.ext hE4)
 have Hb4:=hJ (hE4.blk Hb3.out id)
 have Hc4:=hJ (hE4.blk Hc3.out id)
 have Hz4:=hJ (hE4.blk Hz3.out id)
 have HR4:=hJ (HR3.out.ext hE4)
 clear hE4
 go_upto_region 8 with (first
  | (refine zK ?_;first|(refine lD 65 b 0 (yY Hb4.out) ?_)|(refine lD 29 (b+1) 0 (ld0 (cs:=c.cells) zV Hc4.out) ?_))
  | (go_at_call 41;refine (Hsr.out _).mono ?_;rintro e w6 ⟨rfl,hE6⟩))
 have HE6:=hJ (HE4.out.ext hE6)
 have Hb6:=hJ (hE6.blk Hb4.out id)
 have Hc6:=hJ (hE6.blk Hc4.out id)
 have Hz6:=hJ (hE6.blk Hz4.out id)
 have HR6:=hJ (HR4.out.ext hE6)
 clear hE6
 have p39:w6.cell? ⟨b,39,none⟩=some (.slice Ra 0 rc):=zA Hb6.out rfl
 go_upto_region 12 with fail
 clear p39
 obtain ⟨A5,n5,c5,rfl⟩:∃ A n c,sv2=.slice A n c:=⟨_,_,zC HR6.out.hard.1.1 |>.choose_spec⟩
 obtain ⟨B5,m5,d5,rfl⟩:∃ A n c,lv2=.slice A n c:=⟨_,_,zC HR6.out.hard.2.1 |>.choose_spec⟩
 obtain ⟨W5,hW5⟩:∃ W,w6.drew=W:=⟨_,rfl⟩
 have hE5:Ext w6 W5:=hW5▸(Mod.refl _ w6).drew
 have HE5:=hJ (HE6.out.ext hE5)
 have Hb5:=hJ (hE5.blk Hb6.out id)
 have Hc5:=hJ (hE5.blk Hc6.out id)
 have Hz5:=hJ (hE5.blk Hz6.out id)
 have HR5:=hJ (HR6.out.ext hE5)
 clear hE5
 refine yZ (fun W=>W.heap[q]? = some (.cells (r.cells (.slice A5 n5 c5) (.slice B5 m5 d5) (.slice Ra2 0 rc2)++[Value.slice none 0 0]).toArray 178 (0,0))∧W.heap[b+1]? = some (.cells c.cells.toArray 29 (0,0))) 31 (hW5▸⟨HR5.out.box,Hc5.out⟩) (fun hS=>?_)
 rw[hW5] at hS ⊢
 clear hW5
 iterate 5
  (first|refine tP 0 43 ?_ hS (fun W'=>?_) ?_|refine tP 1 44 ?_ hS (fun W'=>?_) ?_|refine tP 2 45 ?_ hS (fun W'=>?_) ?_|refine tP 3 46 ?_ hS (fun W'=>?_) ?_|refine tP 4 47 ?_ hS (fun W'=>?_) ?_);rotate_left;· go_simp;try rfl
  try simp only[pL]
 refine tU 5 48 (.slice Ra2 0 rc2) hS q 39 (fun W' ⟨hX1,hX2⟩=>zL zc9 hX1 rfl) ?_
 try simp only[pL]
 refine tU 6 49 (.agg c.cells.toArray) hS (b+1) 0 (fun W' ⟨hX1,hX2⟩=>ld0 zV hX2) ?_
 try simp only[pL]
 iterate 4
  (first|refine tP 7 50 ?_ hS (fun W'=>?_) ?_|refine tP 8 51 ?_ hS (fun W'=>?_) ?_|refine tP 9 52 ?_ hS (fun W'=>?_) ?_|refine tP 10 53 ?_ hS (fun W'=>?_) ?_);rotate_left;· go_simp;try rfl
  try simp only[pL]
 refine tU 11 54 (.int .i64 r.commit) hS q 11 (fun W' ⟨hX1,hX2⟩=>zL zQ hX1 rfl) ?_
 try simp only[pL]
 iterate 4
  (first|refine tP 12 55 ?_ hS (fun W'=>?_) ?_|refine tP 13 56 ?_ hS (fun W'=>?_) ?_|refine tP 14 57 ?_ hS (fun W'=>?_) ?_|refine tP 15 58 ?_ hS (fun W'=>?_) ?_);rotate_left;· go_simp;try rfl
  try simp only[pL]
 refine tU 16 59 (.int .i64 r.round) hS q 17 (fun W' ⟨hX1,hX2⟩=>zL zQ hX1 rfl) ?_
 try simp only[pL]
 iterate 6
  (first|refine tP 17 60 ?_ hS (fun W'=>?_) ?_|refine tP 18 61 ?_ hS (fun W'=>?_) ?_|refine tP 19 62 ?_ hS (fun W'=>?_) ?_|refine tP 20 63 ?_ hS (fun W'=>?_) ?_|refine tP 21 64 ?_ hS (fun W'=>?_) ?_|refine tP 22 65 ?_ hS (fun W'=>?_) ?_);rotate_left;· go_simp;try rfl
  try simp only[pL]
 refine tU 23 66 (.int .i64 0) hS q 0 (fun W' ⟨hX1,hX2⟩=>zL zQ hX1 (show some (Value.int .i64 r.id)=_ by rw[HL.out.id])) ?_
 try simp only[pL]
 iterate 2
  (first|refine tP 24 67 ?_ hS (fun W'=>?_) ?_|refine tP 25 68 ?_ hS (fun W'=>?_) ?_);rotate_left;· go_simp;try rfl
  try simp only[pL]
 refine jP 26 (fun K hK=>?_)
 simp only[Hv.out.1,Hv.out.2]
 go_simp
 refine hK.out _ _ (⟨((Mod.refl (fun _=>False) W5).alloc _).blk hS.1 id,((Mod.refl (fun _=>False) W5).alloc _).blk hS.2 id⟩) (fun hS=>?_)
 clear hK K
 try simp only[pL]
 refine jP 27 (fun K hK=>?_)
 refine zbN _ rfl _ _ 63 rfl 138 i0 _ 13 128 Tryz.underlying63 hi0 hz0 hz1 hz2 rfl (by omega) (.slice Ra2 0 rc2) 0 [] rfl (zN HR5.out.reads.1 ((Mod.refl (fun _=>False) W5).alloc _) (fun _ _=>id)) (fun _=>True) _ 1 (⟨c,r.commit,r.round+1,1⟩:yL).cells rfl (zeF W5 (⟨c,r.commit,r.round+1,1⟩:yL).cells _ 13 rfl) (fun u hu=>ziM [(⟨c,r.commit,r.round+1,1⟩:yL)] u (by simpa using hu)) (by simp only[maxLen];omega) (by omega) ?_
 intro v9 w9 ho hgr hat
 obtain ⟨A9,c9,rfl⟩:=zC ho
 have hM9:Mod (fun k=>(Value.slice Ra2 0 rc2).ownBlock=some k) W5 w9:=((Mod.refl _ W5).alloc _).grown hgr (fun k hk=>.inr hk)
 refine hK.out _ _ (⟨hM9.blk HR5.out.box (fun e=>zG HR5.out.reads.1 e HR5.out.box (by decide) rfl),hM9.blk Hc5.out (fun e=>zG HR5.out.reads.1 e Hc5.out (by decide) rfl)⟩) (fun hS=>?_)
 clear hK K
 try simp only[pL]
 iterate 3
  (first|refine tP 28 71 ?_ hS (fun W'=>?_) ?_|refine tP 29 72 ?_ hS (fun W'=>?_) ?_|refine tP 30 73 ?_ hS (fun W'=>?_) ?_);rotate_left;· go_simp;try rfl
  try simp only[pL]
 refine xN 31 rfl ?_
 simp only[List.drop_succ_cons,List.drop_zero]
 have Hq9:=hJ hS.1
 have Hz9:=hJ (hM9.blk Hz5.out (fun e=>zG HR5.out.reads.1 e Hz5.out (by decide) rfl))
 have hG9:zb7 138 13 W1 w9 (.slice A9 (0+1) c9) 1 (⟨c,r.commit,r.round+1,1⟩:yL).cells:=⟨by simpa using ho,fun g hg=>by
  rcases hat with e|e <;> rw[e] at hg
  · exact HR5.out.reads.2 g hg
  · have h1:=(Array.getElem?_eq_some_iff.1 HR5.out.box).1
    have h2:=HR5.out.new
    simp at hg;omega⟩
 have hH9:zcS W1 w9 (.slice A5 n5 c5) (.slice B5 m5 d5) r.hard:=⟨⟨zN HR5.out.hard.1.1 hM9 (fun g hg e=>jT HR5.out.reads.1 HR5.out.hard.1.1 (by decide) e hg),HR5.out.hard.1.2⟩,zeB HR5.out.hard.2 hM9 (fun g hg e=>jT HR5.out.reads.1 HR5.out.hard.2.1 (by decide) e hg)⟩
 have HM9:=hJ (show Mod (zD w.heap.size) w w9 from (Ext.mod HE5.out _).trans hM9 (fun k _ e=>Nat.le_trans HE1.out.size (HR5.out.reads.2 k e)))
 obtain ⟨HG9,HH9⟩:=hJ2 hG9 hH9
 clear hG9 hH9 ho hgr hat hM9 hS
 go_upto_region 13 with (refine zF ?_;refine stQ rfl 63 _ _ rfl 1 q 39 (.slice A9 (0+1) c9) [.slice A9 (0+1) c9] zc9.size _ _ (r.cells (.slice A5 n5 c5) (.slice B5 m5 d5) (.slice A9 1 c9)++[Value.slice none 0 0]) Hq9.out rfl ?_;intro W10 hbW10 hmW10 hsW10)
 have HF10:=hJ (show xQ W1 W10 _ _ (.slice A9 1 c9) r [(⟨c,r.commit,r.round+1,1⟩:yL)] from ⟨HH9.out.box Hq9.out hmW10 (by decide) (by decide),⟨zN HG9.out.1 hmW10 (fun g hg=>zG HG9.out.1 hg Hq9.out (by decide)),HG9.out.2⟩⟩)
 have Hz10:=hJ (hmW10.blk Hz9.out (fun e=>by have h1:=(Array.getElem?_eq_some_iff.1 Hz1.out).1;have:=HR5.out.new;omega))
 have HM10:=hJ (HM9.out.trans hmW10 (fun k _ e=>by have:=HR5.out.new;have:=HE1.out.size;unfold zD;omega))
 have Hq10:=hJ hbW10
 clear hbW10 hmW10 hsW10
 go_wp2_with (first
  | (refine zK ?_;refine lD 65 q 0 (zb9 Hq10.out) ?_)
  | (refine zF ?_;refine stQ rfl 65 _ _ rfl 40 (b+1+1) 0 (.agg (r.cells (.slice A5 n5 c5) (.slice B5 m5 d5) (.slice A9 1 c9)).toArray) (r.cells (.slice A5 n5 c5) (.slice B5 m5 d5) (.slice A9 1 c9)) yA.2 _ _ (r.cells (.slice A5 n5 c5) (.slice B5 m5 d5) (.slice A9 1 c9)) Hz10.out rfl ?_;intro W11 hbW11 hmW11 hsW11))
 refine bodyPost_ret (zaA rfl _ _ (b+1+1) 65 (r.cells (.slice A5 n5 c5) (.slice B5 m5 d5) (.slice A9 1 c9)) yA rfl hbW11 rfl) rfl ⟨_,_,_,rfl,(HF10.out.up HE1.out).box Hz10.out hmW11 (by decide) (by decide) (by decide),Mod.toExt (HM10.out.trans hmW11 (fun k _ e=>by unfold zD;omega))⟩
def ziN (rds:List yL) (n:Int):Prop:=rds=[]∨∃ x,rds=[x]∧x.acks=1∧x.index≤n
theorem t_ready (rds:List yL) (A:Option Addr) (c:Nat) (n:Int) (w:World) (T:Nat→Prop) (hv:Sl w T 13 (.slice A rds.length c) rds.length (rds.flatMap yL.cells)) (h:ziN rds n):Calls Tryz.prog 275 #[.slice A rds.length c,c1v,.int .i64 n] w fun e w'=>∃ gv,e=.returned (.tuple #[gv,.slice none 0 0])∧zb7 138 13 w w' gv rds.length (rds.flatMap yL.cells)∧Ext w w':=by
  rcases h with rfl|⟨x,rfl,ha,hi⟩
  · exact (t_ready0 A c n w).mono fun e w' h=>⟨_,h.1,⟨World.ownsRow_nil _ _ _ _,by simp[Value.ownBlock]⟩,h.2⟩
  · have hx:List.flatMap yL.cells [x]=x.cells:=by simp
    rw[hx] at hv ⊢
    exact t_ready1 x A c n w T hv ha hi
def zpS (w:World) (r:zS) (rds:List yL) (e:Ending) (w':World):Prop:=∃ sv lv gv,e=.returned (.tuple #[.agg (r.cells sv lv (.slice none 0 0)).toArray,gv,.int .i64 0])∧xQ w w' sv lv (.slice none 0 0) r []∧zb7 138 13 w w' gv rds.length (rds.flatMap yL.cells)∧Ext w w'
theorem zpT (r:zS) (rds:List yL) (n:Int) (sv lv rv:Value) (w:World) (T:Nat→Prop) (hm:RM w T sv lv rv r rds) (hr:zbF r rds) (hl:zdL r.hard) (h1:ziN rds n):
  Calls Tryz.prog 175 #[.agg (r.cells sv lv rv).toArray,.int .i64 n] w (zpS w r rds):=by
 obtain ⟨As,cs,Al,cl,Ra,rc,rfl,rfl,rfl⟩:=hm.forms
 obtain ⟨sn,hsn⟩:∃ n,r.hard.snap.length=n:=⟨_,rfl⟩
 obtain ⟨ln,hln⟩:∃ n,r.hard.log.length=n:=⟨_,rfl⟩
 obtain ⟨rn,hrn⟩:∃ n,rds.length=n:=⟨_,rfl⟩
 rw[hsn,hln,hrn] at hm ⊢
 obtain ⟨b,hb⟩:∃ b,w.heap.size=b:=⟨_,rfl⟩
 have hof:=fun W (hE:Ext w W)=>r_of r rds _ _ _ W T (hm.ext hE) hr
 have Hof:=hJ hof
 clear hof
 have hco:=fun W (hE:Ext w W)=>zcJ r (.slice As sn cs) (.slice Al ln cl) Ra rn rc W T (hm.hard.ext hE) hl
 obtain ⟨Hco,H1,Hrn⟩:=hJ3 hco h1 hrn
 clear hm hr hl h1 hsn hln hco hrn
 go_enter Tryz.func175,Tryz.ntmps175
 go_upto_region 1 with fail
 obtain ⟨W1,hW1⟩:∃ W,(w.alloc (.cells (r.cells (.slice As sn cs) (.slice Al ln cl) (.slice Ra rn rc)).toArray 65)).alloc (.cells rZ.toArray 65)=W:=⟨_,rfl⟩
 have hE1:Ext w W1:=hW1▸(((Mod.refl _ w).alloc _).alloc _)
 have hb1:W1.heap[b]? = some (.cells (r.cells (.slice As sn cs) (.slice Al ln cl) (.slice Ra rn rc)).toArray 65 (0,0)):=hb▸hW1▸xE _ _ _
 have hz1:W1.heap[b+1]? = some (.cells rZ.toArray 65 (0,0)):=by rw[←hW1,←hb];exact xA _ _ _
 obtain ⟨HE1,Hb1,Hz1⟩:=hJ3 hE1 hb1 hz1
 rw[hW1]
 clear hW1 hE1 hb1 hz1
 go_upto_region 4 with (first
  | (refine zK ?_;refine lD 65 b 0 (yY Hb1.out) ?_)
  | (go_at_call 99;go_must (refine (Hof.out _ HE1.out).mono ?_;rintro e w2 ⟨q,sv2,lv2,rv2,rfl,hR2,hE2⟩)))
 have HEo:=hJ hE2
 have HE2a:=hJ (HE1.out.ext hE2)
 have hb2:=hE2.blk Hb1.out id
 have hz2:=hE2.blk Hz1.out id
 obtain ⟨W2,hW2⟩:∃ W,w2.drew=W:=⟨_,rfl⟩
 have hEd:Ext w2 W2:=hW2▸(Mod.refl _ w2).drew
 have HE2:=hJ (HE2a.out.ext hEd)
 have HR2:=hJ (hR2.ext hEd)
 have Hb2:=hJ (hEd.blk hb2 id)
 have Hz2:=hJ (hEd.blk hz2 id)
 have HE12:=hJ (hE2.ext hEd)
 clear hb2 hz2 hE2 hR2 hEd
 obtain ⟨Ra2,rc2,h2⟩:=zC HR2.out.reads.1
 rw[Hrn.out] at h2
 subst h2
 obtain ⟨A5,n5,c5,rfl⟩:∃ A n c,sv2=.slice A n c:=⟨_,_,zC HR2.out.hard.1.1 |>.choose_spec⟩
 obtain ⟨B5,m5,d5,rfl⟩:∃ A n c,lv2=.slice A n c:=⟨_,_,zC HR2.out.hard.2.1 |>.choose_spec⟩
 have hrd:∀ W,Ext W2 W→Calls Tryz.prog 275 #[.slice Ra2 rn rc2,c1v,.int .i64 n] W fun e w'=>∃ gv,e=.returned (.tuple #[gv,.slice none 0 0])∧zb7 138 13 W w' gv rds.length (rds.flatMap yL.cells)∧Ext W w':=fun W hE=>by
  have h:=t_ready rds Ra2 rc2 n W _ (by rw[Hrn.out];have:=Sl.of_own (T:=fun _=>True) (HR2.out.ext hE).reads.1 (fun _ _=>trivial);rw[Hrn.out] at this;exact this) H1.out
  rw[Hrn.out] at h
  rw[Hrn.out]
  exact h
 have Hrd:=hJ hrd
 clear hrd
 refine yZ (fun W=>Ext W2 W) 12 (hW2▸(Mod.refl _ _)) (fun hS=>?_)
 rw[hW2] at hS ⊢
 clear hW2
 iterate 4
  (first|refine tP 0 21 ?_ hS (fun W'=>?_) ?_|refine tP 1 22 ?_ hS (fun W'=>?_) ?_|refine tP 2 23 ?_ hS (fun W'=>?_) ?_|refine tP 3 24 ?_ hS (fun W'=>?_) ?_);rotate_left;· go_simp;try rfl
  try simp only[pL]
 refine tU 4 25 (.slice Ra2 rn rc2) hS q 39 (fun W' hW'=>zL zc9 (hW'.blk HR2.out.box id) rfl) ?_
 try simp only[pL]
 refine tU 5 26 (.agg (r.cells (.slice As sn cs) (.slice Al ln cl) (.slice Ra rn rc)).toArray) hS b 0 (fun W' hW'=>yY (hW'.blk Hb2.out id)) ?_
 try simp only[pL]
 refine tP 7 28 ?_ hS (fun W'=>?_) ?_;rotate_left;· go_simp;try rfl
 try simp only[pL]
 refine jP 6 (fun K hK=>?_)
 go_simp
 go_wp2_with fail
 refine (Hco.out _ (HE2.out.ext hS)).mono ?_
 rintro e w3 ⟨rfl,hE3⟩
 have hX:=hS.ext hE3
 go_simp
 refine hK.out _ _ hX (fun hS=>?_)
 clear hK K hX
 try simp only[pL]
 refine jP 8 (fun K hK=>?_)
 go_simp
 go_wp2_with fail
 refine (Hrd.out _ hS).mono ?_
 rintro e w4 ⟨gv,rfl,hG4,hE4⟩
 have HG4:=hJ (show zb7 _ _ W2 w4 gv _ _ from ⟨hG4.1,fun g hg=>Nat.le_trans hS.size (hG4.2 g hg)⟩)
 clear hG4
 have hX:=hS.ext hE4
 go_simp
 refine hK.out _ _ hX (fun hS=>?_)
 clear hK K hX
 try simp only[pL]
 iterate 3
  (first|refine tP 9 20 ?_ hS (fun W'=>?_) ?_|refine tP 10 30 ?_ hS (fun W'=>?_) ?_|refine tP 11 31 ?_ hS (fun W'=>?_) ?_);rotate_left;· go_simp;try rfl
  try simp only[pL]
 refine xN 12 rfl ?_
 simp only[List.drop_succ_cons,List.drop_zero]
 have HR4:=hJ (HR2.out.ext hS)
 have Hz4:=hJ (hS.blk Hz2.out id)
 have HE4:=hJ (HE2.out.ext hS)
 have Hq4:=hJ HR4.out.box
 clear hS hE3 hE4
 go_upto_region 6 with (refine zF ?_;refine stQ rfl 63 _ _ rfl 1 q 39 (.slice none 0 0) [.slice none 0 0] zc9.size _ _ (r.cells (.slice A5 n5 c5) (.slice B5 m5 d5) (.slice none 0 0)++[Value.slice none 0 0]) Hq4.out rfl ?_;intro W5 hbW5 hmW5 hsW5)
 have HR5:=hJ (HR4.out.turn0 hmW5 hbW5 rfl rfl)
 have HG5:=hJ (show zb7 _ _ W1 W5 gv _ _ from ⟨zN HG4.out.1 hmW5 (fun g hg=>zG HG4.out.1 hg Hq4.out (by decide)),fun g hg=>Nat.le_trans HE12.out.size (HG4.out.2 g hg)⟩)
 have Hqz:q≠b+1:=fun e=>by have h1:=(Array.getElem?_eq_some_iff.1 Hz1.out).1;have:=HR2.out.new;omega
 have Hz5:=hJ (hmW5.blk Hz4.out (fun e=>Hqz e.symm))
 have HE5:=hJ (Mod.toExt ((Ext.mod HE4.out (zD w.heap.size)).trans hmW5 (fun k _ e=>by have:=HR2.out.new;have:=HE1.out.size;unfold zD;omega)))
 clear hbW5 hmW5 hsW5
 go_wp2_with (first
  | (refine zK ?_;refine lD 65 q 0 (zb9 HR5.out.box) ?_)
  | (refine zF ?_;refine stQ rfl 65 _ _ rfl 40 (b+1) 0 (.agg (r.cells (.slice A5 n5 c5) (.slice B5 m5 d5) (.slice none 0 0)).toArray) (r.cells (.slice A5 n5 c5) (.slice B5 m5 d5) (.slice none 0 0)) yA.2 _ _ (r.cells (.slice A5 n5 c5) (.slice B5 m5 d5) (.slice none 0 0)) Hz5.out rfl ?_;intro W6 hbW6 hmW6 hsW6))
 refine bodyPost_ret (zaB rfl _ _ (b+1) 65 (r.cells (.slice A5 n5 c5) (.slice B5 m5 d5) (.slice none 0 0)) yA rfl hbW6 rfl) rfl ⟨_,_,gv,rfl,(HR5.out.fresh.up HE1.out).box Hz5.out hmW6 (by decide) (by decide) (by decide),⟨zN HG5.out.1 hmW6 (fun g hg=>zG HG5.out.1 hg Hz5.out (by decide)),fun g hg=>Nat.le_trans HE1.out.size (HG5.out.2 g hg)⟩,Mod.toExt ((Ext.mod HE5.out (zD w.heap.size)).trans hmW6 (fun k _ e=>by unfold zD;omega))⟩
end Go.Proofs.YtjbkjhhjofeldaaGreat
