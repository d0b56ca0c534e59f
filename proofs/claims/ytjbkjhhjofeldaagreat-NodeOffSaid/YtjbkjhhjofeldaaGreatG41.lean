/-
 sess.Do: an elder number. Conditions: as each theorem names them.
-/
import Derived.Test.YtjbkjhhjofeldaaGreatG40
set_option maxRecDepth 100000
set_option maxHeartbeats 2000000
namespace Go.Proofs.YtjbkjhhjofeldaaGreat
set_option linter.unusedSimpArgs false
open Go.RowKit
theorem zqU (w:World) (T U:Nat→Prop) (pv v:Value) (p:List zJ) (l:List zR) (c:zW) (hP:Prs w U pv p) (h:Ses w T v l) (hp:p.length≤1000000) (hl:l.length≤1000000) (hc:yX c=0) (hm:jU ⟨p,l⟩=true) (n:Int) (r:yH) (hla:yJ l c.client=(n,r)) (hlt:c.seq<n):
  Calls Tryz.prog 173 #[.agg #[pv,v],.agg #[.int .i64 c.client,.int .i64 c.seq,.int .i64 c.cmd.kind,.string c.cmd.key,.int .i64 c.cmd.old.kind,.float .f64 c.cmd.old.num,.string c.cmd.old.text,.int .i64 c.cmd.val.kind,.float .f64 c.cmd.val.num,.string c.cmd.val.text]] w (zbX w ⟨p,l⟩ ⟨10,yO.zero⟩):=by
 obtain ⟨A,c0,rfl⟩:=h.form
 obtain ⟨A',c',rfl⟩:=hP.form
 obtain ⟨b,hb⟩:∃ b,w.heap.size=b:=⟨_,rfl⟩
 obtain ⟨W,hW⟩:∃ W,W=(((w.alloc (.cells #[.slice A' p.length c',.slice A l.length c0] 41)).alloc (.cells #[.int .i64 c.client,.int .i64 c.seq,.int .i64 c.cmd.kind,.string c.cmd.key,.int .i64 c.cmd.old.kind,.float .f64 c.cmd.old.num,.string c.cmd.old.text,.int .i64 c.cmd.val.kind,.float .f64 c.cmd.val.num,.string c.cmd.val.text] 29)).alloc (.cells #[.slice none 0 0,.slice none 0 0] 41)).alloc (.cells #[.int .i64 0,.int .i64 0,.float .f64 0,.string ⟨#[]⟩] 48):=⟨_,rfl⟩
 obtain ⟨hA,hB,hC,hD,hsz,hE⟩:=zbA w _ _ _ _ hW
 rw[hb] at hA hB hC hD hsz
 have hPW:=hP.ext hE
 have hSW:=h.ext hE
 obtain ⟨HW,Hb,HE,HA,HB,HC,HD⟩:=hJ7 hW hb hE hA hB hC hD
 clear hA hB hC hD hW hb hE
 go_enter Tryz.func173,Tryz.ntmps173
 go_wp2_with fail
 rw[←HW.out,Hb.out]
 refine (zhV W T U _ _ p l hPW hSW hp hl).mono ?_
 rintro e w1 ⟨pv1,v1,rfl,hN1,hE1⟩
 obtain ⟨A1,c1,rfl⟩:=zC hN1.1.1
 obtain ⟨A2,c2,rfl⟩:=zC hN1.2.1.1
 have hA1:=hE1.blk HA.out id
 have hB1:=hE1.blk HB.out id
 have hC1:=hE1.blk HC.out id
 have hD1:=hE1.blk HD.out id
 have hfar:(∀ g,(Value.slice A1 p.length c1).ownBlock=some g→b+4≤g)∧(∀ g,(Value.slice A2 l.length c2).ownBlock=some g→b+4≤g):=⟨fun g hg=>by have:=hN1.1.2.2 g hg;omega,fun g hg=>by have:=hN1.2.1.2.2 g hg;omega⟩
 obtain ⟨W2,hW2⟩:∃ W2,W2=(w1.setCell ⟨b,0,none⟩ (.slice A1 p.length c1)).setCell ⟨b,1,none⟩ (.slice A2 l.length c2):=⟨_,rfl⟩
 have hM2:Mod (fun k=>k=b) w1 W2:=by rw[hW2];exact zM (zM (Mod.refl _ _) _ _) _ _
 have hA2:W2.heap[b]? = some (.cells #[.slice A1 p.length c1,.slice A2 l.length c2] 41 (0,0)):=by rw[hW2];simp[World.setCell,Array.getElem?_modify,hA1]
 have hB2:=hM2.blk hB1 (by omega)
 have hC2:=hM2.blk hC1 (by omega)
 have hD2:=hM2.blk hD1 (by omega)
 have hNw:zn5 w w1 (.slice A1 p.length c1) (.slice A2 l.length c2) ⟨p,l⟩:=⟨zaQ hN1.1 HE.out.size,⟨hN1.2.1.1,hN1.2.1.2.1,fun g hg=>Nat.le_trans HE.out.size (hN1.2.1.2.2 g hg)⟩,hN1.2.2⟩
 have hN2:=yI hNw hM2 (fun g hg e=>by have:=hfar.1 g hg;omega) (fun g hg e=>by have:=hfar.2 g hg;omega)
 have hE2:Ext w W2:=Mod.toExt ((Ext.mod (Mod.ext HE.out hE1) (zD w.heap.size)).trans hM2 (fun k _ e=>by have:=Hb.out;unfold zD;omega))
 have f0:w1.frozen? ⟨b,0,none⟩=false:=zB 0 hA1
 have f1:w1.frozen? ⟨b,1,none⟩=false:=zB 1 hA1
 have r0:w1.cell? ⟨b,0,none⟩=some _:=zA hA1 rfl
 have r1:w1.cell? ⟨b,1,none⟩=some _:=zA hA1 rfl
 obtain ⟨k0,k1,k2,k3,k4,k5,k6,k7,k8,k9⟩:=zi4 hB1
 obtain ⟨Hfar,HW2⟩:=hJ2 hfar hW2
 clear hA1 hB1 hC1 hD1 hN1 hNw hM2 hE1 hW2 hfar hPW hSW
 go_wp2_with fail
 rw[←HW2.out]
 clear f0 f1 r0 r1 k0 k1 k2 k3 k4 k5 k6 k7 k8 k9
 refine (jS c W2).mono ?_
 rintro e w3 ⟨rfl,hE3⟩
 have hA3:=hE3.blk hA2 id
 have hB3:=hE3.blk hB2 id
 have hC3:=hE3.blk hC2 id
 have hD3:=hE3.blk hD2 id
 have hN3:=yI hN2 hE3 (fun _ _=>id) (fun _ _=>id)
 have hX3:=Mod.ext hE2 hE3
 clear hA2 hB2 hC2 hD2 hN2 hE2 hE3
 have m0:w3.cell? ⟨b,0,none⟩=some _:=zA hA3 rfl
 have m1:w3.cell? ⟨b,1,none⟩=some _:=zA hA3 rfl
 obtain ⟨HA3,HB3,HC3,HD3,HN3,HX3⟩:=hJ6 hA3 hB3 hC3 hD3 hN3 hX3
 clear hA3 hB3 hC3 hD3 hN3 hX3
 rw[hc]
 go_wp2_with fail
 refine (ze6 w3 _ _ _ _ p l HN3.out.1.prs HN3.out.2.1.ses).mono ?_
 rintro e w4 ⟨rfl,hE4⟩
 clear m0 m1
 have hA3:=HA3.out
 have hB3:=HB3.out
 have hC3:=HC3.out
 have hD3:=HD3.out
 have hN3:=HN3.out
 have hX3:=HX3.out
 clear HA3 HB3 HC3 HD3 HN3 HX3
 have hA4:=hE4.blk hA3 id
 have hB4:=hE4.blk hB3 id
 have hC4:=hE4.blk hC3 id
 have hD4:=hE4.blk hD3 id
 have hN4:=yI hN3 hE4 (fun _ _=>id) (fun _ _=>id)
 have hX4:=Mod.ext hX3 hE4
 clear hA3 hB3 hC3 hD3 hN3 hX3 hE4
 have m0:w4.cell? ⟨b,0,none⟩=some _:=zA hA4 rfl
 have m1:w4.cell? ⟨b,1,none⟩=some _:=zA hA4 rfl
 have g0:w4.cell? ⟨b+1+1,0,none⟩=some _:=zA hC4 rfl
 have g1:w4.cell? ⟨b+1+1,1,none⟩=some _:=zA hC4 rfl
 have fg0:w4.frozen? ⟨b+1+1,0,none⟩=false:=zB 0 hC4
 have fg1:w4.frozen? ⟨b+1+1,1,none⟩=false:=zB 1 hC4
 obtain ⟨q0,q1,q2,q3⟩:=cq4 hD4
 have fq0:w4.frozen? ⟨b+1+1+1,0,none⟩=false:=zB 0 hD4
 have fq1:w4.frozen? ⟨b+1+1+1,1,none⟩=false:=zB 1 hD4
 have fq2:w4.frozen? ⟨b+1+1+1,2,none⟩=false:=zB 2 hD4
 have fq3:w4.frozen? ⟨b+1+1+1,3,none⟩=false:=zB 3 hD4
 obtain ⟨k0,k1,k2,k3,k4,k5,k6,k7,k8,k9⟩:=zi4 hB4
 obtain ⟨HA4,HB4,HC4,HD4,HN4,HX4⟩:=hJ6 hA4 hB4 hC4 hD4 hN4 hX4
 clear hA4 hB4 hC4 hD4 hN4 hX4
 have hk:zfH ⟨p,l⟩=0:=by unfold zfH;rw[hm];rfl
 rw[hk]
 clear hk hm
 go_wp2_with fail
 refine (zj5 w4 _ _ _ l c.client HN4.out.2.1.ses).mono ?_
 rw[hla]
 rintro e w5 ⟨rfl,hE5⟩
 clear hla m0 m1 g0 g1 q0 q1 q2 q3 fg0 fg1 fq0 fq1 fq2 fq3 k0 k1 k2 k3 k4 k5 k6 k7 k8 k9
 have hA4:=HA4.out
 have hB4:=HB4.out
 have hC4:=HC4.out
 have hD4:=HD4.out
 have hN4:=HN4.out
 have hX4:=HX4.out
 clear HA4 HB4 HC4 HD4 HN4 HX4
 have hA5:=hE5.blk hA4 id
 have hB5:=hE5.blk hB4 id
 have hC5:=hE5.blk hC4 id
 have hD5:=hE5.blk hD4 id
 have hN5:=yI hN4 hE5 (fun _ _=>id) (fun _ _=>id)
 have hX5:=Mod.ext hX4 hE5
 clear hA4 hB4 hC4 hD4 hN4 hX4 hE5
 have l0:b<w5.heap.size:=(Array.getElem?_eq_some_iff.1 hA5).1
 have l1:b+1<w5.heap.size:=(Array.getElem?_eq_some_iff.1 hB5).1
 have l2:b+1+1<w5.heap.size:=(Array.getElem?_eq_some_iff.1 hC5).1
 have l3:b+1+1+1<w5.heap.size:=(Array.getElem?_eq_some_iff.1 hD5).1
 have m0:w5.cell? ⟨b,0,none⟩=some _:=zA hA5 rfl
 have m1:w5.cell? ⟨b,1,none⟩=some _:=zA hA5 rfl
 have g0:w5.cell? ⟨b+1+1,0,none⟩=some _:=zA hC5 rfl
 have g1:w5.cell? ⟨b+1+1,1,none⟩=some _:=zA hC5 rfl
 have fg0:w5.frozen? ⟨b+1+1,0,none⟩=false:=zB 0 hC5
 have fg1:w5.frozen? ⟨b+1+1,1,none⟩=false:=zB 1 hC5
 obtain ⟨q0,q1,q2,q3⟩:=cq4 hD5
 have fq0:w5.frozen? ⟨b+1+1+1,0,none⟩=false:=zB 0 hD5
 have fq1:w5.frozen? ⟨b+1+1+1,1,none⟩=false:=zB 1 hD5
 have fq2:w5.frozen? ⟨b+1+1+1,2,none⟩=false:=zB 2 hD5
 have fq3:w5.frozen? ⟨b+1+1+1,3,none⟩=false:=zB 3 hD5
 obtain ⟨k0,k1,k2,k3,k4,k5,k6,k7,k8,k9⟩:=zi4 hB5
 obtain ⟨HA5,HB5,HC5,HD5,HN5,HX5⟩:=hJ6 hA5 hB5 hC5 hD5 hN5 hX5
 clear hA5 hB5 hC5 hD5 hN5 hX5
 have e1:(c.seq==n)=false:=by simp;omega
 have e2:decide (c.seq<n)=true:=decide_eq_true hlt
 clear hlt
 go_wp2_with fail
 have hm:Mod (fun k=>k=b+1+1∨k=b+1+1+1) w5 (((((((w5.setCell ⟨b+1+1,0,none⟩ (.slice A1 p.length c1)).setCell ⟨b+1+1,1,none⟩ (.slice A2 l.length c2)).setCell ⟨b+1+1+1,0,none⟩ (.int .i64 10)).setCell ⟨b+1+1+1,1,none⟩ (.int .i64 0)).setCell ⟨b+1+1+1,2,none⟩ (.float .f64 0)).setCell ⟨b+1+1+1,3,none⟩ (.string ⟨#[]⟩)).alloc (.cells #[.int .i64 r.code,.int .i64 r.val.kind,.float .f64 r.val.num,.string r.val.text] 48)):=by
  refine Mod.alloc ?_ _
  refine Mod.setCell (Mod.setCell (Mod.setCell (Mod.setCell (Mod.setCell (Mod.setCell (Mod.refl _ _) (.inr (.inl rfl)) _) (.inr (.inl rfl)) _) (.inr (.inr rfl)) _) (.inr (.inr rfl)) _) (.inr (.inr rfl)) _) (.inr (.inr rfl)) _
 refine bodyPost_ret (v:=.tuple #[.agg #[.slice A1 p.length c1,.slice A2 l.length c2],.agg #[.int .i64 10,.int .i64 0,.float .f64 0,.string ⟨#[]⟩]]) (by simp[results,Tryz.results173,go_sem,m0,m1,g0,g1,q0,q1,q2,q3,World.cell?_alloc_past,l2,l3]) rfl ⟨_,_,rfl,yI HN5.out hm (fun g hg e=>by have:=Hfar.out.1 g hg;omega) (fun g hg e=>by have:=Hfar.out.2 g hg;omega),?_⟩
 exact Mod.toExt ((Ext.mod HX5.out (zD w.heap.size)).trans hm (fun k _ e=>by have:=Hb.out;unfold zD;omega))
theorem zqV (w:World) (T U:Nat→Prop) (pv v:Value) (p:List zJ) (l:List zR) (c:zW) (hP:Prs w U pv p) (h:Ses w T v l) (hp:p.length≤1000000) (hl:l.length≤1000000) (hc:yX c=0) (hm:jU ⟨p,l⟩=true) (n:Int) (r:yH) (hla:yJ l c.client=(n,r)) (hlt:Hid (c.seq=n)):
  Calls Tryz.prog 173 #[.agg #[pv,v],.agg #[.int .i64 c.client,.int .i64 c.seq,.int .i64 c.cmd.kind,.string c.cmd.key,.int .i64 c.cmd.old.kind,.float .f64 c.cmd.old.num,.string c.cmd.old.text,.int .i64 c.cmd.val.kind,.float .f64 c.cmd.val.num,.string c.cmd.val.text]] w (zbX w ⟨p,l⟩ r):=by
 obtain ⟨A,c0,rfl⟩:=h.form
 obtain ⟨A',c',rfl⟩:=hP.form
 obtain ⟨b,hb⟩:∃ b,w.heap.size=b:=⟨_,rfl⟩
 obtain ⟨W,hW⟩:∃ W,W=(((w.alloc (.cells #[.slice A' p.length c',.slice A l.length c0] 41)).alloc (.cells #[.int .i64 c.client,.int .i64 c.seq,.int .i64 c.cmd.kind,.string c.cmd.key,.int .i64 c.cmd.old.kind,.float .f64 c.cmd.old.num,.string c.cmd.old.text,.int .i64 c.cmd.val.kind,.float .f64 c.cmd.val.num,.string c.cmd.val.text] 29)).alloc (.cells #[.slice none 0 0,.slice none 0 0] 41)).alloc (.cells #[.int .i64 0,.int .i64 0,.float .f64 0,.string ⟨#[]⟩] 48):=⟨_,rfl⟩
 obtain ⟨hA,hB,hC,hD,hsz,hE⟩:=zbA w _ _ _ _ hW
 rw[hb] at hA hB hC hD hsz
 have hPW:=hP.ext hE
 have hSW:=h.ext hE
 obtain ⟨HW,Hb,HE,HA,HB,HC,HD⟩:=hJ7 hW hb hE hA hB hC hD
 clear hA hB hC hD hW hb hE
 go_enter Tryz.func173,Tryz.ntmps173
 go_wp2_with fail
 rw[←HW.out,Hb.out]
 refine (zhV W T U _ _ p l hPW hSW hp hl).mono ?_
 rintro e w1 ⟨pv1,v1,rfl,hN1,hE1⟩
 obtain ⟨A1,c1,rfl⟩:=zC hN1.1.1
 obtain ⟨A2,c2,rfl⟩:=zC hN1.2.1.1
 have hA1:=hE1.blk HA.out id
 have hB1:=hE1.blk HB.out id
 have hC1:=hE1.blk HC.out id
 have hD1:=hE1.blk HD.out id
 have hfar:(∀ g,(Value.slice A1 p.length c1).ownBlock=some g→b+4≤g)∧(∀ g,(Value.slice A2 l.length c2).ownBlock=some g→b+4≤g):=⟨fun g hg=>by have:=hN1.1.2.2 g hg;omega,fun g hg=>by have:=hN1.2.1.2.2 g hg;omega⟩
 obtain ⟨W2,hW2⟩:∃ W2,W2=(w1.setCell ⟨b,0,none⟩ (.slice A1 p.length c1)).setCell ⟨b,1,none⟩ (.slice A2 l.length c2):=⟨_,rfl⟩
 have hM2:Mod (fun k=>k=b) w1 W2:=by rw[hW2];exact zM (zM (Mod.refl _ _) _ _) _ _
 have hA2:W2.heap[b]? = some (.cells #[.slice A1 p.length c1,.slice A2 l.length c2] 41 (0,0)):=by rw[hW2];simp[World.setCell,Array.getElem?_modify,hA1]
 have hB2:=hM2.blk hB1 (by omega)
 have hC2:=hM2.blk hC1 (by omega)
 have hD2:=hM2.blk hD1 (by omega)
 have hNw:zn5 w w1 (.slice A1 p.length c1) (.slice A2 l.length c2) ⟨p,l⟩:=⟨zaQ hN1.1 HE.out.size,⟨hN1.2.1.1,hN1.2.1.2.1,fun g hg=>Nat.le_trans HE.out.size (hN1.2.1.2.2 g hg)⟩,hN1.2.2⟩
 have hN2:=yI hNw hM2 (fun g hg e=>by have:=hfar.1 g hg;omega) (fun g hg e=>by have:=hfar.2 g hg;omega)
 have hE2:Ext w W2:=Mod.toExt ((Ext.mod (Mod.ext HE.out hE1) (zD w.heap.size)).trans hM2 (fun k _ e=>by have:=Hb.out;unfold zD;omega))
 have f0:w1.frozen? ⟨b,0,none⟩=false:=zB 0 hA1
 have f1:w1.frozen? ⟨b,1,none⟩=false:=zB 1 hA1
 have r0:w1.cell? ⟨b,0,none⟩=some _:=zA hA1 rfl
 have r1:w1.cell? ⟨b,1,none⟩=some _:=zA hA1 rfl
 obtain ⟨k0,k1,k2,k3,k4,k5,k6,k7,k8,k9⟩:=zi4 hB1
 obtain ⟨Hfar,HW2⟩:=hJ2 hfar hW2
 clear hA1 hB1 hC1 hD1 hN1 hNw hM2 hE1 hW2 hfar hPW hSW
 go_wp2_with fail
 rw[←HW2.out]
 clear f0 f1 r0 r1 k0 k1 k2 k3 k4 k5 k6 k7 k8 k9
 refine (jS c W2).mono ?_
 rintro e w3 ⟨rfl,hE3⟩
 have hA3:=hE3.blk hA2 id
 have hB3:=hE3.blk hB2 id
 have hC3:=hE3.blk hC2 id
 have hD3:=hE3.blk hD2 id
 have hN3:=yI hN2 hE3 (fun _ _=>id) (fun _ _=>id)
 have hX3:=Mod.ext hE2 hE3
 clear hA2 hB2 hC2 hD2 hN2 hE2 hE3
 have m0:w3.cell? ⟨b,0,none⟩=some _:=zA hA3 rfl
 have m1:w3.cell? ⟨b,1,none⟩=some _:=zA hA3 rfl
 obtain ⟨HA3,HB3,HC3,HD3,HN3,HX3⟩:=hJ6 hA3 hB3 hC3 hD3 hN3 hX3
 clear hA3 hB3 hC3 hD3 hN3 hX3
 rw[hc]
 go_wp2_with fail
 refine (ze6 w3 _ _ _ _ p l HN3.out.1.prs HN3.out.2.1.ses).mono ?_
 rintro e w4 ⟨rfl,hE4⟩
 clear m0 m1
 have hA3:=HA3.out
 have hB3:=HB3.out
 have hC3:=HC3.out
 have hD3:=HD3.out
 have hN3:=HN3.out
 have hX3:=HX3.out
 clear HA3 HB3 HC3 HD3 HN3 HX3
 have hA4:=hE4.blk hA3 id
 have hB4:=hE4.blk hB3 id
 have hC4:=hE4.blk hC3 id
 have hD4:=hE4.blk hD3 id
 have hN4:=yI hN3 hE4 (fun _ _=>id) (fun _ _=>id)
 have hX4:=Mod.ext hX3 hE4
 clear hA3 hB3 hC3 hD3 hN3 hX3 hE4
 have m0:w4.cell? ⟨b,0,none⟩=some _:=zA hA4 rfl
 have m1:w4.cell? ⟨b,1,none⟩=some _:=zA hA4 rfl
 have g0:w4.cell? ⟨b+1+1,0,none⟩=some _:=zA hC4 rfl
 have g1:w4.cell? ⟨b+1+1,1,none⟩=some _:=zA hC4 rfl
 have fg0:w4.frozen? ⟨b+1+1,0,none⟩=false:=zB 0 hC4
 have fg1:w4.frozen? ⟨b+1+1,1,none⟩=false:=zB 1 hC4
 obtain ⟨q0,q1,q2,q3⟩:=cq4 hD4
 have fq0:w4.frozen? ⟨b+1+1+1,0,none⟩=false:=zB 0 hD4
 have fq1:w4.frozen? ⟨b+1+1+1,1,none⟩=false:=zB 1 hD4
 have fq2:w4.frozen? ⟨b+1+1+1,2,none⟩=false:=zB 2 hD4
 have fq3:w4.frozen? ⟨b+1+1+1,3,none⟩=false:=zB 3 hD4
 obtain ⟨k0,k1,k2,k3,k4,k5,k6,k7,k8,k9⟩:=zi4 hB4
 obtain ⟨HA4,HB4,HC4,HD4,HN4,HX4⟩:=hJ6 hA4 hB4 hC4 hD4 hN4 hX4
 clear hA4 hB4 hC4 hD4 hN4 hX4
 have hk:zfH ⟨p,l⟩=0:=by unfold zfH;rw[hm];rfl
 rw[hk]
 clear hk hm
 go_wp2_with fail
 refine (zj5 w4 _ _ _ l c.client HN4.out.2.1.ses).mono ?_
 rw[hla]
 rintro e w5 ⟨rfl,hE5⟩
 clear hla m0 m1 g0 g1 q0 q1 q2 q3 fg0 fg1 fq0 fq1 fq2 fq3 k0 k1 k2 k3 k4 k5 k6 k7 k8 k9
 have hA4:=HA4.out
 have hB4:=HB4.out
 have hC4:=HC4.out
 have hD4:=HD4.out
 have hN4:=HN4.out
 have hX4:=HX4.out
 clear HA4 HB4 HC4 HD4 HN4 HX4
 have hA5:=hE5.blk hA4 id
 have hB5:=hE5.blk hB4 id
 have hC5:=hE5.blk hC4 id
 have hD5:=hE5.blk hD4 id
 have hN5:=yI hN4 hE5 (fun _ _=>id) (fun _ _=>id)
 have hX5:=Mod.ext hX4 hE5
 clear hA4 hB4 hC4 hD4 hN4 hX4 hE5
 have l0:b<w5.heap.size:=(Array.getElem?_eq_some_iff.1 hA5).1
 have l1:b+1<w5.heap.size:=(Array.getElem?_eq_some_iff.1 hB5).1
 have l2:b+1+1<w5.heap.size:=(Array.getElem?_eq_some_iff.1 hC5).1
 have l3:b+1+1+1<w5.heap.size:=(Array.getElem?_eq_some_iff.1 hD5).1
 have m0:w5.cell? ⟨b,0,none⟩=some _:=zA hA5 rfl
 have m1:w5.cell? ⟨b,1,none⟩=some _:=zA hA5 rfl
 have g0:w5.cell? ⟨b+1+1,0,none⟩=some _:=zA hC5 rfl
 have g1:w5.cell? ⟨b+1+1,1,none⟩=some _:=zA hC5 rfl
 have fg0:w5.frozen? ⟨b+1+1,0,none⟩=false:=zB 0 hC5
 have fg1:w5.frozen? ⟨b+1+1,1,none⟩=false:=zB 1 hC5
 obtain ⟨q0,q1,q2,q3⟩:=cq4 hD5
 have fq0:w5.frozen? ⟨b+1+1+1,0,none⟩=false:=zB 0 hD5
 have fq1:w5.frozen? ⟨b+1+1+1,1,none⟩=false:=zB 1 hD5
 have fq2:w5.frozen? ⟨b+1+1+1,2,none⟩=false:=zB 2 hD5
 have fq3:w5.frozen? ⟨b+1+1+1,3,none⟩=false:=zB 3 hD5
 obtain ⟨k0,k1,k2,k3,k4,k5,k6,k7,k8,k9⟩:=zi4 hB5
 obtain ⟨HA5,HB5,HC5,HD5,HN5,HX5⟩:=hJ6 hA5 hB5 hC5 hD5 hN5 hX5
 clear hA5 hB5 hC5 hD5 hN5 hX5
 have e1:(c.seq==n)=true:=by simp[hlt.out]
 clear hlt
 go_wp2_with fail
 clear k0 k1 k2 k3 k4 k5 k6 k7 k8 k9 m0 m1 g0 g1 q0 q1 q2 q3 fg0 fg1 fq0 fq1 fq2 fq3
 obtain ⟨w6,hw6⟩:∃ w6,w6=w5.alloc (.cells #[.int .i64 r.code,.int .i64 r.val.kind,.float .f64 r.val.num,.string r.val.text] 48):=⟨_,rfl⟩
 rw[←hw6]
 have hE6:Ext w5 w6:=by rw[hw6];exact (Mod.refl _ _).alloc _
 have hR6:w6.heap[w5.heap.size]? = some (.cells #[.int .i64 r.code,.int .i64 r.val.kind,.float .f64 r.val.num,.string r.val.text] 48 (0,0)):=by rw[hw6];exact heap_alloc_new w5 _
 clear hw6
 have hA5:=HA5.out
 have hB5:=HB5.out
 have hC5:=HC5.out
 have hD5:=HD5.out
 have hN5:=HN5.out
 have hX5:=HX5.out
 clear HA5 HB5 HC5 HD5 HN5 HX5
 have hA6:=hE6.blk hA5 id
 have hB6:=hE6.blk hB5 id
 have hC6:=hE6.blk hC5 id
 have hD6:=hE6.blk hD5 id
 have hN6:=yI hN5 hE6 (fun _ _=>id) (fun _ _=>id)
 have hX6:=Mod.ext hX5 hE6
 clear hA5 hB5 hC5 hD5 hN5 hX5 hE6
 have m0:w6.cell? ⟨b,0,none⟩=some _:=zA hA6 rfl
 have m1:w6.cell? ⟨b,1,none⟩=some _:=zA hA6 rfl
 have g0:w6.cell? ⟨b+1+1,0,none⟩=some _:=zA hC6 rfl
 have g1:w6.cell? ⟨b+1+1,1,none⟩=some _:=zA hC6 rfl
 have fg0:w6.frozen? ⟨b+1+1,0,none⟩=false:=zB 0 hC6
 have fg1:w6.frozen? ⟨b+1+1,1,none⟩=false:=zB 1 hC6
 obtain ⟨q0,q1,q2,q3⟩:=cq4 hD6
 have fq0:w6.frozen? ⟨b+1+1+1,0,none⟩=false:=zB 0 hD6
 have fq1:w6.frozen? ⟨b+1+1+1,1,none⟩=false:=zB 1 hD6
 have fq2:w6.frozen? ⟨b+1+1+1,2,none⟩=false:=zB 2 hD6
 have fq3:w6.frozen? ⟨b+1+1+1,3,none⟩=false:=zB 3 hD6
 obtain ⟨rr0,rr1,rr2,rr3⟩:=cq4 hR6
 have d1:¬ w5.heap.size=b+1+1:=by omega
 have d2:¬ w5.heap.size=b+1+1+1:=by omega
 have d3:¬ b+1+1=w5.heap.size:=by omega
 have d4:¬ b+1+1+1=w5.heap.size:=by omega
 have d5:¬ b=b+1+1:=by omega
 have d6:¬ b+1+1=b:=by omega
 have d7:¬ b=b+1+1+1:=by omega
 have d8:¬ b+1+1+1=b:=by omega
 have hfin:Hid (∀ w',Mod (fun k=>k=b+1+1∨k=b+1+1+1) w6 w'→zbX w ⟨p,l⟩ r (.returned (.tuple #[.agg #[.slice A1 p.length c1,.slice A2 l.length c2],.agg #[.int .i64 r.code,.int .i64 r.val.kind,.float .f64 r.val.num,.string r.val.text]])) w'):=hJ (fun w' hm=>⟨_,_,rfl,yI hN6 hm (fun g hg e=>by have:=Hfar.out.1 g hg;omega) (fun g hg e=>by have:=Hfar.out.2 g hg;omega),Mod.toExt ((Ext.mod hX6 (zD w.heap.size)).trans hm (fun k _ e=>by have:=Hb.out;unfold zD;omega))⟩)
 clear hA6 hB6 hC6 hD6 hN6 hX6 hR6 l0 l1 l2 l3
 go_region_held3 (fun w'=>w'.cell? ⟨b,0,none⟩=some (.slice A1 p.length c1)∧w'.cell? ⟨b,1,none⟩=some (.slice A2 l.length c2)∧w'.cell? ⟨w5.heap.size,0,none⟩=some (.int .i64 r.code)∧w'.cell? ⟨w5.heap.size,1,none⟩=some (.int .i64 r.val.kind)∧w'.cell? ⟨w5.heap.size,2,none⟩=some (.float .f64 r.val.num)∧w'.cell? ⟨w5.heap.size,3,none⟩=some (.string r.val.text)) (go_keep) (fail)
 all_goals
  go_wp2_with fail
  refine bodyPost_ret (v:=.tuple #[.agg #[.slice A1 p.length c1,.slice A2 l.length c2],.agg #[.int .i64 r.code,.int .i64 r.val.kind,.float .f64 r.val.num,.string r.val.text]]) (by simp[results,Tryz.results173,go_sem,m0,m1,g0,g1,q0,q1,q2,q3]) rfl (hfin.out _ ?_)
  repeat (with_reducible (first|refine Mod.drew ?_|exact Mod.refl _ _|refine Mod.setCell ?_ (.inr (.inl rfl)) _|refine Mod.setCell ?_ (.inr (.inr rfl)) _))
end Go.Proofs.YtjbkjhhjofeldaaGreat
