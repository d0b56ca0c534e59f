/-
 sess.Do: a number that is new. Conditions: as each theorem names them.
-/
import Derived.Test.YtjbkjhhjofeldaaGreatG41
set_option maxRecDepth 100000
set_option maxHeartbeats 2000000
namespace Go.Proofs.YtjbkjhhjofeldaaGreat
set_option linter.unusedSimpArgs false
open Go.RowKit
theorem zmK {w:World} {g o:Nat} {e:TypeId} {A B:List Value} {k c1 c2 c3 c4 c5:Value} (x0 x1 x2 x3 x4 x5:Value) (h:Row w g e (A++k :: c1 :: c2 :: c3 :: c4 :: c5 :: B)) (ho:A.length=o):
  Row ((((((w.setCell ⟨g,o,none⟩ x0).setCell ⟨g,o+1,none⟩ x1).setCell ⟨g,o+2,none⟩ x2).setCell ⟨g,o+3,none⟩ x3).setCell ⟨g,o+4,none⟩ x4).setCell ⟨g,o+5,none⟩ x5) g e (A++x0 :: x1 :: x2 :: x3 :: x4 :: x5 :: B):=by
 have:=zcN (j:=o+5) x5 (zcN (j:=o+4) x4 (zcN (j:=o+3) x3 (zcN (j:=o+2) x2 (zcN (j:=o+1) x1 (zcN (j:=o) x0 h)))))
 subst ho
 simpa [List.set_append] using this
theorem zfY:yO.zero.ok:=by
 unfold yO.ok yO.zero I64
 exact ⟨by simp,by simp,by simp[maxLen,ByteArray.size]⟩
theorem zqW {l:List zJ} {c:jV} (hl:∀ p∈l,p.ok) (hc:c.val.ok):(doP l c).2.val.ok:=by
 have hg:=zqO hl c.key
 unfold doP
 split
 · exact zfY
 split
 · exact zfY
 split
 · exact hg
 rcases hst:za1 (zcD l c.key) c with ⟨e,x,t⟩
 have ht:t.ok:=by
  have e1:(za1 (zcD l c.key) c).2.2=t:=by rw[hst]
  rw[←e1]
  unfold za1
  split
  · exact hg
  split
  · exact hg
  split
  · split <;> exact hg
  rcases hj:zbU (c.kind==5) (zcD l c.key) c.val with ⟨x',e'⟩
  simp only
  split
  · exact zmJ hg hc hj
  exact zfY
 simp only
 split
 · exact ht
 split
 · exact zfY
 exact ht
def zmL (l:List zR) (key:Int) (p:Nat) (is:Bool):Prop:=
 p≤l.length∧(∀ (k:Nat) x,l[k]? = some x→decide (x.client<key)=decide (k<p))∧(∀ (k:Nat) x,l[k]? = some x→-1000≤x.client-key∧x.client-key≤1000)∧(is=true↔∃ x,l[p]? = some x∧x.client=key)
theorem znU {a b:List zR} {key:Int} (ha:∀ s∈a,s.client<key) (hb:∀ s∈b,key<s.client) (hc:∀ s∈a++b,-1000≤s.client-key∧s.client-key≤1000):zmL (a++b) key a.length false:=by
 refine ⟨by simp,fun k x hx=>?_,fun k x hx=>hc x (List.mem_of_getElem? hx),?_⟩
 ·
  by_cases hk:k<a.length
  · rw[List.getElem?_append_left hk] at hx
    have:=ha x (List.mem_of_getElem? hx)
    simp[hk,this]
  rw[List.getElem?_append_right (by omega)] at hx
  have:=hb x (List.mem_of_getElem? hx)
  simp[hk];omega
 simp only[Bool.false_eq_true,false_iff]
 rintro ⟨x,hx,e⟩
 rw[List.getElem?_append_right (by omega)] at hx
 have:=hb x (List.mem_of_getElem? hx)
 omega
theorem znV {a b:List zR} {y:zR} {key:Int} (hy:y.client=key) (ha:∀ s∈a,s.client<key) (hb:∀ s∈b,key<s.client) (hc:∀ s∈a++y :: b,-1000≤s.client-key∧s.client-key≤1000):zmL (a++y :: b) key a.length true:=by
 refine ⟨by simp,fun k x hx=>?_,fun k x hx=>hc x (List.mem_of_getElem? hx),?_⟩
 ·
  by_cases hk:k<a.length
  · rw[List.getElem?_append_left hk] at hx
    have:=ha x (List.mem_of_getElem? hx)
    simp[hk,this]
  rw[List.getElem?_append_right (by omega)] at hx
  rcases List.mem_cons.1 (List.mem_of_getElem? hx) with rfl|h
  · simp[hk];omega
  have:=hb x h
  simp[hk];omega
 simp only[true_iff]
 exact ⟨y,by rw[List.getElem?_append_right (by omega)];simp,hy⟩
theorem zqX (w:World) (T U:Nat→Prop) (pv v:Value) (p:List zJ) (l:List zR) (c:zW) (hP:Prs w U pv p) (h:Ses w T v l) (hp:p.length≤1000000) (hl:l.length≤1000000) (hc:yX c=0) (hm:jU ⟨p,l⟩=true) (n:Int) (r:yH) (hla:yJ l c.client=(n,r)) (Hlt:Hid (n<c.seq)) (hcv:c.cmd.val.ok) (L:List zJ) (R:yH) (hr:doP p c.cmd=(L,R)) (a bb:List zR) (i:Nat) (Hi:Hid (a.length=i)) (hl3:l.length≤1000) (Hok:Hid (∀ s∈a++(⟨c.client,c.seq,R⟩:zR) :: bb,s.ok)) (HL:Hid (a++bb=l)) (Hf:Hid (zmL l c.client i false)):
  Calls Tryz.prog 173 #[.agg #[pv,v],.agg #[.int .i64 c.client,.int .i64 c.seq,.int .i64 c.cmd.kind,.string c.cmd.key,.int .i64 c.cmd.old.kind,.float .f64 c.cmd.old.num,.string c.cmd.old.text,.int .i64 c.cmd.val.kind,.float .f64 c.cmd.val.num,.string c.cmd.val.text]] w (zbX w ⟨L,a++(⟨c.client,c.seq,R⟩:zR) :: bb⟩ R):=by
 obtain ⟨A,c0,rfl⟩:=h.form
 obtain ⟨A',c',rfl⟩:=hP.form
 obtain ⟨b,hb⟩:∃ b,w.heap.size=b:=⟨_,rfl⟩
 obtain ⟨W,hW⟩:∃ W,W=(((w.alloc (.cells #[.slice A' p.length c',.slice A l.length c0] 41)).alloc (.cells #[.int .i64 c.client,.int .i64 c.seq,.int .i64 c.cmd.kind,.string c.cmd.key,.int .i64 c.cmd.old.kind,.float .f64 c.cmd.old.num,.string c.cmd.old.text,.int .i64 c.cmd.val.kind,.float .f64 c.cmd.val.num,.string c.cmd.val.text] 29)).alloc (.cells #[.slice none 0 0,.slice none 0 0] 41)).alloc (.cells #[.int .i64 0,.int .i64 0,.float .f64 0,.string ⟨#[]⟩] 48):=⟨_,rfl⟩
 obtain ⟨hA,hB,hC,hD,hsz,hE⟩:=zbA w _ _ _ _ hW
 rw[hb] at hA hB hC hD hsz
 have hPW:=hP.ext hE
 have hSW:=h.ext hE
 obtain ⟨HW,Hb,HE,HA,HB,HC,HD⟩:=hJ7 hW hb hE hA hB hC hD
 clear hA hB hC hD hW hb hE
 go_enter Tryz.func173,Tryz.ntmps173
 go_wp2_with fail
 rw[←HW.out,Hb.out]
 refine (zhV W T U _ _ p l hPW hSW hp hl).mono ?_
 rintro e w1 ⟨pv1,v1,rfl,hN1,hE1⟩
 obtain ⟨A1,c1,rfl⟩:=zC hN1.1.1
 obtain ⟨A2,c2,rfl⟩:=zC hN1.2.1.1
 have hA1:=hE1.blk HA.out id
 have hB1:=hE1.blk HB.out id
 have hC1:=hE1.blk HC.out id
 have hD1:=hE1.blk HD.out id
 have hfar:(∀ g,(Value.slice A1 p.length c1).ownBlock=some g→b+4≤g)∧(∀ g,(Value.slice A2 l.length c2).ownBlock=some g→b+4≤g):=⟨fun g hg=>by have:=hN1.1.2.2 g hg;omega,fun g hg=>by have:=hN1.2.1.2.2 g hg;omega⟩
 obtain ⟨W2,hW2⟩:∃ W2,W2=(w1.setCell ⟨b,0,none⟩ (.slice A1 p.length c1)).setCell ⟨b,1,none⟩ (.slice A2 l.length c2):=⟨_,rfl⟩
 have hM2:Mod (fun k=>k=b) w1 W2:=by rw[hW2];exact zM (zM (Mod.refl _ _) _ _) _ _
 have hA2:W2.heap[b]? = some (.cells #[.slice A1 p.length c1,.slice A2 l.length c2] 41 (0,0)):=by rw[hW2];simp[World.setCell,Array.getElem?_modify,hA1]
 have hB2:=hM2.blk hB1 (by omega)
 have hC2:=hM2.blk hC1 (by omega)
 have hD2:=hM2.blk hD1 (by omega)
 have hNw:zn5 w w1 (.slice A1 p.length c1) (.slice A2 l.length c2) ⟨p,l⟩:=⟨zaQ hN1.1 HE.out.size,⟨hN1.2.1.1,hN1.2.1.2.1,fun g hg=>Nat.le_trans HE.out.size (hN1.2.1.2.2 g hg)⟩,hN1.2.2⟩
 have hN2:=yI hNw hM2 (fun g hg e=>by have:=hfar.1 g hg;omega) (fun g hg e=>by have:=hfar.2 g hg;omega)
 have hE2:Ext w W2:=Mod.toExt ((Ext.mod (Mod.ext HE.out hE1) (zD w.heap.size)).trans hM2 (fun k _ e=>by have:=Hb.out;unfold zD;omega))
 have f0:w1.frozen? ⟨b,0,none⟩=false:=zB 0 hA1
 have f1:w1.frozen? ⟨b,1,none⟩=false:=zB 1 hA1
 have r0:w1.cell? ⟨b,0,none⟩=some _:=zA hA1 rfl
 have r1:w1.cell? ⟨b,1,none⟩=some _:=zA hA1 rfl
 obtain ⟨k0,k1,k2,k3,k4,k5,k6,k7,k8,k9⟩:=zi4 hB1
 obtain ⟨Hfar,HW2⟩:=hJ2 hfar hW2
 clear hA1 hB1 hC1 hD1 hN1 hNw hM2 hE1 hW2 hfar hPW hSW
 go_wp2_with fail
 rw[←HW2.out]
 clear f0 f1 r0 r1 k0 k1 k2 k3 k4 k5 k6 k7 k8 k9
 refine (jS c W2).mono ?_
 rintro e w3 ⟨rfl,hE3⟩
 have hA3:=hE3.blk hA2 id
 have hB3:=hE3.blk hB2 id
 have hC3:=hE3.blk hC2 id
 have hD3:=hE3.blk hD2 id
 have hN3:=yI hN2 hE3 (fun _ _=>id) (fun _ _=>id)
 have hX3:=Mod.ext hE2 hE3
 clear hA2 hB2 hC2 hD2 hN2 hE2 hE3
 have m0:w3.cell? ⟨b,0,none⟩=some _:=zA hA3 rfl
 have m1:w3.cell? ⟨b,1,none⟩=some _:=zA hA3 rfl
 obtain ⟨HA3,HB3,HC3,HD3,HN3,HX3⟩:=hJ6 hA3 hB3 hC3 hD3 hN3 hX3
 clear hA3 hB3 hC3 hD3 hN3 hX3
 rw[hc]
 go_wp2_with fail
 refine (ze6 w3 _ _ _ _ p l HN3.out.1.prs HN3.out.2.1.ses).mono ?_
 rintro e w4 ⟨rfl,hE4⟩
 clear m0 m1
 have hA3:=HA3.out
 have hB3:=HB3.out
 have hC3:=HC3.out
 have hD3:=HD3.out
 have hN3:=HN3.out
 have hX3:=HX3.out
 clear HA3 HB3 HC3 HD3 HN3 HX3
 have hA4:=hE4.blk hA3 id
 have hB4:=hE4.blk hB3 id
 have hC4:=hE4.blk hC3 id
 have hD4:=hE4.blk hD3 id
 have hN4:=yI hN3 hE4 (fun _ _=>id) (fun _ _=>id)
 have hX4:=Mod.ext hX3 hE4
 clear hA3 hB3 hC3 hD3 hN3 hX3 hE4
 have m0:w4.cell? ⟨b,0,none⟩=some _:=zA hA4 rfl
 have m1:w4.cell? ⟨b,1,none⟩=some _:=zA hA4 rfl
 have g0:w4.cell? ⟨b+1+1,0,none⟩=some _:=zA hC4 rfl
 have g1:w4.cell? ⟨b+1+1,1,none⟩=some _:=zA hC4 rfl
 have fg0:w4.frozen? ⟨b+1+1,0,none⟩=false:=zB 0 hC4
 have fg1:w4.frozen? ⟨b+1+1,1,none⟩=false:=zB 1 hC4
 obtain ⟨q0,q1,q2,q3⟩:=cq4 hD4
 have fq0:w4.frozen? ⟨b+1+1+1,0,none⟩=false:=zB 0 hD4
 have fq1:w4.frozen? ⟨b+1+1+1,1,none⟩=false:=zB 1 hD4
 have fq2:w4.frozen? ⟨b+1+1+1,2,none⟩=false:=zB 2 hD4
 have fq3:w4.frozen? ⟨b+1+1+1,3,none⟩=false:=zB 3 hD4
 obtain ⟨k0,k1,k2,k3,k4,k5,k6,k7,k8,k9⟩:=zi4 hB4
 obtain ⟨HA4,HB4,HC4,HD4,HN4,HX4⟩:=hJ6 hA4 hB4 hC4 hD4 hN4 hX4
 clear hA4 hB4 hC4 hD4 hN4 hX4
 have hk:zfH ⟨p,l⟩=0:=by unfold zfH;rw[hm];rfl
 rw[hk]
 clear hk hm
 go_wp2_with fail
 refine (zj5 w4 _ _ _ l c.client HN4.out.2.1.ses).mono ?_
 rw[hla]
 rintro e w5 ⟨rfl,hE5⟩
 clear hla m0 m1 g0 g1 q0 q1 q2 q3 fg0 fg1 fq0 fq1 fq2 fq3 k0 k1 k2 k3 k4 k5 k6 k7 k8 k9
 have hA4:=HA4.out
 have hB4:=HB4.out
 have hC4:=HC4.out
 have hD4:=HD4.out
 have hN4:=HN4.out
 have hX4:=HX4.out
 clear HA4 HB4 HC4 HD4 HN4 HX4
 have hA5:=hE5.blk hA4 id
 have hB5:=hE5.blk hB4 id
 have hC5:=hE5.blk hC4 id
 have hD5:=hE5.blk hD4 id
 have hN5:=yI hN4 hE5 (fun _ _=>id) (fun _ _=>id)
 have hX5:=Mod.ext hX4 hE5
 clear hA4 hB4 hC4 hD4 hN4 hX4 hE5
 have l0:b<w5.heap.size:=(Array.getElem?_eq_some_iff.1 hA5).1
 have l1:b+1<w5.heap.size:=(Array.getElem?_eq_some_iff.1 hB5).1
 have l2:b+1+1<w5.heap.size:=(Array.getElem?_eq_some_iff.1 hC5).1
 have l3:b+1+1+1<w5.heap.size:=(Array.getElem?_eq_some_iff.1 hD5).1
 have m0:w5.cell? ⟨b,0,none⟩=some _:=zA hA5 rfl
 have m1:w5.cell? ⟨b,1,none⟩=some _:=zA hA5 rfl
 have g0:w5.cell? ⟨b+1+1,0,none⟩=some _:=zA hC5 rfl
 have g1:w5.cell? ⟨b+1+1,1,none⟩=some _:=zA hC5 rfl
 have fg0:w5.frozen? ⟨b+1+1,0,none⟩=false:=zB 0 hC5
 have fg1:w5.frozen? ⟨b+1+1,1,none⟩=false:=zB 1 hC5
 obtain ⟨q0,q1,q2,q3⟩:=cq4 hD5
 have fq0:w5.frozen? ⟨b+1+1+1,0,none⟩=false:=zB 0 hD5
 have fq1:w5.frozen? ⟨b+1+1+1,1,none⟩=false:=zB 1 hD5
 have fq2:w5.frozen? ⟨b+1+1+1,2,none⟩=false:=zB 2 hD5
 have fq3:w5.frozen? ⟨b+1+1+1,3,none⟩=false:=zB 3 hD5
 obtain ⟨k0,k1,k2,k3,k4,k5,k6,k7,k8,k9⟩:=zi4 hB5
 obtain ⟨HA5,HB5,HC5,HD5,HN5,HX5⟩:=hJ6 hA5 hB5 hC5 hD5 hN5 hX5
 clear hA5 hB5 hC5 hD5 hN5 hX5
 have e1:(c.seq==n)=false:=by have:=Hlt.out;simp;omega
 have e2:decide (c.seq<n)=false:=by have:=Hlt.out;simp;omega
 go_wp2_with fail
 clear k0 k1 k2 k3 k4 k5 k6 k7 k8 k9 m0 m1 g0 g1 q0 q1 q2 q3 fg0 fg1 fq0 fq1 fq2 fq3
 obtain ⟨w6,hw6⟩:∃ w6,w6=w5.alloc (.cells #[.int .i64 r.code,.int .i64 r.val.kind,.float .f64 r.val.num,.string r.val.text] 48):=⟨_,rfl⟩
 rw[←hw6]
 have hE6:Ext w5 w6:=by rw[hw6];exact (Mod.refl _ _).alloc _
 have hR6:w6.heap[w5.heap.size]? = some (.cells #[.int .i64 r.code,.int .i64 r.val.kind,.float .f64 r.val.num,.string r.val.text] 48 (0,0)):=by rw[hw6];exact heap_alloc_new w5 _
 clear hw6
 have hA5:=HA5.out
 have hB5:=HB5.out
 have hC5:=HC5.out
 have hD5:=HD5.out
 have hN5:=HN5.out
 have hX5:=HX5.out
 clear HA5 HB5 HC5 HD5 HN5 HX5
 obtain ⟨rb,hrb⟩:∃ rb,w5.heap.size=rb:=⟨_,rfl⟩
 have hgl:∀ g,(Value.slice A2 l.length c2).ownBlock=some g→b+4≤g∧g<rb:=fun g hg=>⟨Hfar.out.2 g hg,by rw[←hrb];exact (hN5.2.1.1.lt g hg).2⟩
 rw[hrb] at hR6 l0 l1 l2 l3 ⊢
 have hA6:=hE6.blk hA5 id
 have hB6:=hE6.blk hB5 id
 have hC6:=hE6.blk hC5 id
 have hD6:=hE6.blk hD5 id
 have hN6:=yI hN5 hE6 (fun _ _=>id) (fun _ _=>id)
 have hX6:=Mod.ext hX5 hE6
 clear hA5 hB5 hC5 hD5 hN5 hX5 hE6
 clear hrb
 have hrw6:rb<w6.heap.size:=(Array.getElem?_eq_some_iff.1 hR6).1
 obtain ⟨HA6,HB6,HC6,HD6,HN6,HX6⟩:=hJ6 hA6 hB6 hC6 hD6 hN6 hX6
 clear hA6 hB6 hC6 hD6 hN6 hX6
 obtain ⟨Hgl,HR6⟩:=hJ2 hgl hR6
 clear hgl hR6
 refine (zi1 w6 _ _ p c.cmd HN6.out.1.prs hp hcv hr).mono ?_
 rintro e w7 ⟨v7,rfl,hK7,hE7⟩
 obtain ⟨A7,c7,rfl⟩:=zC hK7.1
 have hA6:=HA6.out
 have hB6:=HB6.out
 have hC6:=HC6.out
 have hD6:=HD6.out
 have hN6:=HN6.out
 have hX6:=HX6.out
 clear HA6 HB6 HC6 HD6 HN6 HX6
 have hR7:=hE7.blk HR6.out id
 have hA7:=hE7.blk hA6 id
 have hB7:=hE7.blk hB6 id
 have hC7:=hE7.blk hC6 id
 have hD7:=hE7.blk hD6 id
 have hN7:=yI hN6 hE7 (fun _ _=>id) (fun _ _=>id)
 have hX7:=Mod.ext hX6 hE7
 clear hA6 hB6 hC6 hD6 hN6 hX6 hE7
 have hpl:∀ g,(Value.slice A7 L.length c7).ownBlock=some g→rb+1≤g∧g<w7.heap.size:=fun g hg=>⟨by have:=hK7.2.2 g hg;omega,(hK7.1.lt g hg).2⟩
 have hgl:=Hgl.out
 obtain ⟨W8,hW8⟩:∃ W8,W8=((((w7.setCell ⟨b,0,none⟩ (.slice A7 L.length c7)).setCell ⟨rb,0,none⟩ (.int .i64 R.code)).setCell ⟨rb,1,none⟩ (.int .i64 R.val.kind)).setCell ⟨rb,2,none⟩ (.float .f64 R.val.num)).setCell ⟨rb,3,none⟩ (.string R.val.text):=⟨_,rfl⟩
 have hM8:Mod (fun k=>k=b∨k=rb) w7 W8:=by
  rw[hW8]
  exact Mod.setCell (Mod.setCell (Mod.setCell (Mod.setCell (Mod.setCell (Mod.refl _ _) (.inr (.inl rfl)) _) (.inr (.inr rfl)) _) (.inr (.inr rfl)) _) (.inr (.inr rfl)) _) (.inr (.inr rfl)) _
 have hbr:¬ b=rb:=by omega
 have hrb':¬ rb=b:=by omega
 have hA8:W8.heap[b]? = some (.cells #[.slice A7 L.length c7,.slice A2 l.length c2] 41 (0,0)):=by rw[hW8];simp[World.setCell,Array.getElem?_modify,hA7,hbr,hrb']
 have hR8:W8.heap[rb]? = some (.cells #[.int .i64 R.code,.int .i64 R.val.kind,.float .f64 R.val.num,.string R.val.text] 48 (0,0)):=by rw[hW8];simp[World.setCell,Array.getElem?_modify,hR7,hbr,hrb']
 have hB8:=hM8.blk hB7 (by omega)
 have hC8:=hM8.blk hC7 (by omega)
 have hD8:=hM8.blk hD7 (by omega)
 have hK8:=xV hK7 hM8 (fun g hg e=>by have:=(hpl g hg).1;omega)
 have hS8:=zaX hN7.2.1 hM8 (fun g hg e=>by have:=hgl g hg;omega)
 have hX8:Ext w W8:=Mod.toExt ((Ext.mod hX7 (zD w.heap.size)).trans hM8 (fun k _ e=>by have:=Hb.out;unfold zD;omega))
 have hsz8:W8.heap.size=w7.heap.size:=by rw[hW8];simp[World.setCell]
 have m0:w7.cell? ⟨b,0,none⟩=some _:=zA hA7 rfl
 have m1:w7.cell? ⟨b,1,none⟩=some _:=zA hA7 rfl
 have fm0:w7.frozen? ⟨b,0,none⟩=false:=zB 0 hA7
 have fm1:w7.frozen? ⟨b,1,none⟩=false:=zB 1 hA7
 obtain ⟨v0,v1,v2,v3⟩:=cq4 hR7
 have fv0:w7.frozen? ⟨rb,0,none⟩=false:=zB 0 hR7
 have fv1:w7.frozen? ⟨rb,1,none⟩=false:=zB 1 hR7
 have fv2:w7.frozen? ⟨rb,2,none⟩=false:=zB 2 hR7
 have fv3:w7.frozen? ⟨rb,3,none⟩=false:=zB 3 hR7
 obtain ⟨k0,k1,k2,k3,k4,k5,k6,k7,k8,k9⟩:=zi4 hB7
 obtain ⟨HW8,HA8,HB8,HC8,HD8,HR8,HK8,HS8⟩:=hJ8 hW8 hA8 hB8 hC8 hD8 hR8 hK8 hS8
 obtain ⟨HX8,Hpl,Hsz8⟩:=hJ3 hX8 hpl hsz8
 clear hA7 hB7 hC7 hD7 hR7 hN7 hX7 hK7 hM8 hW8 hA8 hB8 hC8 hD8 hR8 hK8 hS8 hX8 hpl hgl hsz8
 go_wp2_with fail
 rw[←HW8.out]
 obtain ⟨f1,f2,f3,f4⟩:=Hf.out
 refine (zmE W8 _ _ l c.client HS8.out.ses hl i f1 f2 f3 false f4).mono ?_
 rintro e w9 ⟨rfl,hE9⟩
 clear f1 f2 f3 f4 k0 k1 k2 k3 k4 k5 k6 k7 k8 k9 m0 m1 fm0 fm1 v0 v1 v2 v3 fv0 fv1 fv2 fv3
 have hA9:=hE9.blk HA8.out id
 have hB9:=hE9.blk HB8.out id
 have hC9:=hE9.blk HC8.out id
 have hD9:=hE9.blk HD8.out id
 have hR9:=hE9.blk HR8.out id
 have hK9:=xV HK8.out hE9 (fun _ _=>id)
 have hS9:=zaX HS8.out hE9 (fun _ _=>id)
 have hX9:=Mod.ext HX8.out hE9
 have hs9:w7.heap.size≤w9.heap.size:=by have:=hE9.size;have:=Hsz8.out;omega
 clear hE9
 have hsr:w9.heap.size > rb:=(Array.getElem?_eq_some_iff.1 hR9).1
 have m0:w9.cell? ⟨b,0,none⟩=some _:=zA hA9 rfl
 have m1:w9.cell? ⟨b,1,none⟩=some _:=zA hA9 rfl
 have fm0:w9.frozen? ⟨b,0,none⟩=false:=zB 0 hA9
 have fm1:w9.frozen? ⟨b,1,none⟩=false:=zB 1 hA9
 obtain ⟨HA9,HB9,HC9,HD9,HR9,HK9,HS9,HX9⟩:=hJ8 hA9 hB9 hC9 hD9 hR9 hK9 hS9 hX9
 have Hsr:=hJ hsr
 clear hA9 hB9 hC9 hD9 hR9 hK9 hS9 hX9 hsr
 go_wp2_with fail
 obtain ⟨wa,hwa⟩:∃ wa,wa=w9.alloc (.cells #[.int .i64 0,.int .i64 0,.int .i64 0,.int .i64 0,.float .f64 0,.string ⟨#[]⟩] 125):=⟨_,rfl⟩
 rw[←hwa]
 have hEa:Ext w9 wa:=by rw[hwa];exact (Mod.refl _ _).alloc _
 have hva:wa.heap[w9.heap.size]? = some (.cells #[.int .i64 0,.int .i64 0,.int .i64 0,.int .i64 0,.float .f64 0,.string ⟨#[]⟩] 125 (0,0)):=by rw[hwa];exact heap_alloc_new w9 _
 have hSa:=zaX HS9.out hEa (fun _ _=>id)
 clear hwa m0 m1 fm0 fm1
 have hgl:=Hgl.out
 have hins:=znP wa (.slice A2 l.length c2) a bb ⟨0,0,yH.zero⟩ w9.heap.size (by rw[HL.out];exact hl3) (by rw[HL.out];exact hSa.1) hva (fun e=>by have:=(hgl _ e).2;have:=Hsr.out;omega)
 rw[Hi.out] at hins
 refine hins.mono ?_
 rintro e w10 ⟨v',rfl,ho,hfr,hm⟩
 obtain ⟨N,hN⟩:∃ N,(a++(⟨0,0,yH.zero⟩:zR) :: bb).length=N:=⟨_,rfl⟩
 rw[hN] at ho
 have hNi:a.length<N:=by rw[←hN];simp
 rcases xJ ho with ⟨_,h0⟩|⟨g,cap,cur,rfl,hRow,hcl,hnc,hcm,htk⟩
 · omega
 have hmb:∀ x,x<b+4∨rb≤x→¬ (Value.slice A2 l.length c2).ownBlock=some x:=fun x hx e=>by have:=hgl x e;omega
 have hA10:=hm.blk (hEa.blk HA9.out id) (hmb _ (by omega))
 have hB10:=hm.blk (hEa.blk HB9.out id) (hmb _ (by omega))
 have hC10:=hm.blk (hEa.blk HC9.out id) (hmb _ (by omega))
 have hD10:=hm.blk (hEa.blk HD9.out id) (hmb _ (by omega))
 have hR10:=hm.blk (hEa.blk HR9.out id) (hmb _ (by omega))
 have hpl:=Hpl.out
 have hK10:=xV (xV HK9.out hEa (fun _ _=>id)) hm (fun x hx e=>by have:=hgl x e;have:=(hpl x hx).1;omega)
 have hX10:Ext w w10:=Mod.toExt ((Ext.mod (Mod.ext HX9.out hEa) (zD w.heap.size)).trans hm (fun k _ e=>by have:=Hb.out;have:=(hgl k e).1;unfold zD;omega))
 have hza:=hEa.size
 have hgf:b+4≤g∧g≠rb∧¬ (Value.slice A7 L.length c7).ownBlock=some g:=by
  have hsr:=Hsr.out
  rcases hfr g rfl with h1|h1
  · have:=hgl g h1
    exact ⟨this.1,by omega,fun e=>by have:=(hpl g e).1;omega⟩
  exact ⟨by omega,by omega,fun e=>by have:=(hpl g e).2;omega⟩
 have hcur:cur=flS a++(⟨0,0,yH.zero⟩:zR).cells++(flS bb++cur.drop (N*6)):=by
  rw[←List.append_assoc,show flS a++(⟨0,0,yH.zero⟩:zR).cells++flS bb=flS (a++(⟨0,0,yH.zero⟩:zR) :: bb) by simp[flS],←htk,List.take_append_drop]
 have hres:(a++(⟨c.client,c.seq,R⟩:zR) :: bb).length=N:=by rw[←hN];simp
 have htk2:∀ rest,(flS a++(⟨c.client,c.seq,R⟩:zR).cells++(flS bb++rest)).take (N*6)=flS (a++(⟨c.client,c.seq,R⟩:zR) :: bb):=fun rest=>by
  rw[←List.append_assoc,show flS a++(⟨c.client,c.seq,R⟩:zR).cells++flS bb=flS (a++(⟨c.client,c.seq,R⟩:zR) :: bb) by simp[flS]]
  exact List.take_left' (by rw[zdF,hres])
 clear hEa hva hSa ho hfr hm hN htk hza hmb
 rw[Hi.out] at hNi
 have hla:(flS a).length=i*6:=by rw[zdF,Hi.out]
 have s0:w10.cell? ⟨g,i*6,none⟩=some (.int .i64 (⟨0,0,yH.zero⟩:zR).client):=hRow.cell (by rw[hcur,List.append_assoc,List.getElem?_append_right (by omega),hla,show i*6-i*6=0 by omega];rfl)
 have fs0:w10.frozen? ⟨g,i*6,none⟩=false:=hRow.free _
 have s1:w10.cell? ⟨g,i*6+1,none⟩=some (.int .i64 (⟨0,0,yH.zero⟩:zR).seq):=hRow.cell (by rw[hcur,List.append_assoc,List.getElem?_append_right (by omega),hla,show i*6+1-i*6=1 by omega];rfl)
 have fs1:w10.frozen? ⟨g,i*6+1,none⟩=false:=hRow.free _
 have s2:w10.cell? ⟨g,i*6+2,none⟩=some (.int .i64 (⟨0,0,yH.zero⟩:zR).reply.code):=hRow.cell (by rw[hcur,List.append_assoc,List.getElem?_append_right (by omega),hla,show i*6+2-i*6=2 by omega];rfl)
 have fs2:w10.frozen? ⟨g,i*6+2,none⟩=false:=hRow.free _
 have s3:w10.cell? ⟨g,i*6+3,none⟩=some (.int .i64 (⟨0,0,yH.zero⟩:zR).reply.val.kind):=hRow.cell (by rw[hcur,List.append_assoc,List.getElem?_append_right (by omega),hla,show i*6+3-i*6=3 by omega];rfl)
 have fs3:w10.frozen? ⟨g,i*6+3,none⟩=false:=hRow.free _
 have s4:w10.cell? ⟨g,i*6+4,none⟩=some (.float .f64 (⟨0,0,yH.zero⟩:zR).reply.val.num):=hRow.cell (by rw[hcur,List.append_assoc,List.getElem?_append_right (by omega),hla,show i*6+4-i*6=4 by omega];rfl)
 have fs4:w10.frozen? ⟨g,i*6+4,none⟩=false:=hRow.free _
 have s5:w10.cell? ⟨g,i*6+5,none⟩=some (.string (⟨0,0,yH.zero⟩:zR).reply.val.text):=hRow.cell (by rw[hcur,List.append_assoc,List.getElem?_append_right (by omega),hla,show i*6+5-i*6=5 by omega];rfl)
 have fs5:w10.frozen? ⟨g,i*6+5,none⟩=false:=hRow.free _
 have m0:w10.cell? ⟨b,0,none⟩=some _:=zA hA10 rfl
 have m1:w10.cell? ⟨b,1,none⟩=some _:=zA hA10 rfl
 have fm0:w10.frozen? ⟨b,0,none⟩=false:=zB 0 hA10
 have fm1:w10.frozen? ⟨b,1,none⟩=false:=zB 1 hA10
 obtain ⟨v0,v1,v2,v3⟩:=cq4 hR10
 obtain ⟨k0,k1,k2,k3,k4,k5,k6,k7,k8,k9⟩:=zi4 hB10
 have ngb:¬ g=b:=by omega
 have nbg:¬ b=g:=by omega
 have ngr:¬ g=rb:=hgf.2.1
 have nrg:¬ rb=g:=fun e=>hgf.2.1 e.symm
 have nb1:¬ g=b+1:=by omega
 have n1b:¬ b+1=g:=by omega
 have hbr:¬ b=rb:=by omega
 have hrb':¬ rb=b:=by omega
 obtain ⟨W11,hW11⟩:∃ W11,W11=(((((((w10.setCell ⟨b,1,none⟩ (.slice (some ⟨g,0,none⟩) N cap)).setCell ⟨g,i*6,none⟩ (.int .i64 c.client)).setCell ⟨g,i*6+1,none⟩ (.int .i64 c.seq)).setCell ⟨g,i*6+2,none⟩ (.int .i64 R.code)).setCell ⟨g,i*6+3,none⟩ (.int .i64 R.val.kind)).setCell ⟨g,i*6+4,none⟩ (.float .f64 R.val.num)).setCell ⟨g,i*6+5,none⟩ (.string R.val.text)):=⟨_,rfl⟩
 have hM11:Mod (fun k=>k=b∨k=g) w10 W11:=by
  rw[hW11]
  exact Mod.setCell (Mod.setCell (Mod.setCell (Mod.setCell (Mod.setCell (Mod.setCell (Mod.setCell (Mod.refl _ _) (.inr (.inl rfl)) _) (.inr (.inr rfl)) _) (.inr (.inr rfl)) _) (.inr (.inr rfl)) _) (.inr (.inr rfl)) _) (.inr (.inr rfl)) _) (.inr (.inr rfl)) _
 have hA11:W11.heap[b]? = some (.cells #[.slice A7 L.length c7,.slice (some ⟨g,0,none⟩) N cap] 41 (0,0)):=by rw[hW11];simp[World.setCell,Array.getElem?_modify,hA10,ngb,nbg]
 have hB11:=hM11.blk hB10 (by omega)
 have hC11:=hM11.blk hC10 (by omega)
 have hD11:=hM11.blk hD10 (by omega)
 have hR11:=hM11.blk hR10 (by omega)
 have hK11:=xV hK10 hM11 (fun x hx e=>by have:=(Hpl.out x hx).1;rcases e with e|e;{ omega };{ exact hgf.2.2 (by rw[←e];exact hx) })
 have hX11:Ext w W11:=Mod.toExt ((Ext.mod hX10 (zD w.heap.size)).trans hM11 (fun k _ e=>by have:=Hb.out;have:=hgf.1;unfold zD;omega))
 have hRow11:Row W11 g 125 (flS a++(⟨c.client,c.seq,R⟩:zR).cells++(flS bb++cur.drop (N*6))):=by
  have h0:Row w10 g 125 (flS a++.int .i64 (⟨0,0,yH.zero⟩:zR).client :: .int .i64 (⟨0,0,yH.zero⟩:zR).seq :: .int .i64 (⟨0,0,yH.zero⟩:zR).reply.code :: .int .i64 (⟨0,0,yH.zero⟩:zR).reply.val.kind :: .float .f64 (⟨0,0,yH.zero⟩:zR).reply.val.num :: .string (⟨0,0,yH.zero⟩:zR).reply.val.text :: (flS bb++cur.drop (N*6))):=by
   have:=hRow
   rw[hcur,List.append_assoc] at this
   exact this
  have h1:=zmK (.int .i64 c.client) (.int .i64 c.seq) (.int .i64 R.code) (.int .i64 R.val.kind) (.float .f64 R.val.num) (.string R.val.text) (Row.mod h0 (zM (Mod.refl _ w10) 1 (.slice (some ⟨g,0,none⟩) N cap)) ngb) hla
  rw[hW11,List.append_assoc]
  exact h1
 have hS11:zj0 w W11 (.slice (some ⟨g,0,none⟩) N cap) (a++(⟨c.client,c.seq,R⟩:zR) :: bb):=by
  refine ⟨?_,Hok.out,fun x hx=>?_⟩
  ·
   rw[hres]
   refine hRow11.own ?_ hnc hcm (htk2 _)
   rw[←hcl]
   conv=>rhs;rw[hcur]
   simp
  simp[Value.ownBlock] at hx
  subst hx
  have:=Hb.out
  omega
 have hNM:zn5 w W11 (.slice A7 L.length c7) (.slice (some ⟨g,0,none⟩) N cap) ⟨L,a++(⟨c.client,c.seq,R⟩:zR) :: bb⟩:=⟨zaQ hK11 (by have:=Hb.out;omega),hS11,fun x hx e=>by simp[Value.ownBlock] at e;subst e;exact hgf.2.2 hx⟩
 have hi0:(0:Int)≤(i:Int):=by omega
 have hi1:(i:Int)<(N:Int):=by omega
 obtain ⟨HW11,HA11,HC11,HD11,HR11,HNM,HX11,Hgf⟩:=hJ8 hW11 hA11 hC11 hD11 hR11 hNM hX11 hgf
 clear hRow hcl hnc hcm hcur hres htk2 hNi hla hA10 hB10 hC10 hD10 hR10 hK10 hX10 hgf hW11 hM11 hA11 hB11 hC11 hD11 hR11 hK11 hX11 hRow11 hS11 hNM
 go_wp2_with fail
 rw[←HW11.out]
 clear s0 s1 s2 s3 s4 s5 fs0 fs1 fs2 fs3 fs4 fs5 m0 m1 fm0 fm1 v0 v1 v2 v3 k0 k1 k2 k3 k4 k5 k6 k7 k8 k9 hi0 hi1 ngb nbg ngr nrg nb1 n1b hbr hrb'
 have m0:W11.cell? ⟨b,0,none⟩=some _:=zA HA11.out rfl
 have m1:W11.cell? ⟨b,1,none⟩=some _:=zA HA11.out rfl
 have g0:W11.cell? ⟨b+1+1,0,none⟩=some _:=zA HC11.out rfl
 have g1:W11.cell? ⟨b+1+1,1,none⟩=some _:=zA HC11.out rfl
 have fg0:W11.frozen? ⟨b+1+1,0,none⟩=false:=zB 0 HC11.out
 have fg1:W11.frozen? ⟨b+1+1,1,none⟩=false:=zB 1 HC11.out
 obtain ⟨q0,q1,q2,q3⟩:=cq4 HD11.out
 have fq0:W11.frozen? ⟨b+1+1+1,0,none⟩=false:=zB 0 HD11.out
 have fq1:W11.frozen? ⟨b+1+1+1,1,none⟩=false:=zB 1 HD11.out
 have fq2:W11.frozen? ⟨b+1+1+1,2,none⟩=false:=zB 2 HD11.out
 have fq3:W11.frozen? ⟨b+1+1+1,3,none⟩=false:=zB 3 HD11.out
 obtain ⟨v0,v1,v2,v3⟩:=cq4 HR11.out
 have d1:¬ rb=b+1+1:=by omega
 have d2:¬ rb=b+1+1+1:=by omega
 have d3:¬ b+1+1=rb:=by omega
 have d4:¬ b+1+1+1=rb:=by omega
 have d5:¬ b=b+1+1:=by omega
 have d6:¬ b+1+1=b:=by omega
 have d7:¬ b=b+1+1+1:=by omega
 have d8:¬ b+1+1+1=b:=by omega
 have hfin:Hid (∀ w',Mod (fun k=>k=b+1+1∨k=b+1+1+1) W11 w'→zbX w ⟨L,a++(⟨c.client,c.seq,R⟩:zR) :: bb⟩ R (.returned (.tuple #[.agg #[.slice A7 L.length c7,.slice (some ⟨g,0,none⟩) N cap],.agg #[.int .i64 R.code,.int .i64 R.val.kind,.float .f64 R.val.num,.string R.val.text]])) w'):=hJ (fun w' hm=>⟨_,_,rfl,yI HNM.out hm (fun g hg e=>by have:=(Hpl.out g hg).1;omega) (fun x hx e=>by simp[Value.ownBlock] at hx;subst hx;have:=Hgf.out.1;omega),Mod.toExt ((Ext.mod HX11.out (zD w.heap.size)).trans hm (fun k _ e=>by have:=Hb.out;unfold zD;omega))⟩)
 clear l0 l1 l2 l3 hrw6
 go_region_held3 (fun w'=>w'.cell? ⟨b,0,none⟩=some (.slice A7 L.length c7)∧w'.cell? ⟨b,1,none⟩=some (.slice (some ⟨g,0,none⟩) N cap)∧w'.cell? ⟨rb,0,none⟩=some (.int .i64 R.code)∧w'.cell? ⟨rb,1,none⟩=some (.int .i64 R.val.kind)∧w'.cell? ⟨rb,2,none⟩=some (.float .f64 R.val.num)∧w'.cell? ⟨rb,3,none⟩=some (.string R.val.text)) (go_keep) (fail)
 all_goals
  go_wp2_with fail
  refine bodyPost_ret (v:=.tuple #[.agg #[.slice A7 L.length c7,.slice (some ⟨g,0,none⟩) N cap],.agg #[.int .i64 R.code,.int .i64 R.val.kind,.float .f64 R.val.num,.string R.val.text]]) (by simp[results,Tryz.results173,go_sem,m0,m1,g0,g1,q0,q1,q2,q3]) rfl (hfin.out _ ?_)
  repeat (with_reducible (first|refine Mod.drew ?_|exact Mod.refl _ _|refine Mod.setCell ?_ (.inr (.inl rfl)) _|refine Mod.setCell ?_ (.inr (.inr rfl)) _))
theorem zqY (w:World) (T U:Nat→Prop) (pv v:Value) (p:List zJ) (l:List zR) (c:zW) (hP:Prs w U pv p) (h:Ses w T v l) (hp:p.length≤1000000) (hl:l.length≤1000000) (hc:yX c=0) (hm:jU ⟨p,l⟩=true) (n:Int) (r:yH) (hla:yJ l c.client=(n,r)) (Hlt:Hid (n<c.seq)) (hcv:c.cmd.val.ok) (L:List zJ) (R:yH) (hr:doP p c.cmd=(L,R)) (a bb:List zR) (i:Nat) (Hi:Hid (a.length=i)) (_:l.length≤1000) (Hok:Hid (∀ s∈a++(⟨c.client,c.seq,R⟩:zR) :: bb,s.ok)) (y:zR) (HL:Hid (a++y :: bb=l)) (Hf:Hid (zmL l c.client i true)):
  Calls Tryz.prog 173 #[.agg #[pv,v],.agg #[.int .i64 c.client,.int .i64 c.seq,.int .i64 c.cmd.kind,.string c.cmd.key,.int .i64 c.cmd.old.kind,.float .f64 c.cmd.old.num,.string c.cmd.old.text,.int .i64 c.cmd.val.kind,.float .f64 c.cmd.val.num,.string c.cmd.val.text]] w (zbX w ⟨L,a++(⟨c.client,c.seq,R⟩:zR) :: bb⟩ R):=by
 obtain ⟨A,c0,rfl⟩:=h.form
 obtain ⟨A',c',rfl⟩:=hP.form
 obtain ⟨b,hb⟩:∃ b,w.heap.size=b:=⟨_,rfl⟩
 obtain ⟨W,hW⟩:∃ W,W=(((w.alloc (.cells #[.slice A' p.length c',.slice A l.length c0] 41)).alloc (.cells #[.int .i64 c.client,.int .i64 c.seq,.int .i64 c.cmd.kind,.string c.cmd.key,.int .i64 c.cmd.old.kind,.float .f64 c.cmd.old.num,.string c.cmd.old.text,.int .i64 c.cmd.val.kind,.float .f64 c.cmd.val.num,.string c.cmd.val.text] 29)).alloc (.cells #[.slice none 0 0,.slice none 0 0] 41)).alloc (.cells #[.int .i64 0,.int .i64 0,.float .f64 0,.string ⟨#[]⟩] 48):=⟨_,rfl⟩
 obtain ⟨hA,hB,hC,hD,hsz,hE⟩:=zbA w _ _ _ _ hW
 rw[hb] at hA hB hC hD hsz
 have hPW:=hP.ext hE
 have hSW:=h.ext hE
 obtain ⟨HW,Hb,HE,HA,HB,HC,HD⟩:=hJ7 hW hb hE hA hB hC hD
 clear hA hB hC hD hW hb hE
 go_enter Tryz.func173,Tryz.ntmps173
 go_wp2_with fail
 rw[←HW.out,Hb.out]
 refine (zhV W T U _ _ p l hPW hSW hp hl).mono ?_
 rintro e w1 ⟨pv1,v1,rfl,hN1,hE1⟩
 obtain ⟨A1,c1,rfl⟩:=zC hN1.1.1
 obtain ⟨A2,c2,rfl⟩:=zC hN1.2.1.1
 have hA1:=hE1.blk HA.out id
 have hB1:=hE1.blk HB.out id
 have hC1:=hE1.blk HC.out id
 have hD1:=hE1.blk HD.out id
 have hfar:(∀ g,(Value.slice A1 p.length c1).ownBlock=some g→b+4≤g)∧(∀ g,(Value.slice A2 l.length c2).ownBlock=some g→b+4≤g):=⟨fun g hg=>by have:=hN1.1.2.2 g hg;omega,fun g hg=>by have:=hN1.2.1.2.2 g hg;omega⟩
 obtain ⟨W2,hW2⟩:∃ W2,W2=(w1.setCell ⟨b,0,none⟩ (.slice A1 p.length c1)).setCell ⟨b,1,none⟩ (.slice A2 l.length c2):=⟨_,rfl⟩
 have hM2:Mod (fun k=>k=b) w1 W2:=by rw[hW2];exact zM (zM (Mod.refl _ _) _ _) _ _
 have hA2:W2.heap[b]? = some (.cells #[.slice A1 p.length c1,.slice A2 l.length c2] 41 (0,0)):=by rw[hW2];simp[World.setCell,Array.getElem?_modify,hA1]
 have hB2:=hM2.blk hB1 (by omega)
 have hC2:=hM2.blk hC1 (by omega)
 have hD2:=hM2.blk hD1 (by omega)
 have hNw:zn5 w w1 (.slice A1 p.length c1) (.slice A2 l.length c2) ⟨p,l⟩:=⟨zaQ hN1.1 HE.out.size,⟨hN1.2.1.1,hN1.2.1.2.1,fun g hg=>Nat.le_trans HE.out.size (hN1.2.1.2.2 g hg)⟩,hN1.2.2⟩
 have hN2:=yI hNw hM2 (fun g hg e=>by have:=hfar.1 g hg;omega) (fun g hg e=>by have:=hfar.2 g hg;omega)
 have hE2:Ext w W2:=Mod.toExt ((Ext.mod (Mod.ext HE.out hE1) (zD w.heap.size)).trans hM2 (fun k _ e=>by have:=Hb.out;unfold zD;omega))
 have f0:w1.frozen? ⟨b,0,none⟩=false:=zB 0 hA1
 have f1:w1.frozen? ⟨b,1,none⟩=false:=zB 1 hA1
 have r0:w1.cell? ⟨b,0,none⟩=some _:=zA hA1 rfl
 have r1:w1.cell? ⟨b,1,none⟩=some _:=zA hA1 rfl
 obtain ⟨k0,k1,k2,k3,k4,k5,k6,k7,k8,k9⟩:=zi4 hB1
 obtain ⟨Hfar,HW2⟩:=hJ2 hfar hW2
 clear hA1 hB1 hC1 hD1 hN1 hNw hM2 hE1 hW2 hfar hPW hSW
 go_wp2_with fail
 rw[←HW2.out]
 clear f0 f1 r0 r1 k0 k1 k2 k3 k4 k5 k6 k7 k8 k9
 refine (jS c W2).mono ?_
 rintro e w3 ⟨rfl,hE3⟩
 have hA3:=hE3.blk hA2 id
 have hB3:=hE3.blk hB2 id
 have hC3:=hE3.blk hC2 id
 have hD3:=hE3.blk hD2 id
 have hN3:=yI hN2 hE3 (fun _ _=>id) (fun _ _=>id)
 have hX3:=Mod.ext hE2 hE3
 clear hA2 hB2 hC2 hD2 hN2 hE2 hE3
 have m0:w3.cell? ⟨b,0,none⟩=some _:=zA hA3 rfl
 have m1:w3.cell? ⟨b,1,none⟩=some _:=zA hA3 rfl
 obtain ⟨HA3,HB3,HC3,HD3,HN3,HX3⟩:=hJ6 hA3 hB3 hC3 hD3 hN3 hX3
 clear hA3 hB3 hC3 hD3 hN3 hX3
 rw[hc]
 go_wp2_with fail
 refine (ze6 w3 _ _ _ _ p l HN3.out.1.prs HN3.out.2.1.ses).mono ?_
 rintro e w4 ⟨rfl,hE4⟩
 clear m0 m1
 have hA3:=HA3.out
 have hB3:=HB3.out
 have hC3:=HC3.out
 have hD3:=HD3.out
 have hN3:=HN3.out
 have hX3:=HX3.out
 clear HA3 HB3 HC3 HD3 HN3 HX3
 have hA4:=hE4.blk hA3 id
 have hB4:=hE4.blk hB3 id
 have hC4:=hE4.blk hC3 id
 have hD4:=hE4.blk hD3 id
 have hN4:=yI hN3 hE4 (fun _ _=>id) (fun _ _=>id)
 have hX4:=Mod.ext hX3 hE4
 clear hA3 hB3 hC3 hD3 hN3 hX3 hE4
 have m0:w4.cell? ⟨b,0,none⟩=some _:=zA hA4 rfl
 have m1:w4.cell? ⟨b,1,none⟩=some _:=zA hA4 rfl
 have g0:w4.cell? ⟨b+1+1,0,none⟩=some _:=zA hC4 rfl
 have g1:w4.cell? ⟨b+1+1,1,none⟩=some _:=zA hC4 rfl
 have fg0:w4.frozen? ⟨b+1+1,0,none⟩=false:=zB 0 hC4
 have fg1:w4.frozen? ⟨b+1+1,1,none⟩=false:=zB 1 hC4
 obtain ⟨q0,q1,q2,q3⟩:=cq4 hD4
 have fq0:w4.frozen? ⟨b+1+1+1,0,none⟩=false:=zB 0 hD4
 have fq1:w4.frozen? ⟨b+1+1+1,1,none⟩=false:=zB 1 hD4
 have fq2:w4.frozen? ⟨b+1+1+1,2,none⟩=false:=zB 2 hD4
 have fq3:w4.frozen? ⟨b+1+1+1,3,none⟩=false:=zB 3 hD4
 obtain ⟨k0,k1,k2,k3,k4,k5,k6,k7,k8,k9⟩:=zi4 hB4
 obtain ⟨HA4,HB4,HC4,HD4,HN4,HX4⟩:=hJ6 hA4 hB4 hC4 hD4 hN4 hX4
 clear hA4 hB4 hC4 hD4 hN4 hX4
 have hk:zfH ⟨p,l⟩=0:=by unfold zfH;rw[hm];rfl
 rw[hk]
 clear hk hm
 go_wp2_with fail
 refine (zj5 w4 _ _ _ l c.client HN4.out.2.1.ses).mono ?_
 rw[hla]
 rintro e w5 ⟨rfl,hE5⟩
 clear hla m0 m1 g0 g1 q0 q1 q2 q3 fg0 fg1 fq0 fq1 fq2 fq3 k0 k1 k2 k3 k4 k5 k6 k7 k8 k9
 have hA4:=HA4.out
 have hB4:=HB4.out
 have hC4:=HC4.out
 have hD4:=HD4.out
 have hN4:=HN4.out
 have hX4:=HX4.out
 clear HA4 HB4 HC4 HD4 HN4 HX4
 have hA5:=hE5.blk hA4 id
 have hB5:=hE5.blk hB4 id
 have hC5:=hE5.blk hC4 id
 have hD5:=hE5.blk hD4 id
 have hN5:=yI hN4 hE5 (fun _ _=>id) (fun _ _=>id)
 have hX5:=Mod.ext hX4 hE5
 clear hA4 hB4 hC4 hD4 hN4 hX4 hE5
 have l0:b<w5.heap.size:=(Array.getElem?_eq_some_iff.1 hA5).1
 have l1:b+1<w5.heap.size:=(Array.getElem?_eq_some_iff.1 hB5).1
 have l2:b+1+1<w5.heap.size:=(Array.getElem?_eq_some_iff.1 hC5).1
 have l3:b+1+1+1<w5.heap.size:=(Array.getElem?_eq_some_iff.1 hD5).1
 have m0:w5.cell? ⟨b,0,none⟩=some _:=zA hA5 rfl
 have m1:w5.cell? ⟨b,1,none⟩=some _:=zA hA5 rfl
 have g0:w5.cell? ⟨b+1+1,0,none⟩=some _:=zA hC5 rfl
 have g1:w5.cell? ⟨b+1+1,1,none⟩=some _:=zA hC5 rfl
 have fg0:w5.frozen? ⟨b+1+1,0,none⟩=false:=zB 0 hC5
 have fg1:w5.frozen? ⟨b+1+1,1,none⟩=false:=zB 1 hC5
 obtain ⟨q0,q1,q2,q3⟩:=cq4 hD5
 have fq0:w5.frozen? ⟨b+1+1+1,0,none⟩=false:=zB 0 hD5
 have fq1:w5.frozen? ⟨b+1+1+1,1,none⟩=false:=zB 1 hD5
 have fq2:w5.frozen? ⟨b+1+1+1,2,none⟩=false:=zB 2 hD5
 have fq3:w5.frozen? ⟨b+1+1+1,3,none⟩=false:=zB 3 hD5
 obtain ⟨k0,k1,k2,k3,k4,k5,k6,k7,k8,k9⟩:=zi4 hB5
 obtain ⟨HA5,HB5,HC5,HD5,HN5,HX5⟩:=hJ6 hA5 hB5 hC5 hD5 hN5 hX5
 clear hA5 hB5 hC5 hD5 hN5 hX5
 have e1:(c.seq==n)=false:=by have:=Hlt.out;simp;omega
 have e2:decide (c.seq<n)=false:=by have:=Hlt.out;simp;omega
 go_wp2_with fail
 clear k0 k1 k2 k3 k4 k5 k6 k7 k8 k9 m0 m1 g0 g1 q0 q1 q2 q3 fg0 fg1 fq0 fq1 fq2 fq3
 obtain ⟨w6,hw6⟩:∃ w6,w6=w5.alloc (.cells #[.int .i64 r.code,.int .i64 r.val.kind,.float .f64 r.val.num,.string r.val.text] 48):=⟨_,rfl⟩
 rw[←hw6]
 have hE6:Ext w5 w6:=by rw[hw6];exact (Mod.refl _ _).alloc _
 have hR6:w6.heap[w5.heap.size]? = some (.cells #[.int .i64 r.code,.int .i64 r.val.kind,.float .f64 r.val.num,.string r.val.text] 48 (0,0)):=by rw[hw6];exact heap_alloc_new w5 _
 clear hw6
 have hA5:=HA5.out
 have hB5:=HB5.out
 have hC5:=HC5.out
 have hD5:=HD5.out
 have hN5:=HN5.out
 have hX5:=HX5.out
 clear HA5 HB5 HC5 HD5 HN5 HX5
 obtain ⟨rb,hrb⟩:∃ rb,w5.heap.size=rb:=⟨_,rfl⟩
 have hgl:∀ g,(Value.slice A2 l.length c2).ownBlock=some g→b+4≤g∧g<rb:=fun g hg=>⟨Hfar.out.2 g hg,by rw[←hrb];exact (hN5.2.1.1.lt g hg).2⟩
 rw[hrb] at hR6 l0 l1 l2 l3 ⊢
 have hA6:=hE6.blk hA5 id
 have hB6:=hE6.blk hB5 id
 have hC6:=hE6.blk hC5 id
 have hD6:=hE6.blk hD5 id
 have hN6:=yI hN5 hE6 (fun _ _=>id) (fun _ _=>id)
 have hX6:=Mod.ext hX5 hE6
 clear hA5 hB5 hC5 hD5 hN5 hX5 hE6
 clear hrb
 have hrw6:rb<w6.heap.size:=(Array.getElem?_eq_some_iff.1 hR6).1
 obtain ⟨HA6,HB6,HC6,HD6,HN6,HX6⟩:=hJ6 hA6 hB6 hC6 hD6 hN6 hX6
 clear hA6 hB6 hC6 hD6 hN6 hX6
 obtain ⟨Hgl,HR6⟩:=hJ2 hgl hR6
 clear hgl hR6
 refine (zi1 w6 _ _ p c.cmd HN6.out.1.prs hp hcv hr).mono ?_
 rintro e w7 ⟨v7,rfl,hK7,hE7⟩
 obtain ⟨A7,c7,rfl⟩:=zC hK7.1
 have hA6:=HA6.out
 have hB6:=HB6.out
 have hC6:=HC6.out
 have hD6:=HD6.out
 have hN6:=HN6.out
 have hX6:=HX6.out
 clear HA6 HB6 HC6 HD6 HN6 HX6
 have hR7:=hE7.blk HR6.out id
 have hA7:=hE7.blk hA6 id
 have hB7:=hE7.blk hB6 id
 have hC7:=hE7.blk hC6 id
 have hD7:=hE7.blk hD6 id
 have hN7:=yI hN6 hE7 (fun _ _=>id) (fun _ _=>id)
 have hX7:=Mod.ext hX6 hE7
 clear hA6 hB6 hC6 hD6 hN6 hX6 hE7
 have hpl:∀ g,(Value.slice A7 L.length c7).ownBlock=some g→rb+1≤g∧g<w7.heap.size:=fun g hg=>⟨by have:=hK7.2.2 g hg;omega,(hK7.1.lt g hg).2⟩
 have hgl:=Hgl.out
 obtain ⟨W8,hW8⟩:∃ W8,W8=((((w7.setCell ⟨b,0,none⟩ (.slice A7 L.length c7)).setCell ⟨rb,0,none⟩ (.int .i64 R.code)).setCell ⟨rb,1,none⟩ (.int .i64 R.val.kind)).setCell ⟨rb,2,none⟩ (.float .f64 R.val.num)).setCell ⟨rb,3,none⟩ (.string R.val.text):=⟨_,rfl⟩
 have hM8:Mod (fun k=>k=b∨k=rb) w7 W8:=by
  rw[hW8]
  exact Mod.setCell (Mod.setCell (Mod.setCell (Mod.setCell (Mod.setCell (Mod.refl _ _) (.inr (.inl rfl)) _) (.inr (.inr rfl)) _) (.inr (.inr rfl)) _) (.inr (.inr rfl)) _) (.inr (.inr rfl)) _
 have hbr:¬ b=rb:=by omega
 have hrb':¬ rb=b:=by omega
 have hA8:W8.heap[b]? = some (.cells #[.slice A7 L.length c7,.slice A2 l.length c2] 41 (0,0)):=by rw[hW8];simp[World.setCell,Array.getElem?_modify,hA7,hbr,hrb']
 have hR8:W8.heap[rb]? = some (.cells #[.int .i64 R.code,.int .i64 R.val.kind,.float .f64 R.val.num,.string R.val.text] 48 (0,0)):=by rw[hW8];simp[World.setCell,Array.getElem?_modify,hR7,hbr,hrb']
 have hB8:=hM8.blk hB7 (by omega)
 have hC8:=hM8.blk hC7 (by omega)
 have hD8:=hM8.blk hD7 (by omega)
 have hK8:=xV hK7 hM8 (fun g hg e=>by have:=(hpl g hg).1;omega)
 have hS8:=zaX hN7.2.1 hM8 (fun g hg e=>by have:=hgl g hg;omega)
 have hX8:Ext w W8:=Mod.toExt ((Ext.mod hX7 (zD w.heap.size)).trans hM8 (fun k _ e=>by have:=Hb.out;unfold zD;omega))
 have hsz8:W8.heap.size=w7.heap.size:=by rw[hW8];simp[World.setCell]
 have m0:w7.cell? ⟨b,0,none⟩=some _:=zA hA7 rfl
 have m1:w7.cell? ⟨b,1,none⟩=some _:=zA hA7 rfl
 have fm0:w7.frozen? ⟨b,0,none⟩=false:=zB 0 hA7
 have fm1:w7.frozen? ⟨b,1,none⟩=false:=zB 1 hA7
 obtain ⟨v0,v1,v2,v3⟩:=cq4 hR7
 have fv0:w7.frozen? ⟨rb,0,none⟩=false:=zB 0 hR7
 have fv1:w7.frozen? ⟨rb,1,none⟩=false:=zB 1 hR7
 have fv2:w7.frozen? ⟨rb,2,none⟩=false:=zB 2 hR7
 have fv3:w7.frozen? ⟨rb,3,none⟩=false:=zB 3 hR7
 obtain ⟨k0,k1,k2,k3,k4,k5,k6,k7,k8,k9⟩:=zi4 hB7
 obtain ⟨HW8,HA8,HB8,HC8,HD8,HR8,HK8,HS8⟩:=hJ8 hW8 hA8 hB8 hC8 hD8 hR8 hK8 hS8
 obtain ⟨HX8,Hpl,Hsz8⟩:=hJ3 hX8 hpl hsz8
 clear hA7 hB7 hC7 hD7 hR7 hN7 hX7 hK7 hM8 hW8 hA8 hB8 hC8 hD8 hR8 hK8 hS8 hX8 hpl hgl hsz8
 go_wp2_with fail
 rw[←HW8.out]
 obtain ⟨f1,f2,f3,f4⟩:=Hf.out
 refine (zmE W8 _ _ l c.client HS8.out.ses hl i f1 f2 f3 true f4).mono ?_
 rintro e w9 ⟨rfl,hE9⟩
 clear f1 f2 f3 f4 k0 k1 k2 k3 k4 k5 k6 k7 k8 k9 m0 m1 fm0 fm1 v0 v1 v2 v3 fv0 fv1 fv2 fv3
 have hA9:=hE9.blk HA8.out id
 have hB9:=hE9.blk HB8.out id
 have hC9:=hE9.blk HC8.out id
 have hD9:=hE9.blk HD8.out id
 have hR9:=hE9.blk HR8.out id
 have hK9:=xV HK8.out hE9 (fun _ _=>id)
 have hS9:=zaX HS8.out hE9 (fun _ _=>id)
 have hX9:=Mod.ext HX8.out hE9
 have hs9:w7.heap.size≤w9.heap.size:=by have:=hE9.size;have:=Hsz8.out;omega
 clear hE9
 have w10e:∃ w10,w10=w9:=⟨_,rfl⟩
 obtain ⟨w10,hw10⟩:=w10e
 rw[←hw10] at hA9 hB9 hC9 hD9 hR9 hK9 hS9 hX9 hs9 ⊢
 clear hw10
 obtain ⟨N,hN⟩:∃ N,l.length=N:=⟨_,rfl⟩
 have hNi:a.length<N:=by rw[←hN,←HL.out];simp
 have hgl:=Hgl.out
 have hpl:=Hpl.out
 have ho:w10.ownsRow 0 125 6 (.slice A2 l.length c2) N (flS l):=by rw[←hN];exact hS9.1
 rcases xJ ho with ⟨_,h0⟩|⟨g,cap,cur,hg,hRow,hcl,hnc,hcm,htk⟩
 · omega
 rw[hN] at hg
 injection hg with hg1 hg2 hg3
 subst hg1
 have hg4:=hg3.symm
 subst hg4
 rw[hN] at hA9 hgl ⊢
 have hgf:b+4≤g∧g≠rb∧¬ (Value.slice A7 L.length c7).ownBlock=some g:=by
  have:=hgl g rfl
  exact ⟨this.1,by omega,fun e=>by have:=(hpl g e).1;omega⟩
 have hcur:cur=flS a++y.cells++(flS bb++cur.drop (N*6)):=by
  rw[←List.append_assoc,show flS a++y.cells++flS bb=flS l by rw[←HL.out];simp[flS],←htk,List.take_append_drop]
 have hres:(a++(⟨c.client,c.seq,R⟩:zR) :: bb).length=N:=by rw[←hN,←HL.out];simp
 have htk2:∀ rest,(flS a++(⟨c.client,c.seq,R⟩:zR).cells++(flS bb++rest)).take (N*6)=flS (a++(⟨c.client,c.seq,R⟩:zR) :: bb):=fun rest=>by
  rw[←List.append_assoc,show flS a++(⟨c.client,c.seq,R⟩:zR).cells++flS bb=flS (a++(⟨c.client,c.seq,R⟩:zR) :: bb) by simp[flS]]
  exact List.take_left' (by rw[zdF,hres])
 have hA10:=hA9
 have hB10:=hB9
 have hC10:=hC9
 have hD10:=hD9
 have hR10:=hR9
 have hK10:=hK9
 have hX10:=hX9
 clear ho hN htk hA9 hB9 hC9 hD9 hR9 hK9 hS9 hX9
 rw[Hi.out] at hNi
 have hla:(flS a).length=i*6:=by rw[zdF,Hi.out]
 have s0:w10.cell? ⟨g,i*6,none⟩=some (.int .i64 y.client):=hRow.cell (by rw[hcur,List.append_assoc,List.getElem?_append_right (by omega),hla,show i*6-i*6=0 by omega];rfl)
 have fs0:w10.frozen? ⟨g,i*6,none⟩=false:=hRow.free _
 have s1:w10.cell? ⟨g,i*6+1,none⟩=some (.int .i64 y.seq):=hRow.cell (by rw[hcur,List.append_assoc,List.getElem?_append_right (by omega),hla,show i*6+1-i*6=1 by omega];rfl)
 have fs1:w10.frozen? ⟨g,i*6+1,none⟩=false:=hRow.free _
 have s2:w10.cell? ⟨g,i*6+2,none⟩=some (.int .i64 y.reply.code):=hRow.cell (by rw[hcur,List.append_assoc,List.getElem?_append_right (by omega),hla,show i*6+2-i*6=2 by omega];rfl)
 have fs2:w10.frozen? ⟨g,i*6+2,none⟩=false:=hRow.free _
 have s3:w10.cell? ⟨g,i*6+3,none⟩=some (.int .i64 y.reply.val.kind):=hRow.cell (by rw[hcur,List.append_assoc,List.getElem?_append_right (by omega),hla,show i*6+3-i*6=3 by omega];rfl)
 have fs3:w10.frozen? ⟨g,i*6+3,none⟩=false:=hRow.free _
 have s4:w10.cell? ⟨g,i*6+4,none⟩=some (.float .f64 y.reply.val.num):=hRow.cell (by rw[hcur,List.append_assoc,List.getElem?_append_right (by omega),hla,show i*6+4-i*6=4 by omega];rfl)
 have fs4:w10.frozen? ⟨g,i*6+4,none⟩=false:=hRow.free _
 have s5:w10.cell? ⟨g,i*6+5,none⟩=some (.string y.reply.val.text):=hRow.cell (by rw[hcur,List.append_assoc,List.getElem?_append_right (by omega),hla,show i*6+5-i*6=5 by omega];rfl)
 have fs5:w10.frozen? ⟨g,i*6+5,none⟩=false:=hRow.free _
 have m0:w10.cell? ⟨b,0,none⟩=some _:=zA hA10 rfl
 have m1:w10.cell? ⟨b,1,none⟩=some _:=zA hA10 rfl
 have fm0:w10.frozen? ⟨b,0,none⟩=false:=zB 0 hA10
 have fm1:w10.frozen? ⟨b,1,none⟩=false:=zB 1 hA10
 obtain ⟨v0,v1,v2,v3⟩:=cq4 hR10
 obtain ⟨k0,k1,k2,k3,k4,k5,k6,k7,k8,k9⟩:=zi4 hB10
 have ngb:¬ g=b:=by omega
 have nbg:¬ b=g:=by omega
 have ngr:¬ g=rb:=hgf.2.1
 have nrg:¬ rb=g:=fun e=>hgf.2.1 e.symm
 have nb1:¬ g=b+1:=by omega
 have n1b:¬ b+1=g:=by omega
 have hbr:¬ b=rb:=by omega
 have hrb':¬ rb=b:=by omega
 obtain ⟨W11,hW11⟩:∃ W11,W11=((((((w10.setCell ⟨g,i*6,none⟩ (.int .i64 c.client)).setCell ⟨g,i*6+1,none⟩ (.int .i64 c.seq)).setCell ⟨g,i*6+2,none⟩ (.int .i64 R.code)).setCell ⟨g,i*6+3,none⟩ (.int .i64 R.val.kind)).setCell ⟨g,i*6+4,none⟩ (.float .f64 R.val.num)).setCell ⟨g,i*6+5,none⟩ (.string R.val.text)):=⟨_,rfl⟩
 have hM11:Mod (fun k=>k=b∨k=g) w10 W11:=by
  rw[hW11]
  exact Mod.setCell (Mod.setCell (Mod.setCell (Mod.setCell (Mod.setCell (Mod.setCell (Mod.refl _ _) (.inr (.inr rfl)) _) (.inr (.inr rfl)) _) (.inr (.inr rfl)) _) (.inr (.inr rfl)) _) (.inr (.inr rfl)) _) (.inr (.inr rfl)) _
 have hA11:W11.heap[b]? = some (.cells #[.slice A7 L.length c7,.slice (some ⟨g,0,none⟩) N cap] 41 (0,0)):=by rw[hW11];simp[World.setCell,Array.getElem?_modify,hA10,ngb,nbg]
 have hB11:=hM11.blk hB10 (by omega)
 have hC11:=hM11.blk hC10 (by omega)
 have hD11:=hM11.blk hD10 (by omega)
 have hR11:=hM11.blk hR10 (by omega)
 have hK11:=xV hK10 hM11 (fun x hx e=>by have:=(Hpl.out x hx).1;rcases e with e|e;{ omega };{ exact hgf.2.2 (by rw[←e];exact hx) })
 have hX11:Ext w W11:=Mod.toExt ((Ext.mod hX10 (zD w.heap.size)).trans hM11 (fun k _ e=>by have:=Hb.out;have:=hgf.1;unfold zD;omega))
 have hRow11:Row W11 g 125 (flS a++(⟨c.client,c.seq,R⟩:zR).cells++(flS bb++cur.drop (N*6))):=by
  have h0:Row w10 g 125 (flS a++.int .i64 y.client :: .int .i64 y.seq :: .int .i64 y.reply.code :: .int .i64 y.reply.val.kind :: .float .f64 y.reply.val.num :: .string y.reply.val.text :: (flS bb++cur.drop (N*6))):=by
   have:=hRow
   rw[hcur,List.append_assoc] at this
   exact this
  have h1:=zmK (.int .i64 c.client) (.int .i64 c.seq) (.int .i64 R.code) (.int .i64 R.val.kind) (.float .f64 R.val.num) (.string R.val.text) (h0) hla
  rw[hW11,List.append_assoc]
  exact h1
 have hS11:zj0 w W11 (.slice (some ⟨g,0,none⟩) N cap) (a++(⟨c.client,c.seq,R⟩:zR) :: bb):=by
  refine ⟨?_,Hok.out,fun x hx=>?_⟩
  ·
   rw[hres]
   refine hRow11.own ?_ hnc hcm (htk2 _)
   rw[←hcl]
   conv=>rhs;rw[hcur]
   simp
  simp[Value.ownBlock] at hx
  subst hx
  have:=Hb.out
  omega
 have hNM:zn5 w W11 (.slice A7 L.length c7) (.slice (some ⟨g,0,none⟩) N cap) ⟨L,a++(⟨c.client,c.seq,R⟩:zR) :: bb⟩:=⟨zaQ hK11 (by have:=Hb.out;omega),hS11,fun x hx e=>by simp[Value.ownBlock] at e;subst e;exact hgf.2.2 hx⟩
 have hi0:(0:Int)≤(i:Int):=by omega
 have hi1:(i:Int)<(N:Int):=by omega
 obtain ⟨HW11,HA11,HC11,HD11,HR11,HNM,HX11,Hgf⟩:=hJ8 hW11 hA11 hC11 hD11 hR11 hNM hX11 hgf
 clear hRow hcl hnc hcm hcur hres htk2 hNi hla hA10 hB10 hC10 hD10 hR10 hK10 hX10 hgf hW11 hM11 hA11 hB11 hC11 hD11 hR11 hK11 hX11 hRow11 hS11 hNM
 go_wp2_with fail
 rw[←HW11.out]
 clear s0 s1 s2 s3 s4 s5 fs0 fs1 fs2 fs3 fs4 fs5 m0 m1 fm0 fm1 v0 v1 v2 v3 k0 k1 k2 k3 k4 k5 k6 k7 k8 k9 hi0 hi1 ngb nbg ngr nrg nb1 n1b hbr hrb'
 have m0:W11.cell? ⟨b,0,none⟩=some _:=zA HA11.out rfl
 have m1:W11.cell? ⟨b,1,none⟩=some _:=zA HA11.out rfl
 have g0:W11.cell? ⟨b+1+1,0,none⟩=some _:=zA HC11.out rfl
 have g1:W11.cell? ⟨b+1+1,1,none⟩=some _:=zA HC11.out rfl
 have fg0:W11.frozen? ⟨b+1+1,0,none⟩=false:=zB 0 HC11.out
 have fg1:W11.frozen? ⟨b+1+1,1,none⟩=false:=zB 1 HC11.out
 obtain ⟨q0,q1,q2,q3⟩:=cq4 HD11.out
 have fq0:W11.frozen? ⟨b+1+1+1,0,none⟩=false:=zB 0 HD11.out
 have fq1:W11.frozen? ⟨b+1+1+1,1,none⟩=false:=zB 1 HD11.out
 have fq2:W11.frozen? ⟨b+1+1+1,2,none⟩=false:=zB 2 HD11.out
 have fq3:W11.frozen? ⟨b+1+1+1,3,none⟩=false:=zB 3 HD11.out
 obtain ⟨v0,v1,v2,v3⟩:=cq4 HR11.out
 have d1:¬ rb=b+1+1:=by omega
 have d2:¬ rb=b+1+1+1:=by omega
 have d3:¬ b+1+1=rb:=by omega
 have d4:¬ b+1+1+1=rb:=by omega
 have d5:¬ b=b+1+1:=by omega
 have d6:¬ b+1+1=b:=by omega
 have d7:¬ b=b+1+1+1:=by omega
 have d8:¬ b+1+1+1=b:=by omega
 have hfin:Hid (∀ w',Mod (fun k=>k=b+1+1∨k=b+1+1+1) W11 w'→zbX w ⟨L,a++(⟨c.client,c.seq,R⟩:zR) :: bb⟩ R (.returned (.tuple #[.agg #[.slice A7 L.length c7,.slice (some ⟨g,0,none⟩) N cap],.agg #[.int .i64 R.code,.int .i64 R.val.kind,.float .f64 R.val.num,.string R.val.text]])) w'):=hJ (fun w' hm=>⟨_,_,rfl,yI HNM.out hm (fun g hg e=>by have:=(Hpl.out g hg).1;omega) (fun x hx e=>by simp[Value.ownBlock] at hx;subst hx;have:=Hgf.out.1;omega),Mod.toExt ((Ext.mod HX11.out (zD w.heap.size)).trans hm (fun k _ e=>by have:=Hb.out;unfold zD;omega))⟩)
 clear l0 l1 l2 l3 hrw6
 go_region_held3 (fun w'=>w'.cell? ⟨b,0,none⟩=some (.slice A7 L.length c7)∧w'.cell? ⟨b,1,none⟩=some (.slice (some ⟨g,0,none⟩) N cap)∧w'.cell? ⟨rb,0,none⟩=some (.int .i64 R.code)∧w'.cell? ⟨rb,1,none⟩=some (.int .i64 R.val.kind)∧w'.cell? ⟨rb,2,none⟩=some (.float .f64 R.val.num)∧w'.cell? ⟨rb,3,none⟩=some (.string R.val.text)) (go_keep) (fail)
 all_goals
  go_wp2_with fail
  refine bodyPost_ret (v:=.tuple #[.agg #[.slice A7 L.length c7,.slice (some ⟨g,0,none⟩) N cap],.agg #[.int .i64 R.code,.int .i64 R.val.kind,.float .f64 R.val.num,.string R.val.text]]) (by simp[results,Tryz.results173,go_sem,m0,m1,g0,g1,q0,q1,q2,q3]) rfl (hfin.out _ ?_)
  repeat (with_reducible (first|refine Mod.drew ?_|exact Mod.refl _ _|refine Mod.setCell ?_ (.inr (.inl rfl)) _|refine Mod.setCell ?_ (.inr (.inr rfl)) _))
theorem srt_len:∀ (l:List zR) (k:Int),zn6 l→(∀ s∈l,k≤s.client∧s.client≤4)→k≤5→(l.length:Int)≤5-k:=by
 intro l
 induction l with
 | nil=>intro k _ _ hk;simp;omega
 | cons s l ih=>
  intro k h1 h2 hk
  obtain ⟨p1,p2⟩:=List.pairwise_cons.1 h1
  have h3:=h2 s (by simp)
  have:=ih (k+1) p2 (fun t ht=>⟨by have:=p1 t ht;omega,(h2 t (by simp[ht])).2⟩) (by omega)
  rw[List.length_cons]
  omega
theorem zeO {l:List zR} (h:zgM l=true):zn6 l∧(∀ s∈l,1≤s.client∧s.client≤4)∧l.length≤4:=by
 obtain ⟨h1,h2⟩:=(zaH l).1 h
 have h3:∀ s∈l,1≤s.client∧s.client≤4:=fun s hs=>by
  have:=h1 s hs
  unfold zaE zeX at this
  simp only[Bool.and_eq_true,decide_eq_true_iff] at this
  omega
 exact ⟨h2,h3,by have:=srt_len l 1 h2 h3 (by omega);omega⟩
theorem zqZ {c:zW} (h:yX c=0):zeX c.client c.seq=true∧zcP c.cmd=0∧1≤c.client∧c.client≤4∧1≤c.seq∧c.seq≤1099511627776:=by
 have hn:zeX c.client c.seq=true:=by
  rcases hn:zeX c.client c.seq with _|_
  · rw[zaT hn] at h;cases h
  rfl
 refine ⟨hn,by rw[zb3 hn] at h;exact h,?_⟩
 unfold zeX at hn
 simp only[Bool.and_eq_true,decide_eq_true_iff] at hn
 omega
theorem s_do (w:World) (T U:Nat→Prop) (pv v:Value) (p:List zJ) (l:List zR) (c:zW) (hP:Prs w U pv p) (h:Ses w T v l) (hp:p.length≤1000000) (hl:l.length≤1000000) (hcv:c.cmd.val.ok):
  Calls Tryz.prog 173 #[.agg #[pv,v],.agg #[.int .i64 c.client,.int .i64 c.seq,.int .i64 c.cmd.kind,.string c.cmd.key,.int .i64 c.cmd.old.kind,.float .f64 c.cmd.old.num,.string c.cmd.old.text,.int .i64 c.cmd.val.kind,.float .f64 c.cmd.val.num,.string c.cmd.val.text]] w (zbX w (zdB ⟨p,l⟩ c).1 (zdB ⟨p,l⟩ c).2):=by
 unfold zdB
 by_cases hc:yX c=0
 case neg=>rw[if_pos hc];exact s_do_arg w T U pv v p l c hP h hp hl hc
 rw[if_neg (by simpa using hc)]
 rcases hm:jU ⟨p,l⟩ with _|_
 · rw[if_pos rfl];exact s_do_bad w T U pv v p l c hP h hp hl hc hm
 rw[if_neg (by simp)]
 rcases hla:yJ l c.client with ⟨n,r⟩
 simp only
 by_cases he:c.seq=n
 · rw[if_pos he];exact zqV w T U pv v p l c hP h hp hl hc hm n r hla (hJ he)
 rw[if_neg he]
 by_cases hlt:c.seq<n
 · rw[if_pos hlt];exact zqU w T U pv v p l c hP h hp hl hc hm n r hla hlt
 rw[if_neg hlt]
 have hlt2:n<c.seq:=by omega
 rcases hr:doP p c.cmd with ⟨L,R⟩
 simp only
 have hm2:=hm
 unfold jU at hm2
 rw[Bool.and_eq_true] at hm2
 obtain ⟨hs1,hs2,hs3⟩:zn6 l∧(∀ s∈l,1≤s.client∧s.client≤4)∧l.length≤4:=zeO hm2.2
 obtain ⟨hn,hce,hk1,hk2,hk3,hk4⟩:=zqZ hc
 have hR:R.ok:=by
  have h1:=zmH hce hm2.1
  have h2:=zqW hP.2 hcv
  rw[hr] at h1 h2
  exact ⟨by unfold I64;simp only at h1;omega,h2⟩
 have hx:(⟨c.client,c.seq,R⟩:zR).ok:=⟨by unfold I64;simp only;omega,by unfold I64;simp only;omega,hR⟩
 obtain ⟨a,b,e,h1,h2|⟨y,b',e2,hy,h2⟩⟩:=splitS hs1 c.client
 ·
  rw[e,zmF _ a b h1 h2]
  refine zqX w T U pv v p l c hP h hp hl hc hm n r hla (hJ hlt2) hcv L R hr a b a.length (hJ rfl) (by omega) (hJ fun s hs=>?_) (hJ e.symm) (hJ ?_)
  ·
   rcases List.mem_append.1 hs with h3|h3
   · exact h.2 s (by rw[e];simp[h3])
   rcases List.mem_cons.1 h3 with rfl|h3
   · exact hx
   exact h.2 s (by rw[e];simp[h3])
  rw[e]
  exact znU h1 h2 (fun s hs=>by have:=hs2 s (by rw[e];exact hs);omega)
 subst e2
 rw[e,zmG _ y a b' hy h1 h2]
 refine zqY w T U pv v p l c hP h hp hl hc hm n r hla (hJ hlt2) hcv L R hr a b' a.length (hJ rfl) (by omega) (hJ fun s hs=>?_) y (hJ e.symm) (hJ ?_)
 ·
  rcases List.mem_append.1 hs with h3|h3
  · exact h.2 s (by rw[e];simp[h3])
  rcases List.mem_cons.1 h3 with rfl|h3
  · exact hx
  exact h.2 s (by rw[e];simp[h3])
 rw[e]
 exact znV hy h1 h2 (fun s hs=>by have:=hs2 s (by rw[e];exact hs);omega)
end Go.Proofs.YtjbkjhhjofeldaaGreat
