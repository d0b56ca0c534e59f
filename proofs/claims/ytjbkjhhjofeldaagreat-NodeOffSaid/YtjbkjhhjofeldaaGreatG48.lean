/-
 Layer 22 (node): stable.Open and node.Open on a disk that is empty. Conditions: as each theorem names them.
-/
import Derived.Test.YtjbkjhhjofeldaaGreatG31
import Derived.Test.YtjbkjhhjofeldaaGreatG47
set_option maxRecDepth 100000
set_option maxHeartbeats 2000000
namespace Go.Proofs.YtjbkjhhjofeldaaGreat
set_option linter.unusedSimpArgs false
set_option linter.unusedVariables false
open Go.RowKit
theorem st_open0 (w:World) (T:Nat→Prop) (d:Nat) (fi:zX) (sv lv fv:Value) (D D':zU) (hD:Dsk w d fv D) (hv:xP w T sv lv fi) (hl:fi.log.length≤12700) (hoff:D.off=false) (hf:D.file=[]) (hri:Right fi) (ha:zc7 D fi=(D',0)):
    Calls Tryz.prog 62 #[.pointer (some ⟨d,0,none⟩),.agg #[.int .i64 fi.term,.int .i64 fi.vote,.int .i64 fi.base,.int .i64 fi.baseTerm,.int .i64 fi.conf.full,.int .i64 fi.conf.wit,.int .i64 fi.conf.learn,.int .i64 fi.conf.learnWit,sv,lv]] w (OpenO w d fv (D',some fi,0)):=by
 obtain ⟨W,hW⟩:∃ W,w.alloc (.cells (fi.cells sv lv).toArray 61)=W:=⟨_,rfl⟩
 have hE:Ext w W:=by rw[←hW];exact (Mod.refl _ w).alloc _
 have hA:W.heap[w.heap.size]? = some (.cells (fi.cells sv lv).toArray 61 (0,0)):=by rw[←hW];exact heap_alloc_new w _
 obtain ⟨b,hb⟩:∃ b,w.heap.size=b:=⟨_,rfl⟩
 rw[hb] at hA
 obtain ⟨HW,HE,HA,HD,Hb,Hv⟩:=hJ6 hW hE hA hD hb hv
 have hll:fi.log.length≤1000000:=by omega
 obtain ⟨Hl,Hll,Hri,Ha,Hf⟩:=hJ5 hl hll hri ha hf
 have hfo:=hv.forms
 clear hW hE hA hD hb hv hl hll hri ha hf
 obtain ⟨As,cs,Al,cl,rfl,rfl⟩:=hfo
 obtain ⟨sl,hsl⟩:∃ n,fi.snap.length=n:=⟨_,rfl⟩
 obtain ⟨ll,hll⟩:∃ n,fi.log.length=n:=⟨_,rfl⟩
 rw[hsl,hll] at Hv HW HA ⊢
 clear hsl hll
 go_enter Tryz.func62,Tryz.ntmps62
 go_wp2_with fail
 rw[HW.out,Hb.out]
 refine (d_read W d fv D (HD.out.ext HE.out) hoff).mono ?_
 rintro e w1 ⟨v1,rfl,hN1,hX1⟩
 have HA1:=hJ (hX1.blk HA.out id)
 have HX1:=hJ (HE.out.ext hX1)
 obtain ⟨A1,c1,rfl⟩:=zC hN1.1
 rw[show D.file.length=0 by rw[Hf.out];rfl]
 clear hN1 hX1 hoff
 have hld:=ld0 (P:=Tryz.prog) (cs:=fi.cells (.slice As sl cs) (.slice Al ll cl)) yF HA1.out
 go_wp2_with (refine yT rfl 61 _ rfl _ _ rfl hld ?_)
 clear hld
 refine (zdY w1 T fi _ _ (Hv.out.mod HX1.out (fun _ _=>id)) Hll.out).mono ?_
 rintro e w2 ⟨rfl,hX2⟩
 have HA2:=hJ (hX2.blk HA1.out id)
 have HX2:=hJ (HX1.out.ext hX2)
 clear hX2 HA1
 rw[(jM fi).2 Hri.out,if_pos rfl]
 have hld:=ld0 (P:=Tryz.prog) (cs:=fi.cells (.slice As sl cs) (.slice Al ll cl)) yF HA2.out
 go_wp2_with (refine yT rfl 61 _ rfl _ _ rfl hld ?_)
 clear hld
 refine (zkS w2 T fi _ _ (Hv.out.mod HX2.out (fun _ _=>id)) Hll.out (by have:=Hri.out.s;omega)).mono ?_
 rintro e w3 ⟨gs,gl,rfl,hN3,hX3⟩
 have HA3:=hJ (hX3.blk HA2.out id)
 have HX3:=hJ (HX2.out.ext hX3)
 have HN3:=hJ (hN3.up HX2.out)
 clear hX3 hN3 HA2
 obtain ⟨s,hs⟩:∃ s,w3.heap.size=s:=⟨_,rfl⟩
 obtain ⟨W4,hW4⟩:∃ W4,w3.alloc (.cells (jJ d fi gs gl).toArray 198)=W4:=⟨_,rfl⟩
 have hE4:Ext w3 W4:=by rw[←hW4];exact (Mod.refl _ w3).alloc _
 have hS4:StB W4 s d fi gs gl:=by unfold StB;rw[←hW4,←hs];exact heap_alloc_new w3 _
 have HA4:=hJ (hE4.blk HA3.out id)
 have HX4:=hJ (HX3.out.ext hE4)
 have HN4:=hJ (HN3.out.ext hE4)
 have Hsw:Hid (w.heap.size≤s):=hJ (by rw[←hs];exact HX3.out.size)
 obtain ⟨HS4,Hs,HW4⟩:=hJ3 hS4 hs hW4
 clear hs hW4 hE4 hS4 HA3 HX3 HN3
 have hld:=ld0 (P:=Tryz.prog) (cs:=fi.cells (.slice As sl cs) (.slice Al ll cl)) yF HA4.out
 go_wp2_with (rw[HW4.out,Hs.out];refine yT rfl 61 _ rfl _ _ rfl hld ?_)
 clear hld
 refine (zkV W4 T s d fi fi gs gl _ _ fv D HS4.out (HD.out.ext HX4.out) (Hv.out.mod HX4.out (fun _ _=>id)) Hri.out Hl.out).mono ?_
 rintro e w5 ⟨rfl,hM5⟩
 rw[Ha.out] at hM5 ⊢
 have HF:=hJ (open_fin (c:=0) Hsw.out HS4.out HN4.out HX4.out HD.out hM5)
 clear hM5
 go_wp2_with fail
 refine (zo9 w5 _ 0).mono ?_
 rintro e w6 ⟨rfl,rfl⟩
 rw[if_pos rfl]
 have HF2:=HF.out
 simp only[if_true] at HF2
 have HF3:=hJ HF2
 clear HF2
 go_wp2
 go_ret2
 exact HF3.out
def zkD (fi:zX) (D':zU):yB:=⟨za6 fi,[],⟨[],[]⟩,0,[],[],[],fi,D'⟩
theorem zrB (w0 w:World) (T:Nat→Prop) (d:Nat) (fi:zX) (sv lv:Value) (D D':zU) (h0:w0.heap.size≤w.heap.size) (hd0:w0.heap.size≤d) (hD:Dsk w d (.slice none 0 0) D) (hv:xP w T sv lv fi) (hoff:D.off=false) (hf:D.file=[]) (hri:Right fi) (hl:zdL fi) (hb0:fi.base=0) (hll:fi.log.length≤12700) (ha:zc7 D fi=(D',0)):
  Calls Tryz.prog 23 #[.int .i64 0,.bool false,.pointer (some ⟨d,0,none⟩),.agg (fi.cells sv lv).toArray] w fun e w'=>∃ n V,e=.returned (.tuple #[.pointer (some ⟨n,0,none⟩),.int .i64 0])∧yD w0 w' n V (zkD fi D')∧V.wv=.slice none 0 0∧V.tv=.slice none 0 0∧V.d=d∧Mod (fun k=>k=d) w w':=by
 obtain ⟨As,cs,Al,cl,hs1,hs2⟩:=hv.forms
 obtain ⟨b,hb⟩:∃ b,w.heap.size=b:=⟨_,rfl⟩
 have hop:=fun W (hE:Ext w W)=>st_open0 W T d fi sv lv (.slice none 0 0) D D' (hD.ext hE) (hv.mod hE (fun _ _=>id)) hll hoff hf hri ha
 obtain ⟨Hop,H0,Hd0⟩:=hJ3 hop h0 hd0
 have Hdl:=hJ hD.lt
 obtain ⟨Hri,Hl,Hb0⟩:=hJ3 hri hl hb0
 have Hone:=hJ (show ∀ u∈fi.cells sv lv,u.oneCell'=true from by rw[hs1,hs2];simp[Value.oneCell'])
 clear hop hD hv hoff hf hri hl hb0 hll ha h0 hd0 hs1 hs2
 go_enter Tryz.func23,Tryz.ntmps23
 go_upto_region 1 with fail
 obtain ⟨W1,hW1⟩:∃ W,w.alloc (.cells (fi.cells sv lv).toArray 61)=W:=⟨_,rfl⟩
 have hE1:Ext w W1:=hW1▸(Mod.refl _ w).alloc _
 have hb1:W1.heap[b]? = some (.cells (fi.cells sv lv).toArray 61 (0,0)):=hb▸hW1▸zI _ _
 rw[hW1]
 clear hW1
 obtain ⟨HE1,Hb1⟩:=hJ2 hE1 hb1
 clear hE1 hb1
 go_upto_region 4 with (first
  | (refine zK ?_;refine lD 61 b 0 (ld0 (cs:=fi.cells sv lv) yF Hb1.out) ?_)
  | (go_at_call 62;refine (Hop.out _ HE1.out).mono ?_;rintro e w2 ⟨fv,hD2,hM2,hf2,s,gs,gl,rfl,-,hS2,hN2,ha2,hs2⟩))
 have hM2':Mod (fun k=>k=d) w w2:=(HE1.out.mod _).trans hM2 (fun k _ e=>e.elim id (fun e=>by simp[Value.ownBlock] at e))
 have hfv:∀ k,fv.ownBlock=some k→w.heap.size≤k:=fun k hk=>(hf2 k hk).elim (fun e=>by simp[Value.ownBlock] at e) (fun e=>Nat.le_trans HE1.out.size e)
 obtain ⟨HD2,HM2,Hf2,HS2⟩:=hJ4 hD2 hM2' hfv hS2
 have HN2:=hJ (hN2.up HE1.out)
 have Ha2:=hJ ha2
 have Hs2:=hJ (Nat.le_trans HE1.out.size hs2)
 have Hl2:=hJ (show (∀ k,fv.ownBlock=some k→k<w2.heap.size) from fun k hk=>za0 hD2.2.1 hk)
 clear hD2 hM2 hM2' hf2 hfv hS2 hN2 ha2 hs2
 have hha:=fun W (hE:Ext w2 W)=>st_hard W _ s d fi gs gl (hE.blk HS2.out id) (HN2.out.ext hE).mem (by have:=Hl.out.few;omega) (by have:=Hri.out.s;omega)
 have Hha:=hJ hha
 clear hha
 go_upto_region 7 with (first
  | (go_at_call 64;refine (Hha.out _ (Mod.refl _ _)).mono ?_;rintro e w3 ⟨sv3,lv3,rfl,hN3,hE3⟩;have HN3:=hJ hN3;have HE3:=hJ hE3;clear hN3 hE3)
  | (go_at_call 63;refine (r_New fi sv3 lv3 w3 _ HN3.out.mem Hri.out Hl.out).mono ?_;rintro e w4 ⟨sv4,lv4,rfl,hF4,hE4⟩;obtain ⟨A4,n4,c4,rfl⟩:∃ A n c,sv4=.slice A n c:=⟨_,_,zC hF4.hard.1.1 |>.choose_spec⟩;obtain ⟨B4,m4,d4,rfl⟩:∃ A n c,lv4=.slice A n c:=⟨_,_,zC hF4.hard.2.1 |>.choose_spec⟩;have HF4:=hJ (hF4.up HE3.out);have HE4:=hJ (HE3.out.ext hE4);clear hF4 hE4)
  | (refine zF ?_;refine stQ rfl 65 _ _ rfl 40 w4.heap.size 0 (.agg ((za6 fi).cells (.slice A4 n4 c4) (.slice B4 m4 d4) (.slice none 0 0)).toArray) ((za6 fi).cells (.slice A4 n4 c4) (.slice B4 m4 d4) (.slice none 0 0)) yA.2 _ rZ ((za6 fi).cells (.slice A4 n4 c4) (.slice B4 m4 d4) (.slice none 0 0)) (zI w4 _) rfl ?_;intro W5 hbW5 hmW5 hsW5))
 obtain ⟨q,hq⟩:∃ q,w4.heap.size=q:=⟨_,rfl⟩
 have hE5:Ext w4 W5:=Mod.toExt (((Mod.refl (zD w4.heap.size) w4).alloc _).trans hmW5 (fun k _ e=>by unfold zD;omega))
 first|rw[hq] at hbW5⊢| rw[hq] at hbW5
 have Hb5:=hJ hbW5
 have HE5:=hJ (HE4.out.ext hE5)
 have HF5:=hJ (show xQ w2 W5 (.slice A4 n4 c4) (.slice B4 m4 d4) (.slice none 0 0) (za6 fi) [] from ⟨HF4.out.hard.ext hE5,HF4.out.reads.ext hE5⟩)
 clear hbW5 hmW5 hsW5 hE5 hq
 go_upto_region 10 with (refine zK ?_;refine lD 65 q 0 (yY Hb5.out) ?_)
 obtain ⟨n,hn⟩:∃ n,W5.heap.size=n:=⟨_,rfl⟩
 obtain ⟨V,hV⟩:∃ V:NV,V=⟨s,d,fv,gs,gl,.slice A4 n4 c4,.slice B4 m4 d4,.slice none 0 0,.slice none 0 0,.slice none 0 0,.slice none 0 0,.slice none 0 0,.slice none 0 0⟩:=⟨_,rfl⟩
 obtain ⟨W6,hW6⟩:∃ W,W5.alloc (.cells #[.pointer (some ⟨s,0,none⟩),.bool false,.bool false,.int .i64 (za6 fi).id,.int .i64 (za6 fi).hard.term,.int .i64 (za6 fi).hard.vote,.int .i64 (za6 fi).hard.base,.int .i64 (za6 fi).hard.baseTerm,.int .i64 (za6 fi).hard.conf.full,.int .i64 (za6 fi).hard.conf.wit,.int .i64 (za6 fi).hard.conf.learn,.int .i64 (za6 fi).hard.conf.learnWit,.slice A4 n4 c4,.slice B4 m4 d4,.int .i64 (za6 fi).commit,.int .i64 (za6 fi).role,.int .i64 (za6 fi).lead,.int .i64 (za6 fi).wait,.int .i64 (za6 fi).quiet,.int .i64 (za6 fi).votes,.int .i64 (za6 fi).round,.int .i64 (za6 fi).next.x0,.int .i64 (za6 fi).next.x1,.int .i64 (za6 fi).next.x2,.int .i64 (za6 fi).next.x3,.int .i64 (za6 fi).next.x4,.int .i64 (za6 fi).next.x5,.int .i64 (za6 fi).next.x6,.int .i64 (za6 fi).mtch.x0,.int .i64 (za6 fi).mtch.x1,.int .i64 (za6 fi).mtch.x2,.int .i64 (za6 fi).mtch.x3,.int .i64 (za6 fi).mtch.x4,.int .i64 (za6 fi).mtch.x5,.int .i64 (za6 fi).mtch.x6,.int .i64 (za6 fi).silent.x0,.int .i64 (za6 fi).silent.x1,.int .i64 (za6 fi).silent.x2,.int .i64 (za6 fi).silent.x3,.int .i64 (za6 fi).silent.x4,.int .i64 (za6 fi).silent.x5,.int .i64 (za6 fi).silent.x6,.slice none 0 0,.slice none 0 0,.slice none 0 0,.int .i64 0,.slice none 0 0,.slice none 0 0,.slice none 0 0] 112)=W:=⟨_,rfl⟩
 rw[hW6,hn]
 have hE56:Ext W5 W6:=hW6▸(Mod.refl _ W5).alloc _
 have hE6:=HE5.out.ext hE56
 have hN6:yD w0 W6 n V (zkD fi D'):=by
  have hn6:W6.heap[n]? = some (.cells (yE false V (zkD fi D')).toArray 112 (0,0)):=by rw[←hn,←hW6,hV];exact zI _ _
  have hz:∀ {e:TypeId} {k:Nat},zb7 e k w0 W6 (.slice none 0 0) 0 []:=⟨World.ownsRow_nil _ _ _ _,by simp[Value.ownBlock]⟩
  subst hV
  refine ⟨⟨hE6.blk HS2.out id,HD2.out.ext hE6,?_,?_,⟨World.ownsRow_nil _ _ _ _,by simp[zkD],by simp[Value.ownBlock]⟩,⟨World.ownsRow_nil _ _ _ _,by simp[zkD],by simp[Value.ownBlock]⟩,hz,?_,⟨by have:=HE5.out.size;have:=HM2.out.size;have:=H0.out;omega,Nat.le_trans H0.out Hs2.out,Hd0.out⟩⟩,hn6,hz,hz⟩
  · have h:=HN2.out.ext hE6
    exact ⟨⟨h.1.1,fun g hg=>Nat.le_trans H0.out (h.1.2 g hg)⟩,jH h.2 H0.out⟩
  · have h:=HF5.out.hard.ext hE56
    have hs:=Nat.le_trans H0.out HM2.out.size
    exact ⟨⟨⟨h.1.1,fun g hg=>Nat.le_trans hs (h.1.2 g hg)⟩,jH h.2 hs⟩,hz⟩
  · intro k hk
    exact ⟨Nat.le_trans H0.out (Hf2.out k hk),fun e=>Ha2.out k e hk,fun e=>by
     have h1:=HF5.out.hard.1.2 k e
     have h2:=Hl2.out k hk
     omega⟩
 have hVw:V.wv=.slice none 0 0:=by rw[hV]
 have hVt:V.tv=.slice none 0 0:=by rw[hV]
 have hVd:V.d=d:=by rw[hV]
 have hba:=ziS w0 W6 n V (zkD fi D') hN6 (by show fi.base≤0;rw[Hb0.out];exact Int.le_refl _)
 obtain ⟨Hba,HN6,HE6⟩:=hJ3 hba hN6 hE6
 have HV:=hJ (And.intro hVw (And.intro hVt hVd))
 clear hba hN6 hE6 hE56 hW6 hV hVw hVt hVd hn
 go_upto_region 11 with (go_at_call 65;refine Hba.out.mono ?_;rintro e w7 ⟨rfl,hE7⟩)
 have HF:=hJ (show yD w0 w7 n V (zkD fi D')∧V.wv=.slice none 0 0∧V.tv=.slice none 0 0∧V.d=d∧Mod (fun k=>k=d) w w7 from ⟨HN6.out.ext hE7,HV.out.1,HV.out.2.1,HV.out.2.2,HM2.out.trans (HE6.out.ext hE7) (fun k _ h=>h.elim)⟩)
 clear hE7
 go_wp2_with fail
 first|(go_end0;exact ⟨n,V,rfl,HF.out⟩)|(go_ret2;exact ⟨n,V,rfl,HF.out⟩)|(go_ret;exact ⟨n,V,rfl,HF.out⟩)
section
variable {w w':World} {N s d:Nat} {fv gs gl:Value} {D:zU} {g:zX}
end
def jL (c:jB):zX:=⟨0,-1,0,0,c,[],[]⟩
theorem zrC (w:World) (T:Nat→Prop) (c:jB):xP w T (.slice none 0 0) (.slice none 0 0) (jL c):=⟨Sl.nil _ _ _,Sl.nil _ _ _,by simp[jL]⟩
def zkE (i:Int):zS:=⟨0,jL C1,0,0,-1,6-i,i,0,0,⟨0,0,0,0,0,0,0⟩,⟨0,0,0,0,0,0,0⟩,⟨0,0,0,0,0,0,0⟩⟩
theorem zaR:Right (jL C1):=⟨by decide,by decide,by decide,by decide,by decide,by decide,by decide,by decide,rfl,by decide +kernel,by decide,.inr rfl,by show zdX _ _ []=true;rw[zdX]⟩
theorem ze8:zdL (jL C1):=⟨⟨rfl,fun _ h=>by cases h⟩,by show (0:Nat)≤_;omega,by show (0:Int)≤0∧(0:Int)≤_;omega⟩
theorem ze9 {i:Int} (h0:0≤i) (h1:i≤6):zbF (zkE i) [] where
  hard:=zaR
  few:=by show (0:Nat)≤_;omega
  id:=by show (0:Int)≤0∧(0:Int)≤6;omega
  base:=by show (0:Int)≤0;omega
  commit:=by show (0:Int)≤0+((0:Nat):Int);omega
  role:=by show (0:Int)≤0∧(0:Int)≤3;omega
  lead:=by show (-1:Int)≤-1∧(-1:Int)<7;omega
  wait:=by show 0≤6-i∧6-i≤100;omega
  quiet:=by show 0≤i∧i≤1099511627776;omega
  round:=by show (0:Int)≤0∧(0:Int)≤1099511627776;omega
  votes:=by show (0:Int)≤0∧(0:Int)≤127;omega
  next:=by
    intro x hx
    have hx:x∈[(0:Int),0,0,0,0,0,0]:=hx
    simp only[List.mem_cons,List.not_mem_nil,or_false,or_self] at hx
    omega
  mtch:=by
    intro x hx
    have hx:x∈[(0:Int),0,0,0,0,0,0]:=hx
    simp only[List.mem_cons,List.not_mem_nil,or_false,or_self] at hx
    have hl:(zkE i).last=0:=rfl
    omega
  silent:=by
    intro x hx
    have hx:x∈[(0:Int),0,0,0,0,0,0]:=hx
    simp only[List.mem_cons,List.not_mem_nil,or_false,or_self] at hx
    omega
  asks:=Nat.zero_le _
  ask:=fun _ h=>by cases h
  rule:=fun h=>absurd rfl h
  own:=fun h=>absurd h (by show ¬ (0:Int)=3;omega)
theorem zfI {i:Int} (h0:0≤i) (h1:i≤6):zgI (zkE i):=
  ⟨ze9 h0 h1,ze8,by show (0:Nat)<_;omega,rfl,rfl,by show (0:Int)<_;omega,by show (0:Int)<_;omega,by show i<_;omega⟩
def zrD:zS:=(zkE 5).asked.stood.led
theorem zrE:(zcK 1).ok:=zpP (by show (-9223372036854775808:Int)≤1∧(1:Int)≤9223372036854775807;omega)
theorem znY:jQ (zcK 1)=true:=by decide +kernel
theorem zg0:zaD zrD:=by
  have hR:=ze9 (i:=5) (by omega) (by omega)
  have hH:Right zrD.hard:=(zaR.voted (by show (0:Int)<_;omega)).put znY rfl (by show (1:Int)≤0+1;omega)
  have hl:zrD.last=1:=rfl
  exact {
    right:={
      hard:=hH
      few:=by show (1:Nat)≤_;omega
      id:=by show (0:Int)≤0∧(0:Int)≤6;omega
      base:=by show (0:Int)≤1;omega
      commit:=by rw[hl];show (1:Int)≤1;omega
      role:=by show (0:Int)≤3∧(3:Int)≤3;omega
      lead:=by show (-1:Int)≤0∧(0:Int)<7;omega
      wait:=by show (0:Int)≤6∧(6:Int)≤100;omega
      quiet:=by show (0:Int)≤0∧(0:Int)≤1099511627776;omega
      round:=by show (0:Int)≤1∧(1:Int)≤1099511627776;omega
      votes:=by show (0:Int)≤0∧(0:Int)≤127;omega
      next:=by
        intro x hx
        have hx:x∈[(1:Int),1,1,1,1,1,1]:=hx
        simp only[List.mem_cons,List.not_mem_nil,or_false,or_self] at hx
        omega
      mtch:=by
        intro x hx
        rw[hl]
        have hx:x∈[(1:Int),0,0,0,0,0,0]:=hx
        simp only[List.mem_cons,List.not_mem_nil,or_false,or_self] at hx
        omega
      silent:=by
        intro x hx
        have hx:x∈[(0:Int),0,0,0,0,0,0]:=hx
        simp only[List.mem_cons,List.not_mem_nil,or_false,or_self] at hx
        omega
      asks:=Nat.zero_le _
      ask:=fun _ h=>by cases h
      rule:=fun h=>absurd rfl h
      own:=fun _=>rfl }
    lone:=⟨⟨rfl,fun x hx=>by rw[List.mem_singleton.1 (show x∈[zcK 1] from hx)];show (0:Int)≠2;decide⟩,by show (1:Nat)≤_;omega,by show (0:Int)≤0∧(0:Int)≤_;omega⟩
    oks:=fun x hx=>by rw[List.mem_singleton.1 (show x∈[zcK 1] from hx)];exact zrE
    id:=rfl
    role:=rfl
    all:=rfl
    tat:=.inr ⟨0,zcK 1,rfl,rfl,rfl⟩
    t1:=by show (1:Int)≤1;omega
    m:=rfl }
structure Waits (N:yB) (i:Nat):Prop where
  r:N.r=zkE i
  rd:N.rds=[]
  w:N.waits=[]
  ap:N.applied=0
  m:N.mach=⟨[],[]⟩
  g:N.g=jL C1
  on:On N.dk 0
  t:N.told=[]
  d:N.done=[]
def zlH (N N5:yB):Prop:=∀ (w0 w:World) (n:Nat) (V:NV),w0.heap.size≤w.heap.size→yD w0 w n V N→(N.waits=[]→V.wv=.slice none 0 0)→Calls Tryz.prog 25 #[.pointer (some ⟨n,0,none⟩)] w (zfK w0 w n V (fun _=>False) N5)
theorem zd3:(jL C1).enc.length≤16000:=zbL zaR (fun _ h=>by cases h) (by show (0:Nat)≤_;omega) (by show (0:Nat)≤_;omega)
theorem zrF {N:yB} {i:Nat} (h:Waits N i) (hi:i<5):∃ N5,Waits N5 (i+1)∧zlH N N5:=by
  obtain ⟨D',hs,hO⟩:=zgO (g:=jL C1) h.on zaR (Int.le_refl _) (Int.le_refl _) zd3
  have hr:=h.r
  have ht:(zkE i).ticked=zkE ((i+1:Nat):Int):=by
    show (⟨0,jL C1,0,0,-1,6-(i:Int)-1,(i:Int)+1,0,0,⟨0,0,0,0,0,0,0⟩,⟨0,0,0,0,0,0,0⟩,⟨0,0,0,0,0,0,0⟩⟩:zS)=⟨0,jL C1,0,0,-1,6-((i+1:Nat):Int),((i+1:Nat):Int),0,0,⟨0,0,0,0,0,0,0⟩,⟨0,0,0,0,0,0,0⟩,⟨0,0,0,0,0,0,0⟩⟩
    rw[show 6-(i:Int)-1=6-((i+1:Nat):Int) by omega,show (i:Int)+1=((i+1:Nat):Int) by omega]
  refine ⟨{ N with r:=N.r.ticked,rds:=[],g:=N.r.hard,dk:=D' },⟨by rw[←ht,←hr],rfl,h.w,h.ap,h.m,by show N.r.hard=_;rw[hr];rfl,hO,h.t,h.d⟩,fun w0 w n V h0 hN hwv=>?_⟩
  have hh:N.r.hard=jL C1:=by rw[hr];rfl
  refine znG w0 w n V N D' h0 hN hwv (by rw[hr];exact zfI (by omega) (by omega)) (by rw[hr];show 1<6-(i:Int)∧6-(i:Int)≤100;omega) h.rd h.w (by rw[h.g,hh];exact hs) (by rw[h.g];show (0:Nat)≤_;omega) (by rw[hh];show (0:Nat)≤_;omega) (by rw[h.ap,hr];rfl) (by rw[h.ap];omega) (by rw[h.ap,hh];show (0:Int)≤0;omega) (by rw[h.ap,hh];show (0:Int)≤0+16;omega) (by rw[hh];show (0:Int)≤0∧(0:Int)≤_;omega) (by rw[hr,ht];exact ze9 (by omega) (by omega))
theorem zrG:zrD.hard.enc.length≤16000:=zbL zg0.right.hard zg0.oks (by show (1:Nat)≤_;omega) (by show (0:Nat)≤_;omega)
theorem zrH {N:yB} (h:Waits N 5):∃ N5,(za3 N5 0∧N5.mach=⟨[],[]⟩∧N5.told=[]∧N5.done.length=1∧N5.r.last=1)∧zlH N N5:=by
  have hr:N.r=zkE 5:=h.r
  have hL:=zg0
  have hrd:N.r.asked.stood.led=zrD:=by rw[hr];rfl
  obtain ⟨D',hs,hO⟩:=zgO (g:=jL C1) h.on hL.right.hard (by show (0:Int)≤1;omega) (by show (0:Int)≤0;omega) zrG
  obtain ⟨N3,hN3⟩:∃ N3:yB,N3={ N with r:=zrD,rds:=[],g:=zrD.hard,dk:=D',applied:=1,waits:=[],done:=N.done++[⟨1,zcK 1⟩] }:=⟨_,rfl⟩
  have e1:N3.r=zrD:=by rw[hN3]
  have e2:N3.rds=[]:=by rw[hN3]
  have e3:N3.applied=1:=by rw[hN3]
  refine ⟨N3,⟨⟨by rw[e1];exact hL,e2,by rw[hN3],by rw[e1,e3];rfl,by rw[hN3];show jU N.mach=true;rw[h.m];decide +kernel,by rw[hN3],by rw[hN3];exact hO,by rw[e1];show (1:Nat)≤16;omega,by rw[e1];show (0:Nat)≤_;omega,by rw[e1];show (1:Int)≤((0:Nat):Int)+1;omega,by rw[e1];show (0:Int)≤1∧(1:Int)<_;omega,by rw[hN3];show N.told.length≤0;rw[h.t];exact Nat.le_refl _,by rw[hN3];show (N.done++[_]).length≤0+1;rw[h.d];exact Nat.le_refl _⟩,by rw[hN3];exact h.m,by rw[hN3];exact h.t,by rw[hN3];show (N.done++[_]).length=1;rw[h.d];rfl,by rw[e1];rfl⟩,fun w0 w n V h0 hN hwv=>?_⟩
  have hf:zgI N.r:=by rw[hr];exact zfI (by omega) (by omega)
  have hw1:N.r.wait=1:=by rw[hr];rfl
  refine znH w0 w n V N N3 N3 zrD D' h0 hN hwv h.rd (fun W T hm=>by rw[←hrd];exact zpQ N.r V.sv V.lv V.rv W T hm hf hw1) (by rw[h.g];exact hs) (by show (1:Nat)≤_;omega) (by rw[h.g];show (0:Nat)≤_;omega) (by show (0:Nat)≤_;omega) (by rw[h.ap];show (0:Int)≤0;omega) ?_ (by rw[e1];rfl) (zdC w0 n N3 (by rw[e1,e2];exact hL.right) (by rw[e1];exact hL.lone) e2) (za7 w0 n N3 (by rw[e1,e3];show (1:Int)≤0+16;omega) (by rw[e1];show (0:Int)≤0∧(0:Int)≤_;omega))
  rw[hN3]
  exact zk5 w0 n { N with r:=zrD,rds:=[],g:=zrD.hard,dk:=D' } 1 1 0 zrE hL.lone h.w (by show N.applied+1=1;rw[h.ap];rfl) (by show 0≤N.applied∧(1:Int)≤_;rw[h.ap];omega) rfl rfl rfl (by show N.told.length≤_∧N.done.length≤_;rw[h.t,h.d];exact ⟨Nat.zero_le _,Nat.zero_le _⟩)
def zfL (N:yB) (i:Nat):Prop:=(i<6∧Waits N i)∨(i=6∧za3 N 0∧N.mach=⟨[],[]⟩∧N.told=[]∧N.done.length=1∧N.r.last=1)
theorem zfL.tick {N:yB} {i:Nat} (h:zfL N i) (hi:i<6):∃ N5,zfL N5 (i+1)∧zlH N N5:=by
  rcases h with ⟨_,h⟩|⟨h,_⟩
  · by_cases h5:i<5
    · obtain ⟨N5,h1,h2⟩:=zrF h h5
      exact ⟨N5,.inl ⟨by omega,h1⟩,h2⟩
    · obtain rfl:i=5:=by omega
      obtain ⟨N5,h1,h2⟩:=zrH h
      exact ⟨N5,.inr ⟨rfl,h1⟩,h2⟩
  · omega
theorem zfL.wt {N:yB} {i:Nat} (h:zfL N i):N.waits=[]:=h.elim (fun h=>h.2.w) (fun h=>h.2.1.w)
theorem zg1 {D':zU} (hD:On D' 0):zfL (zkD (jL C1) D') 0:=.inl ⟨by omega,⟨rfl,rfl,rfl,rfl,rfl,rfl,hD,rfl,rfl⟩⟩
theorem zkF (w:World) (c:jB):
    Calls Tryz.prog 24 #[.agg #[.int .i64 c.full,.int .i64 c.wit,.int .i64 c.learn,.int .i64 c.learnWit]] w fun e w'=>e=.returned (.agg ((jL c).cells (.slice none 0 0) (.slice none 0 0)).toArray)∧Ext w w':=by
 obtain ⟨b,hb⟩:∃ b,w.heap.size=b:=⟨_,rfl⟩
 go_enter Tryz.func24,Tryz.ntmps24
 go_upto_region 1 with fail
 obtain ⟨W1,hW1⟩:∃ W,(w.alloc (.cells [.int .i64 c.full,.int .i64 c.wit,.int .i64 c.learn,.int .i64 c.learnWit].toArray 57)).alloc (.cells [Value.int .i64 0,.int .i64 0,.int .i64 0,.int .i64 0,.int .i64 0,.int .i64 0,.int .i64 0,.int .i64 0,.slice none 0 0,.slice none 0 0].toArray 61)=W:=⟨_,rfl⟩
 have hE1:Ext w W1:=hW1▸(((Mod.refl _ w).alloc _).alloc _)
 have hb1:W1.heap[b]? = some (.cells [.int .i64 c.full,.int .i64 c.wit,.int .i64 c.learn,.int .i64 c.learnWit].toArray 57 (0,0)):=hb▸hW1▸xE _ _ _
 have hz1:W1.heap[b+1]? = some (.cells [Value.int .i64 0,.int .i64 0,.int .i64 0,.int .i64 0,.int .i64 0,.int .i64 0,.int .i64 0,.int .i64 0,.slice none 0 0,.slice none 0 0].toArray 61 (0,0)):=by rw[←hW1,←hb];exact xA _ _ _
 obtain ⟨Hz1,Hb1,HE1⟩:=hJ3 hz1 hb1 hE1
 rw[hW1]
 clear hW1 hE1 hb1 hz1
 go_wp2_with (first
  | (refine zK ?_;refine lD 57 b 0 (ld0 (cs:=[.int .i64 c.full,.int .i64 c.wit,.int .i64 c.learn,.int .i64 c.learnWit]) za5 Hb1.out) ?_)
  | (refine zF ?_;refine stQ rfl 61 _ _ rfl 10 (b+1) 0 (.agg ((jL c).cells (.slice none 0 0) (.slice none 0 0)).toArray) ((jL c).cells (.slice none 0 0) (.slice none 0 0)) yF.2 _ _ ((jL c).cells (.slice none 0 0) (.slice none 0 0)) Hz1.out rfl ?_;intro W2 hbW2 hmW2 hsW2))
 exact bodyPost_ret (zaZ rfl _ _ (b+1) 61 ((jL c).cells (.slice none 0 0) (.slice none 0 0)) yF rfl hbW2 rfl) rfl ⟨rfl,Mod.toExt ((Ext.mod HE1.out (zD w.heap.size)).trans hmW2 (fun k _ e=>by unfold zD;omega))⟩
theorem yD.since {w0 w:World} {n:Nat} {V:NV} {N:yB} (h:yD w0 w n V N) (k:Nat) (hk:NS n V k):zD w0.heap.size k:=by
  unfold zD
  rcases hk with e|e|e|e|e|e
  · rw[e];exact h.p.nb.1
  · rw[e];exact h.p.nb.2.1
  · rw[e];exact h.p.nb.2.2
  · exact (h.p.ap k e).1
  · exact h.tt.2 k e
  · exact h.dd.2 k e
theorem new_on:On (zU.new 65536) 0:=⟨rfl,rfl,rfl⟩
theorem zh0 (w:World) (T:Nat→Prop):xP w T (.slice none 0 0) (.slice none 0 0) (jL C1):=zrC w T C1
def Six (N:yB):Prop:=za3 N 0∧N.mach=⟨[],[]⟩∧N.told=[]∧N.done.length=1∧N.r.last=1
theorem zfL.six {N:yB} (h:zfL N 6):Six N:=h.elim (fun h=>absurd h.1 (by omega)) (fun h=>h.2)
theorem l_alone (w:World):Calls Tryz.prog 9 #[.int .i64 65536] w fun e w'=>∃ n d V N,e=.returned (.tuple #[.pointer (some ⟨n,0,none⟩),.pointer (some ⟨d,0,none⟩)])∧yD w w' n V N∧Six N∧V.wv=.slice none 0 0∧V.d=d∧Mod (zD w.heap.size) w w':=by
 obtain ⟨d,hd⟩:∃ d,w.heap.size=d:=⟨_,rfl⟩
 have hdn:=d_new 65536 (by omega) (by omega) w
 rw[hd] at hdn
 obtain ⟨D',han,hOn⟩:=ziP (h:=jL C1) new_on zd3
 have hop:=fun W (h0:w.heap.size≤W.heap.size) (hD:Dsk W d (.slice none 0 0) (zU.new 65536))=>zrB w W (fun _=>True) d (jL C1) (.slice none 0 0) (.slice none 0 0) (zU.new 65536) D' h0 (by omega) hD (zh0 W _) rfl rfl zaR ze8 rfl (by show (0:Nat)≤_;omega) han
 obtain ⟨Hdn,Hop,Hd⟩:=hJ3 hdn hop hd
 have HO:=hJ (zg1 hOn)
 clear hdn hop hd han hOn
 go_enter Tryz.func9,Tryz.ntmps9
 go_upto_region 4 with (go_at_call 31;refine Hdn.out.mono ?_;rintro e w1 ⟨rfl,hD1,hE1⟩)
 obtain ⟨HD1,HE1⟩:=hJ2 hD1 hE1
 clear hD1 hE1
 go_upto_region 5 with (first
  | (go_at_call 24;refine (zkF _ C1).mono ?_;rintro e w2 ⟨rfl,hE2⟩)
  | (go_at_call 23;refine (Hop.out w2 (HE1.out.ext hE2).size (HD1.out.ext hE2)).mono ?_;rintro e w3 ⟨n,V,rfl,hN3,hwv3,htv3,hVd3,hM3⟩))
 have HN3:=hJ hN3
 have HV3:=hJ (And.intro hwv3 hVd3)
 have HM3:=hJ (show Mod (zD w.heap.size) w w3 from (Ext.mod (HE1.out.ext hE2) _).trans hM3 (fun k _ e=>by unfold zD;have:=Hd.out;omega))
 clear hN3 hwv3 htv3 hVd3 hM3 hE2
 go_wp2_with fail
 go_loopw [7] (fun iv wr=>∃ (i:Nat) (V:NV) (N:yB),i≤6∧iv=.int .i64 i∧yD w wr n V N∧zfL N i∧V.wv=.slice none 0 0∧V.d=d∧Mod (zD w.heap.size) w wr) (fun iv _=>6-(intOf iv).toNat)
 case atStart=>exact ⟨0,V,_,by omega,rfl,HN3.out,HO.out,HV3.out.1,HV3.out.2,HM3.out⟩
 clear HN3 HV3 HM3 HO V
 obtain ⟨i,V,N,hi6,rfl,hN,hS,hwv,hVd,hM⟩:=hrel
 obtain ⟨HN,HS,Hwv,HVd,HM⟩:=hJ5 hN hS hwv hVd hM
 clear hN hS hwv hVd hM
 have hi0:(0:Int)≤(i:Int):=by omega
 by_cases hi:i<6
 · obtain ⟨N5,hS5,hT⟩:=HS.out.tick hi
   have ht:=hT w wr n V HM.out.size HN.out (fun _=>Hwv.out)
   obtain ⟨Ht,HS5⟩:=hJ2 ht hS5
   have hi1:(i:Int)<6:=by omega
   clear hT ht hS5
   go_upto_region 9 with (go_at_call 25;refine Ht.out.mono ?_;rintro e w4 ⟨rfl,V4,hN4,hw4,hM4,hG4⟩)
   have hM5:Mod (zD w.heap.size) w w4:=HM.out.trans hM4 (fun k _ h=>h.elim (HN.out.since k) (fun e=>e.elim))
   have hF:∃ (j:Nat) (V:NV) (N:yB),j≤6∧(Value.int .i64 ((i:Int)+1))=.int .i64 j∧yD w w4 n V N∧zfL N j∧V.wv=.slice none 0 0∧V.d=d∧Mod (zD w.heap.size) w w4:=⟨i+1,V4,N5,by omega,by rw[show ((i+1:Nat):Int)=(i:Int)+1 by omega],hN4,HS5.out,hw4 HS5.out.wt,hG4.d.trans HVd.out,hM5⟩
   have HF:=hJ hF
   clear hN4 hw4 hM4 hG4 hM5 hF
   go_wp2_with fail
   exact ⟨HF.out,by simp only[intOf];omega⟩
 · obtain rfl:i=6:=by omega
   obtain ⟨hG,hmc,hto,hdo,hla⟩:=HS.out.six
   have HS6:=hJ HS.out.six
   have hkd:=zhS w wr n V N HN.out hG.L.lone hG.L.id
   have hra:=fun W (hE:Ext wr W)=>n_Raft w W n V N (HN.out.ext hE) (by have:=hG.sn;omega) (by have:=hG.lg;omega) (by rw[hG.rd];simp)
   obtain ⟨Hkd,Hra⟩:=hJ2 hkd hra
   have hfd:∀ (sv lv rv:Value) (W:World),(Instr.field 65 (.agg (N.r.cells sv lv rv).toArray) 3).run Tryz.prog W=.ok (.int .i64 3) W:=fun sv lv rv W=>by rw[←hG.L.role];kernel_rfl
   clear hkd hra hG hmc hto hdo hla
   go_upto_region 13 with (first
    | (go_at_call 40;refine Hkd.out.mono ?_;rintro e w4 ⟨rfl,hE4⟩)
    | (go_at_call 20;refine (Hra.out w4 hE4).mono ?_;rintro e w5 ⟨sv,lv,rv,rfl,hE5⟩))
   have HF:=hJ (show ∃ n' d' V N,(Ending.returned (.tuple #[.pointer (some ⟨n,0,none⟩),.pointer (some ⟨d,0,none⟩)]))=.returned (.tuple #[.pointer (some ⟨n',0,none⟩),.pointer (some ⟨d',0,none⟩)])∧yD w w5 n' V N∧Six N∧V.wv=.slice none 0 0∧V.d=d'∧Mod (zD w.heap.size) w w5 from ⟨n,d,V,N,rfl,HN.out.ext (hE4.ext hE5),HS6.out,Hwv.out,HVd.out,HM.out.trans (hE4.ext hE5) (fun k _ h=>h.elim)⟩)
   clear hE4 hE5 hfd
   go_wp2_with fail
   first|(go_end0;exact HF.out)|(go_ret2;exact HF.out)|(go_ret;exact HF.out)
def znZ:zW:=⟨1,1,⟨2,⟨#[97]⟩,⟨0,0,⟨#[]⟩⟩,⟨2,0,⟨#[120]⟩⟩⟩⟩
theorem zrI:yX znZ=0:=by decide +kernel
theorem wake_ok:znZ.ok:=⟨⟨by decide,by decide⟩,⟨by decide,by decide⟩,⟨by decide,by decide⟩,by show (1:Nat)≤maxLen;decide,⟨⟨by decide,by decide⟩,by decide,by show (0:Nat)≤maxLen;decide⟩,⟨⟨by decide,by decide⟩,by decide,by show (1:Nat)≤maxLen;decide⟩⟩
theorem zcC {w0 w:World} {v:Value} {x:yU} (h:zb7 50 15 w0 w v 1 ([x].flatMap yU.cells)):∃ g off c,v=.slice (some ⟨g,off,none⟩) 1 c∧w0.heap.size≤g∧∀ j u,x.cells[j]? = some u→w.cell? ⟨g,off+j,none⟩=some u:=by
  obtain ⟨A,c,rfl⟩:=zC h.1
  obtain ⟨_,A',c',e,_,_,hx'⟩:=Sl.of_own (T:=fun g=>(Value.slice A 1 c).ownBlock=some g) h.1 (fun _ e=>e)
  injection e with e1 _ e3;subst e1;subst e3
  obtain ⟨g,off,rfl,hg,hcell⟩:=hx' (by omega)
  exact ⟨g,off,c,rfl,h.2 g hg,fun j u hu=>hcell j u (by simpa using hu)⟩
theorem zg2 (w:World):Calls Tryz.prog 14 #[] w fun e w'=>e=.returned (.bool true)∧Ext w w':=by
 obtain ⟨d,hd⟩:∃ d,w.heap.size=d:=⟨_,rfl⟩
 have hdn:=d_new 65536 (by omega) (by omega) w
 rw[hd] at hdn
 obtain ⟨D',han,hOn⟩:=ziP (h:=jL C1) new_on zd3
 have hop:=fun W (h0:w.heap.size≤W.heap.size) (hD:Dsk W d (.slice none 0 0) (zU.new 65536))=>zrB w W (fun _=>True) d (jL C1) (.slice none 0 0) (.slice none 0 0) (zU.new 65536) D' h0 (by omega) hD (zh0 W _) rfl rfl zaR ze8 rfl (by show (0:Nat)≤_;omega) han
 obtain ⟨Hdn,Hop,Hd⟩:=hJ3 hdn hop hd
 have HO:=hJ (zg1 hOn)
 clear hdn hop hd han hOn
 go_enter Tryz.func14,Tryz.ntmps14
 go_upto_region 4 with (go_at_call 31;refine Hdn.out.mono ?_;rintro e w1 ⟨rfl,hD1,hE1⟩)
 obtain ⟨HD1,HE1⟩:=hJ2 hD1 hE1
 clear hD1 hE1
 go_upto_region 5 with (first
  | (go_at_call 24;refine (zkF _ C1).mono ?_;rintro e w2 ⟨rfl,hE2⟩)
  | (go_at_call 23;refine (Hop.out w2 (HE1.out.ext hE2).size (HD1.out.ext hE2)).mono ?_;rintro e w3 ⟨n,V,rfl,hN3,hwv3,htv3,hVd3,hM3⟩))
 have HN3:=hJ hN3
 have HV3:=hJ (And.intro hwv3 hVd3)
 have HM3:=hJ (show Mod (zD w.heap.size) w w3 from (Ext.mod (HE1.out.ext hE2) _).trans hM3 (fun k _ e=>by unfold zD;have:=Hd.out;omega))
 clear hN3 hwv3 htv3 hVd3 hM3 hE2
 go_wp2_with fail
 go_loopw [4] (fun iv wr=>∃ (i:Nat) (V:NV) (N:yB),i≤6∧iv=.int .i64 i∧yD w wr n V N∧zfL N i∧V.wv=.slice none 0 0∧V.d=d∧Mod (zD w.heap.size) w wr) (fun iv _=>6-(intOf iv).toNat)
 case atStart=>exact ⟨0,V,_,by omega,rfl,HN3.out,HO.out,HV3.out.1,HV3.out.2,HM3.out⟩
 clear HN3 HV3 HM3 HO V
 obtain ⟨i,V,N,hi6,rfl,hN,hS,hwv,hVd,hM⟩:=hrel
 obtain ⟨HN,HS,Hwv,HVd,HM⟩:=hJ5 hN hS hwv hVd hM
 clear hN hS hwv hVd hM
 have hi0:(0:Int)≤(i:Int):=by omega
 by_cases hi:i<6
 · obtain ⟨N5,hS5,hT⟩:=HS.out.tick hi
   have ht:=hT w wr n V HM.out.size HN.out (fun _=>Hwv.out)
   obtain ⟨Ht,HS5⟩:=hJ2 ht hS5
   have hi1:(i:Int)<6:=by omega
   clear hT ht hS5
   go_upto_region 9 with (go_at_call 25;refine Ht.out.mono ?_;rintro e w4 ⟨rfl,V4,hN4,hw4,hM4,hG4⟩)
   have hM5:Mod (zD w.heap.size) w w4:=HM.out.trans hM4 (fun k _ h=>h.elim (HN.out.since k) (fun e=>e.elim))
   have hF:∃ (j:Nat) (V:NV) (N:yB),j≤6∧(Value.int .i64 ((i:Int)+1))=.int .i64 j∧yD w w4 n V N∧zfL N j∧V.wv=.slice none 0 0∧V.d=d∧Mod (zD w.heap.size) w w4:=⟨i+1,V4,N5,by omega,by rw[show ((i+1:Nat):Int)=(i:Int)+1 by omega],hN4,HS5.out,hw4 HS5.out.wt,hG4.d.trans HVd.out,hM5⟩
   have HF:=hJ hF
   clear hN4 hw4 hM4 hG4 hM5 hF
   go_wp2_with fail
   exact ⟨HF.out,by simp only[intOf];omega⟩
 · obtain rfl:i=6:=by omega
   obtain ⟨hG,hmc,hto,hdo,hla⟩:=HS.out.six
   have HS6:=hJ HS.out.six
   have hls:(yJ N.mach.sess znZ.client).1<znZ.seq:=by rw[hmc];decide
   obtain ⟨N5,hG5,hm5,ht5,⟨y,hd5⟩,hC⟩:=zi3 hG (by omega) zrI wake_ok (by decide) hls
   have hca:=hC w wr n V HM.out.size HN.out (fun _=>Hwv.out)
   have Hca:=hJ hca
   have hdl:N5.done.length=2:=by rw[hd5,List.length_append,hdo];rfl
   obtain ⟨r5,hr5⟩:∃ r,(zdB N.mach znZ).2=r:=⟨_,rfl⟩
   have htl:N5.told=[(⟨znZ,r5,2⟩:yU)]:=by rw[ht5,hto,hr5,hla];rfl
   obtain ⟨Hdl,Htl⟩:=hJ2 hdl htl
   clear hca hC hG5 hm5 ht5 hd5 hr5 htl hdl hls hG hmc hto hdo hla
   go_upto_region 12 with (go_at_call 10;refine Hca.out.mono ?_;rintro e w4 ⟨rfl,V4,hN4,hw4,hM4,hG4⟩)
   have HN4:=hJ hN4
   have HM4:=hJ (HM.out.trans hM4 (fun k _ h=>HN.out.since k h))
   have hto4:=zhT w w4 n V4 N5 hN4
   have Hto4:=hJ hto4
   clear hN4 hw4 hM4 hG4 hto4
   go_upto_region 13 with (go_at_call 15;refine Hto4.out.mono ?_;rintro e w5 ⟨rfl,hN5,hT5,hM5⟩)
   rw[Htl.out] at hT5
   obtain ⟨g,off,cc,hv,hgw,hcell⟩:=zcC hT5
   rw[hv]
   have p14:w5.cell? ⟨g,off+14,none⟩=some (.int .i64 2):=hcell 14 _ rfl
   have HN5:=hJ hN5
   have HM5:=hJ (HM4.out.trans hM5 (fun k _ e=>e▸HN4.out.since n (.inl rfl)))
   have hdo5:=n_Done w w5 n _ _ hN5
   obtain ⟨Ad,cd,hdv⟩:∃ A c,V4.dv=.slice A N5.done.length c:=zC hN5.dd.1
   rw[Hdl.out] at hdv
   have hdo6:Calls Tryz.prog 35 #[.pointer (some ⟨n,0,none⟩)] w5 fun e w'=>e=.returned (.slice Ad 2 cd)∧Mod (fun k=>k=n) w5 w':=hdo5.mono fun e w' h=>⟨by rw[←hdv];exact h.1,h.2.2.2⟩
   have Hdo6:=hJ hdo6
   clear hN5 hM5 hT5 hcell hdo5 hdv hdo6 hv hgw
   go_wp2_with (go_at_call 35;refine Hdo6.out.mono ?_;rintro e w6 ⟨rfl,hM6⟩)
   have HF:=hJ (show Ext w w6 from Mod.toExt (HM5.out.trans hM6 (fun k _ e=>e▸HN5.out.since n (.inl rfl))))
   clear hM6
   first|(go_end0;exact ⟨rfl,HF.out⟩)|(go_ret;exact ⟨rfl,HF.out⟩)
end Go.Proofs.YtjbkjhhjofeldaaGreat
