/-
 Contracts of stable's write and Save (printed by stbsv.py). Conditions: as each theorem names them.
-/
import Derived.Test.YtjbkjhhjofeldaaGreatG16
import Derived.Test.YtjbkjhhjofeldaaGreatG15
set_option maxRecDepth 100000
set_option maxHeartbeats 2000000
namespace Go.Proofs.YtjbkjhhjofeldaaGreat
set_option linter.unusedSimpArgs false
open Go.RowKit
theorem conf_neq (a b c d a' b' c' d':Int) (w:World):(binOp .neq 57 (.agg #[.int .i64 a,.int .i64 b,.int .i64 c,.int .i64 d]) (.agg #[.int .i64 a',.int .i64 b',.int .i64 c',.int .i64 d'])).run Tryz.prog w=.ok (.bool (!zdR ⟨a,b,c,d⟩ ⟨a',b',c',d'⟩)) w:=by
 by_cases h1:a=a' <;> by_cases h2:b=b' <;> by_cases h3:c=c' <;> by_cases h4:d=d' <;> go_simp <;> simp[zdR,h1,h2,h3,h4]
attribute [local go_sem high] conf_neq
theorem StB.dm {w w':World} {s d:Nat} {g:zX} {gs gl fv:Value} {D:zU} (h:StB w s d g gs gl) (hD:Dsk w d fv D) (hM:Mod (fun k=>k=d∨fv.ownBlock=some k) w w'):StB w' s d g gs gl:=
 hM.blk h (fun e=>by
  rcases e with e|e
  · exact hD.ne h (by decide) e
  exact zG hD.2.1 e h (by decide) rfl)
theorem st_write (w:World) (T U:Nat→Prop) (s d:Nat) (g h:zX) (Bs:Option Addr) (gn bs:Nat) (Bl:Option Addr) (gg bl:Nat) (As:Option Addr) (sl cs:Nat) (Al:Option Addr) (ll cl:Nat) (fv:Value) (D:zU) (hS:StB w s d g (.slice Bs gn bs) (.slice Bl gg bl)) (hD:Dsk w d fv D) (hg:xP w T (.slice Bs gn bs) (.slice Bl gg bl) g) (hgn:g.snap.length=gn) (hgl:g.log.length=gg) (hv:xP w U (.slice As sl cs) (.slice Al ll cl) h) (hsn:h.snap.length=sl) (hll:h.log.length=ll) (hU:∀ k,U k→k≠d∧fv.ownBlock≠some k) (hr:Right h) (hl:ll≤12700) (hgl2:gg≤1000000):
  Calls Tryz.prog 270 #[.pointer (some ⟨s,0,none⟩),.agg #[.int .i64 h.term,.int .i64 h.vote,.int .i64 h.base,.int .i64 h.baseTerm,.int .i64 h.conf.full,.int .i64 h.conf.wit,.int .i64 h.conf.learn,.int .i64 h.conf.learnWit,.slice As sl cs,.slice Al ll cl]] w fun e w'=>e=.returned (.int .i64 (zbJ D g h).2)∧DM w d fv (zbJ D g h).1 w':=by
 obtain ⟨W,hW⟩:∃ W,w.alloc (.cells (h.cells (.slice As sl cs) (.slice Al ll cl)).toArray 61)=W:=⟨_,rfl⟩
 have hE:Ext w W:=by rw[←hW];exact (Mod.refl _ w).alloc _
 obtain ⟨b,hb⟩:∃ b,w.heap.size=b:=⟨_,rfl⟩
 have hA:W.heap[b]? = some (.cells (h.cells (.slice As sl cs) (.slice Al ll cl)).toArray 61 (0,0)):=by rw[←hW,←hb];exact heap_alloc_new w _
 have hSW:StB W s d g (.slice Bs gn bs) (.slice Bl gg bl):=hE.blk hS id
 obtain ⟨HW,HE,Hb,HA,HSW,HD⟩:=hJ6 hW hE hb hA hSW hD
 have HgW:=hJ (hg.mod hE (fun _ _=>id))
 have HvW:=hJ (hv.mod hE (fun _ _=>id))
 obtain ⟨Hv,HU,Hll,Hgl,Hsn,Hgn⟩:=hJ6 hv hU hll hgl hsn hgn
 obtain ⟨R,hR⟩:∃ R,zbJ D g h=R:=⟨_,rfl⟩
 rw[hR]
 have HR:=hJ hR
 have c0:W.cell? ⟨b,2,none⟩=some (.int .i64 h.base):=zA (cs:=(h.cells (.slice As sl cs) (.slice Al ll cl))) hA rfl
 have c1:W.cell? ⟨b,3,none⟩=some (.int .i64 h.baseTerm):=zA (cs:=(h.cells (.slice As sl cs) (.slice Al ll cl))) hA rfl
 have c2:W.cell? ⟨b,4,none⟩=some (.int .i64 h.conf.full):=zA (cs:=(h.cells (.slice As sl cs) (.slice Al ll cl))) hA rfl
 have c3:W.cell? ⟨b,5,none⟩=some (.int .i64 h.conf.wit):=zA (cs:=(h.cells (.slice As sl cs) (.slice Al ll cl))) hA rfl
 have c4:W.cell? ⟨b,6,none⟩=some (.int .i64 h.conf.learn):=zA (cs:=(h.cells (.slice As sl cs) (.slice Al ll cl))) hA rfl
 have c5:W.cell? ⟨b,7,none⟩=some (.int .i64 h.conf.learnWit):=zA (cs:=(h.cells (.slice As sl cs) (.slice Al ll cl))) hA rfl
 have c6:W.cell? ⟨b,8,none⟩=some (.slice As sl cs):=zA (cs:=(h.cells (.slice As sl cs) (.slice Al ll cl))) hA rfl
 have s0:W.cell? ⟨s,3,none⟩=some (.int .i64 g.base):=zA (cs:=(jJ d g (.slice Bs gn bs) (.slice Bl gg bl))) hSW rfl
 have s1:W.cell? ⟨s,4,none⟩=some (.int .i64 g.baseTerm):=zA (cs:=(jJ d g (.slice Bs gn bs) (.slice Bl gg bl))) hSW rfl
 have s2:W.cell? ⟨s,5,none⟩=some (.int .i64 g.conf.full):=zA (cs:=(jJ d g (.slice Bs gn bs) (.slice Bl gg bl))) hSW rfl
 have s3:W.cell? ⟨s,6,none⟩=some (.int .i64 g.conf.wit):=zA (cs:=(jJ d g (.slice Bs gn bs) (.slice Bl gg bl))) hSW rfl
 have s4:W.cell? ⟨s,7,none⟩=some (.int .i64 g.conf.learn):=zA (cs:=(jJ d g (.slice Bs gn bs) (.slice Bl gg bl))) hSW rfl
 have s5:W.cell? ⟨s,8,none⟩=some (.int .i64 g.conf.learnWit):=zA (cs:=(jJ d g (.slice Bs gn bs) (.slice Bl gg bl))) hSW rfl
 have s6:W.cell? ⟨s,9,none⟩=some (.slice Bs gn bs):=zA (cs:=(jJ d g (.slice Bs gn bs) (.slice Bl gg bl))) hSW rfl
 clear hW hE hb hA hSW hg hv hll hgl hsn hgn hS hD hU hR
 go_enter Tryz.func270,Tryz.ntmps270
 go_upto_region 1 with fail
 rw[HW.out,Hb.out]
 obtain ⟨tv,htv⟩:∃ tv,zm5 g h=tv:=⟨_,rfl⟩
 go_cut [45] (fun s45 wx=>s45=.bool (!tv)∧Ext W wx)
 case first=>
  rcases e1:(h.base != g.base) with _|_
  rotate_left
  ·
   have Htv:Hid (tv=false):=hJ (by rw[←htv];unfold zm5;rw[show (h.base==g.base)=false by simpa using e1];rfl)
   clear htv
   go_quiet (fail)
   go_wp2_with fail
   go_meet
   exact ⟨by rw[Htv.out];rfl,(Mod.refl _ W).drewN _⟩
  rcases e2:(h.baseTerm != g.baseTerm) with _|_
  rotate_left
  ·
   have Htv:Hid (tv=false):=hJ (by rw[←htv];unfold zm5;rw[show (h.baseTerm==g.baseTerm)=false by simpa using e2];simp)
   clear htv
   go_quiet (fail)
   go_wp2_with fail
   go_meet
   exact ⟨by rw[Htv.out];rfl,(Mod.refl _ W).drewN _⟩
  rcases e3:zdR h.conf g.conf with _|_
  ·
   have Htv:Hid (tv=false):=hJ (by rw[←htv];unfold zm5;rw[e3];simp)
   clear htv
   go_quiet (fail)
   go_wp2_with fail
   go_meet
   exact ⟨by rw[Htv.out];rfl,(Mod.refl _ W).drewN _⟩
  have Htv:Hid (tv=(h.snap==g.snap)):=hJ (by rw[←htv];unfold zm5;rw[show (h.base==g.base)=true by simpa using e1,show (h.baseTerm==g.baseTerm)=true by simpa using e2,e3];rfl)
  clear htv
  rcases e4:(h.snap==g.snap) with _|_
  all_goals
   go_quiet ((go_at_call 157;exact Calls.quiet_of_same ((zo3 _ U T _ _ h.snap g.snap (by have h1:=HvW.out.1;exact h1) (by have h1:=HgW.out.1;exact h1)).mono (fun _ _ hh=>⟨hh.1,hh.2.symm⟩))))
   go_wp2_with fail
   go_meet
   exact ⟨by rw[Htv.out,e4];rfl,(Mod.refl _ W).drewN _⟩
 obtain ⟨rfl,hX⟩:=hcut
 have HX:=hJ (HE.out.ext hX)
 have HA2:=hJ (hX.blk HA.out id)
 have HS2:Hid (StB wc s d g (.slice Bs gn bs) (.slice Bl gg bl)):=hJ (hX.blk HSW.out id)
 have Hg2:=hJ (HgW.out.mod hX (fun _ _=>id))
 have Hv2:=hJ (HvW.out.mod hX (fun _ _=>id))
 obtain ⟨Htv,Hl⟩:=hJ2 htv hl
 clear htv hX c0 c1 c2 c3 c4 c5 c6 s0 s1 s2 s3 s4 s5 s6 HSW HgW HvW HA hl
 have hlog:h.log.length≤12700:=by rw[Hll.out];exact Hl.out
 have Hlog:=hJ hlog
 clear hlog
 have hldb:=ld0 (P:=Tryz.prog) (cs:=h.cells (.slice As sl cs) (.slice Al ll cl)) yF HA2.out
 rcases tv with _|_
 ·
  have HRq:Hid (R=zc7 D h):=hJ (by rw[←HR.out];unfold zbJ;rw[Htv.out,if_pos rfl])
  rw[show (!false)=true from rfl]
  go_wp2_with (refine yT rfl 61 _ rfl _ _ rfl hldb ?_)
  clear hldb
  refine (zkV wc U s d g h _ _ _ _ fv D HS2.out (HD.out.ext HX.out) Hv2.out hr Hlog.out).mono ?_
  rintro e w2 ⟨rfl,hM⟩
  have HM:=hJ (DM.trans (Ext.mod HX.out _) (fun g hg=>.inl hg) hM)
  rw[←HRq.out] at HM ⊢
  clear hM
  go_wp2
  go_ret
  exact ⟨rfl,HM.out⟩
 rw[show (!true)=false from rfl]
 obtain ⟨M,hM0⟩:∃ M,zfJ g h=M:=⟨_,rfl⟩
 have HRq:Hid (R=if M.length=0 then (D,0) else if (D.append M).2=0 then (D.append M).1.sync else if (D.append M).2=5 then zc7 (D.append M).1 h else D.append M):=hJ (by rw[←HR.out];unfold zbJ;rw[Htv.out,if_neg (by simp),hM0])
 have HM0:=hJ hM0
 clear hM0
 go_wp2_with (refine yT rfl 61 _ rfl _ _ rfl hldb ?_)
 clear hldb
 refine (st_more wc T U s d g h _ Bl gg bl As sl cs Al ll cl HS2.out Hg2.out.2 Hgl.out Hv2.out Hll.out hr Hl.out hgl2).mono ?_
 rintro e w2 ⟨v2,rfl,hN2,hE2⟩
 rw[HM0.out] at hN2
 obtain ⟨A2,c2,rfl⟩:=zC hN2.1
 have hb2:Byt w2 (zD wc.heap.size) (.slice A2 M.length c2) M:=zaN.sl (w:=wc) hN2
 obtain ⟨n,hn⟩:∃ n,M.length=n:=⟨_,rfl⟩
 have hMl:M.length≤100000000:=by
  rw[←HM0.out]
  unfold zfJ recsP ziG ziH
  rw[List.flatMap_append,List.flatMap_append,List.length_append,List.length_append]
  have h1:=ziL (h.log.drop (ze0 h.log g.log)) (fun x hx=>⟨zgF hr.r x (List.mem_of_mem_drop hx),Hv.out.2.2 x (List.mem_of_mem_drop hx)⟩)
  have h2:(h.log.drop (ze0 h.log g.log)).length≤12700:=by rw[List.length_drop];have:=Hlog.out;omega
  have h3:(h.log.drop (ze0 h.log g.log)).length*400≤12700*400:=Nat.mul_le_mul_right _ h2
  have h4:((if h.term=g.term∧h.vote=g.vote then [] else [recV h]).flatMap yP).length≤200:=by
   split
   · simp
   rw[List.flatMap_cons,List.flatMap_nil,List.append_nil,jY]
   unfold recV
   have:=yS [h.term,h.vote]
   simp only[List.length_cons,List.length_nil] at this ⊢
   omega
  have h5:((if ze0 h.log g.log<g.log.length then [recC (h.base+((ze0 h.log g.log:Nat):Int)+1)] else []).flatMap yP).length≤200:=by
   split
   ·
    rw[List.flatMap_cons,List.flatMap_nil,List.append_nil,jY]
    unfold recC
    have:=yS [h.base+((ze0 h.log g.log:Nat):Int)+1]
    simp only[List.length_cons,List.length_nil] at this ⊢
    omega
   simp
  omega
 rw[hn] at hb2 HRq
 simp only[hn]
 obtain ⟨Hb2,Hn,HMl⟩:=hJ3 hb2 hn hMl
 have HX2:=hJ (HX.out.ext hE2)
 have HA3:=hJ (hE2.blk HA2.out id)
 have HS3:Hid (StB w2 s d g (.slice Bs gn bs) (.slice Bl gg bl)):=hJ (hE2.blk HS2.out id)
 have Hv3:=hJ (Hv2.out.mod hE2 (fun _ _=>id))
 clear hN2 hE2 hb2 hn hMl HA2 HS2 Hv2 Hg2
 have t0:w2.cell? ⟨s,0,none⟩=some (.pointer (some ⟨d,0,none⟩)):=HS3.out.c0
 by_cases hn0:n=0
 ·
  have hnz:((n:Int)==0)=true:=by simp;omega
  have hnz2:(n==0)=true:=by simp;omega
  have HRr:Hid (R=(D,0)):=hJ (by rw[HRq.out,if_pos hn0])
  go_wp2
  go_ret
  rw[HRr.out]
  exact ⟨rfl,DM.same HD.out HX2.out⟩
 have hnz:((n:Int)==0)=false:=by simp;omega
 have hnz2:(n==0)=false:=by simp;omega
 have HRr:Hid (R=if (D.append M).2=0 then (D.append M).1.sync else if (D.append M).2=5 then zc7 (D.append M).1 h else D.append M):=hJ (by rw[HRq.out,if_neg hn0])
 clear HRq
 go_wp2_with fail
 refine (d_append w2 d fv D (HD.out.ext HX2.out) _ _ M (by have h1:=Hb2.out;exact h1) HMl.out).mono ?_
 rintro e w3 ⟨rfl,hM3⟩
 have hM3w:=DM.trans (Ext.mod HX2.out _) (fun g hg=>.inl hg) hM3
 obtain ⟨fv1,hD1,hm1,hf1⟩:=hM3
 have hU3:∀ k,U k→¬ (k=d∨fv.ownBlock=some k):=fun k hk e=>by
  have:=HU.out k hk
  rcases e with e|e
  · exact this.1 e
  exact this.2 e
 have HS4:=hJ (HS3.out.dm (HD.out.ext HX2.out) hm1)
 have Hv4:=hJ (Hv3.out.mod hm1 hU3)
 have HA4:Hid (w3.heap[b]? = some (.cells (h.cells (.slice As sl cs) (.slice Al ll cl)).toArray 61 (0,0))):=hJ (hm1.blk HA3.out (fun e=>by
  rcases e with e|e
  · exact (HD.out.ext HX2.out).ne HA3.out (by decide) e
  exact zG (HD.out.ext HX2.out).2.1 e HA3.out (by decide) rfl))
 have u0:w3.cell? ⟨s,0,none⟩=some (.pointer (some ⟨d,0,none⟩)):=HS4.out.c0
 obtain ⟨HM3w,HD1,Hm1,Hf1⟩:=hJ4 hM3w hD1 hm1 hf1
 obtain ⟨D1,hD1e⟩:∃ D1,(D.append M).1=D1:=⟨_,rfl⟩
 obtain ⟨cd,hcd⟩:∃ cd,(D.append M).2=cd:=⟨_,rfl⟩
 have hap:D.append M=(D1,cd):=by rw[←hD1e,←hcd]
 rw[hap] at HRr
 simp only at HRr
 rw[hD1e] at HD1 HM3w
 rw[hcd]
 clear hM3w hD1 hm1 hf1 hU3 hD1e hcd hap t0 HA3 HS3 Hv3
 rcases e0:(cd==0) with _|_
 rotate_left
 ·
  have hc0:cd=0:=by simpa using e0
  have HRs:Hid (R=D1.sync):=hJ (by rw[HRr.out,if_pos hc0])
  subst hc0
  clear HRr e0
  go_wp2_with fail
  refine (d_sync w3 d fv1 D1 HD1.out).mono ?_
  rintro e w4 ⟨rfl,hM4⟩
  have HM4:=hJ (DM.trans (fv:=fv) ((Ext.mod HX2.out _).self Hm1.out) (fun g hg=>by
   rcases Hf1.out g hg with e|e
   · exact .inl e
   exact .inr (Nat.le_trans HX2.out.size e)) hM4)
  rw[←HRs.out] at HM4 ⊢
  clear hM4
  go_wp2
  go_ret
  exact ⟨rfl,HM4.out⟩
 have hc0:¬ cd=0:=by simpa using e0
 rcases e5:(cd==5) with _|_
 ·
  have hc5:¬ cd=5:=by simpa using e5
  have HRs:Hid (R=(D1,cd)):=hJ (by rw[HRr.out,if_neg hc0,if_neg hc5])
  go_wp2
  go_ret
  rw[HRs.out]
  exact ⟨rfl,HM3w.out⟩
 have hc5:cd=5:=by simpa using e5
 have HRs:Hid (R=zc7 D1 h):=hJ (by rw[HRr.out,if_neg hc0,if_pos hc5])
 subst hc5
 have hldb:=ld0 (P:=Tryz.prog) (cs:=h.cells (.slice As sl cs) (.slice Al ll cl)) yF HA4.out
 clear HRr hc0 e0 e5
 go_wp2_with (refine yT rfl 61 _ rfl _ _ rfl hldb ?_)
 clear hldb
 refine (zkV w3 U s d g h _ _ _ _ fv1 D1 HS4.out HD1.out Hv4.out hr Hlog.out).mono ?_
 rintro e w4 ⟨rfl,hM4⟩
 have HM4:=hJ (DM.trans (fv:=fv) ((Ext.mod HX2.out _).self Hm1.out) (fun g hg=>by
  rcases Hf1.out g hg with e|e
  · exact .inl e
  exact .inr (Nat.le_trans HX2.out.size e)) hM4)
 rw[←HRs.out] at HM4 ⊢
 clear hM4
 go_wp2
 go_ret
 exact ⟨rfl,HM4.out⟩
end Go.Proofs.YtjbkjhhjofeldaaGreat
set_option maxRecDepth 100000
set_option maxHeartbeats 2000000
namespace Go.Proofs.YtjbkjhhjofeldaaGreat
set_option linter.unusedSimpArgs false
open Go.RowKit
theorem zcS.base {W w0 w1:World} {sv lv:Value} {h:zX} (hh:zcS w0 w1 sv lv h) (hs:W.heap.size≤w0.heap.size):zcS W w1 sv lv h:=⟨⟨hh.1.1,fun g hg=>Nat.le_trans hs (hh.1.2 g hg)⟩,jH hh.2 hs⟩
def zjX (w:World) (s d:Nat) (fv gs gl:Value) (R:zU×zX×Int) (e:Ending) (w':World):Prop:=e=.returned (.int .i64 R.2.2)∧∃ fv' gs' gl',Dsk w' d fv' R.1∧StB w' s d R.2.1 gs' gl'∧Mod (fun k=>k=d∨fv.ownBlock=some k∨k=s) w w' ∧
 (∀ k,fv'.ownBlock=some k→fv.ownBlock=some k∨w.heap.size≤k)∧((gs'=gs∧gl'=gl∧R.2.2≠0)∨(zcS w w' gs' gl' R.2.1∧∀ k,gs'.ownBlock=some k→fv'.ownBlock≠some k))
theorem zjX.same {w w':World} {s d:Nat} {fv gs gl:Value} {D D':zU} {g:zX} {R:zU×zX×Int} {c:Int} {e:Ending} (hR:R=(D',g,c)) (hS:StB w s d g gs gl) (hD:Dsk w d fv D) (hM:DM w d fv D' w') (he:e=.returned (.int .i64 c)) (hc:c≠0):zjX w s d fv gs gl R e w':=by
 subst hR
 obtain ⟨fv',h1,h2,h3⟩:=hM
 exact ⟨he,fv',gs,gl,h1,hS.dm hD h2,h2.mono (fun k _ hk=>by rcases hk with e|e;exact .inl e;exact .inr (.inl e)),h3,.inl ⟨rfl,rfl,hc⟩⟩
theorem st_save (w:World) (T U:Nat→Prop) (s d:Nat) (g h:zX) (Bs:Option Addr) (gn bs:Nat) (Bl:Option Addr) (gg bl:Nat) (As:Option Addr) (sl cs:Nat) (Al:Option Addr) (ll cl:Nat) (fv:Value) (D:zU) (hS:StB w s d g (.slice Bs gn bs) (.slice Bl gg bl)) (hD:Dsk w d fv D) (hg:xP w T (.slice Bs gn bs) (.slice Bl gg bl) g) (hgn:g.snap.length=gn) (hgl:g.log.length=gg) (hv:xP w U (.slice As sl cs) (.slice Al ll cl) h) (hsn:h.snap.length=sl) (hll:h.log.length=ll) (hU:∀ k,U k→k≠d∧fv.ownBlock≠some k) (hl:ll≤12700) (hgl2:gg≤1000000) (hsl:sl≤1000000):
  Calls Tryz.prog 170 #[.pointer (some ⟨s,0,none⟩),.agg #[.int .i64 h.term,.int .i64 h.vote,.int .i64 h.base,.int .i64 h.baseTerm,.int .i64 h.conf.full,.int .i64 h.conf.wit,.int .i64 h.conf.learn,.int .i64 h.conf.learnWit,.slice As sl cs,.slice Al ll cl]] w (zjX w s d fv (.slice Bs gn bs) (.slice Bl gg bl) (zb6 D g h)):=by
 obtain ⟨W,hW⟩:∃ W,w.alloc (.cells (h.cells (.slice As sl cs) (.slice Al ll cl)).toArray 61)=W:=⟨_,rfl⟩
 have hE:Ext w W:=by rw[←hW];exact (Mod.refl _ w).alloc _
 obtain ⟨b,hb⟩:∃ b,w.heap.size=b:=⟨_,rfl⟩
 have hA:W.heap[b]? = some (.cells (h.cells (.slice As sl cs) (.slice Al ll cl)).toArray 61 (0,0)):=by rw[←hW,←hb];exact heap_alloc_new w _
 have hSW:StB W s d g (.slice Bs gn bs) (.slice Bl gg bl):=hE.blk hS id
 obtain ⟨HW,HE,Hb,HA,HS,HSW,HD,Hg⟩:=hJ8 hW hE hb hA hS hSW hD hg
 have HvW:=hJ (hv.mod hE (fun _ _=>id))
 obtain ⟨Hv,HU,Hll,Hgl,Hsn,Hgn,Hl⟩:=hJ7 hv hU hll hgl hsn hgn hl
 obtain ⟨R,hR⟩:∃ R,zb6 D g h=R:=⟨_,rfl⟩
 rw[hR]
 have HR:=hJ hR
 have t0:W.cell? ⟨s,0,none⟩=some (.pointer (some ⟨d,0,none⟩)):=StB.c0 hSW
 rw[←hW] at t0
 clear hW hE hb hA hSW hg hv hll hgl hsn hgn hS hD hU hR hl
 go_enter Tryz.func170,Tryz.ntmps170
 go_wp2_with fail
 rw[HW.out,Hb.out]
 refine (d_off W d fv D (HD.out.ext HE.out)).mono ?_
 rintro e w1 ⟨rfl,rfl⟩
 clear t0
 rcases hoff:D.off with _|_
 rotate_left
 ·
  have HRq:Hid (R=(D,g,4)):=hJ (by rw[←HR.out];unfold zb6;rw[hoff];rfl)
  clear hoff
  go_wp2
  go_ret
  exact zjX.same HRq.out HS.out HD.out (DM.same HD.out HE.out) rfl (by omega)
 have Hoff:=hJ hoff
 clear hoff
 have c0:W.cell? ⟨b,0,none⟩=some (.int .i64 h.term):=zA (cs:=(h.cells (.slice As sl cs) (.slice Al ll cl))) HA.out rfl
 have c2:W.cell? ⟨b,2,none⟩=some (.int .i64 h.base):=zA (cs:=(h.cells (.slice As sl cs) (.slice Al ll cl))) HA.out rfl
 have s1:W.cell? ⟨s,1,none⟩=some (.int .i64 g.term):=zA (cs:=(jJ d g (.slice Bs gn bs) (.slice Bl gg bl))) HSW.out rfl
 have s3:W.cell? ⟨s,3,none⟩=some (.int .i64 g.base):=zA (cs:=(jJ d g (.slice Bs gn bs) (.slice Bl gg bl))) HSW.out rfl
 have hbl:b<W.heap.size:=(Array.getElem?_eq_some_iff.1 HA.out).1
 have hsL:s<W.heap.size:=(Array.getElem?_eq_some_iff.1 HSW.out).1
 obtain ⟨tv,htv⟩:∃ tv,(!xX h||decide (h.term<g.term)||decide (h.base<g.base))=tv:=⟨_,rfl⟩
 have Htv:=hJ htv
 clear htv
 go_upto_region 3 with fail
 go_cut [12] (fun s12 wx=>s12=.bool tv∧Ext W wx)
 case first=>
  rcases hck:xX h with _|_
  ·
   have Ht:Hid (tv=true):=hJ (by rw[←Htv.out,hck];rfl)
   refine wp_region_held_drew (S:=fun W'=>Ext W W') (by kernel_rfl) (Mod.refl _ W).drew (fun hS=>?_)
   refine tkH 0 (some 13) rfl rfl (.agg (h.cells (.slice As sl cs) (.slice Al ll cl)).toArray) hS ?_ ?_
   · rintro W' hW'
     obtain ⟨hbc,hbf⟩:=zaO hW'
     exact zbH _ _ rfl (.pointer (some ⟨b,0,none⟩)) _ rfl (ld0 (P:=Tryz.prog) (cs:=h.cells (.slice As sl cs) (.slice Al ll cl)) yF (hW'.blk HA.out id))
   try simp only[pL]
   refine zaJ 1 rfl (fun K hK=>?_)
   go_simp
   go_wp2_with fail
   refine (zdY W.drew U h _ _ (by have h1:=HvW.out;exact h1) (by rw[Hll.out];have:=Hl.out;omega)).mono ?_
   rintro e w6 ⟨rfl,hE6⟩
   rw[hck,if_neg (by simp)]
   have hX:=(hS.ext hE6)
   go_simp
   refine hK.out _ _ hX (fun hS=>?_)
   clear hK K hX
   try simp only[pL]
   iterate 22
    first|refine tkJ 2 (some 15) rfl rfl ?_ hS ?_ ?_|refine tkJ 3 (some 16) rfl rfl ?_ hS ?_ ?_|refine tuI 4 (some 17) rfl rfl hS ?_|refine tuI 5 (some 18) rfl rfl hS ?_|refine tuI 6 (some 19) rfl rfl hS ?_|refine tuI 7 (some 20) rfl rfl hS ?_|refine tuI 8 (some 21) rfl rfl hS ?_|refine tuI 9 (some 22) rfl rfl hS ?_|refine tuI 10 (some 23) rfl rfl hS ?_|refine tuI 11 (some 24) rfl rfl hS ?_|refine tkJ 12 (some 25) rfl rfl ?_ hS ?_ ?_|refine tkJ 13 (some 26) rfl rfl ?_ hS ?_ ?_|refine tuI 14 (some 27) rfl rfl hS ?_|refine tuI 15 (some 28) rfl rfl hS ?_|refine tuI 16 (some 29) rfl rfl hS ?_|refine tuI 17 (some 30) rfl rfl hS ?_|refine tuI 18 (some 31) rfl rfl hS ?_|refine tuI 19 (some 32) rfl rfl hS ?_|refine tuI 20 (some 33) rfl rfl hS ?_|refine tuI 21 (some 34) rfl rfl hS ?_|refine tkJ 22 (some 35) rfl rfl ?_ hS ?_ ?_|refine tkJ 23 (some 12) rfl rfl ?_ hS ?_ ?_
    try
     rotate_left
     · rintro W' _ _;go_simp;try rfl
    try simp only[pL]
   refine wpAnyH_done (by kernel_rfl) ?_ _
   go_wp2_with fail
   go_meet
   exact ⟨by first|(rw[Ht.out];done)|(rw[Ht.out];rfl)|(rw[Ht.out];simp;omega),hS⟩
  by_cases h1:h.term<g.term
  ·
   have Ht:Hid (tv=true):=hJ (by rw[←Htv.out,decide_eq_true h1];simp)
   have d1:decide (h.term<g.term)=true:=decide_eq_true h1
   refine wp_region_held_drew (S:=fun W'=>Ext W W') (by kernel_rfl) (Mod.refl _ W).drew (fun hS=>?_)
   refine tkH 0 (some 13) rfl rfl (.agg (h.cells (.slice As sl cs) (.slice Al ll cl)).toArray) hS ?_ ?_
   · rintro W' hW'
     obtain ⟨hbc,hbf⟩:=zaO hW'
     exact zbH _ _ rfl (.pointer (some ⟨b,0,none⟩)) _ rfl (ld0 (P:=Tryz.prog) (cs:=h.cells (.slice As sl cs) (.slice Al ll cl)) yF (hW'.blk HA.out id))
   try simp only[pL]
   refine zaJ 1 rfl (fun K hK=>?_)
   go_simp
   go_wp2_with fail
   refine (zdY W.drew U h _ _ (by have h1:=HvW.out;exact h1) (by rw[Hll.out];have:=Hl.out;omega)).mono ?_
   rintro e w6 ⟨rfl,hE6⟩
   rw[hck,if_pos rfl]
   have hX:=(hS.ext hE6)
   go_simp
   refine hK.out _ _ hX (fun hS=>?_)
   clear hK K hX
   try simp only[pL]
   iterate 22
    first|refine tkJ 2 (some 15) rfl rfl ?_ hS ?_ ?_|refine tkJ 3 (some 16) rfl rfl ?_ hS ?_ ?_|refine tkJ 4 (some 17) rfl rfl ?_ hS ?_ ?_|refine tkJ 5 (some 18) rfl rfl ?_ hS ?_ ?_|refine tkJ 6 (some 19) rfl rfl ?_ hS ?_ ?_|refine tkJ 7 (some 20) rfl rfl ?_ hS ?_ ?_|refine tkJ 8 (some 21) rfl rfl ?_ hS ?_ ?_|refine tkJ 9 (some 22) rfl rfl ?_ hS ?_ ?_|refine tkJ 10 (some 23) rfl rfl ?_ hS ?_ ?_|refine tkJ 11 (some 24) rfl rfl ?_ hS ?_ ?_|refine tkJ 12 (some 25) rfl rfl ?_ hS ?_ ?_|refine tkJ 13 (some 26) rfl rfl ?_ hS ?_ ?_|refine tuI 14 (some 27) rfl rfl hS ?_|refine tuI 15 (some 28) rfl rfl hS ?_|refine tuI 16 (some 29) rfl rfl hS ?_|refine tuI 17 (some 30) rfl rfl hS ?_|refine tuI 18 (some 31) rfl rfl hS ?_|refine tuI 19 (some 32) rfl rfl hS ?_|refine tuI 20 (some 33) rfl rfl hS ?_|refine tuI 21 (some 34) rfl rfl hS ?_|refine tkJ 22 (some 35) rfl rfl ?_ hS ?_ ?_|refine tkJ 23 (some 12) rfl rfl ?_ hS ?_ ?_
    try
     rotate_left
     · rintro W' _ _;go_simp;try rfl
    try simp only[pL]
   refine wpAnyH_done (by kernel_rfl) ?_ _
   go_wp2_with fail
   go_meet
   exact ⟨by first|(rw[Ht.out];done)|(rw[Ht.out];rfl)|(rw[Ht.out];simp;omega),hS⟩
  have d1:decide (h.term<g.term)=false:=decide_eq_false h1
  by_cases h2:h.base<g.base
  focus
   have Ht:Hid (tv=true):=hJ (by rw[←Htv.out,decide_eq_true h2];simp)
   have d2:decide (h.base<g.base)=true:=decide_eq_true h2
  rotate_left
  focus
   have Ht:Hid (tv=false):=hJ (by rw[←Htv.out,hck,decide_eq_false h1,decide_eq_false h2];rfl)
   have d2:decide (h.base<g.base)=false:=decide_eq_false h2
  all_goals
   refine wp_region_held_drew (S:=fun W'=>Ext W W') (by kernel_rfl) (Mod.refl _ W).drew (fun hS=>?_)
   refine tkH 0 (some 13) rfl rfl (.agg (h.cells (.slice As sl cs) (.slice Al ll cl)).toArray) hS ?_ ?_
   · rintro W' hW'
     obtain ⟨hbc,hbf⟩:=zaO hW'
     exact zbH _ _ rfl (.pointer (some ⟨b,0,none⟩)) _ rfl (ld0 (P:=Tryz.prog) (cs:=h.cells (.slice As sl cs) (.slice Al ll cl)) yF (hW'.blk HA.out id))
   try simp only[pL]
   refine zaJ 1 rfl (fun K hK=>?_)
   go_simp
   go_wp2_with fail
   refine (zdY W.drew U h _ _ (by have h1:=HvW.out;exact h1) (by rw[Hll.out];have:=Hl.out;omega)).mono ?_
   rintro e w6 ⟨rfl,hE6⟩
   rw[hck,if_pos rfl]
   have hX:=(hS.ext hE6)
   go_simp
   refine hK.out _ _ hX (fun hS=>?_)
   clear hK K hX
   try simp only[pL]
   iterate 22
    (first|refine tkJ 2 (some 15) rfl rfl ?_ hS ?_ ?_|refine tkJ 3 (some 16) rfl rfl ?_ hS ?_ ?_|refine tkJ 4 (some 17) rfl rfl ?_ hS ?_ ?_|refine tkJ 5 (some 18) rfl rfl ?_ hS ?_ ?_|refine tkJ 6 (some 19) rfl rfl ?_ hS ?_ ?_|refine tkJ 7 (some 20) rfl rfl ?_ hS ?_ ?_|refine tkJ 8 (some 21) rfl rfl ?_ hS ?_ ?_|refine tkJ 9 (some 22) rfl rfl ?_ hS ?_ ?_|refine tkJ 10 (some 23) rfl rfl ?_ hS ?_ ?_|refine tkJ 11 (some 24) rfl rfl ?_ hS ?_ ?_|refine tkJ 12 (some 25) rfl rfl ?_ hS ?_ ?_|refine tkJ 13 (some 26) rfl rfl ?_ hS ?_ ?_|refine tkJ 14 (some 27) rfl rfl ?_ hS ?_ ?_|refine tkJ 15 (some 28) rfl rfl ?_ hS ?_ ?_|refine tkJ 16 (some 29) rfl rfl ?_ hS ?_ ?_|refine tkJ 17 (some 30) rfl rfl ?_ hS ?_ ?_|refine tkJ 18 (some 31) rfl rfl ?_ hS ?_ ?_|refine tkJ 19 (some 32) rfl rfl ?_ hS ?_ ?_|refine tkJ 20 (some 33) rfl rfl ?_ hS ?_ ?_|refine tkJ 21 (some 34) rfl rfl ?_ hS ?_ ?_|refine tkJ 22 (some 35) rfl rfl ?_ hS ?_ ?_|refine tkJ 23 (some 12) rfl rfl ?_ hS ?_ ?_);rotate_left;· rintro W' _ _;go_simp;try rfl
    try simp only[pL]
   refine wpAnyH_done (by kernel_rfl) ?_ _
   go_wp2_with fail
   go_meet
   exact ⟨by first|(rw[Ht.out];done)|(rw[Ht.out];rfl)|(rw[Ht.out];simp;omega),hS⟩
 obtain ⟨rfl,hX⟩:=hcut
 have HX:=hJ (HE.out.ext hX)
 have HA2:=hJ (hX.blk HA.out id)
 have HS2:Hid (StB wc s d g (.slice Bs gn bs) (.slice Bl gg bl)):=hJ (hX.blk HSW.out id)
 have Hv2:=hJ (HvW.out.mod hX (fun _ _=>id))
 clear hX c0 c2 s1 s3 hbl hsL HSW HvW HA
 rcases tv with _|_
 rotate_left
 ·
  have HRq:Hid (R=(D,g,6)):=hJ (by
   rw[←HR.out]
   unfold zb6
   have h1:=Htv.out
   simp only[Bool.or_eq_true,Bool.not_eq_true',decide_eq_true_eq] at h1
   rw[Hoff.out,if_neg (by simp),if_pos (by rcases h1 with (h1|h1)|h1;exact .inl h1;exact .inr (.inl h1);exact .inr (.inr h1))])
  go_wp2
  go_ret
  exact zjX.same HRq.out HS.out HD.out (DM.same HD.out HX.out) rfl (by omega)
 have hf:=Htv.out
 simp only[Bool.or_eq_false_iff,Bool.not_eq_false',decide_eq_false_iff_not] at hf
 have hr:=(jM h).1 hf.1.1
 have HRq:Hid (R=((zbJ D g h).1,if (zbJ D g h).2=0 then h else g,(zbJ D g h).2)):=hJ (by
  rw[←HR.out]
  unfold zb6
  rw[Hoff.out,if_neg (by simp),if_neg (by rintro (e|e|e);rw[hf.1.1] at e;cases e;exact hf.1.2 e;exact hf.2 e)])
 clear hf Htv
 have hldb:=ld0 (P:=Tryz.prog) (cs:=h.cells (.slice As sl cs) (.slice Al ll cl)) yF HA2.out
 go_wp2_with (refine yT rfl 61 _ rfl _ _ rfl hldb ?_)
 clear hldb
 refine (st_write wc T U s d g h Bs gn bs Bl gg bl As sl cs Al ll cl fv D HS2.out (HD.out.ext HX.out) (Hg.out.mod HX.out (fun _ _=>id)) Hgn.out Hgl.out Hv2.out Hsn.out Hll.out HU.out hr Hl.out hgl2).mono ?_
 rintro e w2 ⟨rfl,hM2⟩
 have hM2w:=DM.trans (Ext.mod HX.out _) (fun g hg=>.inl hg) hM2
 obtain ⟨fv1,hD1,hm1,hf1⟩:=hM2
 have hU3:∀ k,U k→¬ (k=d∨fv.ownBlock=some k):=fun k hk e=>by
  have:=HU.out k hk
  rcases e with e|e
  · exact this.1 e
  exact this.2 e
 have HS3:=hJ (HS2.out.dm (HD.out.ext HX.out) hm1)
 have Hv3:=hJ (Hv2.out.mod hm1 hU3)
 have HA3:Hid (w2.heap[b]? = some (.cells (h.cells (.slice As sl cs) (.slice Al ll cl)).toArray 61 (0,0))):=hJ (hm1.blk HA2.out (fun e=>by
  rcases e with e|e
  · exact (HD.out.ext HX.out).ne HA2.out (by decide) e
  exact zG (HD.out.ext HX.out).2.1 e HA2.out (by decide) rfl))
 have HD1:=hJ hD1
 have Hm1:=hJ ((Ext.mod HX.out (fun k=>k=d∨fv.ownBlock=some k)).self hm1)
 have Hf1:Hid (∀ g,fv1.ownBlock=some g→fv.ownBlock=some g∨w.heap.size≤g):=hJ (fun g hg=>by
  rcases hf1 g hg with e|e
  · exact .inl e
  exact .inr (Nat.le_trans HX.out.size e))
 have HM2w:=hJ hM2w
 obtain ⟨D1,hD1e⟩:∃ D1,(zbJ D g h).1=D1:=⟨_,rfl⟩
 obtain ⟨cd,hcd⟩:∃ cd,(zbJ D g h).2=cd:=⟨_,rfl⟩
 rw[hD1e,hcd] at HRq
 rw[hD1e] at HD1 HM2w
 rw[hcd]
 clear hM2w hD1 hm1 hf1 hU3 hD1e hcd
 rcases e0:(cd==0) with _|_
 ·
  have hc0:¬ cd=0:=by simpa using e0
  have HRs:Hid (R=(D1,g,cd)):=hJ (by rw[HRq.out,if_neg hc0])
  go_wp2
  go_ret
  exact zjX.same HRs.out HS.out HD.out HM2w.out rfl hc0
 have hc0:cd=0:=by simpa using e0
 have HRs:Hid (R=(D1,h,0)):=hJ (by rw[HRq.out,if_pos hc0,hc0])
 subst hc0
 clear HRq e0
 have hldb:=ld0 (P:=Tryz.prog) (cs:=h.cells (.slice As sl cs) (.slice Al ll cl)) yF HA3.out
 go_wp2_with (refine yT rfl 61 _ rfl _ _ rfl hldb ?_)
 clear hldb
 refine (zkS w2 U h _ _ Hv3.out (by rw[Hll.out];have:=Hl.out;omega) (by rw[Hsn.out];exact hsl)).mono ?_
 rintro e w3 ⟨gs',gl',rfl,hN3,hX3⟩
 have HS4:Hid (StB w3 s d g (.slice Bs gn bs) (.slice Bl gg bl)):=hJ (hX3.blk HS3.out id)
 have hone:=zjV hN3
 obtain ⟨HN3,HX3⟩:=hJ2 hN3 hX3
 clear hN3 hX3
 go_wp2_with (refine qH rfl 61 _ _ rfl 10 s 1 (h.cells gs' gl') rfl rfl yF _ (jJ d g (.slice Bs gn bs) (.slice Bl gg bl)) (jJ d h gs' gl') HS4.out rfl (by simp) hone rfl ?_)
 intro w4 hb4 hm4 hs4
 have hD3:=HD1.out.ext HX3.out
 have hD4:Dsk w4 d fv1 D1:=hD3.mod hm4 (fun e=>hD3.ne HS4.out (by decide) e.symm) (fun k hk e=>zG hD3.2.1 hk HS4.out (by decide) e)
 have hN4:zcS w w4 gs' gl' h:=(HN3.out.box HS4.out hm4 (by decide) (by decide)).base Hm1.out.size
 have hM4:Mod (fun k=>k=d∨fv.ownBlock=some k∨k=s) w w4:=((Hm1.out.mono (T:=fun k=>k=d∨fv.ownBlock=some k∨k=s) (fun k _ hk=>by rcases hk with e|e;exact .inl e;exact .inr (.inl e))).ext HX3.out).trans hm4 (fun k _ e=>.inr (.inr e))
 have hap:∀ k,gs'.ownBlock=some k→fv1.ownBlock≠some k:=fun k hk e=>by
  have h1:=HN3.out.1.2 k hk
  have h2:=za0 HD1.out.2.1 e
  omega
 have HF:Hid (zjX w s d fv (.slice Bs gn bs) (.slice Bl gg bl) R (.returned (.int .i64 0)) w4):=hJ (by
  rw[HRs.out]
  exact ⟨rfl,fv1,gs',gl',hD4,hb4,hM4,Hf1.out,.inr ⟨hN4,hap⟩⟩)
 clear hD3 hD4 hN4 hM4 hap hm4 hs4 hb4
 go_wp2
 go_ret
 exact HF.out
end Go.Proofs.YtjbkjhhjofeldaaGreat
namespace Go.Proofs.YtjbkjhhjofeldaaGreat
set_option linter.unusedSimpArgs false
set_option linter.unusedVariables false
theorem zpK {T:Int} {x:zO} (hx:jQ x=true) (ht:x.term=T):∀ {l:List zO} {b:Int},zdX T b l=true→b≤T→zdX T b (l++[x])=true
  | [],b,_,hb=>by rw[List.nil_append,zdX,zdX,hx,ht];simp[hb]
  | y :: l,b,h,hb=>by
    rw[zdX] at h
    simp only[Bool.and_eq_true,decide_eq_true_eq] at h
    rw[List.cons_append,zdX,zpK hx ht h.2 h.1.1.2,h.1.2]
    simp[h.1.1.1,h.1.1.2]
theorem row_up {T T':Int} (hT:T≤T'):∀ {l:List zO} {b:Int},zdX T b l=true→zdX T' b l=true
  | [],b,_=>by rw[zdX]
  | y :: l,b,h=>by
    rw[zdX] at h
    simp only[Bool.and_eq_true,decide_eq_true_eq] at h
    rw[zdX,row_up hT h.2,h.1.2]
    simp only[Bool.and_eq_true,decide_eq_true_eq]
    exact ⟨⟨⟨h.1.1.1,by omega⟩,trivial⟩,trivial⟩
def zX.put (h:zX) (x:zO):zX:={ h with log:=h.log++[x] }
theorem Right.put {h:zX} (hr:Right h) {x:zO} (hx:jQ x=true) (ht:x.term=h.term) (h1:1≤h.term):Right (h.put x):=
  ⟨hr.t0,hr.t1,hr.v0,hr.v1,hr.b0,hr.b1,hr.bt0,hr.bt1,hr.bb,hr.c,hr.s,hr.bs,zpK hx ht hr.r (by show max h.baseTerm 1≤h.term;have:=hr.bt1;omega)⟩
theorem Right.voted {h:zX} (hr:Right h) (h1:h.term<1099511627776):Right { h with term:=h.term+1,vote:=0 }:=
  ⟨by have:=hr.t0;simp only;omega,by simp only;omega,by simp only;omega,by simp only;omega,hr.b0,hr.b1,hr.bt0,by have:=hr.bt1;simp only;omega,hr.bb,hr.c,hr.s,hr.bs,row_up (by simp only;omega) hr.r⟩
structure zaD (r:zS):Prop where
  right:zbF r []
  lone:zdL r.hard
  oks:∀ x∈r.hard.log,x.ok
  id:r.id=0
  role:r.role=3
  all:r.commit=r.last
  tat:Tat r.hard r.last r.hard.term
  t1:1≤r.hard.term
  m:r.mtch=⟨r.last,0,0,0,0,0,0⟩
def zS.put (r:zS) (x:zO):zS:={ r with hard:=r.hard.put x,commit:=r.last+1,mtch:=⟨r.last+1,0,0,0,0,0,0⟩ }
theorem zS.put_last (r:zS) (x:zO):(r.put x).last=r.last+1:=by
  show r.hard.base+((r.hard.log++[x]).length:Int)=r.hard.base+r.hard.log.length+1
  rw[List.length_append];simp;omega
theorem zpL (h:zX) (x:zO):Tat (h.put x) (h.base+h.log.length+1) x.term:=.inr ⟨h.log.length,x,by show _=h.base+1+_;omega,by show (h.log++[x])[h.log.length]? = _;simp,rfl⟩
theorem zdL.put {h:zX} (hl:zdL h) {x:zO} (hk:x.kind≠2) (hn:h.log.length<1000):zdL (h.put x):=
  ⟨⟨hl.alone.conf,fun y hy=>by
    rcases List.mem_append.1 hy with hy|hy
    · exact hl.alone.none y hy
    · rw[List.mem_singleton.1 hy];exact hk⟩,by show (h.log++[x]).length≤_;rw[List.length_append];simp;omega,hl.base⟩
theorem zaD.put {r:zS} (h:zaD r) {x:zO} (hx:jQ x=true) (hok:x.ok) (ht:x.term=r.hard.term) (hk:x.kind≠2) (hn:r.hard.log.length<1000):zaD (r.put x):=by
  have hR:=h.right
  have hl0:0≤r.last:=by have:=hR.base;have:=hR.hard.b0;have:=hR.commit;omega
  have hpl:=r.put_last x
  exact {
    right:={
      hard:=hR.hard.put hx ht h.t1
      few:=by show (r.hard.log++[x]).length≤_;rw[List.length_append];simp;omega
      id:=hR.id
      base:=by show r.hard.base≤r.last+1;have:=hR.base;have:=hR.commit;omega
      commit:=by rw[hpl];show r.last+1≤_;omega
      role:=hR.role
      lead:=hR.lead
      wait:=hR.wait
      quiet:=hR.quiet
      round:=hR.round
      votes:=hR.votes
      next:=hR.next
      mtch:=by
        intro y hy
        rw[hpl]
        have hy:y∈[r.last+1,0,0,0,0,0,0]:=hy
        simp only[List.mem_cons,List.not_mem_nil,or_false] at hy
        omega
      silent:=hR.silent
      asks:=hR.asks
      ask:=by simp
      rule:=fun h=>absurd rfl h
      own:=hR.own }
    lone:=h.lone.put hk hn
    oks:=fun y hy=>by
      rcases List.mem_append.1 hy with hy|hy
      · exact h.oks y hy
      · rw[List.mem_singleton.1 hy];exact hok
    id:=h.id
    role:=h.role
    all:=hpl.symm
    tat:=by
      rw[hpl]
      have:=zpL r.hard x
      rw[ht] at this
      exact this
    t1:=h.t1
    m:=by rw[hpl];rfl }
def zX.snapped (h:zX) (n:Int) (b:List UInt8):zX:={ h with base:=n,baseTerm:=h.term,conf:=C1,snap:=b,log:=[] }
def zS.snapped (r:zS) (b:List UInt8):zS:={ r with hard:=r.hard.snapped r.commit b }
theorem zaD.snapped {r:zS} (h:zaD r) {b:List UInt8} (hb:b.length≤16384) (h1:r.hard.base<r.commit) (h2:r.commit≤1099511627776):zaD (r.snapped b):=by
  have hR:=h.right
  have hH:=hR.hard
  have hb0:=hH.b0
  have ht1:=h.t1
  have hla:(r.snapped b).last=r.last:=by
    show r.commit+(([]:List zO).length:Int)=_
    rw[h.all];simp
  exact {
    right:={
      hard:=⟨hH.t0,hH.t1,hH.v0,hH.v1,by show 0≤r.commit;omega,h2,by show 0≤r.hard.term;omega,by show r.hard.term≤r.hard.term;omega,by
        show (r.hard.term==0)=(r.commit==0)
        rw[show (r.hard.term==0)=false by simp;omega,show (r.commit==0)=false by simp;omega],by show zb2 C1=true;decide +kernel,hb,.inl (by show r.commit≠0;omega),by show zdX _ _ []=true;rw[zdX]⟩
      few:=by show ([]:List zO).length≤_;simp
      id:=hR.id
      base:=by show r.commit≤r.commit;omega
      commit:=by rw[hla];exact hR.commit
      role:=hR.role
      lead:=hR.lead
      wait:=hR.wait
      quiet:=hR.quiet
      round:=hR.round
      votes:=hR.votes
      next:=hR.next
      mtch:=fun x hx=>by rw[hla];exact hR.mtch x hx
      silent:=hR.silent
      asks:=hR.asks
      ask:=by simp
      rule:=fun h=>absurd rfl h
      own:=hR.own }
    lone:=⟨⟨rfl,fun y hy=>by cases hy⟩,by show ([]:List zO).length≤_;simp,by show 0≤r.commit∧_;exact ⟨by omega,h2⟩⟩
    oks:=fun y hy=>by cases hy
    id:=h.id
    role:=h.role
    all:=by rw[hla];exact h.all
    tat:=.inl ⟨by rw[hla];exact h.all.symm,rfl⟩
    t1:=h.t1
    m:=by rw[hla];exact h.m }
end Go.Proofs.YtjbkjhhjofeldaaGreat
