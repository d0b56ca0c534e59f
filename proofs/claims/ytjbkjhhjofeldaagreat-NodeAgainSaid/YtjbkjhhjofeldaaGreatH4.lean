/-
 Layer 22 (node): the walk of NodeAgain. Conditions: as each theorem names them.
-/
import Derived.Test.YtjbkjhhjofeldaaGreatG48
import Derived.Test.YtjbkjhhjofeldaaGreatH3
set_option maxRecDepth 100000
set_option maxHeartbeats 8000000
namespace Go.Proofs.YtjbkjhhjofeldaaGreat
set_option linter.unusedSimpArgs false
set_option linter.unusedVariables false
open Go.RowKit
theorem zrJ {P:Program} {ops:Array Oper} {Q:Exit→Act→World→Prop} {md:Region.Mode} {S:World→Prop} {k:Nat} {fuel:Nat} {listed:Array Bool} {a:Act} {w:World} (k':Nat) (hk:listed.getD k false=true) (h:yK P md ops Q S k' fuel listed a w):yK P md ops Q S k fuel listed a w:=
  zcT fuel listed a w (fun i _=>by
    by_cases hik:i=k
    · subst hik
      by_cases hs:i<(listed.setIfInBounds i true).size
      · simp at hs;simp[hs]
      · simp at hs;simp[Array.getElem?_eq_none,hs]
    · rw[getD_set_ne true hik]
      rw[Array.getD_eq_getD_getElem?] at hk ⊢
      rcases h0:listed[k]? with _|b
      · rfl
      · rw[h0] at hk;exact hk) (zbS _ _ _ _ h)
theorem zmP (r:yH):ze4 r r=true:=by simp[ze4,zeT]
theorem eqCallN (c:zW):zbY c c=true:=by simp[zbY,zh1,zeT,zfM]
theorem eqMN (m:jK):eqM m m=true:=by
  refine zq0 ?_ ?_
  · exact (zgD _ _ _).2 ⟨rfl,fun i x y hx hy=>by rw[hx] at hy;cases hy;simp[zgL,zeT,zfM]⟩
  · exact (zgD _ _ _).2 ⟨rfl,fun i x y hx hy=>by rw[hx] at hy;cases hy;simp[zdT,zmP]⟩
theorem zb7.told {w0 w w':World} {n m:Nat} {V:NV} {N:yB} {v:Value} {xs:List Value} (h:zb7 50 15 w0 w v m xs) (hN:yD w0 w n V N) (hV:V.tv=.slice none 0 0) (hM:Mod (NS n V) w w'):zb7 50 15 w0 w' v m xs:=
  ⟨zN h.1 hM (fun g hg hs=>by
    rcases hs with e|e|e|e|e|e
    · exact zG h.1 hg hN.box (by decide) e
    · exact zG h.1 hg hN.p.st (by decide) e
    · exact zG h.1 hg hN.p.dk.1 (by decide) e
    · exact jT h.1 hN.p.dk.2.1 (by decide) hg e
    · rw[hV] at e;simp[Value.ownBlock] at e
    · exact jT h.1 hN.dd.1 (by decide) hg e),h.2⟩
theorem newP_ns {w0 W w w':World} {n:Nat} {V:NV} {N:yB} {v:Value} {l:List zJ} (h:zg7 W w v l) (hN:yD w0 w n V N) (hV:V.tv=.slice none 0 0) (hM:Mod (NS n V) w w'):zg7 W w' v l:=
  xV h hM (fun g hg hs=>by
    rcases hs with e|e|e|e|e|e
    · exact zG h.1 hg hN.box (by decide) e
    · exact zG h.1 hg hN.p.st (by decide) e
    · exact zG h.1 hg hN.p.dk.1 (by decide) e
    · exact jT h.1 hN.p.dk.2.1 (by decide) hg e
    · rw[hV] at e;simp[Value.ownBlock] at e
    · exact jT h.1 hN.dd.1 (by decide) hg e)
theorem newS_ns {w0 W w w':World} {n:Nat} {V:NV} {N:yB} {v:Value} {l:List zR} (h:zj0 W w v l) (hN:yD w0 w n V N) (hV:V.tv=.slice none 0 0) (hM:Mod (NS n V) w w'):zj0 W w' v l:=
  zaX h hM (fun g hg hs=>by
    rcases hs with e|e|e|e|e|e
    · exact zG h.1 hg hN.box (by decide) e
    · exact zG h.1 hg hN.p.st (by decide) e
    · exact zG h.1 hg hN.p.dk.1 (by decide) e
    · exact jT h.1 hN.p.dk.2.1 (by decide) hg e
    · rw[hV] at e;simp[Value.ownBlock] at e
    · exact jT h.1 hN.dd.1 (by decide) hg e)
theorem yD.lower {W w0 w:World} {n:Nat} {V:NV} {N:yB} (h:yD w0 w n V N) (hs:W.heap.size≤w0.heap.size):yD W w n V N:=
  ⟨⟨h.p.st,h.p.dk,⟨⟨h.p.gh.1.1,fun g hg=>Nat.le_trans hs (h.p.gh.1.2 g hg)⟩,jH h.p.gh.2 hs⟩,⟨⟨⟨h.p.rh.hard.1.1,fun g hg=>Nat.le_trans hs (h.p.rh.hard.1.2 g hg)⟩,jH h.p.rh.hard.2 hs⟩,⟨h.p.rh.reads.1,fun g hg=>Nat.le_trans hs (h.p.rh.reads.2 g hg)⟩⟩,zaQ h.p.pp hs,⟨h.p.xx.1,h.p.xx.2.1,fun g hg=>Nat.le_trans hs (h.p.xx.2.2 g hg)⟩,⟨h.p.ww.1,fun g hg=>Nat.le_trans hs (h.p.ww.2 g hg)⟩,fun k hk=>⟨Nat.le_trans hs (h.p.ap k hk).1,(h.p.ap k hk).2⟩,⟨Nat.le_trans hs h.p.nb.1,Nat.le_trans hs h.p.nb.2.1,Nat.le_trans hs h.p.nb.2.2⟩⟩,h.box,⟨h.tt.1,fun g hg=>Nat.le_trans hs (h.tt.2 g hg)⟩,⟨h.dd.1,fun g hg=>Nat.le_trans hs (h.dd.2 g hg)⟩⟩
theorem xF {w w':World} (h:Mod (zD w.heap.size) w w'):Below w.heap.size w w':=h.below (Nat.le_refl _) (fun k hk hs=>by unfold zD at hs;omega)
theorem zb7.far {w0 w w':World} {e t:TypeId} {k m b:Nat} {v:Value} {xs:List Value} {cs:Array Value} {q:Nat×Nat} (h:zb7 e k w0 w v m xs) (hb:w.heap[b]? = some (.cells cs t q)) (hM:Mod (fun k=>k=b) w w') (ht:e≠t):zb7 e k w0 w' v m xs:=
  ⟨zN h.1 hM (fun g hg=>zG h.1 hg hb ht),h.2⟩
theorem za3.told0 {N:yB} {k:Nat} (h:za3 N k):za3 { N with told:=[] } k:=⟨h.L,h.rd,h.w,h.ap,h.m,h.g,h.on,h.lg,h.sn,h.la,h.rn,Nat.zero_le _,h.dn⟩
theorem zn0 {N:yB} {k:Nat} (hG:za3 N k) {c:zW} (hc:yX c=0) (hck:c.cmd.kind≠1) (hls:c.seq=(yJ N.mach.sess c.client).1):∃ E:Int,(c.seq-1<1∧E=1∨¬ c.seq-1<1∧E=10)∧∀ (w0 w:World) (n:Nat) (V:NV),yD w0 w n V N→Calls Tryz.prog 10 #[.pointer (some ⟨n,0,none⟩),.agg #[.int .i64 c.client,.int .i64 (c.seq-1),.int .i64 c.cmd.kind,.string c.cmd.key,.int .i64 c.cmd.old.kind,.float .f64 c.cmd.old.num,.string c.cmd.old.text,.int .i64 c.cmd.val.kind,.float .f64 c.cmd.val.num,.string c.cmd.val.text]] w fun e w'=>e=.returned (.int .i64 E)∧Ext w w':=by
  obtain ⟨cl,sq,cm⟩:=c
  simp only at hls hck ⊢
  have hn:zeX cl sq=true:=by
    rcases hn:zeX cl sq with _|_
    · rw[zaT hn] at hc;cases hc
    · rfl
  have hcm:zcP cm=0:=by rw[zb3 hn] at hc;exact hc
  by_cases h1:sq-1<1
  · refine ⟨1,.inl ⟨h1,rfl⟩,fun w0 w n V hN=>?_⟩
    have hb:yX ⟨cl,sq-1,cm⟩=1:=zaT (by simp[zeX];intros;omega)
    exact zkC w0 w n V N ⟨cl,sq-1,cm⟩ 1 hN hG.L hb (by decide)
  · refine ⟨10,.inr ⟨h1,rfl⟩,fun w0 w n V hN=>?_⟩
    have hb:yX ⟨cl,sq-1,cm⟩=0:=by
      rw[zb3 ?_]
      · exact hcm
      · unfold zeX at hn ⊢
        simp only[Bool.and_eq_true,decide_eq_true_eq] at hn ⊢
        omega
    exact zlE w0 w n V N ⟨cl,sq-1,cm⟩ hN hG.L hb hck (slast _) (by show sq-1<(yJ N.mach.sess cl).1;omega)
theorem l_again (w:World) (A:Option Addr) (ln cp:Nat) (l:List zW) (c:zW) (hL:Cals w (fun g=>g<w.heap.size) (.slice A ln cp) l) (hln:l.length=ln) (hco:c.ok):
  Calls Tryz.prog 3 #[.slice A ln cp,.agg #[.int .i64 c.client,.int .i64 c.seq,.int .i64 c.cmd.kind,.string c.cmd.key,.int .i64 c.cmd.old.kind,.float .f64 c.cmd.old.num,.string c.cmd.old.text,.int .i64 c.cmd.val.kind,.float .f64 c.cmd.val.num,.string c.cmd.val.text]] w fun e w'=>e=.returned (.bool true)∧Below w.heap.size w w':=by
 obtain ⟨b,hb⟩:∃ b,w.heap.size=b:=⟨_,rfl⟩
 have hll:=hL.1.le
 rw[hln] at hll
 unfold maxLen at hll
 obtain ⟨w0,hw0⟩:∃ W,w.alloc (.cells c.cells.toArray 29)=W:=⟨_,rfl⟩
 have hE0:Ext w w0:=hw0▸(Mod.refl _ w).alloc _
 have hb0:w0.heap[b]? = some (.cells c.cells.toArray 29 (0,0)):=hb▸hw0▸zI _ _
 have hs0:w0.heap.size=b+1:=by rw[←hw0,←hb];exact Array.size_push _
 have hL0:=hL.mod hE0 (fun _ _=>id)
 rw[hb] at hL0
 obtain ⟨HL,HB0,Hs0,HE0,Hb0,Hw0,Hln,Hco⟩:=hJ8 hL0 hb hs0 hE0 hb0 hw0 hln hco
 have hvc:=fun W=>hv_cmd c.cmd W
 clear hL hln hco hL0 hE0 hb0 hs0 hb hw0
 rcases hh:zdK c.cmd with _|_
 rotate_left
 · rw[hh] at hvc
   have Hvc:=hJ hvc
   clear hvc hh
   go_enter Tryz.func3,Tryz.ntmps3
   go_upto_region 1 with fail
   rw[Hw0.out,HB0.out]
   by_cases h100:(100:Int)<(ln:Int)
   · go_wp2_with fail
     first|(go_end0;exact ⟨rfl,xF (Ext.mod HE0.out _)⟩)|(go_ret;exact ⟨rfl,xF (Ext.mod HE0.out _)⟩)
   · go_wp2_with (first
      | (refine xR (by kernel_rfl) 27 _ rfl (.pointer (some ⟨b,2,none⟩)) _ rfl (xH (o:=2) (cs:=[.int .i64 c.cmd.kind,.string c.cmd.key,.int .i64 c.cmd.old.kind,.float .f64 c.cmd.old.num,.string c.cmd.old.text,.int .i64 c.cmd.val.kind,.float .f64 c.cmd.val.num,.string c.cmd.val.text]) zeP Hb0.out rfl (fun j u hu=>by rcases j with _|_|_|_|_|_|_|_|j <;> first|exact hu|cases hu)) ?_)
      | (go_at_call 8;refine (Hvc.out _).mono ?_;rintro e w1 ⟨rfl,hE1⟩;have HX1:=hJ (HE0.out.ext hE1);clear hE1))
     first|(go_end0;exact ⟨rfl,xF (Ext.mod HX1.out _)⟩)|(go_ret;exact ⟨rfl,xF (Ext.mod HX1.out _)⟩)
 rw[hh] at hvc
 have Hvc:=hJ hvc
 clear hvc hh
 by_cases hck:c.cmd.kind=1
 · have Hck:=hJ hck
   clear hck
   go_enter Tryz.func3,Tryz.ntmps3
   go_upto_region 1 with fail
   rw[Hw0.out,HB0.out]
   by_cases h100:(100:Int)<(ln:Int)
   · go_wp2_with fail
     first|(go_end0;exact ⟨rfl,xF (Ext.mod HE0.out _)⟩)|(go_ret;exact ⟨rfl,xF (Ext.mod HE0.out _)⟩)
   · go_wp2_with (first
      | (refine xR (by kernel_rfl) 27 _ rfl (.pointer (some ⟨b,2,none⟩)) _ rfl (xH (o:=2) (cs:=[.int .i64 c.cmd.kind,.string c.cmd.key,.int .i64 c.cmd.old.kind,.float .f64 c.cmd.old.num,.string c.cmd.old.text,.int .i64 c.cmd.val.kind,.float .f64 c.cmd.val.num,.string c.cmd.val.text]) zeP Hb0.out rfl (fun j u hu=>by rcases j with _|_|_|_|_|_|_|_|j <;> first|exact hu|cases hu)) ?_)
      | (go_at_call 8;refine (Hvc.out _).mono ?_;rintro e w1 ⟨rfl,hE1⟩;have HX1:=hJ (HE0.out.ext hE1);have pk:w1.cell? ⟨b,2,none⟩=some (.int .i64 1):=(by rw[←Hck.out];exact zA (hE1.blk Hb0.out id) rfl);clear hE1))
     first|(go_end0;exact ⟨rfl,xF (Ext.mod HX1.out _)⟩)|(go_ret;exact ⟨rfl,xF (Ext.mod HX1.out _)⟩)
 have Hck:=hJ hck
 go_enter Tryz.func3,Tryz.ntmps3
 go_upto_region 1 with fail
 rw[Hw0.out,HB0.out]
 by_cases h100:(100:Int)<(ln:Int)
 · go_wp2_with fail
   first|(go_end0;exact ⟨rfl,xF (Ext.mod HE0.out _)⟩)|(go_ret;exact ⟨rfl,xF (Ext.mod HE0.out _)⟩)
 have hl100:ln≤100:=by omega
 go_upto_region 3 with (first
  | (refine xR (by kernel_rfl) 27 _ rfl (.pointer (some ⟨b,2,none⟩)) _ rfl (xH (o:=2) (cs:=[.int .i64 c.cmd.kind,.string c.cmd.key,.int .i64 c.cmd.old.kind,.float .f64 c.cmd.old.num,.string c.cmd.old.text,.int .i64 c.cmd.val.kind,.float .f64 c.cmd.val.num,.string c.cmd.val.text]) zeP Hb0.out rfl (fun j u hu=>by rcases j with _|_|_|_|_|_|_|_|j <;> first|exact hu|cases hu)) ?_)
  | (go_at_call 8;refine (Hvc.out _).mono ?_;rintro e w1 ⟨rfl,hE1⟩;have HX1:=hJ hE1;have pk:w1.cell? ⟨b,2,none⟩=some (.int .i64 c.cmd.kind):=zA (hE1.blk Hb0.out id) rfl;clear hE1))
 clear pk hck
 go_upto_region 4 with (go_at_call 9;refine (l_alone w1).mono ?_;rintro e w2 ⟨n,d,V,N,rfl,hN,h6,hwv,hVd,hM⟩)
 have hup:∀ {W W':World},Ext w0 W→Mod (zD W.heap.size) W W'→Mod (zD w0.heap.size) w0 W':=fun hE hM=>(Ext.mod hE _).trans hM (fun k _ h=>Nat.le_trans hE.size h)
 have hNu:yD w0 w2 n V N:=hN.lower HX1.out.size
 have HN2:=hJ hNu
 have HM2:=hJ (hup HX1.out hM)
 have HG2:=hJ h6.1
 have HV2:=hJ hwv
 clear hN h6 hwv hVd hM hNu hup
 go_wp2_with fail
 go_loopw [7] (fun iv wr=>∃ (i:Nat) (V:NV) (N:yB),i≤ln∧iv=.int .i64 i∧yD w0 wr n V N∧za3 N i∧V.wv=.slice none 0 0∧Mod (zD w0.heap.size) w0 wr) (fun iv _=>ln-(intOf iv).toNat)
 case atStart=>exact ⟨0,V,N,by omega,rfl,HN2.out,HG2.out,HV2.out,HM2.out⟩
 clear HN2 HM2 HG2 HV2 V N HX1
 obtain ⟨i,V,N,hin,rfl,hN,hG,hwv,hM⟩:=hrel
 obtain ⟨HN,HG,Hwv,HM⟩:=hJ4 hN hG hwv hM
 have Hb:=hJ (hM.blk Hb0.out (fun e=>by unfold zD at e;have:=Hs0.out;omega))
 clear hN hG hwv hM
 have hi0:(0:Int)≤(i:Int):=by omega
 have hsm:=HG.out.small
 have hmr:=HG.out.m
 obtain ⟨Hsm,Hmr⟩:=hJ2 hsm hmr
 clear hsm hmr
 by_cases hi:i<ln
 · obtain ⟨gb,ob,x,rfl,hgT,hx,hxok,hcx⟩:=(HL.out.mod HM.out (fun g hg hs=>by unfold zD at hs;have:=Hs0.out;omega)).at hi
   obtain ⟨Hcx,Hxok⟩:=hJ2 hcx hxok
   have hi1:(i:Int)<(ln:Int):=by omega
   have hvx:=fun W=>hv_cmd x.cmd W
   have hldc:(Instr.loadAt 27 (.pointer (some ⟨gb,ob+i*10+2,none⟩))).run Tryz.prog wr=.ok (.agg #[.int .i64 x.cmd.kind,.string x.cmd.key,.int .i64 x.cmd.old.kind,.float .f64 x.cmd.old.num,.string x.cmd.old.text,.int .i64 x.cmd.val.kind,.float .f64 x.cmd.val.num,.string x.cmd.val.text]) wr:=jE (cs:=[.int .i64 x.cmd.kind,.string x.cmd.key,.int .i64 x.cmd.old.kind,.float .f64 x.cmd.old.num,.string x.cmd.old.text,.int .i64 x.cmd.val.kind,.float .f64 x.cmd.val.num,.string x.cmd.val.text]) zeP rfl (fun j u hu=>by
    have h0:=Hcx.out (2+j) u (by rcases j with _|_|_|_|_|_|_|_|j <;> first|exact hu|cases hu)
    rw[←Nat.add_assoc] at h0
    exact h0)
   clear hcx hx hgT hxok
   rcases hhx:zdK x.cmd with _|_
   rotate_left
   · rw[hhx] at hvx
     go_wp2_with (first
      | (refine zK ?_;refine lD 27 gb (ob+i*10+2) hldc ?_)
      | (go_at_call 8;refine (hvx _).mono ?_;rintro e w3 ⟨rfl,hE3⟩;have HX3:=hJ (show Mod (zD w.heap.size) w w3 from ((Ext.mod HE0.out _).trans HM.out (fun k _ h=>Nat.le_trans HE0.out.size h)).trans hE3 (fun k _ h=>h.elim));clear hE3))
     first|(go_end0;exact ⟨rfl,xF (HX3.out)⟩)|(go_ret;exact ⟨rfl,xF (HX3.out)⟩)
   rw[hhx] at hvx
   obtain ⟨y,hy⟩:∃ y,zlF N.mach x=y:=⟨_,rfl⟩
   obtain ⟨E,N5,hG5,hany⟩:=call_any HG.out (by omega) (c:=y) (by rw[←hy];exact zrA Hmr.out Hxok.out) (by rw[←hy];exact zmO N.mach x)
   obtain ⟨Hany,HG5⟩:=hJ2 hany hG5
   have hnx:∀ (W:World) (T:Nat→Prop) (pv xv:Value),Ses W T xv N.mach.sess→(pv.oneCell'=true∧xv.oneCell'=true)→Calls Tryz.prog 11 #[.agg #[pv,xv],.agg #[.int .i64 x.client,.int .i64 x.seq,.int .i64 x.cmd.kind,.string x.cmd.key,.int .i64 x.cmd.old.kind,.float .f64 x.cmd.old.num,.string x.cmd.old.text,.int .i64 x.cmd.val.kind,.float .f64 x.cmd.val.num,.string x.cmd.val.text]] W fun e w'=>e=.returned (.agg y.cells.toArray)∧Ext W w':=fun W T pv xv hS h1=>by
    rw[←hy]
    exact l_next N.mach x pv xv W T hS h1 Hmr.out
   have Hnx:=hJ hnx
   clear hany hG5 hnx hhx hy
   go_upto_region 11 with (first
    | (refine zK ?_;refine lD 27 gb (ob+i*10+2) hldc ?_)
    | (go_at_call 8;refine (hvx _).mono ?_;rintro e w3 ⟨rfl,hE3⟩))
   obtain ⟨Wd,hWd⟩:∃ W,w3.drew=W:=⟨_,rfl⟩
   have hEd:Ext w3 Wd:=hWd▸(Mod.refl _ w3).drew
   have HEd:=hJ (hE3.ext hEd)
   have HNd:=hJ (HN.out.ext (hE3.ext hEd))
   have Hmc:=hJ (fun W (hE:Ext Wd W)=>zeQ w0 W n V N (HNd.out.ext hE) Hsm.out.1 Hsm.out.2)
   clear hE3 hEd hvx hldc
   go_wp2_with fail
   refine yZ (fun W=>Ext Wd W) 7 (by show Ext Wd w3.drew;rw[hWd];exact Mod.refl _ _) (fun hS=>?_)
   rw[hWd] at hS ⊢
   clear hWd
   iterate 5
    (first|refine tP 0 46 ?_ hS (fun W'=>?_) ?_|refine tP 1 47 ?_ hS (fun W'=>?_) ?_|refine tP 3 49 ?_ hS (fun W'=>?_) ?_|refine tP 4 50 ?_ hS (fun W'=>?_) ?_|refine tP 5 51 ?_ hS (fun W'=>?_) ?_);rotate_left;· go_simp;try rfl
    try simp only[pL]
   refine tU 6 52 (.agg x.cells.toArray) hS gb (ob+i*10) (fun W' hW'=>jE zV rfl (fun j u hu=>(HEd.out.ext hW').cell (Hcx.out j u hu) id)) ?_
   try simp only[pL]
   refine jP 2 (fun K hK=>?_)
   go_simp
   go_wp2_with fail
   refine (Hmc.out _ hS).mono ?_
   rintro e w5 ⟨pv5,xv5,rfl,hP5,hX5,hE5⟩
   obtain ⟨A5,c5,rfl⟩:=zC hP5.1
   obtain ⟨B5,d5,rfl⟩:=zC hX5.1
   have HX5:=hJ hX5
   clear hP5 hX5
   have hX:=hS.ext hE5
   go_simp
   refine hK.out _ _ hX (fun hS=>?_)
   clear hK K hX
   try simp only[pL]
   refine xN 7 rfl ?_
   simp only[List.drop_succ_cons,List.drop_zero]
   go_upto_region 8 with (first
    | (go_at_call 11;refine (Hnx.out _ _ _ _ HX5.out.ses ⟨rfl,rfl⟩).mono ?_;rintro e w6 ⟨rfl,hE6⟩)
    | (go_at_call 10;refine (Hany.out w0 _ n V (Nat.le_trans HM.out.size (HEd.out.ext (hS.ext hE6)).size) (HNd.out.ext (hS.ext hE6)) Hwv.out).mono ?_;rintro e w7 ⟨rfl,V7,hN7,hwv7,hVd7,hM7⟩))
   have hF:∃ (j:Nat) (V:NV) (N:yB),j≤ln∧(Value.int .i64 ((i:Int)+1))=.int .i64 j∧yD w0 w7 n V N∧za3 N j∧V.wv=.slice none 0 0∧Mod (zD w0.heap.size) w0 w7:=⟨i+1,V7,N5,by omega,by rw[show ((i+1:Nat):Int)=(i:Int)+1 by omega],hN7,HG5.out,hwv7,(HM.out.trans (HEd.out.ext (hS.ext hE6)) (fun k _ h=>h.elim)).trans hM7 (fun k _ h=>h)⟩
   have HF:=hJ hF
   clear hF hN7 hwv7 hVd7 hM7 hS hE5 hE6
   go_wp2_with fail
   exact ⟨HF.out,by simp only[intOf];omega⟩
 obtain rfl:i=ln:=by omega
 obtain ⟨y,hy⟩:∃ y,zlF N.mach c=y:=⟨_,rfl⟩
 have Hyo:=hJ (show y.ok from by rw[←hy];exact zrA Hmr.out Hco.out)
 have Hyn:=hJ (show (yJ N.mach.sess y.client).1<y.seq from by rw[←hy];exact zmO N.mach c)
 have Hyk:=hJ (show y.cmd.kind≠1 from by rw[←hy];exact Hck.out)
 have hnx:∀ (W:World) (T:Nat→Prop) (pv xv:Value),Ses W T xv N.mach.sess→(pv.oneCell'=true∧xv.oneCell'=true)→Calls Tryz.prog 11 #[.agg #[pv,xv],.agg #[.int .i64 c.client,.int .i64 c.seq,.int .i64 c.cmd.kind,.string c.cmd.key,.int .i64 c.cmd.old.kind,.float .f64 c.cmd.old.num,.string c.cmd.old.text,.int .i64 c.cmd.val.kind,.float .f64 c.cmd.val.num,.string c.cmd.val.text]] W fun e w'=>e=.returned (.agg y.cells.toArray)∧Ext W w':=fun W T pv xv hS h1=>by
  rw[←hy]
  exact l_next N.mach c pv xv W T hS h1 Hmr.out
 have Hnx:=hJ hnx
 clear hnx hy
 go_upto_region 12 with fail
 obtain ⟨Wd,hWd⟩:∃ W,wr.drew=W:=⟨_,rfl⟩
 have hEd:Ext wr Wd:=hWd▸(Mod.refl _ wr).drew
 have HEd:=hJ hEd
 have HNd:=hJ (HN.out.ext hEd)
 have Hmc:=hJ (fun W (hE:Ext Wd W)=>zeQ w0 W n V N (HNd.out.ext hE) Hsm.out.1 Hsm.out.2)
 clear hEd
 go_wp2_with fail
 refine yZ (fun W=>Ext Wd W) 4 (by show Ext Wd wr.drew;rw[hWd];exact Mod.refl _ _) (fun hS=>?_)
 rw[hWd] at hS ⊢
 clear hWd
 refine tP 0 55 ?_ hS (fun W'=>?_) ?_;rotate_left;· go_simp;try rfl
 try simp only[pL]
 refine tU 2 57 (.agg c.cells.toArray) hS b 0 (fun W' hW'=>ld0 zV ((HEd.out.ext hW').blk Hb.out id)) ?_
 try simp only[pL]
 refine jP 1 (fun K hK=>?_)
 go_simp
 go_wp2_with fail
 refine (Hmc.out _ hS).mono ?_
 rintro e w5 ⟨pv5,xv5,rfl,hP5,hX5,hE5⟩
 obtain ⟨A5,c5,rfl⟩:=zC hP5.1
 obtain ⟨B5,d5,rfl⟩:=zC hX5.1
 have HX5:=hJ hX5
 clear hP5 hX5
 have hX:=hS.ext hE5
 go_simp
 refine hK.out _ _ hX (fun hS=>?_)
 clear hK K hX
 try simp only[pL]
 refine jP 3 (fun K hK=>?_)
 go_simp
 go_wp2_with fail
 refine (Hnx.out _ _ _ _ HX5.out.ses ⟨rfl,rfl⟩).mono ?_
 rintro e w6 ⟨rfl,hE6⟩
 have hX:=hS.ext hE6
 go_simp
 refine hK.out _ _ hX (fun hS=>?_)
 clear hK K hX
 try simp only[pL]
 refine xN 4 rfl ?_
 simp only[List.drop_succ_cons,List.drop_zero]
 have Hb6:=hJ ((HEd.out.ext hS).blk Hb.out id)
 have HN6:=hJ (HN.out.ext (HEd.out.ext hS))
 have HM6:=hJ (HM.out.trans (HEd.out.ext hS) (fun k _ h=>h.elim))
 clear hE5 hE6 hS
 go_upto_region 13 with (refine zF ?_;refine stQ rfl 29 _ _ rfl 10 b 0 (.agg y.cells.toArray) y.cells zV.2 _ _ y.cells Hb6.out rfl ?_;intro W7 hbW7 hmW7 hsW7)
 have HN7:=hJ (HN6.out.far Hb6.out hmW7 (by decide) (by decide) (by decide) (by decide))
 have hsn:∀ k,zD w0.heap.size k→zD w.heap.size k:=fun k h=>Nat.le_trans HE0.out.size h
 have HM7:=hJ (show Mod (zD w.heap.size) w W7 from ((Ext.mod HE0.out _).trans HM6.out (fun k _ h=>hsn k h)).trans hmW7 (fun k _ e=>by unfold zD;have:=HB0.out;omega))
 obtain ⟨Hb7,Hsn⟩:=hJ2 hbW7 hsn
 clear hbW7 hmW7 hsW7 hsn HN6 HM6 Hb6
 have hrc:=fun W=>r_call y W
 by_cases hcy:yX y=0
 rotate_left
 · have Hrc:=hJ hrc
   obtain ⟨E,hE⟩:∃ E,yX y=E:=⟨_,rfl⟩
   rw[hE] at Hrc hcy
   clear hrc hE
   go_wp2_with (first
    | (refine zK ?_;refine lD 29 b 0 (ld0 zV Hb7.out) ?_)
    | (go_at_call 13;refine (Hrc.out _).mono ?_;rintro e w8 ⟨rfl,hE8⟩)
    | (go_at_call 14;refine (zg2 _).mono ?_;rintro e w9 ⟨rfl,hE9⟩;have HX9:=hJ ((HM7.out.trans hE8 (fun k _ h=>h.elim)).trans hE9 (fun k _ h=>h.elim));clear hE8 hE9))
   first|(go_end0;exact ⟨rfl,xF (HX9.out)⟩)|(go_ret;exact ⟨rfl,xF (HX9.out)⟩)
 rw[hcy] at hrc
 obtain ⟨Hrc,Hcy⟩:=hJ2 hrc hcy
 clear hrc hcy
 go_upto_region 15 with (first
  | (refine zK ?_;refine lD 29 b 0 (ld0 zV Hb7.out) ?_)
  | (go_at_call 13;refine (Hrc.out _).mono ?_;rintro e w8 ⟨rfl,hE8⟩))
 have Hb8:=hJ (hE8.blk Hb7.out id)
 have HM8:=hJ (HM7.out.trans hE8 (fun k _ h=>h.elim))
 have HN8:=hJ (HN7.out.ext hE8)
 have Htd:=hJ (zhT w0 w8 n V N HN8.out)
 clear hE8
 go_upto_region 16 with (go_at_call 15;refine Htd.out.mono ?_;rintro e w9 ⟨rfl,hN9,-,hM9⟩)
 obtain ⟨V9,hV9⟩:∃ V9:NV,V9={ V with tv:=.slice none 0 0 }:=⟨_,rfl⟩
 obtain ⟨N9,hNe9⟩:∃ N9:yB,N9={ N with told:=[] }:=⟨_,rfl⟩
 rw[←hV9,←hNe9] at hN9
 have HN9:=hJ hN9
 have HG9:Hid (za3 N9 i):=hJ (by rw[hNe9];exact HG.out.told0)
 have Hwv9:=hJ (show V9.wv=.slice none 0 0 from by rw[hV9];exact Hwv.out)
 have HM9:=hJ (HM8.out.trans hM9 (fun k _ e=>Hsn.out k (e▸HN8.out.since n (.inl rfl))))
 have Hb9:=hJ (hM9.blk Hb8.out (fun e=>by have:=HN8.out.p.nb.1;have:=Hs0.out;omega))
 have Hyn9:=hJ (show (yJ N9.mach.sess y.client).1<y.seq from by rw[hNe9];exact Hyn.out)
 have Hto9:=hJ (show N9.told=[] from by rw[hNe9])
 clear hN9 hM9 hV9 hNe9 Htd HN8 HM8 Hb8 HN7 HM7 Hb7
 obtain ⟨N5,hG5,hm5,ht5,-,hC⟩:=zi3 HG9.out (by omega) Hcy.out Hyo.out Hyk.out Hyn9.out
 have h0w9:w0.heap.size≤w9.heap.size:=by have h1:=HM9.out.size;have h2:=HN9.out.p.nb;have h3:=(Array.getElem?_eq_some_iff.mp HN9.out.box).1;omega
 have Hca:=hJ (hC.any hG5.w w0 w9 n V9 h0w9 HN9.out Hwv9.out)
 obtain ⟨rp,hrp⟩:∃ r,(zdB N9.mach y).2=r:=⟨_,rfl⟩
 obtain ⟨i1,hi1⟩:∃ i,N9.r.last+1=i:=⟨_,rfl⟩
 rw[hrp,hi1,Hto9.out,List.nil_append] at ht5
 have hla5:yJ N5.mach.sess y.client=(y.seq,rp):=by
  rw[hm5,←hrp]
  rcases zqH y HG9.out.m with h|h
  · have:=(h.2 Hcy.out).1;have:=Hyn9.out;omega
  · exact h.2.2.1
 obtain ⟨HG5,Ht5,Hla5⟩:=hJ3 hG5 ht5 hla5
 clear hC hG5 hm5 ht5 hrp hi1 hla5 h0w9
 go_upto_region 17 with (first
  | (refine zK ?_;refine lD 29 b 0 (ld0 zV Hb9.out) ?_)
  | (go_at_call 10;refine Hca.out.mono ?_;rintro e w10 ⟨rfl,V10,hN10,hwv10,-,hM10⟩))
 obtain ⟨HN10,Hwv10⟩:=hJ2 hN10 hwv10
 have HM10:=hJ (HM9.out.trans hM10 (fun k _ h=>Hsn.out k h))
 have Hb10:=hJ (hM10.blk Hb9.out (fun e=>by unfold zD at e;have:=Hs0.out;omega))
 have Htd:=hJ (zhT w0 w10 n V10 N5 hN10)
 clear hN10 hwv10 hM10 Hca HN9 HM9 Hb9 HG9 Hto9 Hwv9
 go_upto_region 18 with (go_at_call 15;refine Htd.out.mono ?_;rintro e w11 ⟨rfl,hN11,hT11,hM11⟩)
 rw[Ht5.out] at hT11
 obtain ⟨g1,o1,c1,hv1,-,-⟩:=zcC hT11
 rw[hv1] at hT11 ⊢
 obtain ⟨V11,hV11⟩:∃ V9:NV,V9={ V10 with tv:=.slice none 0 0 }:=⟨_,rfl⟩
 obtain ⟨N11,hNe11⟩:∃ N9:yB,N9={ N5 with told:=[] }:=⟨_,rfl⟩
 rw[←hV11,←hNe11] at hN11
 have HN11:=hJ hN11
 have HG11:Hid (za3 N11 (i+1)):=hJ (by rw[hNe11];exact HG5.out.told0)
 have Hwv11:=hJ (show V11.wv=.slice none 0 0 from by rw[hV11];exact Hwv10.out)
 have Htv11:=hJ (show V11.tv=.slice none 0 0 from by rw[hV11])
 have Hla11:=hJ (show yJ N11.mach.sess y.client=(y.seq,rp) from by rw[hNe11];exact Hla5.out)
 have Hto11:=hJ (show N11.told=[] from by rw[hNe11])
 have HM11:=hJ (HM10.out.trans hM11 (fun k _ e=>Hsn.out k (e▸HN10.out.since n (.inl rfl))))
 have Hb11:=hJ (hM11.blk Hb10.out (fun e=>by have:=HN10.out.p.nb.1;have:=Hs0.out;omega))
 have HT11:=hJ hT11
 have Hmc:=hJ (zeQ w0 w11 n V11 N11 hN11 HG11.out.small.1 HG11.out.small.2)
 clear hN11 hT11 hM11 hv1 hV11 hNe11 Htd HN10 HM10 Hb10 HG5 Ht5 Hla5 Hwv10
 go_upto_region 19 with (first
  | (go_at_call 12;refine Hmc.out.mono ?_;rintro e w12 ⟨pvm,xvm,rfl,hPm,hXm,hE12⟩;obtain ⟨Am,cm,rfl⟩:=zC hPm.1;obtain ⟨Bm,dm,rfl⟩:=zC hXm.1)
  | (refine zF ?_;refine stQ rfl 41 _ _ rfl 2 w12.heap.size 0 (.agg #[.slice Am N11.mach.pairs.length cm,.slice Bm N11.mach.sess.length dm]) [.slice Am N11.mach.pairs.length cm,.slice Bm N11.mach.sess.length dm] zcL.2 _ [Value.slice none 0 0,.slice none 0 0] [.slice Am N11.mach.pairs.length cm,.slice Bm N11.mach.sess.length dm] (zI w12 _) rfl ?_;intro W13 hbW13 hmW13 hsW13))
 obtain ⟨q,hq⟩:∃ q,w12.heap.size=q:=⟨_,rfl⟩
 have hE13:Ext w12 W13:=Mod.toExt (((Mod.refl (zD w12.heap.size) w12).alloc _).trans hmW13 (fun k _ e=>by unfold zD;omega))
 first|rw[hq] at hbW13⊢| rw[hq] at hbW13
 have Hq13:=hJ hbW13
 have HN13:=hJ (HN11.out.ext (hE12.ext hE13))
 have HM13:=hJ (HM11.out.trans (hE12.ext hE13) (fun k _ h=>h.elim))
 have Hb13:=hJ ((hE12.ext hE13).blk Hb11.out id)
 have HT13:=hJ (HT11.out.ext (hE12.ext hE13))
 have HPm:=hJ (xV hPm hE13 (fun _ _=>id))
 have HXm:=hJ (zaX hXm hE13 (fun _ _=>id))
 have h0w13:w0.heap.size≤W13.heap.size:=by have h2:=HN13.out.p.nb;have h3:=(Array.getElem?_eq_some_iff.mp HN13.out.box).1;omega
 have hca:=zq9 w0 W13 n V11 N11 y h0w13 HN13.out (fun _=>Hwv11.out) HG11.out.L Hcy.out Hyk.out (slast _) (by rw[Hla11.out]) (by rw[Hto11.out];simp)
 rw[Hla11.out,Hto11.out,List.nil_append] at hca
 have Hca:=hJ hca
 have HPn:=hJ (fun W (hM:Mod (NS n V11) W13 W)=>newP_ns HPm.out HN13.out Htv11.out hM)
 have HXn:=hJ (fun W (hM:Mod (NS n V11) W13 W)=>newS_ns HXm.out HN13.out Htv11.out hM)
 clear hca hbW13 hmW13 hsW13 hE13 hE12 hPm hXm hq h0w13 Hmc HN11 HM11 Hb11 HT11 HPm HXm
 go_upto_region 20 with (first
  | (refine zK ?_;refine lD 29 b 0 (ld0 zV Hb13.out) ?_)
  | (go_at_call 10;refine Hca.out.mono ?_;rintro e w14 ⟨rfl,V14,hN14,hw14,hM14,hG14⟩))
 have HN14:=hJ hN14
 have Hwv14:=hJ (hw14 HG11.out.w)
 have HM14:=hJ (HM13.out.trans hM14 (fun k _ h=>Hsn.out k (HN13.out.since k h)))
 have Hb14:=hJ (hM14.blk Hb13.out (HN13.out.ns Hb13.out (by decide)))
 have Hq14:=hJ (hM14.blk Hq13.out (HN13.out.ns Hq13.out (by decide)))
 have HT14:=hJ (HT13.out.told HN13.out Htv11.out hM14)
 have HP14:=hJ (HPn.out _ hM14)
 have HX14:=hJ (HXn.out _ hM14)
 have Htd:=hJ (zhT w0 w14 n V14 _ hN14)
 clear hN14 hw14 hM14 hG14 HN13 HM13 Hb13 Hq13 HT13 Hca HPn HXn
 go_upto_region 21 with (go_at_call 15;refine Htd.out.mono ?_;rintro e w15 ⟨rfl,hN15,hT15,hM15⟩)
 obtain ⟨g2,o2,c2,hv2,-,-⟩:=zcC hT15
 rw[hv2] at hT15 ⊢
 obtain ⟨V15,hV15⟩:∃ V9:NV,V9={ V14 with tv:=.slice none 0 0 }:=⟨_,rfl⟩
 obtain ⟨N15,hNe15⟩:∃ N9:yB,N9={ N11 with told:=[] }:=⟨_,rfl⟩
 have hN15':yD w0 w15 n V15 N15:=by rw[hV15,hNe15];exact hN15
 have hbN:∀ {k:Nat} {cs:Array Value} {t:TypeId} {z:Nat×Nat},w14.heap[k]? = some (.cells cs t z)→112≠t→¬ k=n:=fun h h1 e=>jZ HN14.out.box h h1 e.symm
 obtain ⟨Wd,hWd⟩:∃ W,w15.drew=W:=⟨_,rfl⟩
 have hEd:Ext w15 Wd:=hWd▸(Mod.refl _ w15).drew
 have HNd:=hJ (hN15'.ext hEd)
 have HG15:Hid (za3 N15 (i+1)):=hJ (by rw[hNe15];exact HG11.out.told0)
 have Htv15:=hJ (show V15.tv=.slice none 0 0 from by rw[hV15])
 have Hla15:=hJ (show yJ N15.mach.sess y.client=(y.seq,rp) from by rw[hNe15];exact Hla11.out)
 have Hme15:=hJ (show N15.mach=N11.mach from by rw[hNe15])
 have HMd:=hJ (((HM14.out.trans hM15 (fun k _ e=>Hsn.out k (e▸HN14.out.since n (.inl rfl))))).trans hEd (fun k _ h=>h.elim))
 have Hbd:=hJ (hEd.blk (hM15.blk Hb14.out (hbN Hb14.out (by decide))) id)
 have Hq:=hJ (hEd.blk (hM15.blk Hq14.out (hbN Hq14.out (by decide))) id)
 have hr1:∀ j u,(⟨y,rp,i1⟩:yU).cells[j]? = some u→Wd.cell? ⟨g1,o1+j,none⟩=some u:=by
  have h1:=(HT14.out.far HN14.out.box hM15 (by decide)).ext hEd
  obtain ⟨g',o',c',e,-,hc⟩:=zcC h1
  injection e with e1 e2 e3;injection e1 with e1;injection e1 with e1 e4;subst e1;subst e4
  exact hc
 have hr2:∀ j u,(⟨y,rp,N11.applied⟩:yU).cells[j]? = some u→Wd.cell? ⟨g2,o2+j,none⟩=some u:=by
  obtain ⟨g',o',c',e,-,hc⟩:=zcC (hT15.ext hEd)
  injection e with e1 e2 e3;injection e1 with e1;injection e1 with e1 e4;subst e1;subst e4
  exact hc
 obtain ⟨Hr1,Hr2⟩:=hJ2 hr1 hr2
 have HPm:=hJ (xV (xV HP14.out hM15 (fun g hg=>zG HP14.out.1 hg HN14.out.box (by decide))) hEd (fun _ _=>id))
 have HXm:=hJ (zaX (zaX HX14.out hM15 (fun g hg=>zG HX14.out.1 hg HN14.out.box (by decide))) hEd (fun _ _=>id))
 obtain ⟨nm,hnm⟩:∃ k,N11.mach.pairs.length=k:=⟨_,rfl⟩
 obtain ⟨mm,hmm⟩:∃ k,N11.mach.sess.length=k:=⟨_,rfl⟩
 rw[hnm,hmm] at Hq
 rw[hnm] at HPm
 rw[hmm] at HXm
 have hkr:=fun W=>zk7 rp rp W
 rw[zmP] at hkr
 have Hkr:=hJ hkr
 have hkc:=fun W=>k_call y y W
 rw[eqCallN] at hkc
 have Hkc:=hJ hkc
 have hmc:∀ W,Ext Wd W→Calls Tryz.prog 12 #[.pointer (some ⟨n,0,none⟩)] W fun e w'=>∃ pv xv,e=.returned (.agg #[pv,xv])∧zg7 W w' pv N11.mach.pairs∧zj0 W w' xv N11.mach.sess∧Ext W w':=fun W hE=>by
  have h:=zeQ w0 W n V15 N15 (HNd.out.ext hE) HG15.out.small.1 HG15.out.small.2
  rw[Hme15.out] at h
  exact h
 have Hmc:=hJ hmc
 have hkm:∀ (W:World) (T U T' U':Nat→Prop) (pa pb va vb:Value),Prs W U pa N11.mach.pairs→Prs W U' pb N11.mach.pairs→Ses W T va N11.mach.sess→Ses W T' vb N11.mach.sess→Calls Tryz.prog 18 #[.agg #[pa,va],.agg #[pb,vb]] W fun e w'=>e=.returned (.bool true)∧Ext W w':=fun W T U T' U' pa pb va vb h1 h2 h3 h4=>by
  have h:=zq1 W T U T' U' pa pb va vb _ _ _ _ h1 h2 h3 h4
  rw[eqMN] at h
  exact h
 have Hkm:=hJ hkm
 clear hN15 hN15' hT15 hM15 hv2 hV15 hNe15 hbN hEd hr1 hr2 hnm hmm hkr hkc hmc hkm Htd HN14 HM14 Hb14 Hq14 HT14 HP14 HX14 HG11 Hla11 Hto11 Hwv11 Htv11
 go_wp2_with fail
 refine yZ (fun W=>Ext Wd W) 25 (by show Ext Wd w15.drew;rw[hWd];exact Mod.refl _ _) (fun hS=>?_)
 rw[hWd] at hS ⊢
 clear hWd
 iterate 20
  (first|refine tP 0 77 ?_ hS (fun W'=>?_) ?_|refine tP 1 78 ?_ hS (fun W'=>?_) ?_|refine tP 2 79 ?_ hS (fun W'=>?_) ?_|refine tP 3 80 ?_ hS (fun W'=>?_) ?_|refine tP 4 81 ?_ hS (fun W'=>?_) ?_|refine tP 5 82 ?_ hS (fun W'=>?_) ?_|refine tP 6 83 ?_ hS (fun W'=>?_) ?_|refine tP 7 84 ?_ hS (fun W'=>?_) ?_|refine tP 8 85 ?_ hS (fun W'=>?_) ?_|refine tP 9 86 ?_ hS (fun W'=>?_) ?_|refine tP 10 87 ?_ hS (fun W'=>?_) ?_|refine tP 11 88 ?_ hS (fun W'=>?_) ?_|refine tP 12 89 ?_ hS (fun W'=>?_) ?_|refine tP 13 90 ?_ hS (fun W'=>?_) ?_|refine tP 14 91 ?_ hS (fun W'=>?_) ?_|refine tP 15 92 ?_ hS (fun W'=>?_) ?_|refine tP 16 93 ?_ hS (fun W'=>?_) ?_|refine tP 17 94 ?_ hS (fun W'=>?_) ?_|refine tP 18 95 ?_ hS (fun W'=>?_) ?_|refine tP 19 96 ?_ hS (fun W'=>?_) ?_);rotate_left;· go_simp;try rfl
  try simp only[pL]
 refine tU 20 97 (.agg #[.int .i64 rp.code,.int .i64 rp.val.kind,.float .f64 rp.val.num,.string rp.val.text]) hS g1 (o1+10) (fun W' hW'=>jE (cs:=rp.cells) yQ rfl (fun j u hu=>by have h0:=hW'.cell (Hr1.out (10+j) u (by rcases j with _|_|_|_|j <;> first|exact hu|cases hu)) id;rw[←Nat.add_assoc] at h0;exact h0)) ?_
 try simp only[pL]
 iterate 3
  (first|refine tP 21 98 ?_ hS (fun W'=>?_) ?_|refine tP 22 99 ?_ hS (fun W'=>?_) ?_|refine tP 23 100 ?_ hS (fun W'=>?_) ?_);rotate_left;· go_simp;try rfl
  try simp only[pL]
 refine tU 24 101 (.agg #[.int .i64 rp.code,.int .i64 rp.val.kind,.float .f64 rp.val.num,.string rp.val.text]) hS g2 (o2+10) (fun W' hW'=>jE (cs:=rp.cells) yQ rfl (fun j u hu=>by have h0:=hW'.cell (Hr2.out (10+j) u (by rcases j with _|_|_|_|j <;> first|exact hu|cases hu)) id;rw[←Nat.add_assoc] at h0;exact h0)) ?_
 try simp only[pL]
 refine jP 25 (fun K hK=>?_)
 go_simp
 go_wp2_with fail
 refine (Hkr.out _).mono ?_
 rintro e w11 ⟨rfl,hE11⟩
 have hX:=hS.ext hE11
 go_simp
 refine hK.out _ _ hX (fun hS=>?_)
 clear hK K hX
 try simp only[pL]
 refine zrJ 37 (by kernel_rfl) ?_
 iterate 6
  (first|refine tP 26 103 ?_ hS (fun W'=>?_) ?_|refine tP 27 104 ?_ hS (fun W'=>?_) ?_|refine tP 28 105 ?_ hS (fun W'=>?_) ?_|refine tP 29 106 ?_ hS (fun W'=>?_) ?_|refine tP 30 107 ?_ hS (fun W'=>?_) ?_|refine tP 31 108 ?_ hS (fun W'=>?_) ?_);rotate_left;· go_simp;try rfl
  try simp only[pL]
 refine tU 32 109 (.agg y.cells.toArray) hS g1 o1 (fun W' hW'=>jE zV rfl (fun j u hu=>hW'.cell (Hr1.out j u (by rcases j with _|_|_|_|_|_|_|_|_|_|j <;> first|exact hu|cases hu)) id)) ?_
 try simp only[pL]
 iterate 3
  (first|refine tP 33 110 ?_ hS (fun W'=>?_) ?_|refine tP 34 111 ?_ hS (fun W'=>?_) ?_|refine tP 35 112 ?_ hS (fun W'=>?_) ?_);rotate_left;· go_simp;try rfl
  try simp only[pL]
 refine tU 36 113 (.agg y.cells.toArray) hS g2 o2 (fun W' hW'=>jE zV rfl (fun j u hu=>hW'.cell (Hr2.out j u (by rcases j with _|_|_|_|_|_|_|_|_|_|j <;> first|exact hu|cases hu)) id)) ?_
 try simp only[pL]
 refine jP 37 (fun K hK=>?_)
 go_simp
 go_wp2_with fail
 refine (Hkc.out _).mono ?_
 rintro e w12 ⟨rfl,hE12⟩
 have hX:=hS.ext hE12
 go_simp
 refine hK.out _ _ hX (fun hS=>?_)
 clear hK K hX
 try simp only[pL]
 refine zrJ 44 (by kernel_rfl) ?_
 iterate 4
  (first|refine tP 38 115 ?_ hS (fun W'=>?_) ?_|refine tP 39 116 ?_ hS (fun W'=>?_) ?_|refine tP 40 117 ?_ hS (fun W'=>?_) ?_|refine tP 41 118 ?_ hS (fun W'=>?_) ?_);rotate_left;· go_simp;try rfl
  try simp only[pL]
 refine tU 43 120 (.agg #[.slice Am nm cm,.slice Bm mm dm]) hS q 0 (fun W' hW'=>ld0 (cs:=[.slice Am nm cm,.slice Bm mm dm]) zcL (hW'.blk Hq.out id)) ?_
 try simp only[pL]
 refine jP 42 (fun K hK=>?_)
 go_simp
 go_wp2_with fail
 refine (Hmc.out _ hS).mono ?_
 rintro e w13 ⟨pv5,xv5,rfl,hP5,hX5,hE13⟩
 obtain ⟨A5,c5,rfl⟩:=zC hP5.1
 obtain ⟨B5,d5,rfl⟩:=zC hX5.1
 obtain ⟨HP5,HX5⟩:=hJ2 hP5 hX5
 clear hP5 hX5
 have hX:=hS.ext hE13
 go_simp
 refine hK.out _ _ hX (fun hS=>?_)
 clear hK K hX
 try simp only[pL]
 refine jP 44 (fun K hK=>?_)
 go_simp
 go_wp2_with fail
 refine (Hkm.out _ _ _ _ _ _ _ _ _ HP5.out.prs (HPm.out.prs.ext hS) HX5.out.ses (HXm.out.ses.ext hS)).mono ?_
 rintro e w14 ⟨rfl,hE14⟩
 have hX:=hS.ext hE14
 go_simp
 refine hK.out _ _ hX (fun hS=>?_)
 clear hK K hX
 try simp only[pL]
 refine xN 45 rfl ?_
 simp only[List.drop_succ_cons,List.drop_zero]
 have HN16:=hJ (HNd.out.ext hS)
 have HM16:=hJ (HMd.out.trans hS (fun k _ h=>h.elim))
 have Hb16:=hJ (hS.blk Hbd.out id)
 obtain ⟨sq,hsq⟩:∃ x,y.seq=x:=⟨_,rfl⟩
 have hsb:1≤sq∧sq≤1099511627776:=by
  rcases hn:zeX y.client y.seq with _|_
  · have:=Hcy.out;rw[zaT hn] at this;cases this
  · unfold zeX at hn
    simp only[Bool.and_eq_true,decide_eq_true_eq] at hn
    omega
 obtain ⟨hsb0,hsb1⟩:=hsb
 obtain ⟨E,hE,hel⟩:=zn0 HG15.out Hcy.out Hyk.out (by rw[Hla15.out])
 rw[hsq] at hE hel
 have Hel:=hJ hel
 have p1:w14.cell? ⟨b,1,none⟩=some (.int .i64 sq):=by rw[←hsq];exact zA Hb16.out rfl
 clear hE11 hE12 hE13 hE14 hS hel Hr1 Hr2 HPm HXm Hkr Hkc Hmc Hkm Hq HNd HMd Hbd
 go_upto_region 24 with (refine zF ?_;refine stQ rfl 3 _ _ rfl 1 b 1 (.int .i64 (sq-1)) [.int .i64 (sq-1)] zQ.size _ _ [Value.int .i64 y.client,.int .i64 (sq-1),.int .i64 y.cmd.kind,.string y.cmd.key,.int .i64 y.cmd.old.kind,.float .f64 y.cmd.old.num,.string y.cmd.old.text,.int .i64 y.cmd.val.kind,.float .f64 y.cmd.val.num,.string y.cmd.val.text] Hb16.out rfl ?_;intro W17 hbW17 hmW17 hsW17)
 have HN17:=hJ (HN16.out.far Hb16.out hmW17 (by decide) (by decide) (by decide) (by decide))
 have HM17:=hJ (HM16.out.trans hmW17 (fun k _ e=>by unfold zD;have:=HB0.out;omega))
 have Hb17:=hJ hbW17
 clear hbW17 hmW17 hsW17 p1 HN16 HM16 Hb16
 rcases hE with ⟨hE1,rfl⟩|⟨hE1,rfl⟩
 · go_upto_region 25 with (first
    | (refine zK ?_;refine lD 29 b 0 (ld0 (cs:=[Value.int .i64 y.client,.int .i64 (sq-1),.int .i64 y.cmd.kind,.string y.cmd.key,.int .i64 y.cmd.old.kind,.float .f64 y.cmd.old.num,.string y.cmd.old.text,.int .i64 y.cmd.val.kind,.float .f64 y.cmd.val.num,.string y.cmd.val.text]) zV Hb17.out) ?_)
    | (go_at_call 10;refine (Hel.out w0 _ n V15 HN17.out).mono ?_;rintro e w18 ⟨rfl,hE18⟩))
   have HN18:=hJ (HN17.out.ext hE18)
   have HM18:=hJ (HM17.out.trans hE18 (fun k _ h=>h.elim))
   have p18:w18.cell? ⟨b,1,none⟩=some (.int .i64 (sq-1)):=zA (hE18.blk Hb17.out id) rfl
   have htd:=zhT w0 w18 n V15 N15 HN18.out
   rw[Htv15.out] at htd
   have Htd:=hJ htd
   clear hE18 htd
   go_wp2_with (first
    | (go_at_call 15;refine Htd.out.mono ?_;rintro e w19 ⟨rfl,-,-,hM19⟩;have HM19:=hJ (HM18.out.trans hM19 (fun k _ e=>Hsn.out k (e▸HN18.out.since n (.inl rfl))));clear hM19)
    | (go_at_call 14;refine (zg2 _).mono ?_;rintro e w20 ⟨rfl,hE20⟩;have HX20:=hJ (HM19.out.trans hE20 (fun k _ h=>h.elim));clear hE20))
   first|(go_end0;exact ⟨rfl,xF HX20.out⟩)|(go_ret;exact ⟨rfl,xF HX20.out⟩)
 · go_upto_region 25 with (first
    | (refine zK ?_;refine lD 29 b 0 (ld0 (cs:=[Value.int .i64 y.client,.int .i64 (sq-1),.int .i64 y.cmd.kind,.string y.cmd.key,.int .i64 y.cmd.old.kind,.float .f64 y.cmd.old.num,.string y.cmd.old.text,.int .i64 y.cmd.val.kind,.float .f64 y.cmd.val.num,.string y.cmd.val.text]) zV Hb17.out) ?_)
    | (go_at_call 10;refine (Hel.out w0 _ n V15 HN17.out).mono ?_;rintro e w18 ⟨rfl,hE18⟩))
   have HN18:=hJ (HN17.out.ext hE18)
   have HM18:=hJ (HM17.out.trans hE18 (fun k _ h=>h.elim))
   have p18:w18.cell? ⟨b,1,none⟩=some (.int .i64 (sq-1)):=zA (hE18.blk Hb17.out id) rfl
   have htd:=zhT w0 w18 n V15 N15 HN18.out
   rw[Htv15.out] at htd
   have Htd:=hJ htd
   clear hE18 htd
   go_wp2_with (first
    | (go_at_call 15;refine Htd.out.mono ?_;rintro e w19 ⟨rfl,-,-,hM19⟩;have HM19:=hJ (HM18.out.trans hM19 (fun k _ e=>Hsn.out k (e▸HN18.out.since n (.inl rfl))));clear hM19)
    | (go_at_call 14;refine (zg2 _).mono ?_;rintro e w20 ⟨rfl,hE20⟩;have HX20:=hJ (HM19.out.trans hE20 (fun k _ h=>h.elim));clear hE20))
   first|(go_end0;exact ⟨rfl,xF HX20.out⟩)|(go_ret;exact ⟨rfl,xF HX20.out⟩)
end Go.Proofs.YtjbkjhhjofeldaaGreat
