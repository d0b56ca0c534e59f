/-
 Layer 22 (node): the walk of NodeOff. Conditions: as each theorem names them.
-/
import Derived.Test.YtjbkjhhjofeldaaGreatK2
set_option maxRecDepth 100000
set_option maxHeartbeats 8000000
namespace Go.Proofs.YtjbkjhhjofeldaaGreat
set_option linter.unusedSimpArgs false
set_option linter.unusedVariables false
open Go.RowKit
theorem str_msg:Str Tryz.prog 92 16:=⟨⟨_,Tryz.underlying92⟩,by kernel_rfl⟩
def offC:zW:=⟨0,0,⟨3,⟨#[97]⟩,⟨0,0,⟨#[]⟩⟩,⟨0,0,⟨#[]⟩⟩⟩⟩
theorem off_ok:offC.ok:=⟨⟨by decide,by decide⟩,⟨by decide,by decide⟩,⟨by decide,by decide⟩,by show (1:Nat)≤maxLen;decide,⟨⟨by decide,by decide⟩,by decide,by show (0:Nat)≤maxLen;decide⟩,⟨⟨by decide,by decide⟩,by decide,by show (0:Nat)≤maxLen;decide⟩⟩
theorem off_cmd:zcP offC.cmd=0:=by decide +kernel
theorem off_call {N:yB} {k:Nat} (h:Seqs N k) (hk:k≤50000):yX (zlF N.mach offC)=0:=by
  have hs:=next_seq h offC
  have h1:1≤(zlF N.mach offC).seq:=by
    have:=lastS_in (l:=N.mach.sess) (B:=k) (by omega) h (1+um4 offC.client)
    show 1≤(yJ N.mach.sess (1+um4 offC.client)).1+1
    omega
  have hc:(zlF N.mach offC).client=1:=by show 1+um4 0=1;decide
  rw[zb3]
  · exact off_cmd
  · unfold zeX
    rw[hc]
    simp
    omega
theorem l_off (w:World) (A:Option Addr) (ln cp:Nat) (l:List zW) (h:AHead) (ins:List AHead) (c:zW) (hL:Cals w (fun g=>g<w.heap.size) (.slice A ln cp) l) (hln:l.length=ln) (hm:Msg3 w (fun g=>g<w.heap.size) h ins) (hco:c.ok):
  Calls Tryz.prog 7 #[.slice A ln cp,.agg #[.int .i64 h.kind,.int .i64 h.src,.int .i64 h.dst,.int .i64 h.term,.int .i64 h.index,.int .i64 h.logTerm,.int .i64 h.commit,.int .i64 h.round,.bool h.yes,h.entV,.int .i64 h.conf.full,.int .i64 h.conf.wit,.int .i64 h.conf.learn,.int .i64 h.conf.learnWit,h.snapV,h.innV],.agg #[.int .i64 c.client,.int .i64 c.seq,.int .i64 c.cmd.kind,.string c.cmd.key,.int .i64 c.cmd.old.kind,.float .f64 c.cmd.old.num,.string c.cmd.old.text,.int .i64 c.cmd.val.kind,.float .f64 c.cmd.val.num,.string c.cmd.val.text]] w fun e w'=>e=.returned (.bool true)∧Below w.heap.size w w':=by
 obtain ⟨b,hb⟩:∃ b,w.heap.size=b:=⟨_,rfl⟩
 have hll:=hL.1.le
 rw[hln] at hll
 unfold maxLen at hll
 obtain ⟨w0,hw0⟩:∃ W,(w.alloc (.cells #[.int .i64 h.kind,.int .i64 h.src,.int .i64 h.dst,.int .i64 h.term,.int .i64 h.index,.int .i64 h.logTerm,.int .i64 h.commit,.int .i64 h.round,.bool h.yes,h.entV,.int .i64 h.conf.full,.int .i64 h.conf.wit,.int .i64 h.conf.learn,.int .i64 h.conf.learnWit,h.snapV,h.innV] 92)).alloc (.cells c.cells.toArray 29)=W:=⟨_,rfl⟩
 have hE0:Ext w w0:=hw0▸((Mod.refl _ w).alloc _).alloc _
 have hm0:w0.heap[b]? = some (.cells h.cells.toArray 92 (0,0)):=hb▸hw0▸xE _ _ _
 have hb0:w0.heap[b+1]? = some (.cells c.cells.toArray 29 (0,0)):=by rw[←hw0,←hb];exact xA _ _ _
 have hs0:w0.heap.size=b+2:=by rw[←hw0,←hb];exact (Array.size_push _).trans (congrArg (· + 1) (Array.size_push _))
 have hL0:=hL.mod hE0 (fun _ _=>id)
 rw[hb] at hL0
 have hvm:=hv_msg h ins w0 _ (hm.mod hE0 (fun _ _=>id))
 obtain ⟨HL,HB0,Hs0,HE0,Hm0,Hb0,Hw0,Hvm⟩:=hJ8 hL0 hb hs0 hE0 hm0 hb0 hw0 hvm
 have hvc:=fun W=>hv_cmd c.cmd W
 have hbb:b+1<w0.heap.size:=by omega
 have Hbb:=hJ hbb
 clear hL hln hco hL0 hE0 hm0 hb0 hs0 hb hw0 hm hvm hbb
 go_enter Tryz.func7,Tryz.ntmps7
 go_upto_region 1 with fail
 rw[Hw0.out,HB0.out]
 by_cases h100:(100:Int)<(ln:Int)
 · go_wp2_with fail
   first|(go_end0;exact ⟨rfl,xF (Ext.mod HE0.out _)⟩)|(go_ret;exact ⟨rfl,xF (Ext.mod HE0.out _)⟩)
 have hl100:ln≤100:=by omega
 go_cut [27] (fun s27 wx=>∃ q,s27=.bool q∧Ext w0 wx)
 case first=>
  rcases hh:zdK c.cmd with _|_
  all_goals
   rw[hh] at hvc
   have Hvc:=hJ hvc
   clear hvc
   go_wp2_with (first
    | (refine xR (by kernel_rfl) 92 _ rfl (.pointer (some ⟨b,0,none⟩)) _ rfl (ld0 (cs:=h.cells) str_msg Hm0.out) ?_)
    | (refine xR (by kernel_rfl) 27 _ rfl (.pointer (some ⟨b+1,2,none⟩)) _ rfl (xH (o:=2) (cs:=[.int .i64 c.cmd.kind,.string c.cmd.key,.int .i64 c.cmd.old.kind,.float .f64 c.cmd.old.num,.string c.cmd.old.text,.int .i64 c.cmd.val.kind,.float .f64 c.cmd.val.num,.string c.cmd.val.text]) zeP (hE1.blk Hb0.out id) rfl (fun j u hu=>by rcases j with _|_|_|_|_|_|_|_|j <;> first|exact hu|cases hu)) ?_)
    | (go_at_call 36;refine (Hvm.out).mono ?_;rintro e w1 ⟨hv1,rfl,hE1⟩)
    | (go_at_call 8;refine (Hvc.out _).mono ?_;rintro e w2 ⟨rfl,hE2⟩))
   all_goals
    go_meet
    first
    | exact ⟨_,rfl,hE1.ext hE2⟩
    | exact ⟨_,rfl,hE1⟩
 obtain ⟨q,rfl,hE1⟩:=hcut
 clear hvc
 have HX1:=hJ hE1
 clear hE1
 rcases q with _|_
 rotate_left
 · go_wp2_with fail
   first|(go_end0;exact ⟨rfl,xF (Ext.mod (HE0.out.ext HX1.out) _)⟩)|(go_ret;exact ⟨rfl,xF (Ext.mod (HE0.out.ext HX1.out) _)⟩)
 go_upto_region 4 with (go_at_call 9;refine (l_alone wc).mono ?_;rintro e w2 ⟨n,d,V,N,rfl,hN,h6,hwv,hVd,hM⟩)
 have hup:∀ {W W':World},Ext w0 W→Mod (zD W.heap.size) W W'→Mod (zD w0.heap.size) w0 W':=fun hE hM=>(Ext.mod hE _).trans hM (fun k _ h=>Nat.le_trans hE.size h)
 have HN2:=hJ (hN.lower HX1.out.size)
 have HM2:=hJ (hup HX1.out hM)
 have HG2:=hJ h6.1
 have HS2:Hid (Seqs N 0):=hJ (by unfold Seqs;rw[h6.2.1];intro s hs;cases hs)
 have HV2:=hJ (And.intro hwv hVd)
 clear hN h6 hwv hVd hM hup
 go_wp2_with fail
 go_loopw [9] (fun iv wr=>∃ (i:Nat) (V:NV) (N:yB),i≤ln∧iv=.int .i64 i∧yD w0 wr n V N∧za3 N i∧Seqs N i∧V.wv=.slice none 0 0∧V.d=d∧Mod (zD w0.heap.size) w0 wr) (fun iv _=>ln-(intOf iv).toNat)
 case atStart=>exact ⟨0,V,N,by omega,rfl,HN2.out,HG2.out,HS2.out,HV2.out.1,HV2.out.2,HM2.out⟩
 clear HN2 HM2 HG2 HS2 HV2 V N HX1
 obtain ⟨i,V,N,hin,rfl,hN,hG,hSq,hwv,hVd,hM⟩:=hrel
 obtain ⟨HN,HG,HSq,Hwv,HVd,HM⟩:=hJ6 hN hG hSq hwv hVd hM
 have Hm:=hJ (hM.blk Hm0.out (fun e=>by unfold zD at e;have:=Hs0.out;omega))
 have Hb:=hJ (hM.blk Hb0.out (fun e=>by unfold zD at e;have:=Hs0.out;omega))
 clear hN hG hSq hwv hVd hM
 have hi0:(0:Int)≤(i:Int):=by omega
 have hsm:=HG.out.small
 have hmr:=HG.out.m
 obtain ⟨Hsm,Hmr⟩:=hJ2 hsm hmr
 clear hsm hmr
 by_cases hi:i<ln
 · obtain ⟨gb,ob,x,rfl,hgT,hx,hxok,hcx⟩:=(HL.out.mod HM.out (fun g hg hs=>by unfold zD at hs;have:=Hs0.out;omega)).at hi
   obtain ⟨Hcx,Hxok⟩:=hJ2 hcx hxok
   have hi1:(i:Int)<(ln:Int):=by omega
   have hvx:=fun W=>hv_cmd x.cmd W
   have hldc:(Instr.loadAt 27 (.pointer (some ⟨gb,ob+i*10+2,none⟩))).run Tryz.prog wr=.ok (.agg #[.int .i64 x.cmd.kind,.string x.cmd.key,.int .i64 x.cmd.old.kind,.float .f64 x.cmd.old.num,.string x.cmd.old.text,.int .i64 x.cmd.val.kind,.float .f64 x.cmd.val.num,.string x.cmd.val.text]) wr:=jE (cs:=[.int .i64 x.cmd.kind,.string x.cmd.key,.int .i64 x.cmd.old.kind,.float .f64 x.cmd.old.num,.string x.cmd.old.text,.int .i64 x.cmd.val.kind,.float .f64 x.cmd.val.num,.string x.cmd.val.text]) zeP rfl (fun j u hu=>by
    have h0:=Hcx.out (2+j) u (by rcases j with _|_|_|_|_|_|_|_|j <;> first|exact hu|cases hu)
    rw[←Nat.add_assoc] at h0
    exact h0)
   clear hcx hx hgT hxok
   rcases hhx:zdK x.cmd with _|_
   rotate_left
   · rw[hhx] at hvx
     go_wp2_with (first
      | (refine zK ?_;refine lD 27 gb (ob+i*10+2) hldc ?_)
      | (go_at_call 8;refine (hvx _).mono ?_;rintro e w3 ⟨rfl,hE3⟩;have HX3:=hJ (show Mod (zD w.heap.size) w w3 from ((Ext.mod HE0.out _).trans HM.out (fun k _ h=>Nat.le_trans HE0.out.size h)).trans hE3 (fun k _ h=>h.elim));clear hE3))
     first|(go_end0;exact ⟨rfl,xF (HX3.out)⟩)|(go_ret;exact ⟨rfl,xF (HX3.out)⟩)
   rw[hhx] at hvx
   obtain ⟨E,N5,hG5,hS5,hany⟩:=call_any2 HG.out HSq.out (by omega) Hxok.out
   obtain ⟨y,hy⟩:∃ y,zlF N.mach x=y:=⟨_,rfl⟩
   rw[hy] at hany
   obtain ⟨Hany,HG5,HS5⟩:=hJ3 hany hG5 hS5
   have hnx:∀ (W:World) (T:Nat→Prop) (pv xv:Value),Ses W T xv N.mach.sess→(pv.oneCell'=true∧xv.oneCell'=true)→Calls Tryz.prog 11 #[.agg #[pv,xv],.agg #[.int .i64 x.client,.int .i64 x.seq,.int .i64 x.cmd.kind,.string x.cmd.key,.int .i64 x.cmd.old.kind,.float .f64 x.cmd.old.num,.string x.cmd.old.text,.int .i64 x.cmd.val.kind,.float .f64 x.cmd.val.num,.string x.cmd.val.text]] W fun e w'=>e=.returned (.agg y.cells.toArray)∧Ext W w':=fun W T pv xv hS h1=>by
    rw[←hy]
    exact l_next N.mach x pv xv W T hS h1 Hmr.out
   have Hnx:=hJ hnx
   clear hany hG5 hS5 hnx hhx hy
   go_upto_region 11 with (first
    | (refine zK ?_;refine lD 27 gb (ob+i*10+2) hldc ?_)
    | (go_at_call 8;refine (hvx _).mono ?_;rintro e w3 ⟨rfl,hE3⟩))
   obtain ⟨Wd,hWd⟩:∃ W,w3.drew=W:=⟨_,rfl⟩
   have hEd:Ext w3 Wd:=hWd▸(Mod.refl _ w3).drew
   have HEd:=hJ (hE3.ext hEd)
   have HNd:=hJ (HN.out.ext (hE3.ext hEd))
   have Hmc:=hJ (fun W (hE:Ext Wd W)=>zeQ w0 W n V N (HNd.out.ext hE) Hsm.out.1 Hsm.out.2)
   clear hE3 hEd hvx hldc
   go_wp2_with fail
   refine yZ (fun W=>Ext Wd W) 7 (by show Ext Wd w3.drew;rw[hWd];exact Mod.refl _ _) (fun hS=>?_)
   rw[hWd] at hS ⊢
   clear hWd
   iterate 5
    (first|refine tP 0 46 ?_ hS (fun W'=>?_) ?_|refine tP 1 47 ?_ hS (fun W'=>?_) ?_|refine tP 3 49 ?_ hS (fun W'=>?_) ?_|refine tP 4 50 ?_ hS (fun W'=>?_) ?_|refine tP 5 51 ?_ hS (fun W'=>?_) ?_);rotate_left;· go_simp;try rfl
    try simp only[pL]
   refine tU 6 52 (.agg x.cells.toArray) hS gb (ob+i*10) (fun W' hW'=>jE zV rfl (fun j u hu=>(HEd.out.ext hW').cell (Hcx.out j u hu) id)) ?_
   try simp only[pL]
   refine jP 2 (fun K hK=>?_)
   go_simp
   go_wp2_with fail
   refine (Hmc.out _ hS).mono ?_
   rintro e w5 ⟨pv5,xv5,rfl,hP5,hX5,hE5⟩
   obtain ⟨A5,c5,rfl⟩:=zC hP5.1
   obtain ⟨B5,d5,rfl⟩:=zC hX5.1
   have HX5:=hJ hX5
   clear hP5 hX5
   have hX:=hS.ext hE5
   go_simp
   refine hK.out _ _ hX (fun hS=>?_)
   clear hK K hX
   try simp only[pL]
   refine xN 7 rfl ?_
   simp only[List.drop_succ_cons,List.drop_zero]
   go_upto_region 8 with (first
    | (go_at_call 11;refine (Hnx.out _ _ _ _ HX5.out.ses ⟨rfl,rfl⟩).mono ?_;rintro e w6 ⟨rfl,hE6⟩)
    | (go_at_call 10;refine (Hany.out w0 _ n V (Nat.le_trans HM.out.size (HEd.out.ext (hS.ext hE6)).size) (HNd.out.ext (hS.ext hE6)) Hwv.out).mono ?_;rintro e w7 ⟨rfl,V7,hN7,hwv7,hVd7,hM7⟩))
   have hF:∃ (j:Nat) (V:NV) (N:yB),j≤ln∧(Value.int .i64 ((i:Int)+1))=.int .i64 j∧yD w0 w7 n V N∧za3 N j∧Seqs N j∧V.wv=.slice none 0 0∧V.d=d∧Mod (zD w0.heap.size) w0 w7:=⟨i+1,V7,N5,by omega,by rw[show ((i+1:Nat):Int)=(i:Int)+1 by omega],hN7,HG5.out,HS5.out,hwv7,hVd7.trans HVd.out,(HM.out.trans (HEd.out.ext (hS.ext hE6)) (fun k _ h=>h.elim)).trans hM7 (fun k _ h=>h)⟩
   have HF:=hJ hF
   clear hF hN7 hwv7 hVd7 hM7 hS hE5 hE6
   go_wp2_with fail
   exact ⟨HF.out,by simp only[intOf];omega⟩
 obtain rfl:i=ln:=by omega
 have hdk:Dsk wr d V.fv N.dk:=by rw[←HVd.out];exact HN.out.p.dk
 have Htr:=hJ (d_trip wr d V.fv N.dk hdk 1 0 (by omega) ⟨by omega,by omega⟩)
 clear hdk
 go_upto_region 13 with (go_at_call 26;refine Htr.out.mono ?_;rintro e w4 ⟨rfl,hD4,hM4⟩)
 rw[←HVd.out] at hD4 hM4
 have HN4:=hJ (HN.out.armed hD4 hM4)
 have HM4:=hJ (HM.out.trans hM4 (fun k _ e=>e▸HN.out.p.nb.2.2))
 have Hm4:=hJ (hM4.blk Hm.out (fun e=>by have:=HN.out.p.nb.2.2;have:=Hs0.out;omega))
 have Hb4:=hJ (hM4.blk Hb.out (fun e=>by have:=HN.out.p.nb.2.2;have:=Hs0.out;omega))
 clear hD4 hM4 Htr
 obtain ⟨y,hy⟩:∃ y,zlF N.mach offC=y:=⟨_,rfl⟩
 have hyc:yX y=0:=by rw[←hy];exact off_call HSq.out (by omega)
 have hyo:y.ok:=by rw[←hy];exact zrA Hmr.out off_ok
 have hyk:y.cmd.kind≠1:=by rw[←hy];show (3:Int)≠1;decide
 have hyn:(yJ N.mach.sess y.client).1<y.seq:=by rw[←hy];exact zmO N.mach offC
 obtain ⟨D',hof⟩:=call_off HG.out (by omega) hyc hyo hyk hyn
 have Hof:=hJ hof
 have hnx:∀ (W:World) (T:Nat→Prop) (pv xv:Value),Ses W T xv N.mach.sess→(pv.oneCell'=true∧xv.oneCell'=true)→Calls Tryz.prog 11 #[.agg #[pv,xv],.agg #[.int .i64 offC.client,.int .i64 offC.seq,.int .i64 offC.cmd.kind,.string offC.cmd.key,.int .i64 offC.cmd.old.kind,.float .f64 offC.cmd.old.num,.string offC.cmd.old.text,.int .i64 offC.cmd.val.kind,.float .f64 offC.cmd.val.num,.string offC.cmd.val.text]] W fun e w'=>e=.returned (.agg y.cells.toArray)∧Ext W w':=fun W T pv xv hS h1=>by
  rw[←hy]
  exact l_next N.mach offC pv xv W T hS h1 Hmr.out
 have Hnx:=hJ hnx
 have Hmc:=hJ (fun W (hE:Ext w4 W)=>zeQ w0 W n V _ (HN4.out.ext hE) Hsm.out.1 Hsm.out.2)
 have h0w:∀ W,Ext w4 W→w0.heap.size≤W.heap.size:=fun W hE=>Nat.le_trans HM4.out.size hE.size
 have H0w:=hJ h0w
 clear hof hnx hy hyc hyo hyk hyn h0w
 go_upto_region 14 with (first
  | (go_at_call 12;refine (Hmc.out _ (Mod.refl _ _)).mono ?_;rintro e w5 ⟨pv5,xv5,rfl,hP5,hX5,hE5⟩;obtain ⟨A5,c5,rfl⟩:=zC hP5.1;obtain ⟨B5,d5,rfl⟩:=zC hX5.1)
  | (go_at_call 11;refine (Hnx.out _ _ _ _ hX5.ses ⟨rfl,rfl⟩).mono ?_;rintro e w6 ⟨rfl,hE6⟩)
  | (go_at_call 10;refine (Hof.out w0 _ n V (H0w.out _ (hE5.ext hE6)) (HN4.out.ext (hE5.ext hE6)) Hwv.out).mono ?_;rintro e w7 ⟨rfl,N7,V7,fv7,hn7,hD7,hf7,hM7⟩))
 have hsn:∀ k,zD w0.heap.size k→zD w.heap.size k:=fun k h=>Nat.le_trans HE0.out.size h
 have hN6:=HN4.out.ext (hE5.ext hE6)
 have HM7:=hJ (show Mod (zD w.heap.size) w w7 from ((Ext.mod HE0.out _).trans (HM4.out.trans (hE5.ext hE6) (fun k _ h=>h.elim)) (fun k _ h=>hsn k h)).trans hM7 (fun k _ h=>h.elim (fun h=>hsn k (hN6.since k h)) (fun e=>e.elim)))
 have hnb:∀ k,k<w0.heap.size→¬ (NS n V k∨False):=fun k hk h=>h.elim (fun h=>by have:=hN6.since k h;unfold zD at this;omega) id
 have Hm7:=hJ (hM7.blk ((hE5.ext hE6).blk Hm4.out id) (hnb _ (by have:=Hs0.out;omega)))
 have Hb7:=hJ (hM7.blk ((hE5.ext hE6).blk Hb4.out id) (hnb _ (by have:=Hs0.out;omega)))
 have Hn7:=hJ hn7
 rw[HVd.out] at hD7
 have HD7:=hJ hD7
 clear hn7 hD7 hf7 hM7 hP5 hX5 hE5 hE6 hN6 hnb hsn
 obtain ⟨sz,hsz⟩:∃ x:Int,(D'.file.length:Int)=x:=⟨_,rfl⟩
 have hds:=fun W (hE:Ext w7 W)=>d_size W d fv7 D' (HD7.out.ext hE)
 rw[hsz] at hds
 have Hds:=hJ hds
 clear hds hsz
 go_upto_region 15 with (go_at_call 37;refine (Hds.out _ (Mod.refl _ _)).mono ?_;rintro e w8 ⟨rfl,rfl⟩)
 go_upto_region 16 with (go_at_call 25;refine (n_TickDown _ n V7 N7 Hn7.out).mono ?_;rintro e w9 ⟨rfl,hE9⟩)
 have HE9:=hJ hE9
 have Hn9:=hJ (hE9.blk Hn7.out id)
 have Hm9:=hJ (hE9.blk Hm7.out id)
 clear hE9
 go_upto_region 17 with (first
  | (refine zK ?_;refine lD 92 b 0 (ld0 (cs:=h.cells) str_msg Hm9.out) ?_)
  | (go_at_call 38;refine (n_TakeDown _ n V7 N7 h Hn9.out).mono ?_;rintro e w10 ⟨rfl,hE10⟩))
 have HE10:=hJ (HE9.out.ext hE10)
 have Hn10:=hJ (hE10.blk Hn9.out id)
 have Hb10:=hJ (HE10.out.blk Hb7.out id)
 clear hE10
 go_wp2_with (first
  | (go_at_call 27;refine (n_DownYes _ n V7 N7 Hn10.out).mono ?_;rintro e w11 ⟨rfl,hE11⟩;have HE11:=hJ (HE10.out.ext hE11);have Hn11:=hJ (hE11.blk Hn10.out id);have Hb11:=hJ (hE11.blk Hb10.out id);clear hE11)
  | (refine xR (by kernel_rfl) 29 _ rfl (.pointer (some ⟨b+1,0,none⟩)) _ rfl (ld0 zV Hb11.out) ?_)
  | (go_at_call 10;refine (n_CallDown _ n V7 N7 c Hn11.out).mono ?_;rintro e w12 ⟨rfl,hE12⟩;have HE12:=hJ (HE11.out.ext hE12);have Hn12:=hJ (hE12.blk Hn11.out id);clear hE12)
  | (go_at_call 39;refine (n_ChangeDown _ n V7 N7 ⟨3,0,0,0⟩ Hn12.out).mono ?_;rintro e w13 ⟨rfl,hE13⟩;have HE13:=hJ (HE12.out.ext hE13);clear hE13)
  | (go_at_call 37;refine (Hds.out _ HE13.out).mono ?_;rintro e w14 ⟨rfl,rfl⟩)
  | (go_at_call 14;refine (zg2 _).mono ?_;rintro e w15 ⟨rfl,hE15⟩;have HX15:=hJ (HM7.out.trans (HE13.out.ext hE15) (fun k _ h=>h.elim));clear hE15))
 first|(go_end0;exact ⟨rfl,xF (HX15.out)⟩)|(go_ret;exact ⟨rfl,xF (HX15.out)⟩)
end Go.Proofs.YtjbkjhhjofeldaaGreat
