/-
 Layer 22 (node): (*Node).propose of a node that leads alone. Conditions: as each theorem names them.
-/
import Derived.Test.YtjbkjhhjofeldaaGreatG29
set_option maxRecDepth 100000
set_option maxHeartbeats 2000000
namespace Go.Proofs.YtjbkjhhjofeldaaGreat
set_option linter.unusedSimpArgs false
set_option linter.unusedVariables false
open Go.RowKit
def PBx (n b:Nat) (c:zW) (i:Int) (W:World):Prop:=W.heap[b]? = some (.cells [Value.pointer (some ⟨n,0,none⟩)].toArray 31 (0,0))∧W.heap[b+1]? = some (.cells c.cells.toArray 29 (0,0))∧W.heap[b+1+1]? = some (.cells [Value.int .i64 i].toArray 3 (0,0))
theorem ziU (w0 W:World) (n b:Nat) (V:NV) (N N3 N5:yB) (c:zW) (D':zU) (h0:w0.heap.size≤W.heap.size) (hN:yD w0 W n V N) (hwv:N.waits=[]→V.wv=.slice none 0 0) (hB:PBx n b c 0 W) (hbs:b+1+1<W.heap.size)
  (hL:zaD N.r) (hrd:N.rds=[]) (hw:N.waits=[]) (hc:yX c=0) (hco:c.ok) (hn:N.r.hard.log.length<64) (hi:0≤N.r.last∧N.r.last+1≤1099511627776)
  (hs:zb6 N.dk N.g (N.r.put (zT N.r.hard.term c)).hard=(D',(N.r.put (zT N.r.hard.term c)).hard,0)) (hgl:N.g.log.length≤1000000) (hsn:N.r.hard.snap.length≤1000000) (hb:N.r.hard.base≤N.applied)
  (hP:zdP w0 n (fun _=>True) 96 #[.pointer (some ⟨n,0,none⟩)] { N with r:=N.r.put (zT N.r.hard.term c),rds:=[],g:=(N.r.put (zT N.r.hard.term c)).hard,dk:=D',waits:=[⟨c,N.r.last+1⟩] } N3) (hro:N3.r.role=3)
  (hAn:zdP w0 n (fun _=>True) 97 #[.pointer (some ⟨n,0,none⟩)] N3 N3) (hCm:zdP w0 n (fun _=>True) 98 #[.pointer (some ⟨n,0,none⟩)] N3 N5):
  Calls Tryz.prog 42 #[.pointer (some ⟨n,0,none⟩),.func (Fn.func 105) #[] #[.pointer (some ⟨b+1,0,none⟩),.pointer (some ⟨b+1+1,0,none⟩)],.func (Fn.func 107) #[] #[.pointer (some ⟨b,0,none⟩),.pointer (some ⟨b+1,0,none⟩),.pointer (some ⟨b+1+1,0,none⟩)]] W (zfK w0 W n V (fun k=>k=b+1+1) N5):=by
 have nb1:=hN.ns hB.1 (by decide)
 have nb2:=hN.ns hB.2.1 (by decide)
 have nb3:=hN.ns hB.2.2 (by decide)
 refine zk3 w0 W n V N { N with r:=N.r.put (zT N.r.hard.term c),rds:=[],g:=(N.r.put (zT N.r.hard.term c)).hard,dk:=D',waits:=[⟨c,N.r.last+1⟩] } N3 N3 N5 105 107 _ _ (fun k=>k=b+1+1) (PBx n b c (N.r.last+1)) (N.r.put (zT N.r.hard.term c)) [] D' h0 hN hwv (fun _ _=>rfl) (fun _ _=>rfl) ?_ ?_ ?_ ?_ hs ?_ hgl hsn hb ?_ hP hro hAn hCm
 · intro W1 hE
   have hf:=(hN.ext hE).p.rh
   rw[hrd] at hf
   refine Calls.mono (znB N.r c (b+1) (b+1+1) V.sv V.lv V.rv W1 (fun _=>True) ⟨⟨hf.hard.mem.1.mono (fun _ _=>trivial),hf.hard.mem.2.1.mono (fun _ _=>trivial),hf.hard.mem.2.2⟩,Sl.of_own hf.reads.1 (fun _ _=>trivial)⟩ hL hc hco hn (hE.blk hB.2.1 id) (hE.blk hB.2.2 id)) ?_
   rintro e w' ⟨sv,lv,rv,rfl,hF,hM,hE2⟩
   exact ⟨sv,lv,rv,rfl,hF,hM,hM.blk (hE.blk hB.1 id) (fun e=>by omega),hM.blk (hE.blk hB.2.1 id) (fun e=>by omega),hE2⟩
 · intro W1 W' hE hM
   exact (hN.ext hE).far (hE.blk hB.2.2 id) hM (by decide) (by decide) (by decide) (by decide)
 · intro k hk
   omega
 · intro W1 W2 h hM
   have hno:∀ k,¬ NS n V k→k<W.heap.size→¬ (NS n V k∨W.heap.size≤k):=fun k h1 h2 h=>h.elim h1 (fun h=>by omega)
   exact ⟨hM.blk h.1 (hno _ nb1 (by omega)),hM.blk h.2.1 (hno _ nb2 (by omega)),hM.blk h.2.2 (hno _ nb3 (by omega))⟩
 · show (N.r.hard.log++[zT N.r.hard.term c]).length≤12700
   rw[List.length_append]
   simp
   omega
 · exact znF w0 n b (b+1) (b+1+1) { N with r:=N.r.put (zT N.r.hard.term c),rds:=[],g:=(N.r.put (zT N.r.hard.term c)).hard,dk:=D' } c (N.r.last+1) hw hc ⟨by omega,hi.2⟩
def zdD (w0 w:World) (n:Nat) (V:NV) (N':yB) (e:Ending) (w':World):Prop:=e=.returned (.int .i64 0)∧∃ V',yD w0 w' n V' N'∧(N'.waits=[]→V'.wv=.slice none 0 0)∧Mod (NS n V) w w'∧zbM w V V'
theorem zp4 (w0 w:World) (n:Nat) (V:NV) (N N3 N5:yB) (c:zW) (D':zU) (h0:w0.heap.size≤w.heap.size) (hN:yD w0 w n V N) (hwv:N.waits=[]→V.wv=.slice none 0 0)
  (hL:zaD N.r) (hrd:N.rds=[]) (hw:N.waits=[]) (hc:yX c=0) (hco:c.ok) (hn:N.r.hard.log.length<64) (hi:0≤N.r.last∧N.r.last+1≤1099511627776)
  (hs:zb6 N.dk N.g (N.r.put (zT N.r.hard.term c)).hard=(D',(N.r.put (zT N.r.hard.term c)).hard,0)) (hgl:N.g.log.length≤1000000) (hsn:N.r.hard.snap.length≤1000000) (hb:N.r.hard.base≤N.applied)
  (hP:zdP w0 n (fun _=>True) 96 #[.pointer (some ⟨n,0,none⟩)] { N with r:=N.r.put (zT N.r.hard.term c),rds:=[],g:=(N.r.put (zT N.r.hard.term c)).hard,dk:=D',waits:=[⟨c,N.r.last+1⟩] } N3) (hro:N3.r.role=3)
  (hAn:zdP w0 n (fun _=>True) 97 #[.pointer (some ⟨n,0,none⟩)] N3 N3) (hCm:zdP w0 n (fun _=>True) 98 #[.pointer (some ⟨n,0,none⟩)] N3 N5):
  Calls Tryz.prog 48 #[.pointer (some ⟨n,0,none⟩),.agg #[.int .i64 c.client,.int .i64 c.seq,.int .i64 c.cmd.kind,.string c.cmd.key,.int .i64 c.cmd.old.kind,.float .f64 c.cmd.old.num,.string c.cmd.old.text,.int .i64 c.cmd.val.kind,.float .f64 c.cmd.val.num,.string c.cmd.val.text]] w (zdD w0 w n V N5):=by
 obtain ⟨b,hb0⟩:∃ b,w.heap.size=b:=⟨_,rfl⟩
 have hst:=fun W (hE:Ext w W) (hB:PBx n b c 0 W) (hbs:b+1+1<W.heap.size)=>ziU w0 W n b V N N3 N5 c D' (Nat.le_trans h0 hE.size) (hN.ext hE) hwv hB hbs hL hrd hw hc hco hn hi hs hgl hsn hb hP hro hAn hCm
 have Hst:=hJ hst
 clear hst h0 hN hwv hL hrd hw hc hco hn hi hs hgl hsn hb hP hro hAn hCm
 have hmf:∀ (fn:Fn) (first cap:Array Value) (w:World),(Instr.makeFunc fn first cap).run Tryz.prog w=.ok (.func fn first cap) w:=fun _ _ _ _=>rfl
 go_enter Tryz.func48,Tryz.ntmps48
 go_upto_region 2 with fail
 obtain ⟨W1,hW1⟩:∃ W,((w.alloc (.cells [Value.pointer (some ⟨n,0,none⟩)].toArray 31)).alloc (.cells c.cells.toArray 29)).alloc (.cells [Value.int .i64 0].toArray 3)=W:=⟨_,rfl⟩
 have hE1:Ext w W1:=hW1▸((((Mod.refl _ w).alloc _).alloc _).alloc _)
 have hB1:PBx n b c 0 W1:=by
  have h:=zdN w (.cells [Value.pointer (some ⟨n,0,none⟩)].toArray 31) (.cells c.cells.toArray 29) (.cells [Value.int .i64 0].toArray 3)
  rw[hW1,hb0] at h
  exact h
 have hs1:b+1+1<W1.heap.size:=(Array.getElem?_eq_some_iff.mp hB1.2.2).1
 rw[hW1]
 clear hW1
 have hcon:=Hst.out W1 hE1 hB1 hs1
 obtain ⟨HE1,HB1,Hcon⟩:=hJ3 hE1 hB1 hcon
 clear hE1 hB1 hs1 hcon
 go_upto_region 3 with (first
  | (refine zK ?_;refine lD 31 b 0 (zL ziQ HB1.out.1 rfl) ?_)
  | (go_at_call 42;refine Hcon.out.mono ?_;rintro e w2 ⟨rfl,V2,hN2,hw2,hM2,hG2⟩))
 have hF:zdD w0 w n V N5 (.returned (.int .i64 0)) w2:=⟨rfl,V2,hN2,hw2,(HE1.out.mod _).trans hM2 (fun k hk h=>h.elim id (fun e=>by omega)),(zbM.refl w V).trans hG2 HE1.out.size⟩
 have HF:=hJ hF
 clear hF hN2 hw2 hM2 hG2
 go_wp2_with fail
 first|(go_end0;exact HF.out)|(go_ret;exact HF.out)
theorem zhS (w0 w:World) (n:Nat) (V:NV) (N:yB) (hN:yD w0 w n V N) (hl:zdL N.r.hard) (hid:N.r.id=0):
  Calls Tryz.prog 40 #[.pointer (some ⟨n,0,none⟩)] w fun e w'=>e=.returned (.string ⟨#[102,117,108,108]⟩)∧Ext w w':=by
 obtain ⟨Ar,nr,cr,hrv⟩:∃ A n c,V.rv=.slice A n c:=⟨_,_,zC hN.p.rh.reads.1 |>.choose_spec⟩
 have HB:=hJ hN.box
 have Hid0:=hJ hid
 have hco:=fun W (hE:Ext w W)=>zcJ N.r V.sv V.lv Ar nr cr W _ ((hN.ext hE).p.rh.hard.mem) hl
 have Hco:=hJ hco
 have hld:=fun W (hE:Ext w W)=>zcM (hN.ext hE).box
 rw[hrv] at hld
 have Hld:=hJ hld
 clear hN hl hid hco hld hrv
 go_enter Tryz.func40,Tryz.ntmps40
 go_upto_region 1 with fail
 go_wp2_with fail
 refine yZ (fun W=>Ext w W) 11 ((Mod.refl _ w).drew) (fun hS=>?_)
 iterate 3
  (first|refine tP 0 3 ?_ hS (fun W'=>?_) ?_|refine tP 1 4 ?_ hS (fun W'=>?_) ?_|refine tP 2 5 ?_ hS (fun W'=>?_) ?_);rotate_left;· go_simp;try rfl
  try simp only[pL]
 refine tU 3 6 (.agg (N.r.cells V.sv V.lv (.slice Ar nr cr)).toArray) hS n 3 (fun W' hW'=>Hld.out _ hW') ?_
 try simp only[pL]
 iterate 4
  (first|refine tP 5 8 ?_ hS (fun W'=>?_) ?_|refine tP 6 9 ?_ hS (fun W'=>?_) ?_|refine tP 7 10 ?_ hS (fun W'=>?_) ?_|refine tP 8 11 ?_ hS (fun W'=>?_) ?_);rotate_left;· go_simp;try rfl
  try simp only[pL]
 refine tU 9 12 (.int .i64 0) hS n 3 (fun W' hW'=>zL zQ (hW'.blk HB.out id) (show some (Value.int .i64 N.r.id)=_ by rw[Hid0.out])) ?_
 try simp only[pL]
 refine jP 4 (fun K hK=>?_)
 go_simp
 go_wp2_with fail
 refine (Hco.out _ hS).mono ?_
 rintro e w3 ⟨rfl,hE3⟩
 have hX:=hS.ext hE3
 go_simp
 refine hK.out _ _ hX (fun hS=>?_)
 clear hK K hX
 try simp only[pL]
 refine jP 10 (fun K hK=>?_)
 go_simp
 go_wp2_with fail
 refine (zoR _).mono ?_
 rintro e w4 ⟨rfl,hE4⟩
 have hX:=hS.ext hE4
 go_simp
 refine hK.out _ _ hX (fun hS=>?_)
 clear hK K hX
 try simp only[pL]
 refine xN 11 rfl ?_
 simp only[List.drop_succ_cons,List.drop_zero]
 clear hE3 hE4
 have HS:=hJ hS
 go_wp2_with fail
 first|(go_end0;exact ⟨rfl,HS.out⟩)|(go_ret;exact ⟨rfl,HS.out⟩)
theorem zdD.up {w0 w W:World} {n:Nat} {V:NV} {N':yB} {e:Ending} {w':World} (hE:Ext w W) (h:zdD w0 W n V N' e w'):zdD w0 w n V N' e w':=by
  obtain ⟨h1,V',h2,h3,h4,h5⟩:=h
  exact ⟨h1,V',h2,h3,(hE.mod _).trans h4 (fun k _ h=>h),(zbM.refl w V).trans h5 hE.size⟩
def zp5 (l:List zR):Prop:=∀ (W:World) (T:Nat→Prop) (pv v:Value) (key:Int),Ses W T v l→Calls Tryz.prog 46 #[.agg #[pv,v],.int .i64 key] W fun e w'=>e=.returned (.tuple #[.int .i64 (yJ l key).1,.agg #[.int .i64 (yJ l key).2.code,.int .i64 (yJ l key).2.val.kind,.float .f64 (yJ l key).2.val.num,.string (yJ l key).2.val.text]])∧Ext W w'
theorem zp6 (w0 w:World) (n:Nat) (V:NV) (N N3 N5:yB) (c:zW) (D':zU) (h0:w0.heap.size≤w.heap.size) (hN:yD w0 w n V N) (hwv:N.waits=[]→V.wv=.slice none 0 0)
  (hL:zaD N.r) (hrd:N.rds=[]) (hw:N.waits=[]) (hc:yX c=0) (hco:c.ok) (hck:c.cmd.kind≠1) (hsl:zp5 N.mach.sess) (hls:(yJ N.mach.sess c.client).1<c.seq) (hn:N.r.hard.log.length<64) (hi:0≤N.r.last∧N.r.last+1≤1099511627776)
  (hs:zb6 N.dk N.g (N.r.put (zT N.r.hard.term c)).hard=(D',(N.r.put (zT N.r.hard.term c)).hard,0)) (hgl:N.g.log.length≤1000000) (hsn:N.r.hard.snap.length≤1000000) (hb:N.r.hard.base≤N.applied)
  (hP:zdP w0 n (fun _=>True) 96 #[.pointer (some ⟨n,0,none⟩)] { N with r:=N.r.put (zT N.r.hard.term c),rds:=[],g:=(N.r.put (zT N.r.hard.term c)).hard,dk:=D',waits:=[⟨c,N.r.last+1⟩] } N3) (hro:N3.r.role=3)
  (hAn:zdP w0 n (fun _=>True) 97 #[.pointer (some ⟨n,0,none⟩)] N3 N3) (hCm:zdP w0 n (fun _=>True) 98 #[.pointer (some ⟨n,0,none⟩)] N3 N5):
  Calls Tryz.prog 10 #[.pointer (some ⟨n,0,none⟩),.agg #[.int .i64 c.client,.int .i64 c.seq,.int .i64 c.cmd.kind,.string c.cmd.key,.int .i64 c.cmd.old.kind,.float .f64 c.cmd.old.num,.string c.cmd.old.text,.int .i64 c.cmd.val.kind,.float .f64 c.cmd.val.num,.string c.cmd.val.text]] w (zdD w0 w n V N5):=by
 obtain ⟨b,hb0⟩:∃ b,w.heap.size=b:=⟨_,rfl⟩
 have hpr:=fun W (hE:Ext w W)=>zp4 w0 W n V N N3 N5 c D' (Nat.le_trans h0 hE.size) (hN.ext hE) hwv hL hrd hw hc hco hn hi hs hgl hsn hb hP hro hAn hCm
 have hkd:=fun W (hE:Ext w W)=>zhS w0 W n V N (hN.ext hE) hL.lone hL.id
 have hrg:=fun W=>jS c W
 rw[hc] at hrg
 have hla:=fun W (hE:Ext w W)=>hsl W _ V.pv V.xv c.client ((hN.ext hE).p.xx.ses)
 obtain ⟨Hpr,Hkd,Hrg,Hla,HN⟩:=hJ5 hpr hkd hrg hla hN
 have Hwv:=hJ (hwv hw)
 have Hro:=hJ hL.role
 have Hls:=hJ hls
 clear hpr hkd hrg hla hN hwv hL hrd hw hc hco hls hsl hn hi hs hgl hsn hb hP hro hAn hCm h0
 go_enter Tryz.func10,Tryz.ntmps10
 go_upto_region 1 with fail
 obtain ⟨W1,hW1⟩:∃ W,w.alloc (.cells c.cells.toArray 29)=W:=⟨_,rfl⟩
 have hE1:Ext w W1:=hW1▸((Mod.refl _ w).alloc _)
 have hb1:W1.heap[b]? = some (.cells c.cells.toArray 29 (0,0)):=hb0▸hW1▸zI _ _
 rw[hW1]
 clear hW1
 obtain ⟨HE1,Hb1⟩:=hJ2 hE1 hb1
 clear hE1 hb1
 go_upto_region 4 with (first
  | (refine zK ?_;refine lD 29 b 0 (ld0 zV Hb1.out) ?_)
  | (go_at_call 41;refine (Hrg.out _).mono ?_;rintro e w2 ⟨rfl,hE2⟩;have p2:w2.cell? ⟨n,2,none⟩=some (.bool false):=zA (HN.out.ext (HE1.out.ext hE2)).box rfl;have p15:w2.cell? ⟨n,15,none⟩=some (.int .i64 3):=by rw[←Hro.out];exact zA (HN.out.ext (HE1.out.ext hE2)).box rfl))
 have HE2:=hJ (HE1.out.ext hE2)
 have Hb2:=hJ (hE2.blk Hb1.out id)
 clear hE2
 go_upto_region 6 with (go_at_call 40;refine (Hkd.out _ HE2.out).mono ?_;rintro e w3 ⟨rfl,hE3⟩;have p1:w3.cell? ⟨n,1,none⟩=some (.bool false):=zA (HN.out.ext (HE2.out.ext hE3)).box rfl)
 have HE3:=hJ (HE2.out.ext hE3)
 have Hb3:=hJ (hE3.blk Hb2.out id)
 have pk:w3.cell? ⟨b,2,none⟩=some (.int .i64 c.cmd.kind):=zA Hb3.out rfl
 clear p1 p2 p15 hE3
 go_upto_region 11 with fail
 clear pk hck
 have HN3:=hJ (HN.out.ext HE3.out)
 obtain ⟨ls,hls0⟩:∃ x,yJ N.mach.sess c.client=x:=⟨_,rfl⟩
 obtain ⟨l1,l2⟩:=ls
 rw[hls0] at Hla Hls
 have hq1:l1<c.seq:=Hls.out
 have hq2:¬ c.seq=l1:=by omega
 have hq3:¬ c.seq<l1:=by omega
 go_wp2_with fail
 refine yZ (fun W=>Ext w3 W) 12 ((Mod.refl _ w3).drew) (fun hS=>?_)
 iterate 3
  (first|refine tP 0 50 ?_ hS (fun W'=>?_) ?_|refine tP 1 51 ?_ hS (fun W'=>?_) ?_|refine tP 2 52 ?_ hS (fun W'=>?_) ?_);rotate_left;· go_simp;try rfl
  try simp only[pL]
 refine tU 3 53 (.agg #[V.pv,V.xv]) hS n 43 (fun W' hW'=>zeI (hW'.blk HN3.out.box id)) ?_
 try simp only[pL]
 refine tP 4 54 ?_ hS (fun W'=>?_) ?_;rotate_left;· go_simp;try rfl
 try simp only[pL]
 refine tU 5 55 (.int .i64 c.client) hS b 0 (fun W' hW'=>zL zQ (hW'.blk Hb3.out id) rfl) ?_
 try simp only[pL]
 refine twoU 6 10 (fun K hK=>?_) (fun K hK=>?_)
 · go_simp
   go_wp2_with fail
   refine (Hla.out _ ((HE3.out).ext hS)).mono ?_
   rintro e w4 ⟨rfl,hE4⟩
   have hX:=hS.ext hE4
   go_simp
   refine hK.out _ _ hX (fun hS=>?_)
   clear hK K hX
   try simp only[pL]
   iterate 3
    (first|refine tP 7 49 ?_ hS (fun W'=>?_) ?_|refine tP 8 57 ?_ hS (fun W'=>?_) ?_|refine tP 9 58 ?_ hS (fun W'=>?_) ?_);rotate_left;· go_simp;try rfl
    try simp only[pL]
   refine jP 10 (fun K hK=>?_)
   go_simp
   refine hK.out _ _ (hS.ext ((Mod.refl _ _).alloc _)) (fun hS=>?_)
   clear hK K
   try show yK _ _ _ _ _ _ _ _ (Act.put _ (some 7) _) _
   try simp only[pL]
   refine tP 11 6 ?_ hS (fun W'=>?_) ?_;rotate_left;· go_simp;try rfl
   try simp only[pL]
   refine xN 12 rfl ?_
   simp only[List.drop_succ_cons,List.drop_zero]
   go_upto_region 12 with (refine zF ?_;first
    | (refine stQ rfl 48 _ _ rfl 4 (w4.heap.size) 0 (.agg #[.int .i64 l2.code,.int .i64 l2.val.kind,.float .f64 l2.val.num,.string l2.val.text]) l2.cells yQ.2 _ _ l2.cells (zI w4 _) rfl ?_;intro W5 hbW5 hmW5 hsW5;have hE5:Ext w3 W5:=Mod.toExt ((Ext.mod hS (zD w3.heap.size)).trans hmW5 (fun k _ e=>by unfold zD;have h1:=hE4.size;have h2:w3.drew.heap.size=w3.heap.size:=rfl;have h3:∀ o,(w3.drew.alloc o).heap.size=w3.heap.size+1:=fun o=>Array.size_push _;omega)))
    | (refine stQ rfl 48 _ _ rfl 4 (w3.drew.heap.size) 0 (.agg #[.int .i64 l2.code,.int .i64 l2.val.kind,.float .f64 l2.val.num,.string l2.val.text]) l2.cells yQ.2 _ _ l2.cells (hE4.blk (zI w3.drew _) id) rfl ?_;intro W5 hbW5 hmW5 hsW5;have hE5:Ext w3 W5:=Mod.toExt ((Ext.mod hS (zD w3.heap.size)).trans hmW5 (fun k _ e=>by unfold zD;have h1:=hE4.size;have h2:w3.drew.heap.size=w3.heap.size:=rfl;have h3:∀ o,(w3.drew.alloc o).heap.size=w3.heap.size+1:=fun o=>Array.size_push _;omega))))
   have HE5:=hJ (HE3.out.ext hE5)
   have HN5:=hJ (HN3.out.ext hE5)
   have Hb5:=hJ (hE5.blk Hb3.out id)
   have ps:W5.cell? ⟨b,1,none⟩=some (.int .i64 c.seq):=zA Hb5.out rfl
   clear hbW5 hmW5 hsW5 hE5 hE4 hS
   go_upto_region 17 with fail
   clear ps
   go_wp2_with fail
   refine yZ (fun W=>Ext W5 W) 5 ((Mod.refl _ W5).drew) (fun hS=>?_)
   iterate 3
    (first|refine tP 0 86 ?_ hS (fun W'=>?_) ?_|refine tP 1 87 ?_ hS (fun W'=>?_) ?_|refine tP 2 88 ?_ hS (fun W'=>?_) ?_);rotate_left;· go_simp;try rfl
    try simp only[pL]
   refine tU 3 89 (.slice none 0 0) hS n 46 (fun W' hW'=>zL zaF (hW'.blk HN5.out.box id) (show some V.wv=_ by rw[Hwv.out])) ?_
   try simp only[pL]
   refine tU 4 90 (.agg c.cells.toArray) hS b 0 (fun W' hW'=>ld0 zV (hW'.blk Hb5.out id)) ?_
   try simp only[pL]
   refine xN 5 rfl ?_
   simp only[List.drop_succ_cons,List.drop_zero]
   go_upto_region 21 with (go_at_call 47;refine (g_has0 none 0 c _).mono ?_;rintro e w6 ⟨rfl,hE6⟩;have HE6:=hJ ((HE5.out.ext hS).ext hE6);have Hb6:=hJ ((hS.ext hE6).blk Hb5.out id);have pw:w6.cell? ⟨n,46,none⟩=some (.slice none 0 0):=zA (HN5.out.ext (hS.ext hE6)).box (show some V.wv=_ by rw[Hwv.out]))
   clear pw hE6 hS
   go_upto_region 22 with (first
    | (refine zK ?_;refine lD 29 b 0 (ld0 zV Hb6.out) ?_)
    | (go_at_call 48;refine (Hpr.out _ HE6.out).mono ?_;rintro e w7 ⟨rfl,h7⟩))
   have HF:=hJ (show zdD w0 w n V N5 (.returned (.int .i64 0)) w7 from zdD.up HE6.out ⟨rfl,h7⟩)
   clear h7
   first|(go_end0;exact HF.out)|(go_ret;exact HF.out)
 · go_simp
   refine hK.out _ _ (hS.ext ((Mod.refl _ _).alloc _)) (fun hS=>?_)
   clear hK K
   try show yK _ _ _ _ _ _ _ _ (Act.put _ (some 7) _) _
   try simp only[pL]
   refine jP 6 (fun K hK=>?_)
   go_simp
   go_wp2_with fail
   refine (Hla.out _ ((HE3.out).ext hS)).mono ?_
   rintro e w4 ⟨rfl,hE4⟩
   have hX:=hS.ext hE4
   go_simp
   refine hK.out _ _ hX (fun hS=>?_)
   clear hK K hX
   try simp only[pL]
   iterate 4
    (first|refine tP 7 49 ?_ hS (fun W'=>?_) ?_|refine tP 8 57 ?_ hS (fun W'=>?_) ?_|refine tP 9 58 ?_ hS (fun W'=>?_) ?_|refine tP 11 6 ?_ hS (fun W'=>?_) ?_);rotate_left;· go_simp;try rfl
    try simp only[pL]
   refine xN 12 rfl ?_
   simp only[List.drop_succ_cons,List.drop_zero]
   go_upto_region 12 with (refine zF ?_;first
    | (refine stQ rfl 48 _ _ rfl 4 (w4.heap.size) 0 (.agg #[.int .i64 l2.code,.int .i64 l2.val.kind,.float .f64 l2.val.num,.string l2.val.text]) l2.cells yQ.2 _ _ l2.cells (zI w4 _) rfl ?_;intro W5 hbW5 hmW5 hsW5;have hE5:Ext w3 W5:=Mod.toExt ((Ext.mod hS (zD w3.heap.size)).trans hmW5 (fun k _ e=>by unfold zD;have h1:=hE4.size;have h2:w3.drew.heap.size=w3.heap.size:=rfl;have h3:∀ o,(w3.drew.alloc o).heap.size=w3.heap.size+1:=fun o=>Array.size_push _;omega)))
    | (refine stQ rfl 48 _ _ rfl 4 (w3.drew.heap.size) 0 (.agg #[.int .i64 l2.code,.int .i64 l2.val.kind,.float .f64 l2.val.num,.string l2.val.text]) l2.cells yQ.2 _ _ l2.cells (hE4.blk (zI w3.drew _) id) rfl ?_;intro W5 hbW5 hmW5 hsW5;have hE5:Ext w3 W5:=Mod.toExt ((Ext.mod hS (zD w3.heap.size)).trans hmW5 (fun k _ e=>by unfold zD;have h1:=hE4.size;have h2:w3.drew.heap.size=w3.heap.size:=rfl;have h3:∀ o,(w3.drew.alloc o).heap.size=w3.heap.size+1:=fun o=>Array.size_push _;omega))))
   have HE5:=hJ (HE3.out.ext hE5)
   have HN5:=hJ (HN3.out.ext hE5)
   have Hb5:=hJ (hE5.blk Hb3.out id)
   have ps:W5.cell? ⟨b,1,none⟩=some (.int .i64 c.seq):=zA Hb5.out rfl
   clear hbW5 hmW5 hsW5 hE5 hE4 hS
   go_upto_region 17 with fail
   clear ps
   go_wp2_with fail
   refine yZ (fun W=>Ext W5 W) 5 ((Mod.refl _ W5).drew) (fun hS=>?_)
   iterate 3
    (first|refine tP 0 86 ?_ hS (fun W'=>?_) ?_|refine tP 1 87 ?_ hS (fun W'=>?_) ?_|refine tP 2 88 ?_ hS (fun W'=>?_) ?_);rotate_left;· go_simp;try rfl
    try simp only[pL]
   refine tU 3 89 (.slice none 0 0) hS n 46 (fun W' hW'=>zL zaF (hW'.blk HN5.out.box id) (show some V.wv=_ by rw[Hwv.out])) ?_
   try simp only[pL]
   refine tU 4 90 (.agg c.cells.toArray) hS b 0 (fun W' hW'=>ld0 zV (hW'.blk Hb5.out id)) ?_
   try simp only[pL]
   refine xN 5 rfl ?_
   simp only[List.drop_succ_cons,List.drop_zero]
   go_upto_region 21 with (go_at_call 47;refine (g_has0 none 0 c _).mono ?_;rintro e w6 ⟨rfl,hE6⟩;have HE6:=hJ ((HE5.out.ext hS).ext hE6);have Hb6:=hJ ((hS.ext hE6).blk Hb5.out id);have pw:w6.cell? ⟨n,46,none⟩=some (.slice none 0 0):=zA (HN5.out.ext (hS.ext hE6)).box (show some V.wv=_ by rw[Hwv.out]))
   clear pw hE6 hS
   go_upto_region 22 with (first
    | (refine zK ?_;refine lD 29 b 0 (ld0 zV Hb6.out) ?_)
    | (go_at_call 48;refine (Hpr.out _ HE6.out).mono ?_;rintro e w7 ⟨rfl,h7⟩))
   have HF:=hJ (show zdD w0 w n V N5 (.returned (.int .i64 0)) w7 from zdD.up HE6.out ⟨rfl,h7⟩)
   clear h7
   first|(go_end0;exact HF.out)|(go_ret;exact HF.out)
theorem n_Tick (w0 w:World) (n:Nat) (V:NV) (N5:yB) (hst:Calls Tryz.prog 42 #[.pointer (some ⟨n,0,none⟩),.func (Fn.func 66) #[] #[],.func (Fn.func 45) #[] #[]] w (zfK w0 w n V (fun _=>False) N5)):
  Calls Tryz.prog 25 #[.pointer (some ⟨n,0,none⟩)] w (zfK w0 w n V (fun _=>False) N5):=by
 have Hst:=hJ hst
 clear hst
 go_enter Tryz.func25,Tryz.ntmps25
 go_wp2_with (go_at_call 42;refine Hst.out.mono ?_;rintro e w2 ⟨rfl,h2⟩)
 have HF:=hJ (show zfK w0 w n V (fun _=>False) N5 (.returned (.tuple #[.slice none 0 0,.int .i64 0])) w2 from ⟨rfl,h2⟩)
 clear h2
 first|(go_end0;exact HF.out)|(go_ret;exact HF.out)|(go_ret2;exact HF.out)
theorem znG (w0 w:World) (n:Nat) (V:NV) (N:yB) (D':zU) (h0:w0.heap.size≤w.heap.size) (hN:yD w0 w n V N) (hwv:N.waits=[]→V.wv=.slice none 0 0) (hf:zgI N.r) (hwt:1<N.r.wait∧N.r.wait≤100) (hrd:N.rds=[]) (hw:N.waits=[])
  (hs:zb6 N.dk N.g N.r.hard=(D',N.r.hard,0)) (hgl:N.g.log.length≤1000000) (hsn:N.r.hard.snap.length≤1000000) (hca:N.r.commit=N.applied) (hap:0≤N.applied∧N.applied≤1099511627776) (hb:N.r.hard.base≤N.applied) (hb2:N.applied≤N.r.hard.base+16) (hb0:0≤N.r.hard.base∧N.r.hard.base≤1099511627776) (hR:zbF N.r.ticked []):
  Calls Tryz.prog 25 #[.pointer (some ⟨n,0,none⟩)] w (zfK w0 w n V (fun _=>False) { N with r:=N.r.ticked,rds:=[],g:=N.r.hard,dk:=D' }):=by
 refine n_Tick w0 w n V _ ?_
 refine n_stepF w0 w n V N { N with r:=N.r.ticked,rds:=[],g:=N.r.hard,dk:=D' } { N with r:=N.r.ticked,rds:=[],g:=N.r.hard,dk:=D' } { N with r:=N.r.ticked,rds:=[],g:=N.r.hard,dk:=D' } { N with r:=N.r.ticked,rds:=[],g:=N.r.hard,dk:=D' } 66 45 #[] #[] (fun _=>False) (fun _=>True) N.r.ticked [] D' h0 hN hwv (fun _ _=>rfl) (fun _ _=>rfl) ?_ (fun W W' hE hM=>(hN.ext hE).ext hM) (fun _ h=>h.elim) (fun _ _ _ _=>trivial) hs (by have:=hf.few;show N.r.hard.log.length≤12700;omega) hgl hsn hb (zgQ w0 n _ _) (zgR w0 n _ hca hap) hf.role hw (zdC w0 n _ hR hf.lone rfl) (za7 w0 n _ hb2 hb0)
 intro W hE
 have hh:=(hN.ext hE).p.rh
 rw[hrd] at hh
 refine Calls.mono (zm9 N.r V.sv V.lv V.rv W (fun _=>True) ⟨⟨hh.hard.mem.1.mono (fun _ _=>trivial),hh.hard.mem.2.1.mono (fun _ _=>trivial),hh.hard.mem.2.2⟩,Sl.of_own hh.reads.1 (fun _ _=>trivial)⟩ hf hwt) ?_
 rintro e w' ⟨sv,lv,rv,rfl,hF,hE2⟩
 exact ⟨sv,lv,rv,rfl,hF,hE2.mod _,trivial⟩
theorem zhT (w0 w:World) (n:Nat) (V:NV) (N:yB) (hN:yD w0 w n V N):Calls Tryz.prog 15 #[.pointer (some ⟨n,0,none⟩)] w fun e w'=>e=.returned V.tv∧yD w0 w' n { V with tv:=.slice none 0 0 } { N with told:=[] }∧zb7 50 15 w0 w' V.tv N.told.length (N.told.flatMap yU.cells)∧Mod (fun k=>k=n) w w':=by
 have HN:=hJ hN
 have Hn:=hJ hN.box
 clear hN
 go_enter Tryz.func15,Tryz.ntmps15
 go_upto_region 1 with fail
 go_wp2_with (first
  | (refine zK ?_;refine lD 44 n 47 (zL zbR Hn.out rfl) ?_)
  | (refine zF ?_;refine stQ rfl 44 _ _ rfl 1 n 47 (.slice none 0 0) [.slice none 0 0] zbR.size _ _ (yE false { V with tv:=.slice none 0 0 } { N with told:=[] }) Hn.out rfl ?_;intro W hbW hmW hsW))
 have hbx1:∀ k,k=n→∃ (cs:Array Value) (t:TypeId) (q:Nat×Nat),w.heap[k]? = some (.cells cs t q)∧50≠t:=fun k hk=>⟨_,_,_,hk▸Hn.out,by decide⟩
 have hbx2:∀ k,k=n→∃ (cs:Array Value) (t:TypeId) (q:Nat×Nat),w.heap[k]? = some (.cells cs t q)∧102≠t:=fun k hk=>⟨_,_,_,hk▸Hn.out,by decide⟩
 have hP:=HN.out.p.odd hmW (fun k hk=>hk▸HN.out.oddBox)
 have HF:=hJ (show yD w0 W n { V with tv:=.slice none 0 0 } { N with told:=[] }∧zb7 50 15 w0 W V.tv N.told.length (N.told.flatMap yU.cells)∧Mod (fun k=>k=n) w W from ⟨⟨⟨hP.st,hP.dk,hP.gh,hP.rh,hP.pp,hP.xx,hP.ww,hP.ap,hP.nb⟩,hbW,⟨World.ownsRow_nil _ _ _ _,by simp[Value.ownBlock]⟩,⟨qE HN.out.dd.1 hmW hbx2,HN.out.dd.2⟩⟩,⟨qE HN.out.tt.1 hmW hbx1,HN.out.tt.2⟩,hmW⟩)
 first|(go_end0;exact ⟨rfl,HF.out⟩)|(go_ret;exact ⟨rfl,HF.out⟩)
theorem n_Done (w0 w:World) (n:Nat) (V:NV) (N:yB) (hN:yD w0 w n V N):Calls Tryz.prog 35 #[.pointer (some ⟨n,0,none⟩)] w fun e w'=>e=.returned V.dv∧yD w0 w' n { V with dv:=.slice none 0 0 } { N with done:=[] }∧zb7 102 17 w0 w' V.dv N.done.length (N.done.flatMap qD.cells)∧Mod (fun k=>k=n) w w':=by
 have HN:=hJ hN
 have Hn:=hJ hN.box
 clear hN
 go_enter Tryz.func35,Tryz.ntmps35
 go_upto_region 1 with fail
 go_wp2_with (first
  | (refine zK ?_;refine lD 97 n 48 (zL zdO Hn.out rfl) ?_)
  | (refine zF ?_;refine stQ rfl 97 _ _ rfl 1 n 48 (.slice none 0 0) [.slice none 0 0] zdO.size _ _ (yE false { V with dv:=.slice none 0 0 } { N with done:=[] }) Hn.out rfl ?_;intro W hbW hmW hsW))
 have hbx1:∀ k,k=n→∃ (cs:Array Value) (t:TypeId) (q:Nat×Nat),w.heap[k]? = some (.cells cs t q)∧102≠t:=fun k hk=>⟨_,_,_,hk▸Hn.out,by decide⟩
 have hbx2:∀ k,k=n→∃ (cs:Array Value) (t:TypeId) (q:Nat×Nat),w.heap[k]? = some (.cells cs t q)∧50≠t:=fun k hk=>⟨_,_,_,hk▸Hn.out,by decide⟩
 have hP:=HN.out.p.odd hmW (fun k hk=>hk▸HN.out.oddBox)
 have HF:=hJ (show yD w0 W n { V with dv:=.slice none 0 0 } { N with done:=[] }∧zb7 102 17 w0 W V.dv N.done.length (N.done.flatMap qD.cells)∧Mod (fun k=>k=n) w W from ⟨⟨⟨hP.st,hP.dk,hP.gh,hP.rh,hP.pp,hP.xx,hP.ww,hP.ap,hP.nb⟩,hbW,⟨qE HN.out.tt.1 hmW hbx2,HN.out.tt.2⟩,⟨World.ownsRow_nil _ _ _ _,by simp[Value.ownBlock]⟩⟩,⟨qE HN.out.dd.1 hmW hbx1,HN.out.dd.2⟩,hmW⟩)
 first|(go_end0;exact ⟨rfl,HF.out⟩)|(go_ret;exact ⟨rfl,HF.out⟩)
def yB.called (N:yB) (c:zW) (M:jK) (rp:yH) (D':zU):yB:={ N with r:=N.r.put (zT N.r.hard.term c),rds:=[],g:=(N.r.put (zT N.r.hard.term c)).hard,dk:=D',mach:=M,applied:=N.r.last+1,waits:=[],told:=N.told++[⟨c,rp,N.r.last+1⟩],done:=N.done++[⟨N.r.last+1,zT N.r.hard.term c⟩] }
theorem zp7 (w0 w:World) (n:Nat) (V:NV) (N:yB) (c:zW) (M:jK) (rp:yH) (D':zU) (N5:yB) (h0:w0.heap.size≤w.heap.size) (hN:yD w0 w n V N) (hwv:N.waits=[]→V.wv=.slice none 0 0)
  (hL:zaD N.r) (hL':zaD (N.r.put (zT N.r.hard.term c))) (hrd:N.rds=[]) (hw:N.waits=[]) (hc:yX c=0) (hco:c.ok) (hxo:(zT N.r.hard.term c).ok) (hck:c.cmd.kind≠1) (hsl:zp5 N.mach.sess) (hls:(yJ N.mach.sess c.client).1<c.seq) (hn:N.r.hard.log.length<64) (hi:0≤N.r.last∧N.r.last+1≤1099511627776)
  (hs:zb6 N.dk N.g (N.r.put (zT N.r.hard.term c)).hard=(D',(N.r.put (zT N.r.hard.term c)).hard,0)) (hgl:N.g.log.length≤1000000) (hsn:N.r.hard.snap.length≤1000000) (hb:N.r.hard.base≤N.applied)
  (hap:N.applied=N.r.last) (hdo:SDo N.mach c M rp) (hlt:N.told.length≤100000∧N.done.length≤100000)
  (hCm:zdP w0 n (fun _=>True) 98 #[.pointer (some ⟨n,0,none⟩)] (N.called c M rp D') N5):
  Calls Tryz.prog 10 #[.pointer (some ⟨n,0,none⟩),.agg #[.int .i64 c.client,.int .i64 c.seq,.int .i64 c.cmd.kind,.string c.cmd.key,.int .i64 c.cmd.old.kind,.float .f64 c.cmd.old.num,.string c.cmd.old.text,.int .i64 c.cmd.val.kind,.float .f64 c.cmd.val.num,.string c.cmd.val.text]] w (zdD w0 w n V N5):=by
 refine zp6 w0 w n V N (N.called c M rp D') N5 c D' h0 hN hwv hL hrd hw hc hco hck hsl hls hn hi hs hgl hsn hb ?_ hL'.role (zdC w0 n _ hL'.right hL'.lone rfl) hCm
 refine zk4 w0 n _ c N.r.hard.term (N.r.last+1) N.r.hard.log.length M rp hco hxo hL'.lone rfl (by show N.applied+1=_;omega) ⟨by show 0≤N.applied;omega,hi.2⟩ rfl ?_ ?_ hdo hlt
 · show N.r.hard.base+(N.r.hard.log.length:Int)+1=N.r.hard.base+1+(N.r.hard.log.length:Int)
   omega
 · show (N.r.hard.log++[zT N.r.hard.term c])[N.r.hard.log.length]? = _
   simp
theorem ziV {t:Int} {c:zW} (hc:yX c=0):jQ (zT t c)=true:=by
  simp[jQ,zT,hc,zcU,jB.zero]
theorem zaD.called {r:zS} (h:zaD r) {c:zW} (hc:yX c=0) (hxo:(zT r.hard.term c).ok) (hn:r.hard.log.length<1000):zaD (r.put (zT r.hard.term c)):=
  h.put (ziV hc) hxo rfl (by show (1:Int)≠2;decide) hn
end Go.Proofs.YtjbkjhhjofeldaaGreat
