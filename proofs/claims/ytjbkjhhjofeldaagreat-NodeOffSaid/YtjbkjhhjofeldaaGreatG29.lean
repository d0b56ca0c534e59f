/-
 Layer 22 (node): (*Node).step that is done. Conditions: as each theorem names them.
-/
import Derived.Test.YtjbkjhhjofeldaaGreatG28
set_option maxRecDepth 100000
set_option maxHeartbeats 2000000
namespace Go.Proofs.YtjbkjhhjofeldaaGreat
set_option linter.unusedSimpArgs false
set_option linter.unusedVariables false
open Go.RowKit
theorem zcA:Sca Tryz.prog 35:=⟨fun w=>by kernel_rfl,by kernel_rfl⟩
def zdP (w0:World) (n:Nat) (E:World→Prop) (f:FuncId) (args:Array Value) (N N':yB):Prop:=∀ (W:World) (V:NV),w0.heap.size≤W.heap.size→yD w0 W n V N→(N.waits=[]→V.wv=.slice none 0 0)→E W→Calls Tryz.prog f args W fun e w'=>e=.returned (.tuple #[])∧∃ V',yD w0 w' n V' N'∧(N'.waits=[]→V'.wv=.slice none 0 0)∧Mod (NS n V) W w'∧zbM W V V'
def Cum (n:Nat) (SC:Nat→Prop) (w:World) (V:NV) (w':World) (V':NV):Prop:=Mod (fun k=>NS n V k∨SC k) w w'∧zbM w V V'
theorem ns_back {n:Nat} {w:World} {V V1:NV} (hG:zbM w V V1) {k:Nat} (hk:k<w.heap.size) (hs:NS n V1 k):NS n V k:=by
  unfold NS at hs ⊢
  rw[hG.s,hG.d] at hs
  rcases hs with e|e|e|e|e|e
  · exact .inl e
  · exact .inr (.inl e)
  · exact .inr (.inr (.inl e))
  · rcases hG.f k e with e|e
    · exact .inr (.inr (.inr (.inl e)))
    · omega
  · rcases hG.t k e with e|e
    · exact .inr (.inr (.inr (.inr (.inl e))))
    · omega
  · rcases hG.dd k e with e|e
    · exact .inr (.inr (.inr (.inr (.inr e))))
    · omega
theorem Cum.step {n:Nat} {SC:Nat→Prop} {w w1 w2:World} {V V1 V2:NV} (h:Cum n SC w V w1 V1) (hM:Mod (NS n V1) w1 w2) (hG:zbM w1 V1 V2):Cum n SC w V w2 V2:=
  ⟨h.1.trans hM (fun k hk hs=>.inl (ns_back h.2 hk hs)),h.2.trans hG h.1.size⟩
theorem Cum.ext {n:Nat} {SC:Nat→Prop} {w w1 w2:World} {V V1:NV} (h:Cum n SC w V w1 V1) (hE:Ext w1 w2):Cum n SC w V w2 V1:=h.step (hE.mod _) (zbM.refl _ _)
theorem Cum.new {n:Nat} {SC:Nat→Prop} {w w1 w2:World} {V V1:NV} {b:Nat} (h:Cum n SC w V w1 V1) (hM:Mod (fun k=>k=b) w1 w2) (hb:w.heap.size≤b):Cum n SC w V w2 V1:=⟨h.1.trans hM (fun k hk e=>by omega),h.2⟩
def Bx (w:World) (b:Nat):Prop:=w.heap[b]? = some (.cells [Value.slice none 0 0].toArray 71 (0,0))∧w.heap[b+1]? = some (.cells [Value.int .i64 0].toArray 35 (0,0))
theorem yD.ns {w0 w:World} {n b:Nat} {V:NV} {N:yB} {cs:Array Value} {t:TypeId} {q:Nat×Nat} (h:yD w0 w n V N) (hb:w.heap[b]? = some (.cells cs t q)) (h1:5≠t∧198≠t∧140≠t∧112≠t∧50≠t∧102≠t):¬ NS n V b:=by
  obtain ⟨h1,h2,h3,h4,h5,h6⟩:=h1
  rintro (e|e|e|e|e|e)
  · exact jZ h.box hb h4 e.symm
  · exact jZ h.p.st hb h2 e.symm
  · exact jZ h.p.dk.1 hb h3 e.symm
  · exact zG h.p.dk.2.1 e hb h1 rfl
  · exact zG h.tt.1 e hb h5 rfl
  · exact zG h.dd.1 e hb h6 rfl
theorem Bx.ns {w0 w w':World} {n b:Nat} {V:NV} {N:yB} (h:Bx w b) (hN:yD w0 w n V N) (hM:Mod (NS n V) w w'):Bx w' b:=
  ⟨hM.blk h.1 (hN.ns h.1 (by decide)),hM.blk h.2 (hN.ns h.2 (by decide))⟩
theorem Bx.ext {w w':World} {b:Nat} (h:Bx w b) (hE:Ext w w'):Bx w' b:=⟨hE.blk h.1 id,hE.blk h.2 id⟩
def zfK (w0 w:World) (n:Nat) (V:NV) (SC:Nat→Prop) (N':yB) (e:Ending) (w':World):Prop:=e=.returned (.tuple #[.slice none 0 0,.int .i64 0])∧∃ V',yD w0 w' n V' N'∧(N'.waits=[]→V'.wv=.slice none 0 0)∧Mod (fun k=>NS n V k∨SC k) w w'∧zbM w V V'
theorem zk3 (w0 w:World) (n:Nat) (V:NV) (N N2 N3 N4 N5:yB) (fc fa:FuncId) (cc ca:Array Value) (SC:Nat→Prop) (EC:World→Prop) (r':zS) (rds':List yL) (D':zU) (h0:w0.heap.size≤w.heap.size) (hN:yD w0 w n V N) (hwn:N.waits=[]→V.wv=.slice none 0 0)
  (hcc:∀ args W,(callFunc fc args).run Tryz.prog W=.ok (.enter fc args) W) (hca:∀ args W,(callFunc fa args).run Tryz.prog W=.ok (.enter fa args) W)
  (hC:∀ W,Ext w W→Calls Tryz.prog fc (#[.agg (N.r.cells V.sv V.lv V.rv).toArray]++cc) W (ClOut W SC EC r' rds')) (hSC:∀ W W',Ext w W→Mod SC W W'→yD w0 W' n V N) (hSCb:∀ k,SC k→k<w.heap.size) (hEC:∀ W W',EC W→Mod (fun k=>NS n V k∨w.heap.size≤k) W W'→EC W')
  (hs:zb6 N.dk N.g r'.hard=(D',r'.hard,0)) (hl:r'.hard.log.length≤12700) (hgl:N.g.log.length≤1000000) (hsn:r'.hard.snap.length≤1000000) (hb:r'.hard.base≤N.applied)
  (hA:zdP w0 n EC fa ca { N with r:=r',rds:=rds',g:=r'.hard,dk:=D' } N2) (hP:zdP w0 n (fun _=>True) 96 #[.pointer (some ⟨n,0,none⟩)] N2 N3) (hro:N3.r.role=3)
  (hAn:zdP w0 n (fun _=>True) 97 #[.pointer (some ⟨n,0,none⟩)] N3 N4) (hCm:zdP w0 n (fun _=>True) 98 #[.pointer (some ⟨n,0,none⟩)] N4 N5):
  Calls Tryz.prog 42 #[.pointer (some ⟨n,0,none⟩),.func (Fn.func fc) #[] cc,.func (Fn.func fa) #[] ca] w (zfK w0 w n V SC N5):=by
 obtain ⟨b,hb0⟩:∃ b,w.heap.size=b:=⟨_,rfl⟩
 obtain ⟨HN,H0,Hwn,HC,HSC,HSCb,HEC,Hs⟩:=hJ8 hN h0 hwn hC hSC hSCb hEC hs
 obtain ⟨Hl,Hgl,Hsn,Hb,HA,HP,Hro,HAn⟩:=hJ8 hl hgl hsn hb hA hP hro hAn
 have HCm:=hJ hCm
 clear hN h0 hwn hC hSC hSCb hEC hs hl hgl hsn hb hA hP hro hAn hCm
 have hmf:∀ (fn:Fn) (first cap:Array Value) (w:World),(Instr.makeFunc fn first cap).run Tryz.prog w=.ok (.func fn first cap) w:=fun _ _ _ _=>rfl
 go_enter_defers Tryz.func42,Tryz.ntmps42
 go_upto_region 1 with fail
 obtain ⟨W1,hW1⟩:∃ W,(w.alloc (.cells [Value.slice none 0 0].toArray 71)).alloc (.cells [Value.int .i64 0].toArray 35)=W:=⟨_,rfl⟩
 have hE1:Ext w W1:=hW1▸(((Mod.refl _ w).alloc _).alloc _)
 have ho1:W1.heap[b]? = some (.cells [Value.slice none 0 0].toArray 71 (0,0)):=hb0▸hW1▸xE _ _ _
 have he1:W1.heap[b+1]? = some (.cells [Value.int .i64 0].toArray 35 (0,0)):=by rw[←hW1,←hb0];exact xA _ _ _
 rw[hW1]
 clear hW1
 have HE1:=hJ hE1
 have HN1:=hJ (HN.out.ext hE1)
 obtain ⟨Ho1,He1⟩:=hJ2 ho1 he1
 clear hE1 ho1 he1
 go_wp2_with (refine zK ?_;first
  | (refine lD 4 n 2 (zL zfT HN1.out.box rfl) ?_)
  | (refine lD 65 n 3 (zcM HN1.out.box) ?_))
 go_upto_region 5 with (first
  | (refine (HC.out _ HE1.out).mono ?_;rintro e w2 ⟨sv2,lv2,rv2,rfl,hF,hM,hEc⟩;obtain ⟨As,ns,cs,rfl⟩:∃ A n c,sv2=.slice A n c:=⟨_,_,zC hF.hard.1.1 |>.choose_spec⟩;obtain ⟨Al,nl,cl,rfl⟩:∃ A n c,lv2=.slice A n c:=⟨_,_,zC hF.hard.2.1 |>.choose_spec⟩;obtain ⟨Ar,nr,cr,rfl⟩:∃ A n c,rv2=.slice A n c:=⟨_,_,zC hF.reads.1 |>.choose_spec⟩;have HF:=hJ hF;have HM:=hJ hM;have HEc:=hJ hEc;have Ho2:=hJ (hM.blk Ho1.out (fun e=>absurd (HSCb.out _ e) (by omega)));have He2:=hJ (hM.blk He1.out (fun e=>absurd (HSCb.out _ e) (by omega)));have Hz2:=hJ (Array.getElem?_eq_some_iff.mp He2.out).1;obtain ⟨q,hq⟩:∃ q,w2.heap.size=q:=⟨_,rfl⟩;clear hF hM hEc)
  | (refine zF ?_;refine stQ rfl 65 _ _ rfl 40 q 0 (.agg (r'.cells (.slice As ns cs) (.slice Al nl cl) (.slice Ar nr cr)).toArray) (r'.cells (.slice As ns cs) (.slice Al nl cl) (.slice Ar nr cr)) yA.2 _ rZ (r'.cells (.slice As ns cs) (.slice Al nl cl) (.slice Ar nr cr)) (by rw[←hq];exact zI w2 _) rfl ?_;intro W3 hbW3 hmW3 hsW3;have Ho3:=hJ (hmW3.blk (((Mod.refl (fun _=>False) w2).alloc _).blk Ho2.out id) (fun e=>by have:=Hz2.out;omega));have He3:=hJ (hmW3.blk (((Mod.refl (fun _=>False) w2).alloc _).blk He2.out id) (fun e=>by have:=Hz2.out;omega)))
  | (refine zF ?_;refine stQ rfl 71 _ _ rfl 1 b 0 (.slice none 0 0) [.slice none 0 0] zdM.size _ _ [.slice none 0 0] Ho3.out rfl ?_;intro W4 hbW4 hmW4 hsW4;have He4:=hJ (hmW4.blk He3.out (fun e=>by omega)))
  | (refine zF ?_;refine stQ rfl 35 _ _ rfl 1 (b+1) 0 (.int .i64 0) [.int .i64 0] zcA.size _ _ [.int .i64 0] He4.out rfl ?_;intro W5 hbW5 hmW5 hsW5))
 have hE23:Ext w2 W3:=Mod.toExt (((Mod.refl (zD w2.heap.size) w2).alloc _).trans hmW3 (fun k _ e=>by unfold zD;omega))
 have hN2:=HSC.out _ _ HE1.out HM.out
 have hN5:=((hN2.ext hE23).far Ho3.out hmW4 (by decide) (by decide) (by decide) (by decide)).far He4.out hmW5 (by decide) (by decide) (by decide) (by decide)
 have hF3:xQ W1 W3 (.slice As ns cs) (.slice Al nl cl) (.slice Ar nr cr) r' rds':=⟨HF.out.hard.ext hE23,⟨zN HF.out.reads.1 hE23 (fun _ _=>id),HF.out.reads.2⟩⟩
 have hF5:=(hF3.box Ho3.out hmW4 (by decide) (by decide) (by decide)).box He4.out hmW5 (by decide) (by decide) (by decide)
 have hq5:=hmW5.blk (hmW4.blk hbW3 (fun e=>by have:=Hz2.out;omega)) (fun e=>by have:=Hz2.out;omega)
 have hB5:Bx W5 b:=⟨hmW5.blk hbW4 (fun e=>by omega),hbW5⟩
 have hs1:w.heap.size≤W1.heap.size:=HE1.out.size
 have hC5:Cum n SC w V W5 V:=(((show Cum n SC w V w2 V from ⟨(HE1.out.mod _).trans (Mod.mono HM.out (fun k _ h=>.inr h)) (fun k _ h=>h),zbM.refl _ _⟩).ext hE23).new hmW4 (by omega)).new hmW5 (by omega)
 have hM25:Mod (zD w.heap.size) w2 W5:=((hE23.mod (zD w.heap.size)).trans hmW4 (fun k _ e=>by unfold zD;omega)).trans hmW5 (fun k _ e=>by unfold zD;omega)
 obtain ⟨HN5,HF5,Hq5,HB5,HC5,HM25⟩:=hJ6 hN5 hF5 hq5 hB5 hC5 hM25
 have p5:W5.cell? ⟨b+1,0,none⟩=some (.int .i64 0):=zA hbW5 rfl
 clear hbW3 hmW3 hsW3 hbW4 hmW4 hsW4 hbW5 hmW5 hsW5 hE23 hN2 hN5 hF3 hF5 hq5 hB5 hC5 hM25 hs1
 have hsv:Calls Tryz.prog 94 #[.pointer (some ⟨n,0,none⟩),.agg (r'.hard.cells (.slice As ns cs) (.slice Al nl cl)).toArray] W5 (SvOut w0 W5 n V { N with g:=r'.hard,dk:=D' }):=
  zp0 w0 W5 n V N r'.hard D' (.slice As ns cs) (.slice Al nl cl) _ (Nat.le_trans H0.out HC5.out.1.size) HN5.out HF5.out.hard.mem (fun k hk=>by
   have hd:=HN1.out.p.dk.lt
   have hk1:W1.heap.size≤k:=by
    rcases hk with e|e
    · exact HF5.out.hard.1.2 k e
    · exact HF5.out.hard.2.2.2 k e
   exact ⟨by omega,fun e=>by have:=za0 HN1.out.p.dk.2.1 e;omega⟩) Hl.out Hgl.out Hsn.out Hs.out
 have Hsv:=hJ hsv
 clear hsv
 go_upto_region 7 with fail
 clear p5
 go_upto_region 8 with (first
  | (refine zK ?_;refine lD 61 q 1 (zbQ Hq5.out) ?_)
  | (go_at_call 94;refine Hsv.out.mono ?_;rintro e w6 ⟨rfl,fv,gs,gl,hN6,hM6,hf6⟩;have Hnf:=hJ (fun (k:Nat) (cs:Array Value) (t:TypeId) (z:Nat×Nat) (hk:W5.heap[k]? = some (.cells cs t z)) (h1:5≠t) (h2:198≠t) (h3:140≠t)=>hM6.blk hk (fun e=>by
   rcases e with e|e|e
   · exact jZ HN5.out.p.dk.1 hk h3 e.symm
   · exact zG HN5.out.p.dk.2.1 e hk h1 rfl
   · exact jZ HN5.out.p.st hk h2 e.symm)))
  | (refine zF ?_;refine stQ rfl 35 _ _ rfl 1 (b+1) 0 (.int .i64 0) [.int .i64 0] zcA.size _ _ [.int .i64 0] (Hnf.out _ _ _ _ HB5.out.2 (by decide) (by decide) (by decide)) rfl ?_;intro W7 hbW7 hmW7 hsW7))
 have he6:=Hnf.out _ _ _ _ HB5.out.2 (by decide) (by decide) (by decide)
 have ho6:=Hnf.out _ _ _ _ HB5.out.1 (by decide) (by decide) (by decide)
 have hq6:=Hnf.out _ _ _ _ Hq5.out (by decide) (by decide) (by decide)
 have hN7:=hN6.far he6 hmW7 (by decide) (by decide) (by decide) (by decide)
 have hq7:=hmW7.blk hq6 (fun e=>by have:=Hz2.out;omega)
 have hB7:Bx W7 b:=⟨hmW7.blk ho6 (fun e=>by omega),hbW7⟩
 have key:∀ {e:TypeId} {k m:Nat} {v:Value} {xs:List Value},W5.ownsRow 0 e k v m xs→(5≠e∨∀ j,V.fv.ownBlock=some j→v.ownBlock≠some j)→e≠140→e≠198→w6.ownsRow 0 e k v m xs:=fun h h1 h2 h3=>zfS HN5.out.p.st HN5.out.p.dk hM6 h h1 h2 h3
 have hfl:∀ j,V.fv.ownBlock=some j→j<W1.heap.size:=fun j hj=>za0 HN1.out.p.dk.2.1 hj
 have hF6:xQ W1 w6 (.slice As ns cs) (.slice Al nl cl) (.slice Ar nr cr) r' rds':=⟨⟨⟨key HF5.out.hard.1.1 (.inr fun j hj e=>by have h1:=hfl j hj;have h2:=HF5.out.hard.1.2 j e;omega) (by decide) (by decide),HF5.out.hard.1.2⟩,⟨key HF5.out.hard.2.1 (.inl (by decide)) (by decide) (by decide),HF5.out.hard.2.2⟩⟩,⟨key HF5.out.reads.1 (.inl (by decide)) (by decide) (by decide),HF5.out.reads.2⟩⟩
 have hF7:=hF6.box he6 hmW7 (by decide) (by decide) (by decide)
 have hM6':Mod (NS n V) W5 w6:=Mod.mono hM6 (fun k _ e=>by
  rcases e with e|e|e
  · exact .inr (.inr (.inl e))
  · exact .inr (.inr (.inr (.inl e)))
  · exact .inr (.inl e))
 have hC6:Cum n SC w V w6 { V with fv:=fv,gs:=gs,gl:=gl }:=HC5.out.step hM6' ⟨rfl,rfl,hf6,fun _=>.inl,fun _=>.inl⟩
 have hC7:=hC6.new hmW7 (by omega)
 have hM27:Mod (fun k=>NS n V k∨w.heap.size≤k) w2 W7:=((Mod.mono HM25.out (fun k _ h=>.inr h)).trans hM6' (fun k _ h=>.inl h)).trans hmW7 (fun k _ e=>.inr (by omega))
 have hfk:∀ k,fv.ownBlock=some k→k<W1.heap.size∨W5.heap.size≤k:=fun k hk=>(hf6 k hk).elim (fun e=>.inl (hfl k e)) .inr
 have hFl:∀ k,(Value.slice As ns cs).ownBlock=some k→W1.heap.size≤k∧k<W5.heap.size:=fun k hk=>⟨HF5.out.hard.1.2 k hk,za0 HF5.out.hard.1.1 hk⟩
 have HN7:=hJ hN7
 have Hn7:=hJ hN7.box
 obtain ⟨Hq7,HB7,HF7,HC7,HM27,Hfk,HFl⟩:=hJ7 hq7 hB7 hF7 hC7 hM27 hfk hFl
 have p7:W7.cell? ⟨b+1,0,none⟩=some (.int .i64 0):=zA hbW7 rfl
 clear hN6 hM6 hf6 Hnf he6 ho6 hq6 hN7 hq7 hB7 key hfl hF6 hF7 hM6' hC6 hC7 hM27 hfk hFl hbW7 hmW7 hsW7
 go_upto_region 12 with fail
 clear p7
 go_upto_region 13 with (first
  | (refine zK ?_;refine lD 65 q 0 (yY Hq7.out) ?_)
  | (refine zF ?_;refine stQ rfl 65 _ _ rfl 40 n 3 (.agg (r'.cells (.slice As ns cs) (.slice Al nl cl) (.slice Ar nr cr)).toArray) (r'.cells (.slice As ns cs) (.slice Al nl cl) (.slice Ar nr cr)) yA.2 _ _ (yE false { V with fv:=fv,gs:=gs,gl:=gl,sv:=.slice As ns cs,lv:=.slice Al nl cl,rv:=.slice Ar nr cr } { N with r:=r',rds:=rds',g:=r'.hard,dk:=D' }) Hn7.out rfl ?_;intro W8 hbW8 hmW8 hsW8))
 have hF8:=HF7.out.box Hn7.out hmW8 (by decide) (by decide) (by decide)
 have hs1:w0.heap.size≤W1.heap.size:=Nat.le_trans H0.out HE1.out.size
 obtain ⟨V8,hV8⟩:∃ V8:NV,V8={ V with fv:=fv,gs:=gs,gl:=gl,sv:=.slice As ns cs,lv:=.slice Al nl cl,rv:=.slice Ar nr cr }:=⟨_,rfl⟩
 obtain ⟨N8,hN8e⟩:∃ N8:yB,N8={ N with r:=r',rds:=rds',g:=r'.hard,dk:=D' }:=⟨_,rfl⟩
 have hN8:yD w0 W8 n V8 N8:=by
  rw[hV8,hN8e]
  exact HN7.out.turn hmW8 hbW8 (fun hP=>⟨hP.st,hP.dk,hP.gh,⟨⟨⟨hF8.hard.1.1,fun g hg=>Nat.le_trans hs1 (hF8.hard.1.2 g hg)⟩,jH hF8.hard.2 hs1⟩,⟨hF8.reads.1,fun g hg=>Nat.le_trans hs1 (hF8.reads.2 g hg)⟩⟩,hP.pp,hP.xx,hP.ww,fun k hk=>⟨(hP.ap k hk).1,(hP.ap k hk).2.1,fun e=>by
   have h1:=HFl.out k e
   have h2:=Hfk.out k hk
   omega⟩,hP.nb⟩) ⟨rfl,rfl⟩ ⟨rfl,rfl⟩
 have hB8:Bx W8 b:=HB7.out.ns HN7.out (Mod.mono hmW8 (fun k _ e=>.inl e))
 have hC8:Cum n SC w V W8 V8:=HC7.out.step (Mod.mono hmW8 (fun k _ e=>.inl e)) (by rw[hV8];exact ⟨rfl,rfl,fun _=>.inl,fun _=>.inl,fun _=>.inl⟩)
 have hE8:EC W8:=HEC.out _ _ HEc.out (HM27.out.trans hmW8 (fun k _ e=>.inl (.inl e)))
 have hw8:N8.waits=[]→V8.wv=.slice none 0 0:=by rw[hV8,hN8e];exact Hwn.out
 have hb8:N8.r.hard.base≤N8.applied:=by rw[hN8e];exact Hb.out
 obtain ⟨HN8,HB8,HC8,HE8,Hw8,Hb8⟩:=hJ6 hN8 hB8 hC8 hE8 hw8 hb8
 have HA8:=hJ (show zdP w0 n EC fa ca N8 N2 from by rw[hN8e];exact HA.out)
 clear hF8 hs1 hV8 hN8e hN8 hB8 hC8 hE8 hw8 hb8 hbW8 hmW8 hsW8 HA
 have hba:=ziS w0 W8 n V8 N8 HN8.out Hb8.out
 have Hba:=hJ hba
 clear hba
 go_upto_region 14 with (go_at_call 65;refine Hba.out.mono ?_;rintro e w9 ⟨rfl,hE9⟩)
 have HN9:=hJ (HN8.out.ext hE9)
 have HB9:=hJ (HB8.out.ext hE9)
 have HC9:=hJ (HC8.out.ext hE9)
 have HE9:=hJ (HEC.out _ _ HE8.out (hE9.mod _))
 clear hE9
 have hac:=HA8.out w9 V8 (Nat.le_trans H0.out HC9.out.1.size) HN9.out Hw8.out HE9.out
 have Hac:=hJ hac
 clear hac
 go_upto_region 15 with (refine Calls.mono (by simpa using Hac.out) ?_;rintro e w10 ⟨rfl,V10,hN10,hw10,hM10,hG10⟩)
 obtain ⟨HN10,Hw10⟩:=hJ2 hN10 hw10
 have HB10:=hJ (HB9.out.ns HN9.out hM10)
 have HC10:=hJ (HC9.out.step hM10 hG10)
 clear hN10 hw10 hM10 hG10
 have hap:=HP.out w10 V10 (Nat.le_trans H0.out HC10.out.1.size) HN10.out Hw10.out trivial
 have Hap:=hJ hap
 clear hap
 go_upto_region 16 with (go_at_call 96;refine Hap.out.mono ?_;rintro e w11 ⟨rfl,V11,hN11,hw11,hM11,hG11⟩)
 obtain ⟨HN11,Hw11⟩:=hJ2 hN11 hw11
 have HB11:=hJ (HB10.out.ns HN10.out hM11)
 have HC11:=hJ (HC10.out.step hM11 hG11)
 have p15:w11.cell? ⟨n,15,none⟩=some (.int .i64 3):=by rw[←Hro.out];exact zA hN11.box rfl
 clear hN11 hw11 hM11 hG11
 go_upto_region 18 with fail
 clear p15
 have han:=HAn.out w11 V11 (Nat.le_trans H0.out HC11.out.1.size) HN11.out Hw11.out trivial
 have Han:=hJ han
 clear han
 go_upto_region 19 with (go_at_call 97;refine Han.out.mono ?_;rintro e w12 ⟨rfl,V12,hN12,hw12,hM12,hG12⟩)
 obtain ⟨HN12,Hw12⟩:=hJ2 hN12 hw12
 have HB12:=hJ (HB11.out.ns HN11.out hM12)
 have HC12:=hJ (HC11.out.step hM12 hG12)
 clear hN12 hw12 hM12 hG12
 have hco:=HCm.out w12 V12 (Nat.le_trans H0.out HC12.out.1.size) HN12.out Hw12.out trivial
 have Hco:=hJ hco
 clear hco
 go_upto_region 20 with (go_at_call 98;refine Hco.out.mono ?_;rintro e w13 ⟨rfl,V13,hN13,hw13,hM13,hG13⟩)
 obtain ⟨HN13,Hw13⟩:=hJ2 hN13 hw13
 have HB13:=hJ (HB12.out.ns HN12.out hM13)
 have HC13:=hJ (HC12.out.step hM13 hG13)
 clear hN13 hw13 hM13 hG13
 have px:w13.cell? ⟨b,0,none⟩=some (.slice none 0 0):=zA HB13.out.1 rfl
 go_wp2_with (first
  | (refine zF ?_;refine stQ rfl 71 _ _ rfl 1 b 0 (.slice none 0 0) [.slice none 0 0] zdM.size _ _ [.slice none 0 0] HB13.out.1 rfl ?_;intro W14 hbW14 hmW14 hsW14)
  | (refine zF ?_;refine stQ rfl 35 _ _ rfl 1 (b+1) 0 (.int .i64 0) [.int .i64 0] zcA.size _ _ [.int .i64 0] (hmW14.blk HB13.out.2 (fun e=>by omega)) rfl ?_;intro W15 hbW15 hmW15 hsW15))
 have hB15:Bx W15 b:=⟨hmW15.blk hbW14 (fun e=>by omega),hbW15⟩
 have hN15:=(HN13.out.far HB13.out.1 hmW14 (by decide) (by decide) (by decide) (by decide)).far (hmW14.blk HB13.out.2 (fun e=>by omega)) hmW15 (by decide) (by decide) (by decide) (by decide)
 have hC15:=(HC13.out.new hmW14 (by omega)).new hmW15 (by omega)
 clear px hbW14 hmW14 hsW14 hbW15 hmW15 hsW15
 refine leaves_cons (f:=93) (args:=#[.pointer (some ⟨n,0,none⟩),.pointer (some ⟨b,0,none⟩),.pointer (some ⟨b+1,0,none⟩)]) (by simp) (by simp[go_sem]) ?_
 refine (zj2 n _ _ _).mono ?_
 rintro e u' w16 ⟨rfl,rfl,hE16⟩
 have hB16:=hB15.ext hE16
 have q0:w16.cell? ⟨b,0,none⟩=some (.slice none 0 0):=zA hB16.1 rfl
 have q1:w16.cell? ⟨b+1,0,none⟩=some (.int .i64 0):=zA hB16.2 rfl
 have hF:zfK w0 w n V SC N5 (.returned (.tuple #[.slice none 0 0,.int .i64 0])) w16:=⟨rfl,V13,hN15.ext hE16,Hw13.out,(hC15.ext hE16).1,(hC15.ext hE16).2⟩
 simp[Leaves,settle,results,Tryz.results42,go_sem,q0,q1]
 exact hF
theorem n_stepF (w0 w:World) (n:Nat) (V:NV) (N N2 N3 N4 N5:yB) (fc fa:FuncId) (cc ca:Array Value) (SC:Nat→Prop) (EC:World→Prop) (r':zS) (rds':List yL) (D':zU) (h0:w0.heap.size≤w.heap.size) (hN:yD w0 w n V N) (hwn:N.waits=[]→V.wv=.slice none 0 0)
  (hcc:∀ args W,(callFunc fc args).run Tryz.prog W=.ok (.enter fc args) W) (hca:∀ args W,(callFunc fa args).run Tryz.prog W=.ok (.enter fa args) W)
  (hC:∀ W,Ext w W→Calls Tryz.prog fc (#[.agg (N.r.cells V.sv V.lv V.rv).toArray]++cc) W (ClOut W SC EC r' rds')) (hSC:∀ W W',Ext w W→Mod SC W W'→yD w0 W' n V N) (hSCb:∀ k,SC k→k<w.heap.size) (hEC:∀ W W',EC W→Mod (fun k=>NS n V k∨w.heap.size≤k) W W'→EC W')
  (hs:zb6 N.dk N.g r'.hard=(D',r'.hard,0)) (hl:r'.hard.log.length≤12700) (hgl:N.g.log.length≤1000000) (hsn:r'.hard.snap.length≤1000000) (hb:r'.hard.base≤N.applied)
  (hA:zdP w0 n EC fa ca { N with r:=r',rds:=rds',g:=r'.hard,dk:=D' } N2) (hP:zdP w0 n (fun _=>True) 96 #[.pointer (some ⟨n,0,none⟩)] N2 N3) (hro:N3.r.role=0) (hwt:N3.waits=[])
  (hAn:zdP w0 n (fun _=>True) 97 #[.pointer (some ⟨n,0,none⟩)] N3 N4) (hCm:zdP w0 n (fun _=>True) 98 #[.pointer (some ⟨n,0,none⟩)] N4 N5):
  Calls Tryz.prog 42 #[.pointer (some ⟨n,0,none⟩),.func (Fn.func fc) #[] cc,.func (Fn.func fa) #[] ca] w (zfK w0 w n V SC N5):=by
 obtain ⟨b,hb0⟩:∃ b,w.heap.size=b:=⟨_,rfl⟩
 obtain ⟨HN,H0,Hwn,HC,HSC,HSCb,HEC,Hs⟩:=hJ8 hN h0 hwn hC hSC hSCb hEC hs
 obtain ⟨Hl,Hgl,Hsn,Hb,HA,HP,Hro,Hwt⟩:=hJ8 hl hgl hsn hb hA hP hro hwt
 obtain ⟨HAn,HCm⟩:=hJ2 hAn hCm
 clear hN h0 hwn hC hSC hSCb hEC hs hl hgl hsn hb hA hP hro hAn hCm hwt
 have hmf:∀ (fn:Fn) (first cap:Array Value) (w:World),(Instr.makeFunc fn first cap).run Tryz.prog w=.ok (.func fn first cap) w:=fun _ _ _ _=>rfl
 go_enter_defers Tryz.func42,Tryz.ntmps42
 go_upto_region 1 with fail
 obtain ⟨W1,hW1⟩:∃ W,(w.alloc (.cells [Value.slice none 0 0].toArray 71)).alloc (.cells [Value.int .i64 0].toArray 35)=W:=⟨_,rfl⟩
 have hE1:Ext w W1:=hW1▸(((Mod.refl _ w).alloc _).alloc _)
 have ho1:W1.heap[b]? = some (.cells [Value.slice none 0 0].toArray 71 (0,0)):=hb0▸hW1▸xE _ _ _
 have he1:W1.heap[b+1]? = some (.cells [Value.int .i64 0].toArray 35 (0,0)):=by rw[←hW1,←hb0];exact xA _ _ _
 rw[hW1]
 clear hW1
 have HE1:=hJ hE1
 have HN1:=hJ (HN.out.ext hE1)
 obtain ⟨Ho1,He1⟩:=hJ2 ho1 he1
 clear hE1 ho1 he1
 go_wp2_with (refine zK ?_;first
  | (refine lD 4 n 2 (zL zfT HN1.out.box rfl) ?_)
  | (refine lD 65 n 3 (zcM HN1.out.box) ?_))
 go_upto_region 5 with (first
  | (refine (HC.out _ HE1.out).mono ?_;rintro e w2 ⟨sv2,lv2,rv2,rfl,hF,hM,hEc⟩;obtain ⟨As,ns,cs,rfl⟩:∃ A n c,sv2=.slice A n c:=⟨_,_,zC hF.hard.1.1 |>.choose_spec⟩;obtain ⟨Al,nl,cl,rfl⟩:∃ A n c,lv2=.slice A n c:=⟨_,_,zC hF.hard.2.1 |>.choose_spec⟩;obtain ⟨Ar,nr,cr,rfl⟩:∃ A n c,rv2=.slice A n c:=⟨_,_,zC hF.reads.1 |>.choose_spec⟩;have HF:=hJ hF;have HM:=hJ hM;have HEc:=hJ hEc;have Ho2:=hJ (hM.blk Ho1.out (fun e=>absurd (HSCb.out _ e) (by omega)));have He2:=hJ (hM.blk He1.out (fun e=>absurd (HSCb.out _ e) (by omega)));have Hz2:=hJ (Array.getElem?_eq_some_iff.mp He2.out).1;obtain ⟨q,hq⟩:∃ q,w2.heap.size=q:=⟨_,rfl⟩;clear hF hM hEc)
  | (refine zF ?_;refine stQ rfl 65 _ _ rfl 40 q 0 (.agg (r'.cells (.slice As ns cs) (.slice Al nl cl) (.slice Ar nr cr)).toArray) (r'.cells (.slice As ns cs) (.slice Al nl cl) (.slice Ar nr cr)) yA.2 _ rZ (r'.cells (.slice As ns cs) (.slice Al nl cl) (.slice Ar nr cr)) (by rw[←hq];exact zI w2 _) rfl ?_;intro W3 hbW3 hmW3 hsW3;have Ho3:=hJ (hmW3.blk (((Mod.refl (fun _=>False) w2).alloc _).blk Ho2.out id) (fun e=>by have:=Hz2.out;omega));have He3:=hJ (hmW3.blk (((Mod.refl (fun _=>False) w2).alloc _).blk He2.out id) (fun e=>by have:=Hz2.out;omega)))
  | (refine zF ?_;refine stQ rfl 71 _ _ rfl 1 b 0 (.slice none 0 0) [.slice none 0 0] zdM.size _ _ [.slice none 0 0] Ho3.out rfl ?_;intro W4 hbW4 hmW4 hsW4;have He4:=hJ (hmW4.blk He3.out (fun e=>by omega)))
  | (refine zF ?_;refine stQ rfl 35 _ _ rfl 1 (b+1) 0 (.int .i64 0) [.int .i64 0] zcA.size _ _ [.int .i64 0] He4.out rfl ?_;intro W5 hbW5 hmW5 hsW5))
 have hE23:Ext w2 W3:=Mod.toExt (((Mod.refl (zD w2.heap.size) w2).alloc _).trans hmW3 (fun k _ e=>by unfold zD;omega))
 have hN2:=HSC.out _ _ HE1.out HM.out
 have hN5:=((hN2.ext hE23).far Ho3.out hmW4 (by decide) (by decide) (by decide) (by decide)).far He4.out hmW5 (by decide) (by decide) (by decide) (by decide)
 have hF3:xQ W1 W3 (.slice As ns cs) (.slice Al nl cl) (.slice Ar nr cr) r' rds':=⟨HF.out.hard.ext hE23,⟨zN HF.out.reads.1 hE23 (fun _ _=>id),HF.out.reads.2⟩⟩
 have hF5:=(hF3.box Ho3.out hmW4 (by decide) (by decide) (by decide)).box He4.out hmW5 (by decide) (by decide) (by decide)
 have hq5:=hmW5.blk (hmW4.blk hbW3 (fun e=>by have:=Hz2.out;omega)) (fun e=>by have:=Hz2.out;omega)
 have hB5:Bx W5 b:=⟨hmW5.blk hbW4 (fun e=>by omega),hbW5⟩
 have hs1:w.heap.size≤W1.heap.size:=HE1.out.size
 have hC5:Cum n SC w V W5 V:=(((show Cum n SC w V w2 V from ⟨(HE1.out.mod _).trans (Mod.mono HM.out (fun k _ h=>.inr h)) (fun k _ h=>h),zbM.refl _ _⟩).ext hE23).new hmW4 (by omega)).new hmW5 (by omega)
 have hM25:Mod (zD w.heap.size) w2 W5:=((hE23.mod (zD w.heap.size)).trans hmW4 (fun k _ e=>by unfold zD;omega)).trans hmW5 (fun k _ e=>by unfold zD;omega)
 obtain ⟨HN5,HF5,Hq5,HB5,HC5,HM25⟩:=hJ6 hN5 hF5 hq5 hB5 hC5 hM25
 have p5:W5.cell? ⟨b+1,0,none⟩=some (.int .i64 0):=zA hbW5 rfl
 clear hbW3 hmW3 hsW3 hbW4 hmW4 hsW4 hbW5 hmW5 hsW5 hE23 hN2 hN5 hF3 hF5 hq5 hB5 hC5 hM25 hs1
 have hsv:Calls Tryz.prog 94 #[.pointer (some ⟨n,0,none⟩),.agg (r'.hard.cells (.slice As ns cs) (.slice Al nl cl)).toArray] W5 (SvOut w0 W5 n V { N with g:=r'.hard,dk:=D' }):=
  zp0 w0 W5 n V N r'.hard D' (.slice As ns cs) (.slice Al nl cl) _ (Nat.le_trans H0.out HC5.out.1.size) HN5.out HF5.out.hard.mem (fun k hk=>by
   have hd:=HN1.out.p.dk.lt
   have hk1:W1.heap.size≤k:=by
    rcases hk with e|e
    · exact HF5.out.hard.1.2 k e
    · exact HF5.out.hard.2.2.2 k e
   exact ⟨by omega,fun e=>by have:=za0 HN1.out.p.dk.2.1 e;omega⟩) Hl.out Hgl.out Hsn.out Hs.out
 have Hsv:=hJ hsv
 clear hsv
 go_upto_region 7 with fail
 clear p5
 go_upto_region 8 with (first
  | (refine zK ?_;refine lD 61 q 1 (zbQ Hq5.out) ?_)
  | (go_at_call 94;refine Hsv.out.mono ?_;rintro e w6 ⟨rfl,fv,gs,gl,hN6,hM6,hf6⟩;have Hnf:=hJ (fun (k:Nat) (cs:Array Value) (t:TypeId) (z:Nat×Nat) (hk:W5.heap[k]? = some (.cells cs t z)) (h1:5≠t) (h2:198≠t) (h3:140≠t)=>hM6.blk hk (fun e=>by
   rcases e with e|e|e
   · exact jZ HN5.out.p.dk.1 hk h3 e.symm
   · exact zG HN5.out.p.dk.2.1 e hk h1 rfl
   · exact jZ HN5.out.p.st hk h2 e.symm)))
  | (refine zF ?_;refine stQ rfl 35 _ _ rfl 1 (b+1) 0 (.int .i64 0) [.int .i64 0] zcA.size _ _ [.int .i64 0] (Hnf.out _ _ _ _ HB5.out.2 (by decide) (by decide) (by decide)) rfl ?_;intro W7 hbW7 hmW7 hsW7))
 have he6:=Hnf.out _ _ _ _ HB5.out.2 (by decide) (by decide) (by decide)
 have ho6:=Hnf.out _ _ _ _ HB5.out.1 (by decide) (by decide) (by decide)
 have hq6:=Hnf.out _ _ _ _ Hq5.out (by decide) (by decide) (by decide)
 have hN7:=hN6.far he6 hmW7 (by decide) (by decide) (by decide) (by decide)
 have hq7:=hmW7.blk hq6 (fun e=>by have:=Hz2.out;omega)
 have hB7:Bx W7 b:=⟨hmW7.blk ho6 (fun e=>by omega),hbW7⟩
 have key:∀ {e:TypeId} {k m:Nat} {v:Value} {xs:List Value},W5.ownsRow 0 e k v m xs→(5≠e∨∀ j,V.fv.ownBlock=some j→v.ownBlock≠some j)→e≠140→e≠198→w6.ownsRow 0 e k v m xs:=fun h h1 h2 h3=>zfS HN5.out.p.st HN5.out.p.dk hM6 h h1 h2 h3
 have hfl:∀ j,V.fv.ownBlock=some j→j<W1.heap.size:=fun j hj=>za0 HN1.out.p.dk.2.1 hj
 have hF6:xQ W1 w6 (.slice As ns cs) (.slice Al nl cl) (.slice Ar nr cr) r' rds':=⟨⟨⟨key HF5.out.hard.1.1 (.inr fun j hj e=>by have h1:=hfl j hj;have h2:=HF5.out.hard.1.2 j e;omega) (by decide) (by decide),HF5.out.hard.1.2⟩,⟨key HF5.out.hard.2.1 (.inl (by decide)) (by decide) (by decide),HF5.out.hard.2.2⟩⟩,⟨key HF5.out.reads.1 (.inl (by decide)) (by decide) (by decide),HF5.out.reads.2⟩⟩
 have hF7:=hF6.box he6 hmW7 (by decide) (by decide) (by decide)
 have hM6':Mod (NS n V) W5 w6:=Mod.mono hM6 (fun k _ e=>by
  rcases e with e|e|e
  · exact .inr (.inr (.inl e))
  · exact .inr (.inr (.inr (.inl e)))
  · exact .inr (.inl e))
 have hC6:Cum n SC w V w6 { V with fv:=fv,gs:=gs,gl:=gl }:=HC5.out.step hM6' ⟨rfl,rfl,hf6,fun _=>.inl,fun _=>.inl⟩
 have hC7:=hC6.new hmW7 (by omega)
 have hM27:Mod (fun k=>NS n V k∨w.heap.size≤k) w2 W7:=((Mod.mono HM25.out (fun k _ h=>.inr h)).trans hM6' (fun k _ h=>.inl h)).trans hmW7 (fun k _ e=>.inr (by omega))
 have hfk:∀ k,fv.ownBlock=some k→k<W1.heap.size∨W5.heap.size≤k:=fun k hk=>(hf6 k hk).elim (fun e=>.inl (hfl k e)) .inr
 have hFl:∀ k,(Value.slice As ns cs).ownBlock=some k→W1.heap.size≤k∧k<W5.heap.size:=fun k hk=>⟨HF5.out.hard.1.2 k hk,za0 HF5.out.hard.1.1 hk⟩
 have HN7:=hJ hN7
 have Hn7:=hJ hN7.box
 obtain ⟨Hq7,HB7,HF7,HC7,HM27,Hfk,HFl⟩:=hJ7 hq7 hB7 hF7 hC7 hM27 hfk hFl
 have p7:W7.cell? ⟨b+1,0,none⟩=some (.int .i64 0):=zA hbW7 rfl
 clear hN6 hM6 hf6 Hnf he6 ho6 hq6 hN7 hq7 hB7 key hfl hF6 hF7 hM6' hC6 hC7 hM27 hfk hFl hbW7 hmW7 hsW7
 go_upto_region 12 with fail
 clear p7
 go_upto_region 13 with (first
  | (refine zK ?_;refine lD 65 q 0 (yY Hq7.out) ?_)
  | (refine zF ?_;refine stQ rfl 65 _ _ rfl 40 n 3 (.agg (r'.cells (.slice As ns cs) (.slice Al nl cl) (.slice Ar nr cr)).toArray) (r'.cells (.slice As ns cs) (.slice Al nl cl) (.slice Ar nr cr)) yA.2 _ _ (yE false { V with fv:=fv,gs:=gs,gl:=gl,sv:=.slice As ns cs,lv:=.slice Al nl cl,rv:=.slice Ar nr cr } { N with r:=r',rds:=rds',g:=r'.hard,dk:=D' }) Hn7.out rfl ?_;intro W8 hbW8 hmW8 hsW8))
 have hF8:=HF7.out.box Hn7.out hmW8 (by decide) (by decide) (by decide)
 have hs1:w0.heap.size≤W1.heap.size:=Nat.le_trans H0.out HE1.out.size
 obtain ⟨V8,hV8⟩:∃ V8:NV,V8={ V with fv:=fv,gs:=gs,gl:=gl,sv:=.slice As ns cs,lv:=.slice Al nl cl,rv:=.slice Ar nr cr }:=⟨_,rfl⟩
 obtain ⟨N8,hN8e⟩:∃ N8:yB,N8={ N with r:=r',rds:=rds',g:=r'.hard,dk:=D' }:=⟨_,rfl⟩
 have hN8:yD w0 W8 n V8 N8:=by
  rw[hV8,hN8e]
  exact HN7.out.turn hmW8 hbW8 (fun hP=>⟨hP.st,hP.dk,hP.gh,⟨⟨⟨hF8.hard.1.1,fun g hg=>Nat.le_trans hs1 (hF8.hard.1.2 g hg)⟩,jH hF8.hard.2 hs1⟩,⟨hF8.reads.1,fun g hg=>Nat.le_trans hs1 (hF8.reads.2 g hg)⟩⟩,hP.pp,hP.xx,hP.ww,fun k hk=>⟨(hP.ap k hk).1,(hP.ap k hk).2.1,fun e=>by
   have h1:=HFl.out k e
   have h2:=Hfk.out k hk
   omega⟩,hP.nb⟩) ⟨rfl,rfl⟩ ⟨rfl,rfl⟩
 have hB8:Bx W8 b:=HB7.out.ns HN7.out (Mod.mono hmW8 (fun k _ e=>.inl e))
 have hC8:Cum n SC w V W8 V8:=HC7.out.step (Mod.mono hmW8 (fun k _ e=>.inl e)) (by rw[hV8];exact ⟨rfl,rfl,fun _=>.inl,fun _=>.inl,fun _=>.inl⟩)
 have hE8:EC W8:=HEC.out _ _ HEc.out (HM27.out.trans hmW8 (fun k _ e=>.inl (.inl e)))
 have hw8:N8.waits=[]→V8.wv=.slice none 0 0:=by rw[hV8,hN8e];exact Hwn.out
 have hb8:N8.r.hard.base≤N8.applied:=by rw[hN8e];exact Hb.out
 obtain ⟨HN8,HB8,HC8,HE8,Hw8,Hb8⟩:=hJ6 hN8 hB8 hC8 hE8 hw8 hb8
 have HA8:=hJ (show zdP w0 n EC fa ca N8 N2 from by rw[hN8e];exact HA.out)
 clear hF8 hs1 hV8 hN8e hN8 hB8 hC8 hE8 hw8 hb8 hbW8 hmW8 hsW8 HA
 have hba:=ziS w0 W8 n V8 N8 HN8.out Hb8.out
 have Hba:=hJ hba
 clear hba
 go_upto_region 14 with (go_at_call 65;refine Hba.out.mono ?_;rintro e w9 ⟨rfl,hE9⟩)
 have HN9:=hJ (HN8.out.ext hE9)
 have HB9:=hJ (HB8.out.ext hE9)
 have HC9:=hJ (HC8.out.ext hE9)
 have HE9:=hJ (HEC.out _ _ HE8.out (hE9.mod _))
 clear hE9
 have hac:=HA8.out w9 V8 (Nat.le_trans H0.out HC9.out.1.size) HN9.out Hw8.out HE9.out
 have Hac:=hJ hac
 clear hac
 go_upto_region 15 with (refine Calls.mono (by simpa using Hac.out) ?_;rintro e w10 ⟨rfl,V10,hN10,hw10,hM10,hG10⟩)
 obtain ⟨HN10,Hw10⟩:=hJ2 hN10 hw10
 have HB10:=hJ (HB9.out.ns HN9.out hM10)
 have HC10:=hJ (HC9.out.step hM10 hG10)
 clear hN10 hw10 hM10 hG10
 have hap:=HP.out w10 V10 (Nat.le_trans H0.out HC10.out.1.size) HN10.out Hw10.out trivial
 have Hap:=hJ hap
 clear hap
 go_upto_region 16 with (go_at_call 96;refine Hap.out.mono ?_;rintro e w11 ⟨rfl,V11,hN11,hw11,hM11,hG11⟩)
 obtain ⟨HN11,Hw11⟩:=hJ2 hN11 hw11
 have HB11:=hJ (HB10.out.ns HN10.out hM11)
 have HC11:=hJ (HC10.out.step hM11 hG11)
 have p15:w11.cell? ⟨n,15,none⟩=some (.int .i64 0):=by rw[←Hro.out];exact zA hN11.box rfl
 have Hn11:=hJ hN11.box
 clear hN11 hw11 hM11 hG11
 go_upto_region 18 with (refine zF ?_;refine stQ rfl 110 _ _ rfl 1 n 46 (.slice none 0 0) [.slice none 0 0] zaF.size _ _ (yE false { V11 with wv:=.slice none 0 0 } N3) Hn11.out rfl ?_;intro Wz hbWz hmWz hsWz)
 clear p15
 have hwe:({ V11 with wv:=.slice none 0 0 }:NV)=V11:=by rw[←Hw11.out Hwt.out]
 rw[hwe] at hbWz
 have hNz:=HN11.out.turn hmWz hbWz id ⟨rfl,rfl⟩ ⟨rfl,rfl⟩
 have HBz:=hJ (HB11.out.ns HN11.out (Mod.mono hmWz (fun k _ e=>.inl e)))
 have HCz:=hJ (HC11.out.step (Mod.mono hmWz (fun k _ e=>.inl e)) (zbM.refl _ _))
 have HNz:=hJ hNz
 clear hwe hbWz hmWz hsWz hNz Hn11 HN11 HB11 HC11
 have han:=HAn.out Wz V11 (Nat.le_trans H0.out HCz.out.1.size) HNz.out Hw11.out trivial
 have Han:=hJ han
 clear han
 go_upto_region 19 with (go_at_call 97;refine Han.out.mono ?_;rintro e w12 ⟨rfl,V12,hN12,hw12,hM12,hG12⟩)
 obtain ⟨HN12,Hw12⟩:=hJ2 hN12 hw12
 have HB12:=hJ (HBz.out.ns HNz.out hM12)
 have HC12:=hJ (HCz.out.step hM12 hG12)
 clear hN12 hw12 hM12 hG12
 have hco:=HCm.out w12 V12 (Nat.le_trans H0.out HC12.out.1.size) HN12.out Hw12.out trivial
 have Hco:=hJ hco
 clear hco
 go_upto_region 20 with (go_at_call 98;refine Hco.out.mono ?_;rintro e w13 ⟨rfl,V13,hN13,hw13,hM13,hG13⟩)
 obtain ⟨HN13,Hw13⟩:=hJ2 hN13 hw13
 have HB13:=hJ (HB12.out.ns HN12.out hM13)
 have HC13:=hJ (HC12.out.step hM13 hG13)
 clear hN13 hw13 hM13 hG13
 have px:w13.cell? ⟨b,0,none⟩=some (.slice none 0 0):=zA HB13.out.1 rfl
 go_wp2_with (first
  | (refine zF ?_;refine stQ rfl 71 _ _ rfl 1 b 0 (.slice none 0 0) [.slice none 0 0] zdM.size _ _ [.slice none 0 0] HB13.out.1 rfl ?_;intro W14 hbW14 hmW14 hsW14)
  | (refine zF ?_;refine stQ rfl 35 _ _ rfl 1 (b+1) 0 (.int .i64 0) [.int .i64 0] zcA.size _ _ [.int .i64 0] (hmW14.blk HB13.out.2 (fun e=>by omega)) rfl ?_;intro W15 hbW15 hmW15 hsW15))
 have hB15:Bx W15 b:=⟨hmW15.blk hbW14 (fun e=>by omega),hbW15⟩
 have hN15:=(HN13.out.far HB13.out.1 hmW14 (by decide) (by decide) (by decide) (by decide)).far (hmW14.blk HB13.out.2 (fun e=>by omega)) hmW15 (by decide) (by decide) (by decide) (by decide)
 have hC15:=(HC13.out.new hmW14 (by omega)).new hmW15 (by omega)
 clear px hbW14 hmW14 hsW14 hbW15 hmW15 hsW15
 refine leaves_cons (f:=93) (args:=#[.pointer (some ⟨n,0,none⟩),.pointer (some ⟨b,0,none⟩),.pointer (some ⟨b+1,0,none⟩)]) (by simp) (by simp[go_sem]) ?_
 refine (zj2 n _ _ _).mono ?_
 rintro e u' w16 ⟨rfl,rfl,hE16⟩
 have hB16:=hB15.ext hE16
 have q0:w16.cell? ⟨b,0,none⟩=some (.slice none 0 0):=zA hB16.1 rfl
 have q1:w16.cell? ⟨b+1,0,none⟩=some (.int .i64 0):=zA hB16.2 rfl
 have hF:zfK w0 w n V SC N5 (.returned (.tuple #[.slice none 0 0,.int .i64 0])) w16:=⟨rfl,V13,hN15.ext hE16,Hw13.out,(hC15.ext hE16).1,(hC15.ext hE16).2⟩
 simp[Leaves,settle,results,Tryz.results42,go_sem,q0,q1]
 exact hF
theorem n_none (w:World):Calls Tryz.prog 45 #[] w fun e w'=>e=.returned (.tuple #[])∧Ext w w':=by
 go_enter Tryz.func45,Tryz.ntmps45
 go_wp2_with fail
 all_goals first|exact ⟨rfl,Mod.refl _ w⟩|(go_end0;exact ⟨rfl,Mod.refl _ w⟩)
theorem zgQ (w0:World) (n:Nat) (E:World→Prop) (N:yB):zdP w0 n E 45 #[] N N:=fun W V h0 hN hw hE=>(n_none W).mono fun e w' ⟨h1,h2⟩=>⟨h1,V,hN.ext h2,hw,h2.mod _,zbM.refl _ _⟩
theorem zgR (w0:World) (n:Nat) (N:yB) (hc:N.r.commit=N.applied) (hi:0≤N.applied∧N.applied≤1099511627776):zdP w0 n (fun _=>True) 96 #[.pointer (some ⟨n,0,none⟩)] N N:=fun W V h0 hN hw _=>(n_apply0 w0 W n V N hN hc hi).mono fun e w' ⟨h1,h2,h3⟩=>⟨h1,V,h2,hw,Mod.mono h3 (fun k _ e=>.inl e),zbM.refl _ _⟩
theorem zk4 (w0:World) (n:Nat) (N:yB) (c:zW) (tm i:Int) (k:Nat) (M:jK) (rp:yH) (hco:c.ok) (hxo:(zT tm c).ok) (hlo:zdL N.r.hard) (hw:N.waits=[⟨c,i⟩]) (hi:N.applied+1=i) (hi1:0≤N.applied∧i≤1099511627776) (hcm:N.r.commit=i) (hk:i=N.r.hard.base+1+k) (hx:N.r.hard.log[k]? = some (zT tm c)) (hdo:SDo N.mach c M rp) (hlt:N.told.length≤100000∧N.done.length≤100000):zdP w0 n (fun _=>True) 96 #[.pointer (some ⟨n,0,none⟩)] N { N with mach:=M,applied:=i,waits:=[],told:=N.told++[⟨c,rp,i⟩],done:=N.done++[⟨i,(zT tm c)⟩] }:=fun W V h0 hN hwv _=>(n_apply1 w0 W n V N c tm i k M rp h0 hN hco hxo hlo hw hi hi1 hcm hk hx hdo hlt).mono fun e w' ⟨h1,pv,xv,tv,dv,h2,h3,h4,h5⟩=>⟨h1,_,h2,fun _=>rfl,Mod.mono h3 (fun k _ e=>by
  rcases e with e|e|e
  · exact .inl e
  · exact .inr (.inr (.inr (.inr (.inl e))))
  · exact .inr (.inr (.inr (.inr (.inr e))))),⟨rfl,rfl,fun _=>.inl,h4,h5⟩⟩
theorem zdC (w0:World) (n:Nat) (N:yB) (hr:zbF N.r N.rds) (hl:zdL N.r.hard) (hd:N.rds=[]):zdP w0 n (fun _=>True) 97 #[.pointer (some ⟨n,0,none⟩)] N N:=fun W V h0 hN hw _=>(zp2 w0 W n V N h0 hN hr hl hd).mono fun e w' ⟨h1,sv,lv,h2,h3⟩=>⟨h1,_,h2,hw,Mod.mono h3 (fun k _ e=>.inl e),⟨rfl,rfl,fun _=>.inl,fun _=>.inl,fun _=>.inl⟩⟩
theorem za7 (w0:World) (n:Nat) (N:yB) (hb:N.applied≤N.r.hard.base+16) (hb0:0≤N.r.hard.base∧N.r.hard.base≤1099511627776):zdP w0 n (fun _=>True) 98 #[.pointer (some ⟨n,0,none⟩)] N N:=fun W V h0 hN hw _=>(znD w0 W n V N hN hb hb0).mono fun e w' ⟨h1,h2⟩=>⟨h1,V,hN.ext h2,hw,h2.mod _,zbM.refl _ _⟩
theorem ziT (w0:World) (n:Nat) (N:yB) (bs:List UInt8) (D':zU) (hL:zaD N.r) (hrd:N.rds=[]) (hb:N.r.hard.base+16<N.applied) (hap:N.applied=N.r.commit) (hb2:N.r.commit≤1099511627776) (hen:SEnc N.mach bs) (hbl:bs.length≤16384) (hgl:N.g.log.length≤1000000) (hs:zb6 N.dk N.g (N.r.hard.snapped N.r.commit bs)=(D',N.r.hard.snapped N.r.commit bs,0)):zdP w0 n (fun _=>True) 98 #[.pointer (some ⟨n,0,none⟩)] N { N with r:=N.r.snapped bs,g:=N.r.hard.snapped N.r.commit bs,dk:=D' }:=fun W V h0 hN hw _=>(znE w0 W n V N bs D' h0 hN hL hrd hb hap hb2 hen hbl hgl hs).mono fun e w' ⟨h1,V',h2,h3,h4,h5,h6⟩=>⟨h1,V',h2,fun e=>by rw[h5];exact hw e,h3,h4⟩
theorem znF (w0:World) (n nb cb ab:Nat) (N:yB) (c:zW) (i:Int) (hw:N.waits=[]) (hc:yX c=0) (hi:1≤i∧i≤1099511627776):zdP w0 n (fun W=>W.heap[nb]? = some (.cells [Value.pointer (some ⟨n,0,none⟩)].toArray 31 (0,0))∧W.heap[cb]? = some (.cells c.cells.toArray 29 (0,0))∧W.heap[ab]? = some (.cells [Value.int .i64 i].toArray 3 (0,0))) 107 #[.pointer (some ⟨nb,0,none⟩),.pointer (some ⟨cb,0,none⟩),.pointer (some ⟨ab,0,none⟩)] N { N with waits:=[⟨c,i⟩] }:=fun W V h0 hN hwv hE=>(znC w0 W n nb cb ab V N c i h0 hN (hwv hw) hc hi hE.1 hE.2.1 hE.2.2).mono fun e w' ⟨h1,wv,h2,h3⟩=>⟨h1,_,h2,fun e=>absurd e (by simp),Mod.mono h3 (fun k _ e=>.inl e),⟨rfl,rfl,fun _=>.inl,fun _=>.inl,fun _=>.inl⟩⟩
end Go.Proofs.YtjbkjhhjofeldaaGreat
