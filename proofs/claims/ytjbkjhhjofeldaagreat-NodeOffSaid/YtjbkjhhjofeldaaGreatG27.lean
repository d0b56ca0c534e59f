/-
 Layer 22 (node): (*Node).apply: what one reads of a node; a call that waits is applied, and told. Conditions: as each theorem names them.
-/
import Derived.Test.YtjbkjhhjofeldaaGreatG26
set_option maxRecDepth 100000
set_option maxHeartbeats 2000000
namespace Go.Proofs.YtjbkjhhjofeldaaGreat
set_option linter.unusedSimpArgs false
set_option linter.unusedVariables false
open Go.RowKit
abbrev yH.cells (r:yH):List Value:=[.int .i64 r.code,.int .i64 r.val.kind,.float .f64 r.val.num,.string r.val.text]
theorem twoU {P:Program} {ops:Array Oper} {Q:Exit→Act→World→Prop} {md:Region.Mode} {S:World→Prop} {k:Nat} {fuel:Nat} {listed:Array Bool} {a:Act} {w:World} (i j:Nat) {o u:Oper}
    (h1:∀ K':Act→World→Prop,Shut (∀ a w,S w→(S w→yK P md ops Q S k fuel (listed.setIfInBounds i true) a w)→K' a w)→if Region.wanted o (yielded ops a.tmps)=true then Oper.wp P o a w K' Q else K' (a.put o.dst undef) w)
    (h2:∀ K':Act→World→Prop,Shut (∀ a w,S w→(S w→yK P md ops Q S k fuel (listed.setIfInBounds j true) a w)→K' a w)→if Region.wanted u (yielded ops a.tmps)=true then Oper.wp P u a w K' Q else K' (a.put u.dst undef) w)
    (hr:Region.ready md ops listed=[i,j]:=by kernel_rfl) (ho:ops[i]? = some o:=by rfl) (hu:ops[j]? = some u:=by rfl):yK P md ops Q S k (fuel+1) listed a w:=by
  refine ⟨fun h0=>(by rw[hr] at h0;cases h0),fun m hm=>?_⟩
  rw[hr] at hm
  rcases List.mem_cons.1 hm with rfl|hm
  · exact wpOp_step ho (fun K' hK=>h1 K' (fun a w hS hW=>hK a w ⟨fun _=>hS,hW hS⟩))
  · obtain rfl:m=j:=by simpa using hm
    exact wpOp_step hu (fun K' hK=>h2 K' (fun a w hS hW=>hK a w ⟨fun _=>hS,hW hS⟩))
theorem zbR:Sca Tryz.prog 44:=⟨fun w=>by kernel_rfl,by kernel_rfl⟩
theorem zdO:Sca Tryz.prog 97:=⟨fun w=>by kernel_rfl,by kernel_rfl⟩
theorem zfT:Sca Tryz.prog 4:=⟨fun w=>by kernel_rfl,by kernel_rfl⟩
theorem zcL:Str Tryz.prog 41 2:=⟨⟨_,Tryz.underlying41⟩,by kernel_rfl⟩
theorem yQ:Str Tryz.prog 48 4:=⟨⟨_,Tryz.underlying48⟩,by kernel_rfl⟩
theorem zeH:(Tryz.prog.info? 50).map (fun i=>(i.zero,i.size,i.bytes))=some (some (.agg #[.int .i64 0,.int .i64 0,.int .i64 0,.string ⟨#[]⟩,.int .i64 0,.float .f64 0,.string ⟨#[]⟩,.int .i64 0,.float .f64 0,.string ⟨#[]⟩,.int .i64 0,.int .i64 0,.float .f64 0,.string ⟨#[]⟩,.int .i64 0]),15,152):=by kernel_rfl
theorem zj1:(Tryz.prog.info? 102).map (fun i=>(i.zero,i.size,i.bytes))=some (some (.agg #[.int .i64 0,.int .i64 0,.int .i64 0,.int .i64 0,.int .i64 0,.int .i64 0,.string ⟨#[]⟩,.int .i64 0,.float .f64 0,.string ⟨#[]⟩,.int .i64 0,.float .f64 0,.string ⟨#[]⟩,.int .i64 0,.int .i64 0,.int .i64 0,.int .i64 0]),17,160):=by kernel_rfl
theorem ziR (x:yU):∀ v∈x.cells,v.oneCell'=true:=by
 intro v hx
 simp only[yU.cells,List.mem_cons,List.not_mem_nil,or_false] at hx
 rcases hx with rfl|rfl|rfl|rfl|rfl|rfl|rfl|rfl|rfl|rfl|rfl|rfl|rfl|rfl|rfl <;> rfl
theorem zmA (x:qD):∀ v∈x.cells,v.oneCell'=true:=by
 intro v hx
 simp only[qD.cells,List.mem_cons,List.not_mem_nil,or_false] at hx
 rcases hx with rfl|rfl|rfl|rfl|rfl|rfl|rfl|rfl|rfl|rfl|rfl|rfl|rfl|rfl|rfl|rfl|rfl <;> rfl
section
variable {W:World} {n:Nat} {V:NV} {N:yB} {t:TypeId}
theorem zcM (h:W.heap[n]? = some (.cells (yE false V N).toArray t (0,0))):(Instr.loadAt 65 (.pointer (some ⟨n,3,none⟩))).run Tryz.prog W=.ok (.agg (N.r.cells V.sv V.lv V.rv).toArray) W:=
  xH (o:=3) yA h rfl (fun j u hu=>by
    rw[List.getElem?_append_right (by simp),show 3+j-_=j from by simp,List.getElem?_append_left (List.getElem?_eq_some_iff.1 hu).1];exact hu)
theorem zmB (h:W.heap[n]? = some (.cells (yE false V N).toArray t (0,0))):(Instr.loadAt 61 (.pointer (some ⟨n,4,none⟩))).run Tryz.prog W=.ok (.agg (N.r.hard.cells V.sv V.lv).toArray) W:=
  xH (o:=4) (cs:=N.r.hard.cells V.sv V.lv) yF h rfl (fun j u hu=>by rcases j with _|_|_|_|_|_|_|_|_|_|j <;> first|exact hu|cases hu)
theorem zeI (h:W.heap[n]? = some (.cells (yE false V N).toArray t (0,0))):(Instr.loadAt 41 (.pointer (some ⟨n,43,none⟩))).run Tryz.prog W=.ok (.agg #[V.pv,V.xv]) W:=
  xH (o:=43) (cs:=[V.pv,V.xv]) zcL h rfl (fun j u hu=>by rcases j with _|_|j <;> first|exact hu|cases hu)
end
def zp1 (w:World) (m:jK) (r:yH) (e:Ending) (w':World):Prop:=∃ pv xv,e=.returned (.tuple #[.agg #[pv,xv],.agg #[.int .i64 r.code,.int .i64 r.val.kind,.float .f64 r.val.num,.string r.val.text]])∧zg7 w w' pv m.pairs∧zj0 w w' xv m.sess∧Ext w w'
def SDo (m:jK) (c:zW) (M:jK) (r:yH):Prop:=∀ (W:World) (T U:Nat→Prop) (pv xv:Value),Prs W U pv m.pairs→Ses W T xv m.sess→Calls Tryz.prog 173 #[.agg #[pv,xv],.agg #[.int .i64 c.client,.int .i64 c.seq,.int .i64 c.cmd.kind,.string c.cmd.key,.int .i64 c.cmd.old.kind,.float .f64 c.cmd.old.num,.string c.cmd.old.text,.int .i64 c.cmd.val.kind,.float .f64 c.cmd.val.num,.string c.cmd.val.text]] W (zp1 W M r)
theorem jZ {w:World} {a b:Nat} {cs ct:Array Value} {t u:TypeId} {q r:Nat×Nat} (ha:w.heap[a]? = some (.cells cs t q)) (hb:w.heap[b]? = some (.cells ct u r)) (ht:t≠u):a≠b:=fun e=>by
  rw[e,hb] at ha
  injection ha with ha
  injection ha with _ ha
  exact ht ha.symm
theorem yD.far {w0 w w':World} {n:Nat} {V:NV} {N:yB} {b:Nat} {cs:Array Value} {t:TypeId} {q:Nat×Nat} (h:yD w0 w n V N) (hb:w.heap[b]? = some (.cells cs t q)) (hM:Mod (fun k=>k=b) w w') (h1:5≠t∧100≠t∧138≠t∧122≠t∧125≠t∧181≠t∧198≠t∧140≠t) (h2:112≠t) (h3:50≠t) (h4:102≠t):yD w0 w' n V N:=
  ⟨h.p.odd hM (fun k hk=>⟨cs,t,q,hk▸hb,h1⟩),zk2 h.box hM (fun k hk=>⟨cs,t,q,hk▸hb,h2⟩),⟨qE h.tt.1 hM (fun k hk=>⟨cs,t,q,hk▸hb,h3⟩),h.tt.2⟩,⟨qE h.dd.1 hM (fun k hk=>⟨cs,t,q,hk▸hb,h4⟩),h.dd.2⟩⟩
def ApOut (w0 w:World) (n:Nat) (V:NV) (N':yB) (e:Ending) (w':World):Prop:=
  e=.returned (.tuple #[])∧∃ pv xv tv dv,yD w0 w' n { V with pv:=pv,xv:=xv,wv:=.slice none 0 0,tv:=tv,dv:=dv } N'∧Mod (fun k=>k=n∨V.tv.ownBlock=some k∨V.dv.ownBlock=some k) w w'∧(∀ k,tv.ownBlock=some k→V.tv.ownBlock=some k∨w.heap.size≤k)∧(∀ k,dv.ownBlock=some k→V.dv.ownBlock=some k∨w.heap.size≤k)
theorem n_apply1 (w0 w:World) (n:Nat) (V:NV) (N:yB) (c:zW) (tm i:Int) (k:Nat) (M:jK) (rp:yH) (h0:w0.heap.size≤w.heap.size) (hN:yD w0 w n V N) (hco:c.ok) (hxo:(zT tm c).ok) (hlo:zdL N.r.hard) (hw:N.waits=[⟨c,i⟩]) (hi:N.applied+1=i) (hi1:0≤N.applied∧i≤1099511627776) (hcm:N.r.commit=i) (hk:i=N.r.hard.base+1+k) (hx:N.r.hard.log[k]? = some (zT tm c)) (hdo:SDo N.mach c M rp) (hlt:N.told.length≤100000∧N.done.length≤100000):
  Calls Tryz.prog 96 #[.pointer (some ⟨n,0,none⟩)] w (ApOut w0 w n V { N with mach:=M,applied:=i,waits:=[],told:=N.told++[⟨c,rp,i⟩],done:=N.done++[⟨i,(zT tm c)⟩] }):=by
 obtain ⟨As,cs,Al,cl,e1,e2⟩:=hN.p.rh.hard.forms
 have hen:∀ W,Ext w W→Calls Tryz.prog 172 #[.agg (N.r.hard.cells V.sv V.lv).toArray,.int .i64 i] W fun e w'=>e=.returned (.tuple #[.agg (zT tm c).cells.toArray,.bool true])∧Ext W w':=fun W hE=>ziJ W _ N.r.hard V.sv V.lv i (zT tm c) (hN.ext hE).p.rh.hard.mem hlo.few hlo.base k hk hx
 obtain ⟨x,hX⟩:∃ x,(zT tm c)=x:=⟨_,rfl⟩
 rw[hX] at hen ⊢
 have Hx:=hJ hX
 have Hkx:=hJ (show x.kind=1∧x.call=c∧x.ok∧True from ⟨hX▸rfl,hX▸rfl,hX▸hxo,trivial⟩)
 clear hX
 obtain ⟨ji,hji,hjz0,hjz1,hjz2⟩:=info_parts zj1
 obtain ⟨ti,hti,htz0,htz1,htz2⟩:=info_parts zeH
 have hdv:∃ A c,V.dv=.slice A N.done.length c:=zC hN.dd.1
 obtain ⟨Ad,cd,hdv⟩:=hdv
 have htv:∃ A c,V.tv=.slice A N.told.length c:=zC hN.tt.1
 obtain ⟨At,ct,htv⟩:=htv
 have hwv:∃ A c,V.wv=.slice A N.waits.length c:=zC hN.p.ww.1
 obtain ⟨Aw,cw,hwv⟩:=hwv
 rw[hw] at hwv
 obtain ⟨Hdv,Htv⟩:=hJ2 hdv htv
 have Hwv:=hJ (show V.wv=.slice Aw 1 cw from hwv)
 clear hdv htv hwv
 obtain ⟨Hen,HN,H0,Hw,Hi,Hcm,Hdo,Hlt⟩:=hJ8 hen hN h0 hw hi hcm hdo hlt
 have Hi1:=hJ hi1
 have d1:i+1≤9223372036854775807:=by omega
 have d2:¬ i+1≤i:=by omega
 have d3:0≤i:=by omega
 have hai:Value.int .i64 N.applied=.int .i64 (i-1):=by rw[←hi];simp
 have Hai:=hJ hai
 clear hen hN h0 hw hi hcm hdo hlt hi1 hco hlo hk hx e1 e2 hai hxo
 go_enter Tryz.func96,Tryz.ntmps96
 go_wp2_with (refine zK ?_;refine lD 3 n 45 (zL zQ HN.out.box (show some (Value.int .i64 N.applied)=some (.int .i64 (i-1)) by rw[Hai.out])) ?_)
 go_loopw [2] (fun iv wr=>(iv=.int .i64 i∧wr=w)∨(iv=.int .i64 (i+1)∧∃ pv xv tv dv,yD w0 wr n { V with pv:=pv,xv:=xv,wv:=.slice none 0 0,tv:=tv,dv:=dv } { N with mach:=M,waits:=[],told:=N.told++[⟨c,rp,i⟩],done:=N.done++[⟨i,x⟩] }∧Mod (fun k=>k=n∨V.tv.ownBlock=some k∨V.dv.ownBlock=some k) w wr∧(∀ k,tv.ownBlock=some k→V.tv.ownBlock=some k∨w.heap.size≤k)∧(∀ k,dv.ownBlock=some k→V.dv.ownBlock=some k∨w.heap.size≤k))) (fun iv _=>(i+1-intOf iv).toNat)
 case atStart=>exact .inl ⟨rfl,rfl⟩
 rcases hrel with ⟨rfl,rfl⟩|⟨rfl,pv,xv,tv,dv,hNe,hMe,hge,hde⟩
 · go_upto_region 3 with (first
   | (refine zK ?_;refine lD 3 n 14 (zL zQ HN.out.box (show some (Value.int .i64 N.r.commit)=some (.int .i64 i) by rw[Hcm.out])) ?_)
   | (refine xR (by kernel_rfl) 4 _ rfl (.pointer (some ⟨n,1,none⟩)) _ rfl (zL zfT HN.out.box rfl) ?_))
   go_upto_region 5 with (first
   | (refine zK ?_;refine lD 61 n 4 (zmB HN.out.box) ?_)
   | (go_at_call 172;refine (Hen.out _ (Mod.refl _ _)).mono ?_;rintro e w3 ⟨rfl,hE3⟩)
   | (refine zF ?_;refine zb8 rfl 100 _ _ rfl 16 w3.heap.size 0 (.agg x.cells.toArray) x.cells rfl rfl rfl yR.2 _ zO.zero.cells x.cells (zI w3 _) (by simp) (by simp) (zpM x) rfl ?_;intro W4 hbW4 hmW4 hsW4))
   obtain ⟨e3,he3⟩:∃ q,w3.heap.size=q:=⟨_,rfl⟩
   obtain ⟨W5,hW5⟩:∃ W,W4.alloc (.cells [Value.int .i64 0,.int .i64 0,.float .f64 0,.string ⟨#[]⟩].toArray 48)=W:=⟨_,rfl⟩
   have hE4:Ext w3 W4:=Mod.toExt (((Mod.refl (zD w3.heap.size) w3).alloc _).trans hmW4 (fun k _ e=>by unfold zD;omega))
   have hE45:Ext W4 W5:=hW5▸(Mod.refl _ W4).alloc _
   have hq5:W4.heap.size=e3+1:=by rw[hsW4,←he3];exact Array.size_push _
   have hq:W5.heap[(e3+1)]? = some (.cells [Value.int .i64 0,.int .i64 0,.float .f64 0,.string ⟨#[]⟩].toArray 48 (0,0)):=hq5▸hW5▸zI _ _
   have he5:W5.heap[e3]? = some (.cells x.cells.toArray 100 (0,0)):=he3▸hE45.blk hbW4 id
   rw[hW5]
   first|rw[he3]|skip
   have HE5:=hJ (hE3.ext (hE4.ext hE45))
   have HN5:=hJ (HN.out.ext (hE3.ext (hE4.ext hE45)))
   obtain ⟨He5,Hq5⟩:=hJ2 he5 hq
   have Hqw:=hJ (show wr.heap.size≤(e3+1) from hq5▸Nat.le_trans hE3.size hE4.size)
   clear hbW4 hmW4 hsW4 hW5 hE4 hE45 hE3 hq he5 he3 hq5
   go_upto_region 6 with (refine zK ?_;refine lD 3 e3 1 (zL zQ He5.out (show some (Value.int .i64 x.kind)=some (.int .i64 1) by rw[Hkx.out.1])) ?_)
   obtain ⟨W5d,hW5d⟩:∃ W,W5.drew=W:=⟨_,rfl⟩
   have hE5d:Ext W5 W5d:=hW5d▸(Mod.refl _ W5).drew
   have HN5d:=hJ (HN5.out.ext hE5d)
   have He5d:=hJ (hE5d.blk He5.out id)
   have Hq5d:=hJ (hE5d.blk Hq5.out id)
   have HE5d:=hJ (HE5.out.ext hE5d)
   clear hE5d
   have hdo':∀ W,Ext W5d W→Calls Tryz.prog 173 #[.agg #[V.pv,V.xv],.agg #[.int .i64 c.client,.int .i64 c.seq,.int .i64 c.cmd.kind,.string c.cmd.key,.int .i64 c.cmd.old.kind,.float .f64 c.cmd.old.num,.string c.cmd.old.text,.int .i64 c.cmd.val.kind,.float .f64 c.cmd.val.num,.string c.cmd.val.text]] W (zp1 W M rp):=fun W hE=>Hdo.out W _ _ _ _ (HN5d.out.ext hE).p.pp.prs (HN5d.out.ext hE).p.xx.ses
   have Hdo':=hJ hdo'
   clear hdo'
   refine yZ (fun W=>Ext W5d W) 13 (hW5d▸(Mod.refl _ _)) (fun hS=>?_)
   rw[hW5d] at hS ⊢
   clear hW5d
   iterate 4
    (first|refine tP 0 44 ?_ hS (fun W'=>?_) ?_|refine tP 1 45 ?_ hS (fun W'=>?_) ?_|refine tP 2 46 ?_ hS (fun W'=>?_) ?_|refine tP 3 47 ?_ hS (fun W'=>?_) ?_);rotate_left;· go_simp;try rfl
    try simp only[pL]
   refine tU 4 48 (.agg #[V.pv,V.xv]) hS n 43 (fun W' hW'=>zeI (hW'.blk HN5d.out.box id)) ?_
   try simp only[pL]
   refine tP 5 49 ?_ hS (fun W'=>?_) ?_;rotate_left;· go_simp;try rfl
   try simp only[pL]
   refine tU 6 50 (.agg c.cells.toArray) hS e3 2 (fun W' hW'=>by have h0:=xH (P:=Tryz.prog) (o:=2) (cs:=x.call.cells) zV (hW'.blk He5d.out id) rfl (fun j u hu=>by rcases j with _|_|_|_|_|_|_|_|_|_|j <;> first|exact hu|cases hu);rw[show x.call=c from Hkx.out.2.1] at h0;exact h0) ?_
   try simp only[pL]
   refine jP 7 (fun K hK=>?_)
   go_simp
   go_wp2_with fail
   refine (Hdo'.out _ hS).mono ?_
   rintro e w6 ⟨pv6,xv6,rfl,hP6,hX6,hE6⟩
   obtain ⟨A6,n6,c6,rfl⟩:∃ A n c,pv6=.slice A n c:=⟨_,_,zC hP6.1 |>.choose_spec⟩
   obtain ⟨B6,m6,d6,rfl⟩:∃ A n c,xv6=.slice A n c:=⟨_,_,zC hX6.1 |>.choose_spec⟩
   have hs6:=Nat.le_trans H0.out (HE5d.out.ext hS).size
   have HP6:=hJ (show zg7 w0 w6 (.slice A6 n6 c6) M.pairs from ⟨hP6.1,hP6.2.1,fun g hg=>Nat.le_trans hs6 (hP6.2.2 g hg)⟩)
   have HX6:=hJ (show zj0 w0 w6 (.slice B6 m6 d6) M.sess from ⟨hX6.1,hX6.2.1,fun g hg=>Nat.le_trans hs6 (hX6.2.2 g hg)⟩)
   clear hP6 hX6 hs6
   have hX:=hS.ext hE6
   go_simp
   refine hK.out _ _ hX (fun hS=>?_)
   clear hK K hX
   try simp only[pL]
   iterate 5
    (first|refine tP 8 43 ?_ hS (fun W'=>?_) ?_|refine tP 9 52 ?_ hS (fun W'=>?_) ?_|refine tP 10 53 ?_ hS (fun W'=>?_) ?_|refine tP 11 54 ?_ hS (fun W'=>?_) ?_|refine tP 12 55 ?_ hS (fun W'=>?_) ?_);rotate_left;· go_simp;try rfl
    try simp only[pL]
   refine xN 13 rfl ?_
   simp only[List.drop_succ_cons,List.drop_zero]
   have HN6:=hJ (HN5d.out.ext hS)
   have Hqn6:=hJ HN6.out.box
   have He6:=hJ (hS.blk He5d.out id)
   have Hq6:=hJ (hS.blk Hq5d.out id)
   have HE6:=hJ (HE5d.out.ext hS)
   clear hS hE6
   go_upto_region 7 with (refine zF ?_;first
    | refine stQ rfl 41 _ _ rfl 2 n 43 (.agg #[.slice A6 n6 c6,.slice B6 m6 d6]) [.slice A6 n6 c6,.slice B6 m6 d6] zcL.2 _ _ (yE false { V with pv:=.slice A6 n6 c6,xv:=.slice B6 m6 d6 } { N with mach:=M }) Hqn6.out rfl ?_;intro W7 hbW7 hmW7 hsW7;have Hq7:=hJ (hmW7.blk Hq6.out (fun e=>jZ Hq6.out Hqn6.out (by decide) e))
    | refine stQ rfl 48 _ _ rfl 4 (e3+1) 0 (.agg #[.int .i64 rp.code,.int .i64 rp.val.kind,.float .f64 rp.val.num,.string rp.val.text]) rp.cells yQ.2 _ _ rp.cells Hq7.out rfl ?_;intro W8 hbW8 hmW8 hsW8)
   have hq5n:wr.heap.size≤(e3+1):=by have:=Hqw.out;omega
   have HN7:=hJ (show yD w0 W7 n { V with pv:=.slice A6 n6 c6,xv:=.slice B6 m6 d6 } { N with mach:=M } from HN6.out.turn hmW7 hbW7 (fun hP=>⟨hP.st,hP.dk,hP.gh,hP.rh,⟨zN HP6.out.1 hmW7 (fun g hg=>zG HP6.out.1 hg Hqn6.out (by decide)),HP6.out.2⟩,⟨zN HX6.out.1 hmW7 (fun g hg=>zG HX6.out.1 hg Hqn6.out (by decide)),HX6.out.2⟩,hP.ww,hP.ap,hP.nb⟩) ⟨rfl,rfl⟩ ⟨rfl,rfl⟩)
   have HN8:=hJ (HN7.out.far Hq7.out hmW8 (by decide) (by decide) (by decide) (by decide))
   have HM8:=hJ (show Mod (fun k=>k=n∨V.tv.ownBlock=some k∨V.dv.ownBlock=some k) wr W8 from ((Ext.mod HE6.out _).trans hmW7 (fun k _ e=>.inl e)).trans hmW8 (fun k hk e=>by omega))
   have He8:=hJ (hmW8.blk (hmW7.blk He6.out (fun e=>jZ He6.out Hqn6.out (by decide) e)) (fun e=>jZ He6.out Hq6.out (by decide) e))
   have Hq8:=hJ hbW8
   clear hbW7 hbW8 hmW7 hmW8 hsW7 hsW8 hq5n
   obtain ⟨W8d,hW8d⟩:∃ W,W8.drew=W:=⟨_,rfl⟩
   have hE8d:Ext W8 W8d:=hW8d▸(Mod.refl _ W8).drew
   have HN8d:=hJ (HN8.out.ext hE8d)
   have He8d:=hJ (hE8d.blk He8.out id)
   have Hq8d:=hJ (hE8d.blk Hq8.out id)
   have HM8d:=hJ (HM8.out.ext hE8d)
   clear hE8d
   refine yZ (fun W=>W.heap[n]? = some (.cells (yE false { V with pv:=.slice A6 n6 c6,xv:=.slice B6 m6 d6 } { N with mach:=M }).toArray 112 (0,0))∧W.heap[e3]? = some (.cells x.cells.toArray 100 (0,0))∧W.heap[(e3+1)]? = some (.cells rp.cells.toArray 48 (0,0))) 12 (hW8d▸⟨HN8d.out.box,He8d.out,Hq8d.out⟩) (fun hS=>?_)
   rw[hW8d] at hS ⊢
   clear hW8d
   iterate 4
    (first|refine tP 0 56 ?_ hS (fun W'=>?_) ?_|refine tP 1 57 ?_ hS (fun W'=>?_) ?_|refine tP 2 58 ?_ hS (fun W'=>?_) ?_|refine tP 3 59 ?_ hS (fun W'=>?_) ?_);rotate_left;· go_simp;try rfl
    try simp only[pL]
   refine tU 4 60 (.slice Ad N.done.length cd) hS n 48 (fun W' ⟨hX1,hX2,hX3⟩=>zL zdO hX1 (show some V.dv=_ by rw[Hdv.out])) ?_
   try simp only[pL]
   refine tP 5 61 ?_ hS (fun W'=>?_) ?_;rotate_left;· go_simp;try rfl
   try simp only[pL]
   refine tU 6 62 (.agg x.cells.toArray) hS e3 0 (fun W' ⟨hX1,hX2,hX3⟩=>ld0 yR hX2) ?_
   try simp only[pL]
   refine tP 7 63 ?_ hS (fun W'=>?_) ?_;rotate_left;· go_simp;try rfl
   try simp only[pL]
   refine jP 8 (fun K hK=>?_)
   go_simp
   refine hK.out _ _ (⟨((Mod.refl (fun _=>False) W8d).alloc _).blk hS.1 id,((Mod.refl (fun _=>False) W8d).alloc _).blk hS.2.1 id,((Mod.refl (fun _=>False) W8d).alloc _).blk hS.2.2 id⟩) (fun hS=>?_)
   clear hK K
   try show yK _ _ _ _ _ _ _ _ (Act.put _ (some 64) _) _
   try simp only[pL]
   refine jP 9 (fun K hK=>?_)
   refine zbN _ rfl _ _ 97 rfl 102 ji _ 17 160 Tryz.underlying97 hji hjz0 hjz1 hjz2 rfl (by omega) (.slice Ad N.done.length cd) N.done.length (N.done.flatMap qD.cells) rfl (zN (Hdv.out▸HN8d.out.dd.1) ((Mod.refl (fun _=>False) W8d).alloc _) (fun _ _=>id)) (fun _=>True) _ 1 (qD.cells ⟨i,x⟩) rfl (zeF W8d (qD.cells ⟨i,x⟩) _ 17 rfl) (zmA ⟨i,x⟩) (by simp only[maxLen];have:=Hlt.out;omega) (by have:=Hlt.out;omega) ?_
   intro v9 w9 ho hgr hat
   obtain ⟨A9,c9,rfl⟩:=zC ho
   have hM9:Mod (fun k=>(Value.slice Ad N.done.length cd).ownBlock=some k) W8d w9:=((Mod.refl _ W8d).alloc _).grown hgr (fun k hk=>.inr hk)
   have hdd:=Hdv.out▸HN8d.out.dd.1
   refine hK.out _ _ (⟨hM9.blk HN8d.out.box (fun e=>zG hdd e HN8d.out.box (by decide) rfl),hM9.blk He8d.out (fun e=>zG hdd e He8d.out (by decide) rfl),hM9.blk Hq8d.out (fun e=>zG hdd e Hq8d.out (by decide) rfl)⟩) (fun hS=>?_)
   clear hK K
   try show yK _ _ _ _ _ _ _ _ (Act.put _ (some 65) _) _
   try simp only[pL]
   iterate 2
    (first|refine tP 10 66 ?_ hS (fun W'=>?_) ?_|refine tP 11 67 ?_ hS (fun W'=>?_) ?_);rotate_left;· go_simp;try rfl
    try simp only[pL]
   refine xN 12 rfl ?_
   simp only[List.drop_succ_cons,List.drop_zero]
   have Hqn9:=hJ hS.1
   go_upto_region 8 with (refine zF ?_;refine stQ rfl 97 _ _ rfl 1 n 48 (.slice A9 (N.done.length+1) c9) [.slice A9 (N.done.length+1) c9] zdO.size _ _ (yE false { V with pv:=.slice A6 n6 c6,xv:=.slice B6 m6 d6,dv:=.slice A9 (N.done.length+1) c9 } { N with mach:=M,done:=N.done++[⟨i,x⟩] }) Hqn9.out rfl ?_;intro W10 hbW10 hmW10 hsW10)
   have hN10:yD w0 W10 n { V with pv:=.slice A6 n6 c6,xv:=.slice B6 m6 d6,dv:=.slice A9 (N.done.length+1) c9 } { N with mach:=M,done:=N.done++[⟨i,x⟩] }:=by
    have hP9:zeG w0 w9 n _ _:=HN8d.out.p.odd hM9 (fun k hk=>zgP hdd hk (by decide))
    have ht9:=zN HN8d.out.tt.1 hM9 (fun g hg e=>jT hdd HN8d.out.tt.1 (by decide) e hg)
    have hp:=hP9.odd hmW10 (fun k hk=>⟨_,_,_,hk▸hS.1,by decide,by decide,by decide,by decide,by decide,by decide,by decide,by decide⟩)
    refine ⟨⟨hp.st,hp.dk,hp.gh,hp.rh,hp.pp,hp.xx,hp.ww,hp.ap,hp.nb⟩,hbW10,⟨zN ht9 hmW10 (fun g hg=>zG ht9 hg hS.1 (by decide)),HN8d.out.tt.2⟩,⟨?_,fun g hg=>?_⟩⟩
    · have h9:=zN ho hmW10 (fun g hg=>zG ho hg hS.1 (by decide))
      have hl:(N.done++[(⟨i,x⟩:qD)]).length=N.done.length+1:=by simp
      have hf:(N.done++[(⟨i,x⟩:qD)]).flatMap qD.cells=N.done.flatMap qD.cells++(⟨i,x⟩:qD).cells:=by simp
      show W10.ownsRow 0 102 17 (.slice A9 (N.done.length+1) c9) (N.done++[(⟨i,x⟩:qD)]).length ((N.done++[(⟨i,x⟩:qD)]).flatMap qD.cells)
      rw[hl,hf]
      exact h9
    · rcases hat with e|e <;> rw[e] at hg
      · exact HN8d.out.dd.2 g (Hdv.out▸hg)
      · have h1:=HM8d.out.size
        have h2:=H0.out
        simp at hg;omega
   have HM10:=hJ (show Mod (fun k=>k=n∨V.tv.ownBlock=some k∨V.dv.ownBlock=some k) wr W10 from (HM8d.out.trans hM9 (fun k _ e=>.inr (.inr (by rw[Hdv.out];exact e)))).trans hmW10 (fun k _ e=>.inl e))
   have hgd:∀ k,(Value.slice A9 (N.done.length+1) c9).ownBlock=some k→V.dv.ownBlock=some k∨wr.heap.size≤k:=fun k hk=>by
    rcases hat with e|e <;> rw[e] at hk
    · exact .inl (Hdv.out▸hk)
    · have h1:=HM8d.out.size
      simp at hk;exact .inr (by omega)
   obtain ⟨Hgd,HN10⟩:=hJ2 hgd hN10
   have He10:=hJ (hmW10.blk hS.2.1 (fun e=>jZ hS.2.1 hS.1 (by decide) e))
   have Hq10:=hJ (hmW10.blk hS.2.2 (fun e=>jZ hS.2.2 hS.1 (by decide) e))
   clear hN10 hgd hbW10 hmW10 hsW10 ho hgr hat hM9 hdd hS
   simp only[pL]
   go_cut [6,7,8] (fun s6 s7 s8 wx=>∃ p,s6=.slice none 0 0∧s7=.pointer (some ⟨p,0,none⟩)∧s8=.bool true∧wx.heap[p]? = some (.cells c.cells.toArray 29 (0,0))∧Ext W10 wx)
   case first=>
    obtain ⟨Wd,hWd⟩:∃ W,W10.drew=W:=⟨_,rfl⟩
    have hEd:Ext W10 Wd:=hWd▸(Mod.refl _ W10).drew
    have HNd:=hJ (HN10.out.ext hEd)
    have Hed:=hJ (hEd.blk He10.out id)
    have HEd:=hJ hEd
    have htk:∀ W,Ext Wd W→Calls Tryz.prog 174 #[.slice Aw 1 cw,.int .i64 i,.agg x.cells.toArray] W (GkOut W c true):=fun W hE=>by
     have hwn:=(HNd.out.ext hE).p.ww
     have hsl:Sl W (fun _=>True) 11 (.slice Aw 1 cw) 1 (zdQ.cells ⟨c,i⟩):=by
      have h0:=Sl.of_own (T:=fun _=>True) hwn.1 (fun _ _=>trivial)
      have e1:({ N with mach:=M,done:=N.done++[⟨i,x⟩] }:yB).waits=[⟨c,i⟩]:=Hw.out
      rw[e1] at h0
      rw[←Hwv.out]
      simpa using h0
     have h:=g_take1 Aw cw i tm c W _ hsl
     rw[Hx.out] at h
     exact h
    have Htk:=hJ htk
    clear htk hEd
    refine yZ (fun W=>Ext Wd W) 13 (hWd▸(Mod.refl _ _)) (fun hS=>?_)
    rw[hWd] at hS ⊢
    clear hWd
    iterate 3
     (first|refine tP 0 69 ?_ hS (fun W'=>?_) ?_|refine tP 1 70 ?_ hS (fun W'=>?_) ?_|refine tP 2 71 ?_ hS (fun W'=>?_) ?_);rotate_left;· go_simp;try rfl
     try simp only[pL]
    refine tU 3 72 (.slice Aw 1 cw) hS n 46 (fun W' hW'=>zL zaF (hW'.blk HNd.out.box id) (show some V.wv=_ by rw[Hwv.out])) ?_
    try simp only[pL]
    refine tP 4 73 ?_ hS (fun W'=>?_) ?_;rotate_left;· go_simp;try rfl
    try simp only[pL]
    refine tU 5 74 (.agg x.cells.toArray) hS e3 0 (fun W' hW'=>ld0 yR (hW'.blk Hed.out id)) ?_
    try simp only[pL]
    refine twoU 6 11 (fun K hK=>?_) (fun K hK=>?_)
    · go_simp
      go_wp2_with fail
      refine (Htk.out _ hS).mono ?_
      rintro e w11 ⟨rfl,hE11⟩
      have hX:=hS.ext hE11
      go_simp
      refine hK.out _ _ hX (fun hS=>?_)
      clear hK K hX
      try simp only[pL]
      iterate 4
       (first|refine tP 7 68 ?_ hS (fun W'=>?_) ?_|refine tP 8 76 ?_ hS (fun W'=>?_) ?_|refine tP 9 77 ?_ hS (fun W'=>?_) ?_|refine tP 10 78 ?_ hS (fun W'=>?_) ?_);rotate_left;· go_simp;try rfl
       try simp only[pL]
      refine jP 11 (fun K hK=>?_)
      have hS0:=hS
      go_simp
      refine hK.out _ _ (hS0.alloc _) (fun hS=>?_)
      clear hK K
      try show yK _ _ _ _ _ _ _ _ (Act.put _ (some 7) _) _
      try simp only[pL]
      refine tP 12 6 ?_ hS (fun W'=>?_) ?_;rotate_left;· go_simp;try rfl
      try simp only[pL]
      refine xN 13 rfl ?_
      simp only[List.drop_succ_cons,List.drop_zero]
      go_wp2_with (first|(refine zF ?_;refine stQ rfl 29 _ _ rfl 10 w11.heap.size 0 (.agg c.cells.toArray) c.cells zV.2 _ [Value.int .i64 0,.int .i64 0,.int .i64 0,.string ⟨#[]⟩,.int .i64 0,.float .f64 0,.string ⟨#[]⟩,.int .i64 0,.float .f64 0,.string ⟨#[]⟩] c.cells (zI w11 _) rfl ?_;intro Wn hbWn hmWn hsWn)|(refine zF ?_;refine stQ rfl 29 _ _ rfl 10 Wd.heap.size 0 (.agg c.cells.toArray) c.cells zV.2 _ [Value.int .i64 0,.int .i64 0,.int .i64 0,.string ⟨#[]⟩,.int .i64 0,.float .f64 0,.string ⟨#[]⟩,.int .i64 0,.float .f64 0,.string ⟨#[]⟩] c.cells (hE11.blk (zI Wd _) id) rfl ?_;intro Wn hbWn hmWn hsWn))
      go_meet
      exact ⟨_,rfl,rfl,rfl,hbWn,Mod.toExt ((Ext.mod (HEd.out.ext hS) (zD W10.heap.size)).trans hmWn (fun k _ e=>by have h1:=HEd.out.size;have h2:=hE11.size;unfold zD;omega))⟩
    · have hS0:=hS
      go_simp
      refine hK.out _ _ (hS0.alloc _) (fun hS=>?_)
      clear hK K
      try show yK _ _ _ _ _ _ _ _ (Act.put _ (some 7) _) _
      try simp only[pL]
      refine jP 6 (fun K hK=>?_)
      go_simp
      go_wp2_with fail
      refine (Htk.out _ hS).mono ?_
      rintro e w11 ⟨rfl,hE11⟩
      have hX:=hS.ext hE11
      go_simp
      refine hK.out _ _ hX (fun hS=>?_)
      clear hK K hX
      try simp only[pL]
      iterate 5
       (first|refine tP 7 68 ?_ hS (fun W'=>?_) ?_|refine tP 8 76 ?_ hS (fun W'=>?_) ?_|refine tP 9 77 ?_ hS (fun W'=>?_) ?_|refine tP 10 78 ?_ hS (fun W'=>?_) ?_|refine tP 12 6 ?_ hS (fun W'=>?_) ?_);rotate_left;· go_simp;try rfl
       try simp only[pL]
      refine xN 13 rfl ?_
      simp only[List.drop_succ_cons,List.drop_zero]
      go_wp2_with (first|(refine zF ?_;refine stQ rfl 29 _ _ rfl 10 w11.heap.size 0 (.agg c.cells.toArray) c.cells zV.2 _ [Value.int .i64 0,.int .i64 0,.int .i64 0,.string ⟨#[]⟩,.int .i64 0,.float .f64 0,.string ⟨#[]⟩,.int .i64 0,.float .f64 0,.string ⟨#[]⟩] c.cells (zI w11 _) rfl ?_;intro Wn hbWn hmWn hsWn)|(refine zF ?_;refine stQ rfl 29 _ _ rfl 10 Wd.heap.size 0 (.agg c.cells.toArray) c.cells zV.2 _ [Value.int .i64 0,.int .i64 0,.int .i64 0,.string ⟨#[]⟩,.int .i64 0,.float .f64 0,.string ⟨#[]⟩,.int .i64 0,.float .f64 0,.string ⟨#[]⟩] c.cells (hE11.blk (zI Wd _) id) rfl ?_;intro Wn hbWn hmWn hsWn))
      go_meet
      exact ⟨_,rfl,rfl,rfl,hbWn,Mod.toExt ((Ext.mod (HEd.out.ext hS) (zD W10.heap.size)).trans hmWn (fun k _ e=>by have h1:=HEd.out.size;have h2:=hE11.size;unfold zD;omega))⟩
   obtain ⟨p,rfl,rfl,rfl,hp11,hE11⟩:=hcut
   have HN11:=hJ (HN10.out.ext hE11)
   have Hp11:=hJ hp11
   have Hq11:=hJ (hE11.blk Hq10.out id)
   have HM11:=hJ (HM10.out.ext hE11)
   have Hqn11:=hJ HN11.out.box
   clear hp11 hE11
   go_upto_region 11 with (refine zF ?_;refine stQ rfl 110 _ _ rfl 1 n 46 (.slice none 0 0) [.slice none 0 0] zaF.size _ _ (yE false { V with pv:=.slice A6 n6 c6,xv:=.slice B6 m6 d6,wv:=.slice none 0 0,dv:=.slice A9 (N.done.length+1) c9 } { N with mach:=M,waits:=[],done:=N.done++[⟨i,x⟩] }) Hqn11.out rfl ?_;intro W12 hbW12 hmW12 hsW12)
   have HN12:=hJ (show yD w0 W12 n { V with pv:=.slice A6 n6 c6,xv:=.slice B6 m6 d6,wv:=.slice none 0 0,dv:=.slice A9 (N.done.length+1) c9 } { N with mach:=M,waits:=[],done:=N.done++[⟨i,x⟩] } from HN11.out.turn hmW12 hbW12 (fun hP=>⟨hP.st,hP.dk,hP.gh,hP.rh,hP.pp,hP.xx,⟨World.ownsRow_nil _ _ _ _,by simp[Value.ownBlock]⟩,hP.ap,hP.nb⟩) ⟨rfl,rfl⟩ ⟨rfl,rfl⟩)
   have Hp12:=hJ (hmW12.blk Hp11.out (fun e=>jZ Hp11.out Hqn11.out (by decide) e))
   have Hq12:=hJ (hmW12.blk Hq11.out (fun e=>jZ Hq11.out Hqn11.out (by decide) e))
   have HM12:=hJ (HM11.out.trans hmW12 (fun k _ e=>.inl e))
   clear hbW12 hmW12 hsW12
   obtain ⟨W13,hW13⟩:∃ W,W12.drew=W:=⟨_,rfl⟩
   have hE13:Ext W12 W13:=hW13▸(Mod.refl _ W12).drew
   have HN13:=hJ (HN12.out.ext hE13)
   have Hp13:=hJ (hE13.blk Hp12.out id)
   have Hq13:=hJ (hE13.blk Hq12.out id)
   have HM13:=hJ (HM12.out.ext hE13)
   have Htt:=hJ (show W13.ownsRow 0 50 15 (.slice At N.told.length ct) N.told.length (N.told.flatMap yU.cells) from Htv.out▸HN13.out.tt.1)
   clear hE13
   refine yZ (fun W=>W.heap[n]? = some (.cells (yE false { V with pv:=.slice A6 n6 c6,xv:=.slice B6 m6 d6,wv:=.slice none 0 0,dv:=.slice A9 (N.done.length+1) c9 } { N with mach:=M,waits:=[],done:=N.done++[⟨i,x⟩] }).toArray 112 (0,0))∧W.heap[p]? = some (.cells c.cells.toArray 29 (0,0))∧W.heap[e3+1]? = some (.cells rp.cells.toArray 48 (0,0))) 13 (hW13▸⟨HN13.out.box,Hp13.out,Hq13.out⟩) (fun hS=>?_)
   rw[hW13] at hS ⊢
   clear hW13
   iterate 4
    (first|refine tP 0 84 ?_ hS (fun W'=>?_) ?_|refine tP 1 85 ?_ hS (fun W'=>?_) ?_|refine tP 2 86 ?_ hS (fun W'=>?_) ?_|refine tP 3 87 ?_ hS (fun W'=>?_) ?_);rotate_left;· go_simp;try rfl
    try simp only[pL]
   refine tU 4 88 (.slice At N.told.length ct) hS n 47 (fun W' ⟨hX1,hX2,hX3⟩=>zL zbR hX1 (show some V.tv=_ by rw[Htv.out])) ?_
   try simp only[pL]
   refine tU 5 89 (.agg c.cells.toArray) hS p 0 (fun W' ⟨hX1,hX2,hX3⟩=>ld0 zV hX2) ?_
   try simp only[pL]
   refine tU 6 90 (.agg #[.int .i64 rp.code,.int .i64 rp.val.kind,.float .f64 rp.val.num,.string rp.val.text]) hS (e3+1) 0 (fun W' ⟨hX1,hX2,hX3⟩=>ld0 (cs:=rp.cells) yQ hX3) ?_
   try simp only[pL]
   iterate 2
    (first|refine tP 7 91 ?_ hS (fun W'=>?_) ?_|refine tP 8 92 ?_ hS (fun W'=>?_) ?_);rotate_left;· go_simp;try rfl
    try simp only[pL]
   refine jP 9 (fun K hK=>?_)
   go_simp
   refine hK.out _ _ (⟨((Mod.refl (fun _=>False) W13).alloc _).blk hS.1 id,((Mod.refl (fun _=>False) W13).alloc _).blk hS.2.1 id,((Mod.refl (fun _=>False) W13).alloc _).blk hS.2.2 id⟩) (fun hS=>?_)
   clear hK K
   try show yK _ _ _ _ _ _ _ _ (Act.put _ (some 93) _) _
   try simp only[pL]
   refine jP 10 (fun K hK=>?_)
   refine zbN _ rfl _ _ 44 rfl 50 ti _ 15 152 Tryz.underlying44 hti htz0 htz1 htz2 rfl (by omega) (.slice At N.told.length ct) N.told.length (N.told.flatMap yU.cells) rfl (zN Htt.out ((Mod.refl (fun _=>False) W13).alloc _) (fun _ _=>id)) (fun _=>True) _ 1 (yU.cells (⟨c,rp,i⟩:yU)) rfl (zeF W13 (yU.cells (⟨c,rp,i⟩:yU)) _ 15 rfl) (ziR (⟨c,rp,i⟩:yU)) (by simp only[maxLen];have:=Hlt.out;omega) (by have:=Hlt.out;omega) ?_
   intro v14 w14 ho hgr hat
   obtain ⟨A14,c14,rfl⟩:=zC ho
   have hM14:Mod (fun k=>(Value.slice At N.told.length ct).ownBlock=some k) W13 w14:=((Mod.refl _ W13).alloc _).grown hgr (fun k hk=>.inr hk)
   refine hK.out _ _ (⟨hM14.blk HN13.out.box (fun e=>zG Htt.out e HN13.out.box (by decide) rfl),hM14.blk Hp13.out (fun e=>zG Htt.out e Hp13.out (by decide) rfl),hM14.blk Hq13.out (fun e=>zG Htt.out e Hq13.out (by decide) rfl)⟩) (fun hS=>?_)
   clear hK K
   try show yK _ _ _ _ _ _ _ _ (Act.put _ (some 94) _) _
   try simp only[pL]
   iterate 2
    (first|refine tP 11 95 ?_ hS (fun W'=>?_) ?_|refine tP 12 96 ?_ hS (fun W'=>?_) ?_);rotate_left;· go_simp;try rfl
    try simp only[pL]
   refine xN 13 rfl ?_
   simp only[List.drop_succ_cons,List.drop_zero]
   have Hqn14:=hJ hS.1
   go_wp2_with (refine zF ?_;refine stQ rfl 44 _ _ rfl 1 n 47 (.slice A14 (N.told.length+1) c14) [.slice A14 (N.told.length+1) c14] zbR.size _ _ (yE false { V with pv:=.slice A6 n6 c6,xv:=.slice B6 m6 d6,wv:=.slice none 0 0,tv:=.slice A14 (N.told.length+1) c14,dv:=.slice A9 (N.done.length+1) c9 } { N with mach:=M,waits:=[],told:=N.told++[⟨c,rp,i⟩],done:=N.done++[⟨i,x⟩] }) Hqn14.out rfl ?_;intro W15 hbW15 hmW15 hsW15)
   have hN15:yD w0 W15 n { V with pv:=.slice A6 n6 c6,xv:=.slice B6 m6 d6,wv:=.slice none 0 0,tv:=.slice A14 (N.told.length+1) c14,dv:=.slice A9 (N.done.length+1) c9 } { N with mach:=M,waits:=[],told:=N.told++[⟨c,rp,i⟩],done:=N.done++[⟨i,x⟩] }:=by
    have hP14:zeG w0 w14 n _ _:=HN13.out.p.odd hM14 (fun k hk=>zgP Htt.out hk (by decide))
    have hd14:=zN HN13.out.dd.1 hM14 (fun g hg e=>jT Htt.out HN13.out.dd.1 (by decide) e hg)
    have hp:=hP14.odd hmW15 (fun k hk=>⟨_,_,_,hk▸hS.1,by decide,by decide,by decide,by decide,by decide,by decide,by decide,by decide⟩)
    refine ⟨⟨hp.st,hp.dk,hp.gh,hp.rh,hp.pp,hp.xx,hp.ww,hp.ap,hp.nb⟩,hbW15,⟨?_,fun g hg=>?_⟩,⟨zN hd14 hmW15 (fun g hg=>zG hd14 hg hS.1 (by decide)),HN13.out.dd.2⟩⟩
    · have h9:=zN ho hmW15 (fun g hg=>zG ho hg hS.1 (by decide))
      have hl:(N.told++[(⟨c,rp,i⟩:yU)]).length=N.told.length+1:=by simp
      have hf:(N.told++[(⟨c,rp,i⟩:yU)]).flatMap yU.cells=N.told.flatMap yU.cells++(⟨c,rp,i⟩:yU).cells:=by simp
      show W15.ownsRow 0 50 15 (.slice A14 (N.told.length+1) c14) (N.told++[(⟨c,rp,i⟩:yU)]).length ((N.told++[(⟨c,rp,i⟩:yU)]).flatMap yU.cells)
      rw[hl,hf]
      exact h9
    · rcases hat with e|e <;> rw[e] at hg
      · exact HN13.out.tt.2 g (Htv.out▸hg)
      · have h1:=HM13.out.size
        have h2:=H0.out
        simp at hg;omega
   have hgt:∀ k,(Value.slice A14 (N.told.length+1) c14).ownBlock=some k→V.tv.ownBlock=some k∨wr.heap.size≤k:=fun k hk=>by
    rcases hat with e|e <;> rw[e] at hk
    · exact .inl (Htv.out▸hk)
    · have h1:=HM13.out.size
      simp at hk;exact .inr (by omega)
   exact ⟨.inr ⟨rfl,_,_,_,_,hN15,(HM13.out.trans hM14 (fun k _ e=>.inr (.inl (by rw[Htv.out];exact e)))).trans hmW15 (fun k _ e=>.inl e),hgt,Hgd.out⟩,by simp only[intOf];omega⟩
 · have HNe:=hJ hNe
   obtain ⟨HMe,Hge,Hde⟩:=hJ3 hMe hge hde
   clear hNe hMe hge hde
   have Hqe:=hJ HNe.out.box
   go_wp2_with (first
    | (refine zK ?_;refine lD 3 n 14 (zL zQ Hqe.out (show some (Value.int .i64 N.r.commit)=some (.int .i64 i) by rw[Hcm.out])) ?_)
    | (refine zF ?_;refine stQ rfl 3 _ _ rfl 1 n 45 (.int .i64 i) [.int .i64 i] zQ.size _ _ (yE false { V with pv:=pv,xv:=xv,wv:=.slice none 0 0,tv:=tv,dv:=dv } { N with mach:=M,applied:=i,waits:=[],told:=N.told++[⟨c,rp,i⟩],done:=N.done++[⟨i,x⟩] }) Hqe.out rfl ?_;intro We hbWe hmWe hsWe))
   go_end0
   exact ⟨rfl,pv,xv,tv,dv,HNe.out.turn hmWe hbWe (fun hP=>⟨hP.st,hP.dk,hP.gh,hP.rh,hP.pp,hP.xx,hP.ww,hP.ap,hP.nb⟩) ⟨rfl,rfl⟩ ⟨rfl,rfl⟩,HMe.out.trans hmWe (fun k _ e=>.inl e),Hge.out,Hde.out⟩
theorem n_apply0 (w0 w:World) (n:Nat) (V:NV) (N:yB) (hN:yD w0 w n V N) (hc:N.r.commit=N.applied) (hi:0≤N.applied∧N.applied≤1099511627776):
  Calls Tryz.prog 96 #[.pointer (some ⟨n,0,none⟩)] w fun e w'=>e=.returned (.tuple #[])∧yD w0 w' n V N∧Mod (fun k=>k=n) w w':=by
 obtain ⟨a,ha⟩:∃ a,N.applied=a:=⟨_,rfl⟩
 rw[ha] at hc hi
 obtain ⟨HN,Ha,Hc⟩:=hJ3 hN ha hc
 have d1:¬ a+1≤a:=by omega
 have d2:a+1≤9223372036854775807:=by omega
 have d3:0≤a:=by omega
 clear hN ha hc
 go_enter Tryz.func96,Tryz.ntmps96
 go_wp2_with (refine zK ?_;refine lD 3 n 45 (zL zQ HN.out.box (show some (Value.int .i64 N.applied)=some (.int .i64 a) by rw[Ha.out])) ?_)
 go_loopw [2] (fun iv wr=>iv=.int .i64 (a+1)∧wr=w) (fun _ _=>0)
 case atStart=>exact ⟨rfl,rfl⟩
 obtain ⟨rfl,rfl⟩:=hrel
 have Hq:=hJ HN.out.box
 go_wp2_with (first
  | (refine zK ?_;refine lD 3 n 14 (zL zQ Hq.out (show some (Value.int .i64 N.r.commit)=some (.int .i64 a) by rw[Hc.out])) ?_)
  | (refine zF ?_;refine zb8 rfl 3 _ _ rfl 1 n 45 (.int .i64 a) [.int .i64 a] rfl rfl rfl zQ.size _ _ (yE false V N) Hq.out (by simp) (by simp) (by simp[Value.oneCell']) (by rw[←Ha.out];rfl) ?_;intro We hbWe hmWe hsWe))
 go_end0
 exact ⟨rfl,HN.out.turn hmWe hbWe id ⟨rfl,rfl⟩ ⟨rfl,rfl⟩,hmWe⟩
theorem ziS (w0 w:World) (n:Nat) (V:NV) (N:yB) (hN:yD w0 w n V N) (hb:N.r.hard.base≤N.applied):
  Calls Tryz.prog 65 #[.pointer (some ⟨n,0,none⟩)] w fun e w'=>e=.returned (.tuple #[])∧Ext w w':=by
 have p6:w.cell? ⟨n,6,none⟩=some (.int .i64 N.r.hard.base):=zA hN.box rfl
 have p45:w.cell? ⟨n,45,none⟩=some (.int .i64 N.applied):=zA hN.box rfl
 clear hN
 go_enter Tryz.func65,Tryz.ntmps65
 go_wp2_with fail
 go_still (by kernel_rfl)
 go_wp2
 exact bodyPost_ret (results_none rfl _ _ _) rfl ⟨rfl,(Mod.refl _ w).drew⟩
end Go.Proofs.YtjbkjhhjofeldaaGreat
