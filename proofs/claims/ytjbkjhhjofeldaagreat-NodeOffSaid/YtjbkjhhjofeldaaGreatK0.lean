/-
 A node alone whose power goes: save, caught, step, propose, Call. Conditions: as each theorem names them.
-/
import Derived.Test.YtjbkjhhjofeldaaGreatG48
set_option maxRecDepth 100000
set_option maxHeartbeats 2000000
namespace Go.Proofs.YtjbkjhhjofeldaaGreat
set_option linter.unusedSimpArgs false
set_option linter.unusedVariables false
open Go.RowKit
theorem yD.lower {W w0 w:World} {n:Nat} {V:NV} {N:yB} (h:yD w0 w n V N) (hs:W.heap.size≤w0.heap.size):yD W w n V N:=
  ⟨⟨h.p.st,h.p.dk,⟨⟨h.p.gh.1.1,fun g hg=>Nat.le_trans hs (h.p.gh.1.2 g hg)⟩,jH h.p.gh.2 hs⟩,⟨⟨⟨h.p.rh.hard.1.1,fun g hg=>Nat.le_trans hs (h.p.rh.hard.1.2 g hg)⟩,jH h.p.rh.hard.2 hs⟩,⟨h.p.rh.reads.1,fun g hg=>Nat.le_trans hs (h.p.rh.reads.2 g hg)⟩⟩,zaQ h.p.pp hs,⟨h.p.xx.1,h.p.xx.2.1,fun g hg=>Nat.le_trans hs (h.p.xx.2.2 g hg)⟩,⟨h.p.ww.1,fun g hg=>Nat.le_trans hs (h.p.ww.2 g hg)⟩,fun k hk=>⟨Nat.le_trans hs (h.p.ap k hk).1,(h.p.ap k hk).2⟩,⟨Nat.le_trans hs h.p.nb.1,Nat.le_trans hs h.p.nb.2.1,Nat.le_trans hs h.p.nb.2.2⟩⟩,h.box,⟨h.tt.1,fun g hg=>Nat.le_trans hs (h.tt.2 g hg)⟩,⟨h.dd.1,fun g hg=>Nat.le_trans hs (h.dd.2 g hg)⟩⟩
theorem xF {w w':World} (h:Mod (zD w.heap.size) w w'):Below w.heap.size w w':=h.below (Nat.le_refl _) (fun k hk hs=>by unfold zD at hs;omega)
abbrev jB.cells (c:jB):List Value:=[.int .i64 c.full,.int .i64 c.wit,.int .i64 c.learn,.int .i64 c.learnWit]
theorem Byt.len {w:World} {T:Nat→Prop} {v:Value} {bs:List UInt8} (h:Byt w T v bs):bs.length≤9223372036854775807:=by have:=Sl.le h;unfold maxLen at this;omega
def zU.arm (d:zU) (n:Int) (k:Int):zU:=if d.off then d else { d with trip:=(max n 0).toNat,keep:=k }
theorem zU.arm_ok {d:zU} (h:d.ok) {n k:Int} (hn:n≤9223372036854775807) (hk : -9223372036854775808≤k∧k≤9223372036854775807):(d.arm n k).ok:=by
 unfold zU.arm
 split
 · exact h
 obtain ⟨h1,h2,h3,h4,h5,h6,h7⟩:=h
 exact ⟨h1,h2,h3,h4,by simp only;omega,hk.1,hk.2⟩
theorem d_size (w:World) (d:Nat) (fv:Value) (D:zU) (h:Dsk w d fv D):Calls Tryz.prog 37 #[.pointer (some ⟨d,0,none⟩)] w fun e w'=>e=.returned (.int .i64 (D.file.length:Int))∧w=w':=by
 obtain ⟨A,c,rfl⟩:=zC h.2.1
 obtain ⟨c0,c1,c2,c3,c4,c5⟩:=h.cells
 clear h
 obtain ⟨n,hn⟩:∃ n,D.file.length=n:=⟨_,rfl⟩
 rw[hn] at c1 ⊢
 clear hn
 go_enter Tryz.func37,Tryz.ntmps37
 go_wp2
 go_ret
 exact ⟨rfl,rfl⟩
theorem d_trip (w:World) (d:Nat) (fv:Value) (D:zU) (h:Dsk w d fv D) (n k:Int) (hn:n≤9223372036854775807) (hk : -9223372036854775808≤k∧k≤9223372036854775807):Calls Tryz.prog 26 #[.pointer (some ⟨d,0,none⟩),.int .i64 n,.int .i64 k] w fun e w'=>e=.returned (.tuple #[])∧Dsk w' d fv (D.arm n k)∧Mod (fun k=>k=d) w w':=by
 obtain ⟨c0,c1,c2,c3,c4,c5⟩:=h.cells
 have hok:=zU.arm_ok h.2.2 hn hk
 have f4:w.frozen? ⟨d,4,none⟩=false:=zB 4 h.1
 have f5:w.frozen? ⟨d,5,none⟩=false:=zB 5 h.1
 rcases ho:D.off with _|_
 ·
  rw[ho] at c3
  have ha:D.arm n k={ D with trip:=(max n 0).toNat,keep:=k }:=by unfold zU.arm;rw[ho];rfl
  rw[ha] at hok ⊢
  obtain ⟨t,ht⟩:∃ t:Nat,max n 0=(t:Int):=⟨(max n 0).toNat,by omega⟩
  have hm:Mod (fun k=>k=d) w ((w.setCell ⟨d,4,none⟩ (.int .i64 (t:Int))).setCell ⟨d,5,none⟩ (.int .i64 k)):=zM (zM (Mod.refl _ _) _ _) _ _
  have hR:Dsk ((w.setCell ⟨d,4,none⟩ (.int .i64 (t:Int))).setCell ⟨d,5,none⟩ (.int .i64 k)) d fv { D with trip:=(max n 0).toNat,keep:=k }:=by
   refine ⟨?_,zN h.2.1 hm (fun g h1 h2=>h.apart (h2▸h1)),hok⟩
   have h3:=jA (jA h.1 4 (.int .i64 (t:Int))) 5 (.int .i64 k)
   rw[ht]
   exact h3
  obtain ⟨HR,HM⟩:=hJ2 hR hm
  clear hR hm hok h ha
  rcases Int.lt_or_le n 0 with hn0|hn0
  focus
   obtain rfl:t=0:=by omega
  rotate_left
  focus
   obtain rfl:n=(t:Int):=by omega
  all_goals
   clear ht
   go_enter Tryz.func26,Tryz.ntmps26
   go_wp2
   all_goals first
    | (go_end0;exact ⟨rfl,HR.out,HM.out⟩)
    | (exfalso;omega)
 rw[ho] at c3
 have ha:D.arm n k=D:=by unfold zU.arm;rw[ho];rfl
 rw[ha]
 have H:=hJ h
 clear hok ha h
 go_enter Tryz.func26,Tryz.ntmps26
 go_wp2
 go_end0
 exact ⟨rfl,H.out,Mod.refl _ _⟩
theorem Rep.up {w0 w w1:World} {q:Nat} {sv lv rv:Value} {r:zS} {rds:List yL} (h:Rep w w1 q sv lv rv r rds) (hE:Ext w0 w):Rep w0 w1 q sv lv rv r rds:=⟨h.box,Nat.le_trans hE.size h.new,h.hard.up hE,⟨h.reads.1,fun g hg=>Nat.le_trans hE.size (h.reads.2 g hg)⟩⟩
theorem xQ.forms {w w':World} {sv lv rv:Value} {r:zS} {rds:List yL} (h:xQ w w' sv lv rv r rds):∃ As cs Al cl Ra rc,sv=.slice As r.hard.snap.length cs∧lv=.slice Al r.hard.log.length cl∧rv=.slice Ra rds.length rc:=by
  obtain ⟨As,cs,Al,cl,h1,h2⟩:=h.hard.forms
  obtain ⟨Ra,rc,h3⟩:=zC h.reads.1
  exact ⟨As,cs,Al,cl,Ra,rc,h1,h2,h3⟩
theorem On.count1 {D:zU} (h:On D 1):D.count.2=true∧D.count.1.off=false:=by
  unfold zU.count
  rw[h.trip,if_neg (by omega)]
  exact ⟨rfl,h.off⟩
theorem anew_trip {D:zU} {h:zX} (hD:On D 1) (hl:h.enc.length≤16000):∃ D',zc7 D h=(D',4):=by
  have hf:=zpY hl
  obtain ⟨F,hF⟩:∃ F,yP (1 :: h.enc)=F:=⟨_,rfl⟩
  unfold zc7 zU.replace
  rw[hF] at hf ⊢
  rw[if_neg (by omega),if_neg (by rw[hD.off];simp),if_neg (by rw[hD.room];omega),if_pos hD.count1.1]
  exact ⟨_,rfl⟩
theorem write_trip {D:zU} {g h:zX} (hD:On D 1) (hl:h.enc.length≤16000) (hne:zm5 g h=true→(zfJ g h).length≠0):∃ D',zbJ D g h=(D',4):=by
  unfold zbJ
  split
  · exact anew_trip hD hl
  rename_i hn
  rw[if_neg (hne (by simpa using hn))]
  obtain ⟨M,hM⟩:∃ M,zfJ g h=M:=⟨_,rfl⟩
  rw[hM]
  by_cases hr:D.room-D.file.length<(M.length:Int)
  · have e:D.append M=(D,5):=by unfold zU.append;rw[if_neg (by rw[hD.off];simp),if_pos hr]
    rw[e,if_neg (by simp),if_pos rfl]
    exact anew_trip hD hl
  · have hD2:On { D with file:=D.file++M } 1:=⟨hD.off,hD.trip,hD.room⟩
    have e:∃ D',D.append M=(D',4):=by
      unfold zU.append
      rw[if_neg (by rw[hD.off];simp),if_neg hr]
      simp only
      rw[if_pos hD2.count1.1]
      exact ⟨_,rfl⟩
    obtain ⟨D',e⟩:=e
    rw[e,if_neg (by simp),if_neg (by simp)]
    exact ⟨D',rfl⟩
theorem save_trip {D:zU} {g h:zX} (hD:On D 1) (hr:Right h) (ht:g.term≤h.term) (hb:g.base≤h.base) (hl:h.enc.length≤16000) (hne:zm5 g h=true→(zfJ g h).length≠0):∃ D',zb6 D g h=(D',g,4):=by
  obtain ⟨D',e⟩:=write_trip hD hl hne
  unfold zb6
  rw[if_neg (by rw[hD.off];simp),if_neg (by rintro (h1|h1|h1);rw[(jM h).2 hr] at h1;cases h1;omega;omega),e]
  exact ⟨D',rfl⟩
def thrownO:Ending:=.panicked [{ v:=.iface 238 (.agg #[]),recovered:=false }]
def SvOff (w0 w:World) (n:Nat) (V:NV) (N:yB) (D':zU) (e:Ending) (w':World):Prop:=
  e=thrownO∧∃ fv,Dsk w' V.d fv D'∧w'.heap[n]? = some (.cells (yE false V N).toArray 112 (0,0))∧Mod (fun k=>k=V.d∨V.fv.ownBlock=some k∨k=V.s) w w'∧∀ k,fv.ownBlock=some k→V.fv.ownBlock=some k∨w.heap.size≤k
theorem n_saveOff (w0 w:World) (n:Nat) (V:NV) (N:yB) (h:zX) (D':zU) (sv lv:Value) (U:Nat→Prop) (hE0:w0.heap.size≤w.heap.size) (hN:yD w0 w n V N) (hv:xP w U sv lv h) (hU:∀ k,U k→k≠V.d∧V.fv.ownBlock≠some k) (hl:h.log.length≤12700) (hgl:N.g.log.length≤1000000) (hs:h.snap.length≤1000000) (hR:zb6 N.dk N.g h=(D',N.g,4)):
  Calls Tryz.prog 94 #[.pointer (some ⟨n,0,none⟩),.agg (h.cells sv lv).toArray] w (SvOff w0 w n V N D'):=by
 obtain ⟨b,hb⟩:∃ b,w.heap.size=b:=⟨_,rfl⟩
 obtain ⟨As,cs,Al,cl,rfl,rfl⟩:=hv.forms
 obtain ⟨Bs,bs,Bl,bl,e1,e2⟩:=hN.p.gh.forms
 have hsa:∀ W,Ext w W→Calls Tryz.prog 170 #[.pointer (some ⟨V.s,0,none⟩),.agg (h.cells (.slice As h.snap.length cs) (.slice Al h.log.length cl)).toArray] W (zjX W V.s V.d V.fv V.gs V.gl (D',N.g,4)):=fun W hE=>by
  have hNe:=hN.ext hE
  have h0:=st_save W _ U V.s V.d N.g h Bs _ bs Bl _ bl As _ cs Al _ cl V.fv N.dk (by rw[←e1,←e2];exact hNe.p.st) hNe.p.dk (by rw[←e1,←e2];exact hNe.p.gh.mem) rfl rfl (hv.ext hE) rfl rfl hU hl hgl hs
  rw[hR,←e1,←e2] at h0
  exact h0
 obtain ⟨sn,hsn⟩:∃ n,h.snap.length=n:=⟨_,rfl⟩
 obtain ⟨ln,hln⟩:∃ n,h.log.length=n:=⟨_,rfl⟩
 rw[hsn,hln] at hsa ⊢
 obtain ⟨Hsa,HN,HE0⟩:=hJ3 hsa hN hE0
 clear hsa hN hv hU hl hgl hs hR e1 e2 hsn hln hE0
 go_enter Tryz.func94,Tryz.ntmps94
 go_upto_region 1 with fail
 obtain ⟨W1,hW1⟩:∃ W1,w.alloc (.cells (h.cells (.slice As sn cs) (.slice Al ln cl)).toArray 61)=W1:=⟨_,rfl⟩
 have hE1:Ext w W1:=hW1▸((Mod.refl _ w).alloc _)
 have hb1:W1.heap[b]? = some (.cells (h.cells (.slice As sn cs) (.slice Al ln cl)).toArray 61 (0,0)):=hb▸hW1▸zI _ _
 rw[hW1]
 clear hW1
 have p0:W1.cell? ⟨n,0,none⟩=some (.pointer (some ⟨V.s,0,none⟩)):=zA (HN.out.ext hE1).box rfl
 have y0:W1.cell? ⟨b,0,none⟩=some _:=zA hb1 rfl
 have y1:W1.cell? ⟨b,1,none⟩=some _:=zA hb1 rfl
 have y2:W1.cell? ⟨b,2,none⟩=some _:=zA hb1 rfl
 have y3:W1.cell? ⟨b,3,none⟩=some _:=zA hb1 rfl
 have y4:W1.cell? ⟨b,4,none⟩=some _:=zA hb1 rfl
 have y5:W1.cell? ⟨b,5,none⟩=some _:=zA hb1 rfl
 have y6:W1.cell? ⟨b,6,none⟩=some _:=zA hb1 rfl
 have y7:W1.cell? ⟨b,7,none⟩=some _:=zA hb1 rfl
 have y8:W1.cell? ⟨b,8,none⟩=some _:=zA hb1 rfl
 have y9:W1.cell? ⟨b,9,none⟩=some _:=zA hb1 rfl
 have HE1:=hJ hE1
 clear hE1 hb1
 go_still_tail 5,(by kernel_rfl)
 go_wp2_with (go_at_call 170;refine (Hsa.out _ (HE1.out.ext ((Mod.refl (fun _=>False) W1).drew))).mono ?_;rintro e w3 ⟨rfl,fv,gs,gl,hD,hS,hM,hf,hg⟩)
 have hE2:Ext w W1.drew:=HE1.out.ext ((Mod.refl (fun _=>False) W1).drew)
 have hP:=(HN.out.ext hE2).p
 have hM2:Mod (fun k=>k=V.d∨V.fv.ownBlock=some k∨k=V.s) w w3:=(Ext.mod hE2 _).trans hM (fun k _ h=>h)
 have hN2:=HN.out.ext hE2
 refine ⟨rfl,rfl,fv,hD,hM.blk hN2.box (fun hs=>by
   rcases hs with e|e|e
   · have:=hN2.box;rw[e,hP.dk.1] at this;injection this with this;injection this with _ this;exact absurd this (by decide)
   · exact zG hP.dk.2.1 e hN2.box (by decide) rfl
   · have:=hN2.box;rw[e,hP.st] at this;injection this with this;injection this with _ this;exact absurd this (by decide)),hM2,fun k hk=>(hf k hk).elim .inl (fun e=>.inr (Nat.le_trans hE2.size e))⟩
theorem ta_offN (w:World):(Instr.typeAssert (.iface 238 (.agg #[])) 20 238 true).run Tryz.prog w=.ok (.tuple #[.agg #[],.bool true]) w:=by kernel_rfl
attribute [local go_sem] ta_offN
theorem n_caught1 (n b:Nat) (V:NV) (N:yB) (x y:Value) (w:World) (hn:w.heap[n]? = some (.cells (yE false V N).toArray 112 (0,0))) (hx:w.heap[b]? = some (.cells [x].toArray 71 (0,0))) (hy:w.heap[b+1]? = some (.cells [y].toArray 35 (0,0))):
    CallsD Tryz.prog 93 #[.pointer (some ⟨n,0,none⟩),.pointer (some ⟨b,0,none⟩),.pointer (some ⟨b+1,0,none⟩)] (.panicking [{ v:=.iface 238 (.agg #[]),recovered:=false }]) w fun e u' w'=>e=.returned (.tuple #[])∧u'=(.panicking [{ v:=.iface 238 (.agg #[]),recovered:=true }])∧w'.heap[n]? = some (.cells (yE true V N).toArray 112 (0,0))∧w'.heap[b]? = some (.cells [Value.slice none 0 0].toArray 71 (0,0))∧w'.heap[b+1]? = some (.cells [Value.int .i64 4].toArray 35 (0,0))∧Mod (fun k=>k=n∨k=b∨k=b+1) w w':=by
 have n1:n≠b:=jZ hn hx (by decide)
 have n2:n≠b+1:=jZ hn hy (by decide)
 obtain ⟨Hn,Hx,Hy⟩:=hJ3 hn hx hy
 clear hn hx hy
 refine callsD_of_wpS Tryz.func93 rfl fun c₀ cs hu=>?_
 apply wpS_seq
 apply wpS_region
 simp[wpOpsS,go_sem,recoverD,hu,Tryz.ntmps93,Exit.thenS]
 refine zp3 #[.pointer (some ⟨n,0,none⟩),.pointer (some ⟨b,0,none⟩),.pointer (some ⟨b+1,0,none⟩),undef,undef,undef,.pointer (some ⟨w.heap.size,0,none⟩),.bool true,.tuple #[.agg #[],.bool true],.iface 238 (.agg #[]),.tuple #[.agg #[],.bool true],.agg #[],.bool true,undef,undef,undef,undef,undef,undef,undef,undef] ?_ ?_
 · exact Array.ext' (by simp[Array.toList_replicate,List.replicate])
 refine wpS_of_wp ?_
 have hE1:∀ o,Ext w (w.alloc o):=fun o=>(Mod.refl _ w).alloc o
 go_upto_region 3 with (refine zF ?_;refine stQ rfl 4 _ _ rfl 1 n 2 (.bool true) [.bool true] zfT.size _ _ (yE true V N) ((hE1 _).blk Hn.out id) rfl ?_;intro W2 hbW2 hmW2 hsW2)
 have Hx2:=hJ (hmW2.blk ((hE1 _).blk Hx.out id) (fun e=>n1 e.symm))
 have Hy2:=hJ (hmW2.blk ((hE1 _).blk Hy.out id) (fun e=>n2 e.symm))
 have HM2:=hJ (show Mod (fun k=>k=n∨k=b∨k=b+1) w W2 from (Ext.mod (hE1 _) _).trans hmW2 (fun k _ e=>.inl e))
 have Hn2:=hJ hbW2
 clear hbW2 hmW2 hsW2 hE1
 go_wp2_with (refine zF ?_;first|(refine stQ rfl 71 _ _ rfl 1 b 0 (.slice none 0 0) [.slice none 0 0] zdM.size _ _ [.slice none 0 0] Hx2.out rfl ?_;intro W3 hbW3 hmW3 hsW3)|(refine stQ rfl 35 _ _ rfl 1 (b+1) 0 (.int .i64 4) [.int .i64 4] zcA.size _ _ [.int .i64 4] (hmW3.blk Hy2.out (fun e=>by omega)) rfl ?_;intro W4 hbW4 hmW4 hsW4))
 have hF:=And.intro (hmW4.blk (hmW3.blk Hn2.out n1) n2) (And.intro (hmW4.blk hbW3 (fun e=>by omega)) (And.intro hbW4 ((HM2.out.trans hmW3 (fun k _ e=>.inr (.inl e))).trans hmW4 (fun k _ e=>.inr (.inr e)))))
 have HF:=hJ hF
 clear hF hbW3 hmW3 hsW3 hbW4 hmW4 hsW4
 cases c₀
 simp only at hu
 subst hu
 simp[bodyPostS,results,Tryz.results93]
 exact HF.out
def Downs (w w':World) (n:Nat) (V:NV) (SC:Nat→Prop) (D':zU):Prop:=∃ (N:yB) (V1:NV) (fv:Value),w'.heap[n]? = some (.cells (yE true V1 N).toArray 112 (0,0))∧Dsk w' V.d fv D'∧(∀ k,fv.ownBlock=some k→V.fv.ownBlock=some k∨w.heap.size≤k)∧Mod (fun k=>NS n V k∨SC k) w w'
theorem n_stepOff (w0 w:World) (n:Nat) (V:NV) (N:yB) (fc fa:FuncId) (cc ca:Array Value) (SC:Nat→Prop) (EC:World→Prop) (r':zS) (rds':List yL) (D':zU) (h0:w0.heap.size≤w.heap.size) (hN:yD w0 w n V N) (hwn:N.waits=[]→V.wv=.slice none 0 0)
  (hcc:∀ args W,(callFunc fc args).run Tryz.prog W=.ok (.enter fc args) W) (hca:∀ args W,(callFunc fa args).run Tryz.prog W=.ok (.enter fa args) W)
  (hC:∀ W,Ext w W→Calls Tryz.prog fc (#[.agg (N.r.cells V.sv V.lv V.rv).toArray]++cc) W (ClOut W SC EC r' rds')) (hSC:∀ W W',Ext w W→Mod SC W W'→yD w0 W' n V N) (hSCb:∀ k,SC k→k<w.heap.size) (hEC:∀ W W',EC W→Mod (fun k=>NS n V k∨w.heap.size≤k) W W'→EC W')
  (hs:zb6 N.dk N.g r'.hard=(D',N.g,4)) (hl:r'.hard.log.length≤12700) (hgl:N.g.log.length≤1000000) (hsn:r'.hard.snap.length≤1000000):
  Calls Tryz.prog 42 #[.pointer (some ⟨n,0,none⟩),.func (Fn.func fc) #[] cc,.func (Fn.func fa) #[] ca] w fun e w'=>e=.returned (.tuple #[.slice none 0 0,.int .i64 4])∧Downs w w' n V SC D':=by
 obtain ⟨b,hb0⟩:∃ b,w.heap.size=b:=⟨_,rfl⟩
 obtain ⟨HN,H0,Hwn,HC,HSC,HSCb,HEC,Hs⟩:=hJ8 hN h0 hwn hC hSC hSCb hEC hs
 obtain ⟨Hl,Hgl,Hsn⟩:=hJ3 hl hgl hsn
 clear hN h0 hwn hC hSC hSCb hEC hs hl hgl hsn
 have hmf:∀ (fn:Fn) (first cap:Array Value) (w:World),(Instr.makeFunc fn first cap).run Tryz.prog w=.ok (.func fn first cap) w:=fun _ _ _ _=>rfl
 go_enter_defers Tryz.func42,Tryz.ntmps42
 go_upto_region 1 with fail
 obtain ⟨W1,hW1⟩:∃ W,(w.alloc (.cells [Value.slice none 0 0].toArray 71)).alloc (.cells [Value.int .i64 0].toArray 35)=W:=⟨_,rfl⟩
 have hE1:Ext w W1:=hW1▸(((Mod.refl _ w).alloc _).alloc _)
 have ho1:W1.heap[b]? = some (.cells [Value.slice none 0 0].toArray 71 (0,0)):=hb0▸hW1▸xE _ _ _
 have he1:W1.heap[b+1]? = some (.cells [Value.int .i64 0].toArray 35 (0,0)):=by rw[←hW1,←hb0];exact xA _ _ _
 rw[hW1]
 clear hW1
 have HE1:=hJ hE1
 have HN1:=hJ (HN.out.ext hE1)
 obtain ⟨Ho1,He1⟩:=hJ2 ho1 he1
 clear hE1 ho1 he1
 go_wp2_with (refine zK ?_;first
  | (refine lD 4 n 2 (zL zfT HN1.out.box rfl) ?_)
  | (refine lD 65 n 3 (zcM HN1.out.box) ?_))
 go_upto_region 5 with (first
  | (refine (HC.out _ HE1.out).mono ?_;rintro e w2 ⟨sv2,lv2,rv2,rfl,hF,hM,hEc⟩;obtain ⟨As,ns,cs,rfl⟩:∃ A n c,sv2=.slice A n c:=⟨_,_,zC hF.hard.1.1 |>.choose_spec⟩;obtain ⟨Al,nl,cl,rfl⟩:∃ A n c,lv2=.slice A n c:=⟨_,_,zC hF.hard.2.1 |>.choose_spec⟩;obtain ⟨Ar,nr,cr,rfl⟩:∃ A n c,rv2=.slice A n c:=⟨_,_,zC hF.reads.1 |>.choose_spec⟩;have HF:=hJ hF;have HM:=hJ hM;have HEc:=hJ hEc;have Ho2:=hJ (hM.blk Ho1.out (fun e=>absurd (HSCb.out _ e) (by omega)));have He2:=hJ (hM.blk He1.out (fun e=>absurd (HSCb.out _ e) (by omega)));have Hz2:=hJ (Array.getElem?_eq_some_iff.mp He2.out).1;obtain ⟨q,hq⟩:∃ q,w2.heap.size=q:=⟨_,rfl⟩;clear hF hM hEc)
  | (refine zF ?_;refine stQ rfl 65 _ _ rfl 40 q 0 (.agg (r'.cells (.slice As ns cs) (.slice Al nl cl) (.slice Ar nr cr)).toArray) (r'.cells (.slice As ns cs) (.slice Al nl cl) (.slice Ar nr cr)) yA.2 _ rZ (r'.cells (.slice As ns cs) (.slice Al nl cl) (.slice Ar nr cr)) (by rw[←hq];exact zI w2 _) rfl ?_;intro W3 hbW3 hmW3 hsW3;have Ho3:=hJ (hmW3.blk (((Mod.refl (fun _=>False) w2).alloc _).blk Ho2.out id) (fun e=>by have:=Hz2.out;omega));have He3:=hJ (hmW3.blk (((Mod.refl (fun _=>False) w2).alloc _).blk He2.out id) (fun e=>by have:=Hz2.out;omega)))
  | (refine zF ?_;refine stQ rfl 71 _ _ rfl 1 b 0 (.slice none 0 0) [.slice none 0 0] zdM.size _ _ [.slice none 0 0] Ho3.out rfl ?_;intro W4 hbW4 hmW4 hsW4;have He4:=hJ (hmW4.blk He3.out (fun e=>by omega)))
  | (refine zF ?_;refine stQ rfl 35 _ _ rfl 1 (b+1) 0 (.int .i64 0) [.int .i64 0] zcA.size _ _ [.int .i64 0] He4.out rfl ?_;intro W5 hbW5 hmW5 hsW5))
 have hE23:Ext w2 W3:=Mod.toExt (((Mod.refl (zD w2.heap.size) w2).alloc _).trans hmW3 (fun k _ e=>by unfold zD;omega))
 have hN2:=HSC.out _ _ HE1.out HM.out
 have hN5:=((hN2.ext hE23).far Ho3.out hmW4 (by decide) (by decide) (by decide) (by decide)).far He4.out hmW5 (by decide) (by decide) (by decide) (by decide)
 have hF3:xQ W1 W3 (.slice As ns cs) (.slice Al nl cl) (.slice Ar nr cr) r' rds':=⟨HF.out.hard.ext hE23,⟨zN HF.out.reads.1 hE23 (fun _ _=>id),HF.out.reads.2⟩⟩
 have hF5:=(hF3.box Ho3.out hmW4 (by decide) (by decide) (by decide)).box He4.out hmW5 (by decide) (by decide) (by decide)
 have hq5:=hmW5.blk (hmW4.blk hbW3 (fun e=>by have:=Hz2.out;omega)) (fun e=>by have:=Hz2.out;omega)
 have hB5:Bx W5 b:=⟨hmW5.blk hbW4 (fun e=>by omega),hbW5⟩
 have hs1:w.heap.size≤W1.heap.size:=HE1.out.size
 have hC5:Cum n SC w V W5 V:=(((show Cum n SC w V w2 V from ⟨(HE1.out.mod _).trans (Mod.mono HM.out (fun k _ h=>.inr h)) (fun k _ h=>h),zbM.refl _ _⟩).ext hE23).new hmW4 (by omega)).new hmW5 (by omega)
 have hM25:Mod (zD w.heap.size) w2 W5:=((hE23.mod (zD w.heap.size)).trans hmW4 (fun k _ e=>by unfold zD;omega)).trans hmW5 (fun k _ e=>by unfold zD;omega)
 obtain ⟨HN5,HF5,Hq5,HB5,HC5,HM25⟩:=hJ6 hN5 hF5 hq5 hB5 hC5 hM25
 have p5:W5.cell? ⟨b+1,0,none⟩=some (.int .i64 0):=zA hbW5 rfl
 clear hbW3 hmW3 hsW3 hbW4 hmW4 hsW4 hbW5 hmW5 hsW5 hE23 hN2 hN5 hF3 hF5 hq5 hB5 hC5 hM25 hs1
 have hsv:=n_saveOff w0 W5 n V N r'.hard D' (.slice As ns cs) (.slice Al nl cl) _ (Nat.le_trans H0.out HC5.out.1.size) HN5.out HF5.out.hard.mem (fun k hk=>by
   have hd:=HN1.out.p.dk.lt
   have hk1:W1.heap.size≤k:=by
    rcases hk with e|e
    · exact HF5.out.hard.1.2 k e
    · exact HF5.out.hard.2.2.2 k e
   exact ⟨by omega,fun e=>by have:=za0 HN1.out.p.dk.2.1 e;omega⟩) Hl.out Hgl.out Hsn.out Hs.out
 have Hsv:=hJ hsv
 clear hsv
 go_upto_region 7 with fail
 clear p5
 go_wp2_with (first
  | (refine zK ?_;refine lD 61 q 1 (zbQ Hq5.out) ?_)
  | (go_at_call 94;refine Hsv.out.mono ?_;rintro e w6 ⟨he,fv,hD6,hb6,hM6,hf6⟩;obtain rfl:e=.panicked [{ v:=.iface 238 (.agg #[]),recovered:=false }]:=he))
 have hnf:∀ (k:Nat) (cs:Array Value) (t:TypeId) (z:Nat×Nat) (hk:W5.heap[k]? = some (.cells cs t z)) (h1:5≠t) (h2:198≠t) (h3:140≠t),w6.heap[k]? = some (.cells cs t z):=fun k cs t z hk h1 h2 h3=>hM6.blk hk (fun e=>by
   rcases e with e|e|e
   · exact jZ HN5.out.p.dk.1 hk h3 e.symm
   · exact zG HN5.out.p.dk.2.1 e hk h1 rfl
   · exact jZ HN5.out.p.st hk h2 e.symm)
 have hx6:=hnf _ _ _ _ HB5.out.1 (by decide) (by decide) (by decide)
 have hy6:=hnf _ _ _ _ HB5.out.2 (by decide) (by decide) (by decide)
 refine leaves_cons (f:=93) (args:=#[.pointer (some ⟨n,0,none⟩),.pointer (some ⟨b,0,none⟩),.pointer (some ⟨b+1,0,none⟩)]) (by simp) (by simp[go_sem]) ?_
 refine (n_caught1 n b V N _ _ w6 hb6 hx6 hy6).mono ?_
 rintro e u' w7 ⟨rfl,rfl,hn7,hx7,hy7,hM7⟩
 have q0:w7.cell? ⟨b,0,none⟩=some (.slice none 0 0):=zA hx7 rfl
 have q1:w7.cell? ⟨b+1,0,none⟩=some (.int .i64 4):=zA hy7 rfl
 have hbw:w.heap.size≤b:=by omega
 have hdn:∀ k,k=n∨k=b∨k=b+1→V.d≠k:=fun k hk e=>by
  rcases hk with rfl|rfl|rfl
  · exact jZ HN5.out.p.dk.1 HN5.out.box (by decide) e
  · exact jZ HN5.out.p.dk.1 HB5.out.1 (by decide) e
  · exact jZ HN5.out.p.dk.1 HB5.out.2 (by decide) e
 have hD7:Dsk w7 V.d fv D':=hD6.mod hM7 (fun e=>by rcases e with e|e|e <;> exact hdn _ (by simp) e) (fun g hg e=>by
  rcases e with e|e|e
  · exact zG hD6.2.1 hg hb6 (by decide) e
  · exact zG hD6.2.1 hg hx6 (by decide) e
  · exact zG hD6.2.1 hg hy6 (by decide) e)
 have hM67:Mod (fun k=>NS n V k∨SC k) w w7:=(HC5.out.1.trans hM6 (fun k _ e=>.inl (by
   rcases e with e|e|e
   · exact .inr (.inr (.inl e))
   · exact .inr (.inr (.inr (.inl e)))
   · exact .inr (.inl e)))).trans hM7 (fun k hk e=>by
   rcases e with e|e|e
   · exact .inl (.inl e)
   · omega
   · omega)
 have HF:=hJ (show Downs w w7 n V SC D' from ⟨N,V,fv,hn7,hD7,fun k hk=>(hf6 k hk).elim .inl (fun e=>.inr (Nat.le_trans HC5.out.1.size e)),hM67⟩)
 simp[Leaves,settle,results,Tryz.results42,go_sem,q0,q1]
 exact HF.out
def DnOut (w:World) (n:Nat) (V:NV) (D':zU) (e:Ending) (w':World):Prop:=e=.returned (.int .i64 4)∧Downs w w' n V (fun _=>False) D'
theorem n_proposeStepOff (w0 W:World) (n b:Nat) (V:NV) (N:yB) (c:zW) (D':zU) (h0:w0.heap.size≤W.heap.size) (hN:yD w0 W n V N) (hwv:N.waits=[]→V.wv=.slice none 0 0) (hB:PBx n b c 0 W) (hbs:b+1+1<W.heap.size)
  (hL:zaD N.r) (hrd:N.rds=[]) (hw:N.waits=[]) (hc:yX c=0) (hco:c.ok) (hn:N.r.hard.log.length<64) (hi:0≤N.r.last∧N.r.last+1≤1099511627776)
  (hs:zb6 N.dk N.g (N.r.put (zT N.r.hard.term c)).hard=(D',N.g,4)) (hgl:N.g.log.length≤1000000) (hsn:N.r.hard.snap.length≤1000000):
  Calls Tryz.prog 42 #[.pointer (some ⟨n,0,none⟩),.func (Fn.func 105) #[] #[.pointer (some ⟨b+1,0,none⟩),.pointer (some ⟨b+1+1,0,none⟩)],.func (Fn.func 107) #[] #[.pointer (some ⟨b,0,none⟩),.pointer (some ⟨b+1,0,none⟩),.pointer (some ⟨b+1+1,0,none⟩)]] W fun e w'=>e=.returned (.tuple #[.slice none 0 0,.int .i64 4])∧Downs W w' n V (fun k=>k=b+1+1) D':=by
 have nb1:=hN.ns hB.1 (by decide)
 have nb2:=hN.ns hB.2.1 (by decide)
 have nb3:=hN.ns hB.2.2 (by decide)
 refine n_stepOff w0 W n V N 105 107 _ _ (fun k=>k=b+1+1) (PBx n b c (N.r.last+1)) (N.r.put (zT N.r.hard.term c)) [] D' h0 hN hwv (fun _ _=>rfl) (fun _ _=>rfl) ?_ ?_ ?_ ?_ hs ?_ hgl hsn
 · intro W1 hE
   have hf:=(hN.ext hE).p.rh
   rw[hrd] at hf
   refine Calls.mono (znB N.r c (b+1) (b+1+1) V.sv V.lv V.rv W1 (fun _=>True) ⟨⟨hf.hard.mem.1.mono (fun _ _=>trivial),hf.hard.mem.2.1.mono (fun _ _=>trivial),hf.hard.mem.2.2⟩,Sl.of_own hf.reads.1 (fun _ _=>trivial)⟩ hL hc hco hn (hE.blk hB.2.1 id) (hE.blk hB.2.2 id)) ?_
   rintro e w' ⟨sv,lv,rv,rfl,hF,hM,hE2⟩
   exact ⟨sv,lv,rv,rfl,hF,hM,hM.blk (hE.blk hB.1 id) (fun e=>by omega),hM.blk (hE.blk hB.2.1 id) (fun e=>by omega),hE2⟩
 · intro W1 W' hE hM
   exact (hN.ext hE).far (hE.blk hB.2.2 id) hM (by decide) (by decide) (by decide) (by decide)
 · intro k hk
   omega
 · intro W1 W2 h hM
   have hno:∀ k,¬ NS n V k→k<W.heap.size→¬ (NS n V k∨W.heap.size≤k):=fun k h1 h2 h=>h.elim h1 (fun h=>by omega)
   exact ⟨hM.blk h.1 (hno _ nb1 (by omega)),hM.blk h.2.1 (hno _ nb2 (by omega)),hM.blk h.2.2 (hno _ nb3 (by omega))⟩
 · show (N.r.hard.log++[zT N.r.hard.term c]).length≤12700
   rw[List.length_append]
   simp
   omega
theorem n_proposeOff (w0 w:World) (n:Nat) (V:NV) (N:yB) (c:zW) (D':zU) (h0:w0.heap.size≤w.heap.size) (hN:yD w0 w n V N) (hwv:N.waits=[]→V.wv=.slice none 0 0)
  (hL:zaD N.r) (hrd:N.rds=[]) (hw:N.waits=[]) (hc:yX c=0) (hco:c.ok) (hn:N.r.hard.log.length<64) (hi:0≤N.r.last∧N.r.last+1≤1099511627776)
  (hs:zb6 N.dk N.g (N.r.put (zT N.r.hard.term c)).hard=(D',N.g,4)) (hgl:N.g.log.length≤1000000) (hsn:N.r.hard.snap.length≤1000000):
  Calls Tryz.prog 48 #[.pointer (some ⟨n,0,none⟩),.agg #[.int .i64 c.client,.int .i64 c.seq,.int .i64 c.cmd.kind,.string c.cmd.key,.int .i64 c.cmd.old.kind,.float .f64 c.cmd.old.num,.string c.cmd.old.text,.int .i64 c.cmd.val.kind,.float .f64 c.cmd.val.num,.string c.cmd.val.text]] w (DnOut w n V D'):=by
 obtain ⟨b,hb0⟩:∃ b,w.heap.size=b:=⟨_,rfl⟩
 have hst:=fun W (hE:Ext w W) (hB:PBx n b c 0 W) (hbs:b+1+1<W.heap.size)=>n_proposeStepOff w0 W n b V N c D' (Nat.le_trans h0 hE.size) (hN.ext hE) hwv hB hbs hL hrd hw hc hco hn hi hs hgl hsn
 have Hst:=hJ hst
 clear hst h0 hN hwv hL hrd hw hc hco hn hi hs hgl hsn
 have hmf:∀ (fn:Fn) (first cap:Array Value) (w:World),(Instr.makeFunc fn first cap).run Tryz.prog w=.ok (.func fn first cap) w:=fun _ _ _ _=>rfl
 go_enter Tryz.func48,Tryz.ntmps48
 go_upto_region 2 with fail
 obtain ⟨W1,hW1⟩:∃ W,((w.alloc (.cells [Value.pointer (some ⟨n,0,none⟩)].toArray 31)).alloc (.cells c.cells.toArray 29)).alloc (.cells [Value.int .i64 0].toArray 3)=W:=⟨_,rfl⟩
 have hE1:Ext w W1:=hW1▸((((Mod.refl _ w).alloc _).alloc _).alloc _)
 have hB1:PBx n b c 0 W1:=by
  have h:=zdN w (.cells [Value.pointer (some ⟨n,0,none⟩)].toArray 31) (.cells c.cells.toArray 29) (.cells [Value.int .i64 0].toArray 3)
  rw[hW1,hb0] at h
  exact h
 have hs1:b+1+1<W1.heap.size:=(Array.getElem?_eq_some_iff.mp hB1.2.2).1
 rw[hW1]
 clear hW1
 have hcon:=Hst.out W1 hE1 hB1 hs1
 obtain ⟨HE1,HB1,Hcon⟩:=hJ3 hE1 hB1 hcon
 clear hE1 hB1 hs1 hcon
 go_upto_region 3 with (first
  | (refine zK ?_;refine lD 31 b 0 (zL ziQ HB1.out.1 rfl) ?_)
  | (go_at_call 42;refine Hcon.out.mono ?_;rintro e w2 ⟨rfl,N2,V2,fv2,hn2,hD2,hf2,hM2⟩))
 have hF:DnOut w n V D' (.returned (.int .i64 4)) w2:=⟨rfl,N2,V2,fv2,hn2,hD2,fun k hk=>(hf2 k hk).elim .inl (fun e=>.inr (Nat.le_trans HE1.out.size e)),(Ext.mod HE1.out _).trans hM2 (fun k hk h=>h.elim .inl (fun e=>by omega))⟩
 have HF:=hJ hF
 clear hF hn2 hD2 hf2 hM2
 go_wp2_with fail
 first|(go_end0;exact HF.out)|(go_ret;exact HF.out)
theorem Downs.up {w W w':World} {n:Nat} {V:NV} {SC:Nat→Prop} {D':zU} (hE:Ext w W) (h:Downs W w' n V SC D'):Downs w w' n V SC D':=by
  obtain ⟨N,V1,fv,h1,h2,h3,h4⟩:=h
  exact ⟨N,V1,fv,h1,h2,fun k hk=>(h3 k hk).elim .inl (fun e=>.inr (Nat.le_trans hE.size e)),(Ext.mod hE _).trans h4 (fun k _ h=>h)⟩
theorem n_CallNewOff (w0 w:World) (n:Nat) (V:NV) (N:yB) (c:zW) (D':zU) (h0:w0.heap.size≤w.heap.size) (hN:yD w0 w n V N) (hwv:N.waits=[]→V.wv=.slice none 0 0)
  (hL:zaD N.r) (hrd:N.rds=[]) (hw:N.waits=[]) (hc:yX c=0) (hco:c.ok) (hck:c.cmd.kind≠1) (hsl:zp5 N.mach.sess) (hls:(yJ N.mach.sess c.client).1<c.seq) (hn:N.r.hard.log.length<64) (hi:0≤N.r.last∧N.r.last+1≤1099511627776)
  (hs:zb6 N.dk N.g (N.r.put (zT N.r.hard.term c)).hard=(D',N.g,4)) (hgl:N.g.log.length≤1000000) (hsn:N.r.hard.snap.length≤1000000):
  Calls Tryz.prog 10 #[.pointer (some ⟨n,0,none⟩),.agg #[.int .i64 c.client,.int .i64 c.seq,.int .i64 c.cmd.kind,.string c.cmd.key,.int .i64 c.cmd.old.kind,.float .f64 c.cmd.old.num,.string c.cmd.old.text,.int .i64 c.cmd.val.kind,.float .f64 c.cmd.val.num,.string c.cmd.val.text]] w (DnOut w n V D'):=by
 obtain ⟨b,hb0⟩:∃ b,w.heap.size=b:=⟨_,rfl⟩
 have hpr:=fun W (hE:Ext w W)=>n_proposeOff w0 W n V N c D' (Nat.le_trans h0 hE.size) (hN.ext hE) hwv hL hrd hw hc hco hn hi hs hgl hsn
 have hkd:=fun W (hE:Ext w W)=>zhS w0 W n V N (hN.ext hE) hL.lone hL.id
 have hrg:=fun W=>jS c W
 rw[hc] at hrg
 have hla:=fun W (hE:Ext w W)=>hsl W _ V.pv V.xv c.client ((hN.ext hE).p.xx.ses)
 obtain ⟨Hpr,Hkd,Hrg,Hla,HN⟩:=hJ5 hpr hkd hrg hla hN
 have Hwv:=hJ (hwv hw)
 have Hro:=hJ hL.role
 have Hls:=hJ hls
 clear hpr hkd hrg hla hN hwv hL hrd hw hc hco hls hsl hn hi hs hgl hsn h0
 go_enter Tryz.func10,Tryz.ntmps10
 go_upto_region 1 with fail
 obtain ⟨W1,hW1⟩:∃ W,w.alloc (.cells c.cells.toArray 29)=W:=⟨_,rfl⟩
 have hE1:Ext w W1:=hW1▸((Mod.refl _ w).alloc _)
 have hb1:W1.heap[b]? = some (.cells c.cells.toArray 29 (0,0)):=hb0▸hW1▸zI _ _
 rw[hW1]
 clear hW1
 obtain ⟨HE1,Hb1⟩:=hJ2 hE1 hb1
 clear hE1 hb1
 go_upto_region 4 with (first
  | (refine zK ?_;refine lD 29 b 0 (ld0 zV Hb1.out) ?_)
  | (go_at_call 41;refine (Hrg.out _).mono ?_;rintro e w2 ⟨rfl,hE2⟩;have p2:w2.cell? ⟨n,2,none⟩=some (.bool false):=zA (HN.out.ext (HE1.out.ext hE2)).box rfl;have p15:w2.cell? ⟨n,15,none⟩=some (.int .i64 3):=by rw[←Hro.out];exact zA (HN.out.ext (HE1.out.ext hE2)).box rfl))
 have HE2:=hJ (HE1.out.ext hE2)
 have Hb2:=hJ (hE2.blk Hb1.out id)
 clear hE2
 go_upto_region 6 with (go_at_call 40;refine (Hkd.out _ HE2.out).mono ?_;rintro e w3 ⟨rfl,hE3⟩;have p1:w3.cell? ⟨n,1,none⟩=some (.bool false):=zA (HN.out.ext (HE2.out.ext hE3)).box rfl)
 have HE3:=hJ (HE2.out.ext hE3)
 have Hb3:=hJ (hE3.blk Hb2.out id)
 have pk:w3.cell? ⟨b,2,none⟩=some (.int .i64 c.cmd.kind):=zA Hb3.out rfl
 clear p1 p2 p15 hE3
 go_upto_region 11 with fail
 clear pk hck
 have HN3:=hJ (HN.out.ext HE3.out)
 obtain ⟨ls,hls0⟩:∃ x,yJ N.mach.sess c.client=x:=⟨_,rfl⟩
 obtain ⟨l1,l2⟩:=ls
 rw[hls0] at Hla Hls
 have hq1:l1<c.seq:=Hls.out
 have hq2:¬ c.seq=l1:=by omega
 have hq3:¬ c.seq<l1:=by omega
 go_wp2_with fail
 refine yZ (fun W=>Ext w3 W) 12 ((Mod.refl _ w3).drew) (fun hS=>?_)
 iterate 3
  (first|refine tP 0 50 ?_ hS (fun W'=>?_) ?_|refine tP 1 51 ?_ hS (fun W'=>?_) ?_|refine tP 2 52 ?_ hS (fun W'=>?_) ?_);rotate_left;· go_simp;try rfl
  try simp only[pL]
 refine tU 3 53 (.agg #[V.pv,V.xv]) hS n 43 (fun W' hW'=>zeI (hW'.blk HN3.out.box id)) ?_
 try simp only[pL]
 refine tP 4 54 ?_ hS (fun W'=>?_) ?_;rotate_left;· go_simp;try rfl
 try simp only[pL]
 refine tU 5 55 (.int .i64 c.client) hS b 0 (fun W' hW'=>zL zQ (hW'.blk Hb3.out id) rfl) ?_
 try simp only[pL]
 refine twoU 6 10 (fun K hK=>?_) (fun K hK=>?_)
 · go_simp
   go_wp2_with fail
   refine (Hla.out _ ((HE3.out).ext hS)).mono ?_
   rintro e w4 ⟨rfl,hE4⟩
   have hX:=hS.ext hE4
   go_simp
   refine hK.out _ _ hX (fun hS=>?_)
   clear hK K hX
   try simp only[pL]
   iterate 3
    (first|refine tP 7 49 ?_ hS (fun W'=>?_) ?_|refine tP 8 57 ?_ hS (fun W'=>?_) ?_|refine tP 9 58 ?_ hS (fun W'=>?_) ?_);rotate_left;· go_simp;try rfl
    try simp only[pL]
   refine jP 10 (fun K hK=>?_)
   go_simp
   refine hK.out _ _ (hS.ext ((Mod.refl _ _).alloc _)) (fun hS=>?_)
   clear hK K
   try show yK _ _ _ _ _ _ _ _ (Act.put _ (some 7) _) _
   try simp only[pL]
   refine tP 11 6 ?_ hS (fun W'=>?_) ?_;rotate_left;· go_simp;try rfl
   try simp only[pL]
   refine xN 12 rfl ?_
   simp only[List.drop_succ_cons,List.drop_zero]
   go_upto_region 12 with (refine zF ?_;first
    | (refine stQ rfl 48 _ _ rfl 4 (w4.heap.size) 0 (.agg #[.int .i64 l2.code,.int .i64 l2.val.kind,.float .f64 l2.val.num,.string l2.val.text]) l2.cells yQ.2 _ _ l2.cells (zI w4 _) rfl ?_;intro W5 hbW5 hmW5 hsW5;have hE5:Ext w3 W5:=Mod.toExt ((Ext.mod hS (zD w3.heap.size)).trans hmW5 (fun k _ e=>by unfold zD;have h1:=hE4.size;have h2:w3.drew.heap.size=w3.heap.size:=rfl;have h3:∀ o,(w3.drew.alloc o).heap.size=w3.heap.size+1:=fun o=>Array.size_push _;omega)))
    | (refine stQ rfl 48 _ _ rfl 4 (w3.drew.heap.size) 0 (.agg #[.int .i64 l2.code,.int .i64 l2.val.kind,.float .f64 l2.val.num,.string l2.val.text]) l2.cells yQ.2 _ _ l2.cells (hE4.blk (zI w3.drew _) id) rfl ?_;intro W5 hbW5 hmW5 hsW5;have hE5:Ext w3 W5:=Mod.toExt ((Ext.mod hS (zD w3.heap.size)).trans hmW5 (fun k _ e=>by unfold zD;have h1:=hE4.size;have h2:w3.drew.heap.size=w3.heap.size:=rfl;have h3:∀ o,(w3.drew.alloc o).heap.size=w3.heap.size+1:=fun o=>Array.size_push _;omega))))
   have HE5:=hJ (HE3.out.ext hE5)
   have HN5:=hJ (HN3.out.ext hE5)
   have Hb5:=hJ (hE5.blk Hb3.out id)
   have ps:W5.cell? ⟨b,1,none⟩=some (.int .i64 c.seq):=zA Hb5.out rfl
   clear hbW5 hmW5 hsW5 hE5 hE4 hS
   go_upto_region 17 with fail
   clear ps
   go_wp2_with fail
   refine yZ (fun W=>Ext W5 W) 5 ((Mod.refl _ W5).drew) (fun hS=>?_)
   iterate 3
    (first|refine tP 0 86 ?_ hS (fun W'=>?_) ?_|refine tP 1 87 ?_ hS (fun W'=>?_) ?_|refine tP 2 88 ?_ hS (fun W'=>?_) ?_);rotate_left;· go_simp;try rfl
    try simp only[pL]
   refine tU 3 89 (.slice none 0 0) hS n 46 (fun W' hW'=>zL zaF (hW'.blk HN5.out.box id) (show some V.wv=_ by rw[Hwv.out])) ?_
   try simp only[pL]
   refine tU 4 90 (.agg c.cells.toArray) hS b 0 (fun W' hW'=>ld0 zV (hW'.blk Hb5.out id)) ?_
   try simp only[pL]
   refine xN 5 rfl ?_
   simp only[List.drop_succ_cons,List.drop_zero]
   go_upto_region 21 with (go_at_call 47;refine (g_has0 none 0 c _).mono ?_;rintro e w6 ⟨rfl,hE6⟩;have HE6:=hJ ((HE5.out.ext hS).ext hE6);have Hb6:=hJ ((hS.ext hE6).blk Hb5.out id);have pw:w6.cell? ⟨n,46,none⟩=some (.slice none 0 0):=zA (HN5.out.ext (hS.ext hE6)).box (show some V.wv=_ by rw[Hwv.out]))
   clear pw hE6 hS
   go_upto_region 22 with (first
    | (refine zK ?_;refine lD 29 b 0 (ld0 zV Hb6.out) ?_)
    | (go_at_call 48;refine (Hpr.out _ HE6.out).mono ?_;rintro e w7 ⟨rfl,h7⟩))
   have HF:=hJ (show DnOut w n V D' (.returned (.int .i64 4)) w7 from ⟨rfl,Downs.up HE6.out h7⟩)
   clear h7
   first|(go_end0;exact HF.out)|(go_ret;exact HF.out)
 · go_simp
   refine hK.out _ _ (hS.ext ((Mod.refl _ _).alloc _)) (fun hS=>?_)
   clear hK K
   try show yK _ _ _ _ _ _ _ _ (Act.put _ (some 7) _) _
   try simp only[pL]
   refine jP 6 (fun K hK=>?_)
   go_simp
   go_wp2_with fail
   refine (Hla.out _ ((HE3.out).ext hS)).mono ?_
   rintro e w4 ⟨rfl,hE4⟩
   have hX:=hS.ext hE4
   go_simp
   refine hK.out _ _ hX (fun hS=>?_)
   clear hK K hX
   try simp only[pL]
   iterate 4
    (first|refine tP 7 49 ?_ hS (fun W'=>?_) ?_|refine tP 8 57 ?_ hS (fun W'=>?_) ?_|refine tP 9 58 ?_ hS (fun W'=>?_) ?_|refine tP 11 6 ?_ hS (fun W'=>?_) ?_);rotate_left;· go_simp;try rfl
    try simp only[pL]
   refine xN 12 rfl ?_
   simp only[List.drop_succ_cons,List.drop_zero]
   go_upto_region 12 with (refine zF ?_;first
    | (refine stQ rfl 48 _ _ rfl 4 (w4.heap.size) 0 (.agg #[.int .i64 l2.code,.int .i64 l2.val.kind,.float .f64 l2.val.num,.string l2.val.text]) l2.cells yQ.2 _ _ l2.cells (zI w4 _) rfl ?_;intro W5 hbW5 hmW5 hsW5;have hE5:Ext w3 W5:=Mod.toExt ((Ext.mod hS (zD w3.heap.size)).trans hmW5 (fun k _ e=>by unfold zD;have h1:=hE4.size;have h2:w3.drew.heap.size=w3.heap.size:=rfl;have h3:∀ o,(w3.drew.alloc o).heap.size=w3.heap.size+1:=fun o=>Array.size_push _;omega)))
    | (refine stQ rfl 48 _ _ rfl 4 (w3.drew.heap.size) 0 (.agg #[.int .i64 l2.code,.int .i64 l2.val.kind,.float .f64 l2.val.num,.string l2.val.text]) l2.cells yQ.2 _ _ l2.cells (hE4.blk (zI w3.drew _) id) rfl ?_;intro W5 hbW5 hmW5 hsW5;have hE5:Ext w3 W5:=Mod.toExt ((Ext.mod hS (zD w3.heap.size)).trans hmW5 (fun k _ e=>by unfold zD;have h1:=hE4.size;have h2:w3.drew.heap.size=w3.heap.size:=rfl;have h3:∀ o,(w3.drew.alloc o).heap.size=w3.heap.size+1:=fun o=>Array.size_push _;omega))))
   have HE5:=hJ (HE3.out.ext hE5)
   have HN5:=hJ (HN3.out.ext hE5)
   have Hb5:=hJ (hE5.blk Hb3.out id)
   have ps:W5.cell? ⟨b,1,none⟩=some (.int .i64 c.seq):=zA Hb5.out rfl
   clear hbW5 hmW5 hsW5 hE5 hE4 hS
   go_upto_region 17 with fail
   clear ps
   go_wp2_with fail
   refine yZ (fun W=>Ext W5 W) 5 ((Mod.refl _ W5).drew) (fun hS=>?_)
   iterate 3
    (first|refine tP 0 86 ?_ hS (fun W'=>?_) ?_|refine tP 1 87 ?_ hS (fun W'=>?_) ?_|refine tP 2 88 ?_ hS (fun W'=>?_) ?_);rotate_left;· go_simp;try rfl
    try simp only[pL]
   refine tU 3 89 (.slice none 0 0) hS n 46 (fun W' hW'=>zL zaF (hW'.blk HN5.out.box id) (show some V.wv=_ by rw[Hwv.out])) ?_
   try simp only[pL]
   refine tU 4 90 (.agg c.cells.toArray) hS b 0 (fun W' hW'=>ld0 zV (hW'.blk Hb5.out id)) ?_
   try simp only[pL]
   refine xN 5 rfl ?_
   simp only[List.drop_succ_cons,List.drop_zero]
   go_upto_region 21 with (go_at_call 47;refine (g_has0 none 0 c _).mono ?_;rintro e w6 ⟨rfl,hE6⟩;have HE6:=hJ ((HE5.out.ext hS).ext hE6);have Hb6:=hJ ((hS.ext hE6).blk Hb5.out id);have pw:w6.cell? ⟨n,46,none⟩=some (.slice none 0 0):=zA (HN5.out.ext (hS.ext hE6)).box (show some V.wv=_ by rw[Hwv.out]))
   clear pw hE6 hS
   go_upto_region 22 with (first
    | (refine zK ?_;refine lD 29 b 0 (ld0 zV Hb6.out) ?_)
    | (go_at_call 48;refine (Hpr.out _ HE6.out).mono ?_;rintro e w7 ⟨rfl,h7⟩))
   have HF:=hJ (show DnOut w n V D' (.returned (.int .i64 4)) w7 from ⟨rfl,Downs.up HE6.out h7⟩)
   clear h7
   first|(go_end0;exact HF.out)|(go_ret;exact HF.out)
def OffOut (w:World) (e:Ending) (w':World):Prop:=e=.returned (.tuple #[.slice none 0 0,.int .i64 4])∧Ext w w'
def OffErr (w:World) (e:Ending) (w':World):Prop:=e=.returned (.int .i64 4)∧Ext w w'
theorem n_stepDown (w:World) (n:Nat) (V:NV) (N:yB) (fc fa:FuncId) (cc ca:Array Value) (hn:w.heap[n]? = some (.cells (yE true V N).toArray 112 (0,0))):
  Calls Tryz.prog 42 #[.pointer (some ⟨n,0,none⟩),.func (Fn.func fc) #[] cc,.func (Fn.func fa) #[] ca] w (OffOut w):=by
 obtain ⟨b,hb0⟩:∃ b,w.heap.size=b:=⟨_,rfl⟩
 have Hn:=hJ hn
 clear hn
 go_enter_defers Tryz.func42,Tryz.ntmps42
 go_upto_region 1 with fail
 obtain ⟨W1,hW1⟩:∃ W,(w.alloc (.cells [Value.slice none 0 0].toArray 71)).alloc (.cells [Value.int .i64 0].toArray 35)=W:=⟨_,rfl⟩
 have hE1:Ext w W1:=hW1▸(((Mod.refl _ w).alloc _).alloc _)
 have ho1:W1.heap[b]? = some (.cells [Value.slice none 0 0].toArray 71 (0,0)):=hb0▸hW1▸xE _ _ _
 have he1:W1.heap[b+1]? = some (.cells [Value.int .i64 0].toArray 35 (0,0)):=by rw[←hW1,←hb0];exact xA _ _ _
 rw[hW1]
 clear hW1
 have p2:W1.cell? ⟨n,2,none⟩=some (.bool true):=zA (hE1.blk Hn.out id) rfl
 obtain ⟨HE1,Ho1,He1⟩:=hJ3 hE1 ho1 he1
 clear hE1 ho1 he1
 go_wp2_with (refine zF ?_;first|(refine stQ rfl 71 _ _ rfl 1 b 0 (.slice none 0 0) [.slice none 0 0] zdM.size _ _ [.slice none 0 0] Ho1.out rfl ?_;intro W2 hbW2 hmW2 hsW2)|(refine stQ rfl 35 _ _ rfl 1 (b+1) 0 (.int .i64 4) [.int .i64 4] zcA.size _ _ [.int .i64 4] (hmW2.blk He1.out (fun e=>by omega)) rfl ?_;intro W3 hbW3 hmW3 hsW3))
 have HF:=hJ (show Ext w W3 from Mod.toExt (((Ext.mod HE1.out (zD w.heap.size)).trans hmW2 (fun k _ e=>by unfold zD;omega)).trans hmW3 (fun k _ e=>by unfold zD;omega)))
 have q0:W3.cell? ⟨b,0,none⟩=some (.slice none 0 0):=zA (hmW3.blk hbW2 (fun e=>by omega)) rfl
 have q1:W3.cell? ⟨b+1,0,none⟩=some (.int .i64 4):=zA hbW3 rfl
 clear p2 hbW2 hmW2 hsW2 hbW3 hmW3 hsW3
 simp[bodyPostD,Leaves,settle,results,Tryz.results42,go_sem,q0,q1]
 exact ⟨rfl,HF.out⟩
theorem n_TickDown (w:World) (n:Nat) (V:NV) (N:yB) (hn:w.heap[n]? = some (.cells (yE true V N).toArray 112 (0,0))):Calls Tryz.prog 25 #[.pointer (some ⟨n,0,none⟩)] w (OffOut w):=by
 have hst:=n_stepDown w n V N 66 45 #[] #[] hn
 have Hst:=hJ hst
 clear hst hn
 go_enter Tryz.func25,Tryz.ntmps25
 go_wp2_with (go_at_call 42;refine Hst.out.mono ?_;rintro e w2 ⟨rfl,h2⟩)
 have HF:=hJ (show OffOut w (.returned (.tuple #[.slice none 0 0,.int .i64 4])) w2 from ⟨rfl,h2⟩)
 clear h2
 first|(go_end0;exact HF.out)|(go_ret2;exact HF.out)|(go_ret;exact HF.out)
theorem n_ChangeDown (w:World) (n:Nat) (V:NV) (N:yB) (c:jB) (hn:w.heap[n]? = some (.cells (yE true V N).toArray 112 (0,0))):Calls Tryz.prog 39 #[.pointer (some ⟨n,0,none⟩),.agg #[.int .i64 c.full,.int .i64 c.wit,.int .i64 c.learn,.int .i64 c.learnWit]] w (OffErr w):=by
 obtain ⟨b,hb0⟩:∃ b,w.heap.size=b:=⟨_,rfl⟩
 have hst:=fun W (hE:Ext w W)=>n_stepDown W n V N 87 45 #[.pointer (some ⟨b,0,none⟩)] #[] (hE.blk hn id)
 have Hst:=hJ hst
 clear hst hn
 have hmf:∀ (fn:Fn) (first cap:Array Value) (w:World),(Instr.makeFunc fn first cap).run Tryz.prog w=.ok (.func fn first cap) w:=fun _ _ _ _=>rfl
 go_enter Tryz.func39,Tryz.ntmps39
 go_upto_region 1 with fail
 obtain ⟨W1,hW1⟩:∃ W,w.alloc (.cells [.int .i64 c.full,.int .i64 c.wit,.int .i64 c.learn,.int .i64 c.learnWit].toArray 57)=W:=⟨_,rfl⟩
 have hE1:Ext w W1:=hW1▸((Mod.refl _ w).alloc _)
 rw[hW1]
 clear hW1
 have HE1:=hJ hE1
 clear hE1
 go_wp2_with (go_at_call 42;refine (Hst.out _ HE1.out).mono ?_;rintro e w2 ⟨rfl,h2⟩)
 have HF:=hJ (show OffErr w (.returned (.int .i64 4)) w2 from ⟨rfl,HE1.out.ext h2⟩)
 clear h2
 first|(go_end0;exact HF.out)|(go_ret;exact HF.out)
theorem n_CallDown (w:World) (n:Nat) (V:NV) (N:yB) (c:zW) (hn:w.heap[n]? = some (.cells (yE true V N).toArray 112 (0,0))):Calls Tryz.prog 10 #[.pointer (some ⟨n,0,none⟩),.agg #[.int .i64 c.client,.int .i64 c.seq,.int .i64 c.cmd.kind,.string c.cmd.key,.int .i64 c.cmd.old.kind,.float .f64 c.cmd.old.num,.string c.cmd.old.text,.int .i64 c.cmd.val.kind,.float .f64 c.cmd.val.num,.string c.cmd.val.text]] w (OffErr w):=by
 obtain ⟨b,hb0⟩:∃ b,w.heap.size=b:=⟨_,rfl⟩
 have Hn:=hJ hn
 obtain ⟨E,hE⟩:∃ E,yX c=E:=⟨_,rfl⟩
 have hrg:=fun W=>jS c W
 rw[hE] at hrg
 have Hrg:=hJ hrg
 clear hn hrg hE
 go_enter Tryz.func10,Tryz.ntmps10
 go_upto_region 1 with fail
 obtain ⟨W1,hW1⟩:∃ W,w.alloc (.cells c.cells.toArray 29)=W:=⟨_,rfl⟩
 have hE1:Ext w W1:=hW1▸((Mod.refl _ w).alloc _)
 have hb1:W1.heap[b]? = some (.cells c.cells.toArray 29 (0,0)):=hb0▸hW1▸zI _ _
 rw[hW1]
 clear hW1
 obtain ⟨HE1,Hb1⟩:=hJ2 hE1 hb1
 clear hE1 hb1
 go_wp2_with (first
  | (refine zK ?_;refine lD 29 b 0 (ld0 zV Hb1.out) ?_)
  | (go_at_call 41;refine (Hrg.out _).mono ?_;rintro e w2 ⟨rfl,hE2⟩;have p2:w2.cell? ⟨n,2,none⟩=some (.bool true):=zA ((HE1.out.ext hE2).blk Hn.out id) rfl))
 have HF:=hJ (show OffErr w (.returned (.int .i64 4)) w2 from ⟨rfl,HE1.out.ext hE2⟩)
 clear hE2 p2
 first|(go_end0;exact HF.out)|(go_ret;exact HF.out)
theorem n_DownYes (w:World) (n:Nat) (V:NV) (N:yB) (hn:w.heap[n]? = some (.cells (yE true V N).toArray 112 (0,0))):Calls Tryz.prog 27 #[.pointer (some ⟨n,0,none⟩)] w fun e w'=>e=.returned (.bool true)∧Ext w w':=by
 have p2:w.cell? ⟨n,2,none⟩=some (.bool true):=zA hn rfl
 clear hn
 go_enter Tryz.func27,Tryz.ntmps27
 go_wp2_with fail
 first|(go_end0;exact ⟨rfl,Mod.refl _ w⟩)|(go_ret;exact ⟨rfl,Mod.refl _ w⟩)
end Go.Proofs.YtjbkjhhjofeldaaGreat
