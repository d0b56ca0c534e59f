/-
 Layer 22 (node), plain side: a save of a small hard state on a disk that is not tripped is done; on one that is tripped at the next write the power goes. No program is walked here. Conditions: as each theorem names them.
-/
import Derived.Test.YtjbkjhhjofeldaaGreatG23
import Derived.Test.YtjbkjhhjofeldaaGreatH1
namespace Go.Proofs.YtjbkjhhjofeldaaGreat
set_option linter.unusedSimpArgs false
set_option linter.unusedVariables false
structure On (D:zU) (n:Nat):Prop where
  off:D.off=false
  trip:D.trip=n
  room:D.room=65536
theorem On.count {D:zU} (h:On D 0):D.count=(D,false):=by unfold zU.count;rw[if_pos h.trip]
theorem zpY {b:List UInt8} (hb:b.length≤16000):(yP (1 :: b)).length≤65536:=by rw[jY];simp;omega
theorem ziP {D:zU} {h:zX} (hD:On D 0) (hl:h.enc.length≤16000):∃ D',zc7 D h=(D',0)∧On D' 0:=by
  have hf:=zpY hl
  obtain ⟨F,hF⟩:∃ F,yP (1 :: h.enc)=F:=⟨_,rfl⟩
  unfold zc7 zU.replace
  rw[hF] at hf ⊢
  rw[if_neg (by omega),if_neg (by rw[hD.off];simp),if_neg (by rw[hD.room];omega),hD.count]
  exact ⟨_,rfl,hD.off,hD.trip,hD.room⟩
theorem write_on {D:zU} {g h:zX} (hD:On D 0) (hl:h.enc.length≤16000):∃ D',zbJ D g h=(D',0)∧On D' 0:=by
  unfold zbJ
  split
  · exact ziP hD hl
  split
  · exact ⟨D,rfl,hD⟩
  obtain ⟨M,hM⟩:∃ M,zfJ g h=M:=⟨_,rfl⟩
  rw[hM]
  by_cases hr:D.room-D.file.length<(M.length:Int)
  · have e:D.append M=(D,5):=by unfold zU.append;rw[if_neg (by rw[hD.off];simp),if_pos hr]
    rw[e,if_neg (by simp),if_pos rfl]
    exact ziP hD hl
  · have hD2:On { D with file:=D.file++M } 0:=⟨hD.off,hD.trip,hD.room⟩
    have e:D.append M=({ D with file:=D.file++M },0):=by
      unfold zU.append
      rw[if_neg (by rw[hD.off];simp),if_neg hr,hD2.count]
      rfl
    rw[e,if_pos rfl]
    unfold zU.sync
    rw[if_neg (by rw[hD2.off];simp),hD2.count]
    exact ⟨_,rfl,hD.off,hD.trip,hD.room⟩
theorem zgO {D:zU} {g h:zX} (hD:On D 0) (hr:Right h) (ht:g.term≤h.term) (hb:g.base≤h.base) (hl:h.enc.length≤16000):∃ D',zb6 D g h=(D',h,0)∧On D' 0:=by
  obtain ⟨D',e,hO⟩:=write_on (g:=g) hD hl
  unfold zb6
  rw[if_neg (by rw[hD.off];simp),if_neg (by rintro (h1|h1|h1);rw[(jM h).2 hr] at h1;cases h1;omega;omega),e]
  exact ⟨D',rfl,hO⟩
theorem zpZ (l:List zO) (h:∀ x∈l,jQ x=true∧x.ok):(l.flatMap zfO).length≤300*l.length:=by
  induction l with
  | nil=>simp
  | cons x l ih=>
    have h1:=(zc6 (h x (by simp)).1 (h x (by simp)).2).2
    have h2:=ih (fun y hy=>h y (by simp[hy]))
    rw[List.flatMap_cons,List.length_append,List.length_cons]
    omega
open Go.RowKit
structure yU where
  call:zW
  reply:yH
  index:Int
abbrev yU.cells (x:yU):List Value:=[.int .i64 x.call.client,.int .i64 x.call.seq,.int .i64 x.call.cmd.kind,.string x.call.cmd.key,.int .i64 x.call.cmd.old.kind,.float .f64 x.call.cmd.old.num,.string x.call.cmd.old.text,.int .i64 x.call.cmd.val.kind,.float .f64 x.call.cmd.val.num,.string x.call.cmd.val.text,.int .i64 x.reply.code,.int .i64 x.reply.val.kind,.float .f64 x.reply.val.num,.string x.reply.val.text,.int .i64 x.index]
structure qD where
  index:Int
  entry:zO
abbrev qD.cells (x:qD):List Value:=[.int .i64 x.index,.int .i64 x.entry.term,.int .i64 x.entry.kind,.int .i64 x.entry.call.client,.int .i64 x.entry.call.seq,.int .i64 x.entry.call.cmd.kind,.string x.entry.call.cmd.key,.int .i64 x.entry.call.cmd.old.kind,.float .f64 x.entry.call.cmd.old.num,.string x.entry.call.cmd.old.text,.int .i64 x.entry.call.cmd.val.kind,.float .f64 x.entry.call.cmd.val.num,.string x.entry.call.cmd.val.text,.int .i64 x.entry.conf.full,.int .i64 x.entry.conf.wit,.int .i64 x.entry.conf.learn,.int .i64 x.entry.conf.learnWit]
structure yB where
  r:zS
  rds:List yL
  mach:jK
  applied:Int
  waits:List zdQ
  told:List yU
  done:List qD
  g:zX
  dk:zU
structure NV where
  s:Nat
  d:Nat
  fv:Value
  gs:Value
  gl:Value
  sv:Value
  lv:Value
  rv:Value
  pv:Value
  xv:Value
  wv:Value
  tv:Value
  dv:Value
abbrev yE (down:Bool) (V:NV) (N:yB):List Value:=[.pointer (some ⟨V.s,0,none⟩),.bool false,.bool down]++(N.r.cells V.sv V.lv V.rv++[V.pv,V.xv,.int .i64 N.applied,V.wv,V.tv,V.dv])
structure zeG (w0 w:World) (n:Nat) (V:NV) (N:yB):Prop where
  st:StB w V.s V.d N.g V.gs V.gl
  dk:Dsk w V.d V.fv N.dk
  gh:zcS w0 w V.gs V.gl N.g
  rh:xQ w0 w V.sv V.lv V.rv N.r N.rds
  pp:zg7 w0 w V.pv N.mach.pairs
  xx:zj0 w0 w V.xv N.mach.sess
  ww:zb7 181 11 w0 w V.wv N.waits.length (N.waits.flatMap zdQ.cells)
  ap:∀ k,V.fv.ownBlock=some k→w0.heap.size≤k∧V.gs.ownBlock≠some k∧V.sv.ownBlock≠some k
  nb:w0.heap.size≤n∧w0.heap.size≤V.s∧w0.heap.size≤V.d
structure yD (w0 w:World) (n:Nat) (V:NV) (N:yB):Prop where
  p:zeG w0 w n V N
  box:w.heap[n]? = some (.cells (yE false V N).toArray 112 (0,0))
  tt:zb7 50 15 w0 w V.tv N.told.length (N.told.flatMap yU.cells)
  dd:zb7 102 17 w0 w V.dv N.done.length (N.done.flatMap qD.cells)
def Odd (w:World) (k:Nat):Prop:=∃ (cs:Array Value) (t:TypeId) (q:Nat×Nat),w.heap[k]? = some (.cells cs t q)∧5≠t∧100≠t∧138≠t∧122≠t∧125≠t∧181≠t∧198≠t∧140≠t
theorem zgP {w:World} {e:TypeId} {k n g:Nat} {v:Value} {xs:List Value} (h:w.ownsRow 0 e k v n xs) (hg:v.ownBlock=some g) (h1:5≠e∧100≠e∧138≠e∧122≠e∧125≠e∧181≠e∧198≠e∧140≠e):Odd w g:=by
  rcases xJ h with ⟨rfl,_⟩|⟨g',cap,cur,rfl,hR,_⟩
  · simp[Value.ownBlock] at hg
  · simp[Value.ownBlock] at hg
    subst hg
    exact ⟨_,_,_,hR,h1⟩
theorem qE {w w':World} {S:Nat→Prop} {e:TypeId} {k n:Nat} {v:Value} {xs:List Value} (h:w.ownsRow 0 e k v n xs) (hM:Mod S w w') (hS:∀ k,S k→∃ (cs:Array Value) (t:TypeId) (q:Nat×Nat),w.heap[k]? = some (.cells cs t q)∧e≠t):w'.ownsRow 0 e k v n xs:=
  zN h hM (fun g hg hs=>by
    obtain ⟨cs,t,q,h1,h2⟩:=hS g hs
    exact zG h hg h1 h2 rfl)
theorem zk2 {w w':World} {S:Nat→Prop} {e:TypeId} {b:Nat} {cs:Array Value} {z:Nat×Nat} (h:w.heap[b]? = some (.cells cs e z)) (hM:Mod S w w') (hS:∀ k,S k→∃ (cs:Array Value) (t:TypeId) (q:Nat×Nat),w.heap[k]? = some (.cells cs t q)∧e≠t):w'.heap[b]? = some (.cells cs e z):=
  hM.blk h (fun hs=>by
    obtain ⟨cs',t,q,h1,h2⟩:=hS b hs
    rw[h] at h1
    injection h1 with h1
    injection h1 with _ h1
    exact h2 h1)
theorem zeG.odd {w0 w w':World} {n:Nat} {V:NV} {N:yB} {S:Nat→Prop} (h:zeG w0 w n V N) (hM:Mod S w w') (hS:∀ k,S k→Odd w k):zeG w0 w' n V N:=by
  have c1:∀ k,S k→∃ (cs:Array Value) (t:TypeId) (q:Nat×Nat),w.heap[k]? = some (.cells cs t q)∧5≠t:=fun k hk=>by obtain ⟨a,b,c,h0,h1,h2,h3,h4,h5,h6,h7,h8⟩:=hS k hk;exact ⟨a,b,c,h0,h1⟩
  have c2:∀ k,S k→∃ (cs:Array Value) (t:TypeId) (q:Nat×Nat),w.heap[k]? = some (.cells cs t q)∧100≠t:=fun k hk=>by obtain ⟨a,b,c,h0,h1,h2,h3,h4,h5,h6,h7,h8⟩:=hS k hk;exact ⟨a,b,c,h0,h2⟩
  have c3:∀ k,S k→∃ (cs:Array Value) (t:TypeId) (q:Nat×Nat),w.heap[k]? = some (.cells cs t q)∧138≠t:=fun k hk=>by obtain ⟨a,b,c,h0,h1,h2,h3,h4,h5,h6,h7,h8⟩:=hS k hk;exact ⟨a,b,c,h0,h3⟩
  have c4:∀ k,S k→∃ (cs:Array Value) (t:TypeId) (q:Nat×Nat),w.heap[k]? = some (.cells cs t q)∧122≠t:=fun k hk=>by obtain ⟨a,b,c,h0,h1,h2,h3,h4,h5,h6,h7,h8⟩:=hS k hk;exact ⟨a,b,c,h0,h4⟩
  have c5:∀ k,S k→∃ (cs:Array Value) (t:TypeId) (q:Nat×Nat),w.heap[k]? = some (.cells cs t q)∧125≠t:=fun k hk=>by obtain ⟨a,b,c,h0,h1,h2,h3,h4,h5,h6,h7,h8⟩:=hS k hk;exact ⟨a,b,c,h0,h5⟩
  have c6:∀ k,S k→∃ (cs:Array Value) (t:TypeId) (q:Nat×Nat),w.heap[k]? = some (.cells cs t q)∧181≠t:=fun k hk=>by obtain ⟨a,b,c,h0,h1,h2,h3,h4,h5,h6,h7,h8⟩:=hS k hk;exact ⟨a,b,c,h0,h6⟩
  have c7:∀ k,S k→∃ (cs:Array Value) (t:TypeId) (q:Nat×Nat),w.heap[k]? = some (.cells cs t q)∧198≠t:=fun k hk=>by obtain ⟨a,b,c,h0,h1,h2,h3,h4,h5,h6,h7,h8⟩:=hS k hk;exact ⟨a,b,c,h0,h7⟩
  have c8:∀ k,S k→∃ (cs:Array Value) (t:TypeId) (q:Nat×Nat),w.heap[k]? = some (.cells cs t q)∧140≠t:=fun k hk=>by obtain ⟨a,b,c,h0,h1,h2,h3,h4,h5,h6,h7,h8⟩:=hS k hk;exact ⟨a,b,c,h0,h8⟩
  exact {
    st:=zk2 h.st hM c7
    dk:=⟨zk2 h.dk.1 hM c8,qE h.dk.2.1 hM c1,h.dk.2.2⟩
    gh:=⟨⟨qE h.gh.1.1 hM c1,h.gh.1.2⟩,⟨qE h.gh.2.1 hM c2,h.gh.2.2⟩⟩
    rh:=⟨⟨⟨qE h.rh.hard.1.1 hM c1,h.rh.hard.1.2⟩,⟨qE h.rh.hard.2.1 hM c2,h.rh.hard.2.2⟩⟩,⟨qE h.rh.reads.1 hM c3,h.rh.reads.2⟩⟩
    pp:=⟨qE h.pp.1 hM c4,h.pp.2⟩
    xx:=⟨qE h.xx.1 hM c5,h.xx.2⟩
    ww:=⟨qE h.ww.1 hM c6,h.ww.2⟩
    ap:=h.ap
    nb:=h.nb }
theorem zeG.ext {w0 w w':World} {n:Nat} {V:NV} {N:yB} (h:zeG w0 w n V N) (hE:Ext w w'):zeG w0 w' n V N:=h.odd hE (fun _ h=>h.elim)
theorem yD.ext {w0 w w':World} {n:Nat} {V:NV} {N:yB} (h:yD w0 w n V N) (hE:Ext w w'):yD w0 w' n V N:=⟨h.p.ext hE,hE.blk h.box id,h.tt.ext hE,h.dd.ext hE⟩
theorem yD.oddBox {w0 w:World} {n:Nat} {V:NV} {N:yB} (h:yD w0 w n V N):Odd w n:=⟨_,_,_,h.box,by decide,by decide,by decide,by decide,by decide,by decide,by decide,by decide⟩
def NS (n:Nat) (V:NV) (k:Nat):Prop:=k=n∨k=V.s∨k=V.d∨V.fv.ownBlock=some k∨V.tv.ownBlock=some k∨V.dv.ownBlock=some k
structure zbM (w:World) (V V':NV):Prop where
  s:V'.s=V.s
  d:V'.d=V.d
  f:∀ k,V'.fv.ownBlock=some k→V.fv.ownBlock=some k∨w.heap.size≤k
  t:∀ k,V'.tv.ownBlock=some k→V.tv.ownBlock=some k∨w.heap.size≤k
  dd:∀ k,V'.dv.ownBlock=some k→V.dv.ownBlock=some k∨w.heap.size≤k
theorem zbM.refl (w:World) (V:NV):zbM w V V:=⟨rfl,rfl,fun _=>.inl,fun _=>.inl,fun _=>.inl⟩
theorem zbM.trans {w w1:World} {V V1 V2:NV} (h:zbM w V V1) (h2:zbM w1 V1 V2) (hs:w.heap.size≤w1.heap.size):zbM w V V2:=
  ⟨h2.s.trans h.s,h2.d.trans h.d,
   fun k hk=>(h2.f k hk).elim (h.f k) (fun e=>.inr (Nat.le_trans hs e)),
   fun k hk=>(h2.t k hk).elim (h.t k) (fun e=>.inr (Nat.le_trans hs e)),
   fun k hk=>(h2.dd k hk).elim (h.dd k) (fun e=>.inr (Nat.le_trans hs e))⟩
set_option maxRecDepth 100000
set_option maxHeartbeats 2000000
def SvOut (w0 w:World) (n:Nat) (V:NV) (N':yB) (e:Ending) (w':World):Prop:=
  e=.returned (.int .i64 0)∧∃ fv gs gl,yD w0 w' n { V with fv:=fv,gs:=gs,gl:=gl } N'∧Mod (fun k=>k=V.d∨V.fv.ownBlock=some k∨k=V.s) w w'∧∀ k,fv.ownBlock=some k→V.fv.ownBlock=some k∨w.heap.size≤k
theorem zfS {w w3:World} {s d:Nat} {fv gs gl:Value} {g:zX} {D:zU} (hS:StB w s d g gs gl) (hD:Dsk w d fv D) (hM:Mod (fun k=>k=d∨fv.ownBlock=some k∨k=s) w w3) {e:TypeId} {k m:Nat} {v:Value} {xs:List Value} (h:w.ownsRow 0 e k v m xs) (h1:5≠e∨∀ j,fv.ownBlock=some j→v.ownBlock≠some j) (h2:e≠140) (h3:e≠198):w3.ownsRow 0 e k v m xs:=
  zN h hM (fun j hj hs=>by
    rcases hs with e'|e'|e'
    · exact zG h hj hD.1 h2 e'
    · rcases h1 with h1|h1
      · exact jT hD.2.1 h h1 e' hj
      · exact h1 j e' hj
    · exact zG h hj hS h3 e')
theorem zp0 (w0 w:World) (n:Nat) (V:NV) (N:yB) (h:zX) (D':zU) (sv lv:Value) (U:Nat→Prop) (hE0:w0.heap.size≤w.heap.size) (hN:yD w0 w n V N) (hv:xP w U sv lv h) (hU:∀ k,U k→k≠V.d∧V.fv.ownBlock≠some k) (hl:h.log.length≤12700) (hgl:N.g.log.length≤1000000) (hs:h.snap.length≤1000000) (hR:zb6 N.dk N.g h=(D',h,0)):
  Calls Tryz.prog 94 #[.pointer (some ⟨n,0,none⟩),.agg (h.cells sv lv).toArray] w (SvOut w0 w n V { N with g:=h,dk:=D' }):=by
 obtain ⟨b,hb⟩:∃ b,w.heap.size=b:=⟨_,rfl⟩
 obtain ⟨As,cs,Al,cl,rfl,rfl⟩:=hv.forms
 obtain ⟨Bs,bs,Bl,bl,e1,e2⟩:=hN.p.gh.forms
 have hsa:∀ W,Ext w W→Calls Tryz.prog 170 #[.pointer (some ⟨V.s,0,none⟩),.agg (h.cells (.slice As h.snap.length cs) (.slice Al h.log.length cl)).toArray] W (zjX W V.s V.d V.fv V.gs V.gl (D',h,0)):=fun W hE=>by
  have hNe:=hN.ext hE
  have h0:=st_save W _ U V.s V.d N.g h Bs _ bs Bl _ bl As _ cs Al _ cl V.fv N.dk (by rw[←e1,←e2];exact hNe.p.st) hNe.p.dk (by rw[←e1,←e2];exact hNe.p.gh.mem) rfl rfl (hv.ext hE) rfl rfl hU hl hgl hs
  rw[hR,←e1,←e2] at h0
  exact h0
 obtain ⟨sn,hsn⟩:∃ n,h.snap.length=n:=⟨_,rfl⟩
 obtain ⟨ln,hln⟩:∃ n,h.log.length=n:=⟨_,rfl⟩
 rw[hsn,hln] at hsa ⊢
 obtain ⟨Hsa,HN,HE0⟩:=hJ3 hsa hN hE0
 clear hsa hN hv hU hl hgl hs hR e1 e2 hsn hln hE0
 go_enter Tryz.func94,Tryz.ntmps94
 go_upto_region 1 with fail
 obtain ⟨W1,hW1⟩:∃ W1,w.alloc (.cells (h.cells (.slice As sn cs) (.slice Al ln cl)).toArray 61)=W1:=⟨_,rfl⟩
 have hE1:Ext w W1:=hW1▸((Mod.refl _ w).alloc _)
 have hb1:W1.heap[b]? = some (.cells (h.cells (.slice As sn cs) (.slice Al ln cl)).toArray 61 (0,0)):=hb▸hW1▸zI _ _
 rw[hW1]
 clear hW1
 have p0:W1.cell? ⟨n,0,none⟩=some (.pointer (some ⟨V.s,0,none⟩)):=zA (HN.out.ext hE1).box rfl
 have y0:W1.cell? ⟨b,0,none⟩=some _:=zA hb1 rfl
 have y1:W1.cell? ⟨b,1,none⟩=some _:=zA hb1 rfl
 have y2:W1.cell? ⟨b,2,none⟩=some _:=zA hb1 rfl
 have y3:W1.cell? ⟨b,3,none⟩=some _:=zA hb1 rfl
 have y4:W1.cell? ⟨b,4,none⟩=some _:=zA hb1 rfl
 have y5:W1.cell? ⟨b,5,none⟩=some _:=zA hb1 rfl
 have y6:W1.cell? ⟨b,6,none⟩=some _:=zA hb1 rfl
 have y7:W1.cell? ⟨b,7,none⟩=some _:=zA hb1 rfl
 have y8:W1.cell? ⟨b,8,none⟩=some _:=zA hb1 rfl
 have y9:W1.cell? ⟨b,9,none⟩=some _:=zA hb1 rfl
 have HE1:=hJ hE1
 clear hE1 hb1
 go_still_tail 5,(by kernel_rfl)
 go_wp2_with (go_at_call 170;refine (Hsa.out _ (HE1.out.ext ((Mod.refl (fun _=>False) W1).drew))).mono ?_;rintro e w3 ⟨rfl,fv,gs,gl,hD,hS,hM,hf,hg⟩)
 go_ret
 rcases hg with ⟨_,_,h0⟩|⟨hH,hgf⟩
 · exact absurd rfl h0
 have hE2:Ext w W1.drew:=HE1.out.ext ((Mod.refl (fun _=>False) W1).drew)
 have hP:=(HN.out.ext hE2).p
 have hM2:Mod (fun k=>k=V.d∨V.fv.ownBlock=some k∨k=V.s) w w3:=(Ext.mod hE2 _).trans hM (fun k _ h=>h)
 have hs0:w0.heap.size≤W1.drew.heap.size:=Nat.le_trans HE0.out hE2.size
 have key:∀ {e:TypeId} {k m:Nat} {v:Value} {xs:List Value},W1.drew.ownsRow 0 e k v m xs→(5≠e∨∀ j,V.fv.ownBlock=some j→v.ownBlock≠some j)→e≠140→e≠198→w3.ownsRow 0 e k v m xs:=fun h h1 h2 h3=>zfS hP.st hP.dk hM h h1 h2 h3
 have hN2:=HN.out.ext hE2
 refine ⟨rfl,fv,gs,gl,⟨{
  st:=hS
  dk:=hD
  gh:=⟨⟨hH.1.1,fun k hk=>Nat.le_trans hs0 (hH.1.2 k hk)⟩,jH hH.2 hs0⟩
  rh:=⟨⟨⟨key hP.rh.hard.1.1 (.inr fun j hj=>(hP.ap j hj).2.2) (by decide) (by decide),hP.rh.hard.1.2⟩,⟨key hP.rh.hard.2.1 (.inl (by decide)) (by decide) (by decide),hP.rh.hard.2.2⟩⟩,⟨key hP.rh.reads.1 (.inl (by decide)) (by decide) (by decide),hP.rh.reads.2⟩⟩
  pp:=⟨key hP.pp.1 (.inl (by decide)) (by decide) (by decide),hP.pp.2⟩
  xx:=⟨key hP.xx.1 (.inl (by decide)) (by decide) (by decide),hP.xx.2⟩
  ww:=⟨key hP.ww.1 (.inl (by decide)) (by decide) (by decide),hP.ww.2⟩
  ap:=fun k hk=>⟨by
    rcases hf k hk with e|e
    · exact (hP.ap k e).1
    · omega,fun e=>hgf k e hk,fun e=>by
    rcases hf k hk with e'|e'
    · exact (hP.ap k e').2.2 e
    · have:=za0 hP.rh.hard.1.1 e;omega⟩
  nb:=hP.nb },hM.blk hN2.box (fun hs=>by
   rcases hs with e|e|e
   · have:=hN2.box;rw[e,hP.dk.1] at this;injection this with this;injection this with _ this;exact absurd this (by decide)
   · exact zG hP.dk.2.1 e hN2.box (by decide) rfl
   · have:=hN2.box;rw[e,hP.st] at this;injection this with this;injection this with _ this;exact absurd this (by decide)),⟨key hN2.tt.1 (.inl (by decide)) (by decide) (by decide),hN2.tt.2⟩,⟨key hN2.dd.1 (.inl (by decide)) (by decide) (by decide),hN2.dd.2⟩⟩,hM2,fun k hk=>(hf k hk).elim .inl (fun e=>.inr (Nat.le_trans hE2.size e))⟩
def ClOut (w:World) (S:Nat→Prop) (E:World→Prop) (r:zS) (rds:List yL) (e:Ending) (w':World):Prop:=∃ sv lv rv,e=.returned (.tuple #[.agg (r.cells sv lv rv).toArray,.slice none 0 0,.int .i64 0])∧xQ w w' sv lv rv r rds∧Mod S w w'∧E w'
theorem n_call1 (r:zS) (c:zW) (cb:Nat) (sv lv rv:Value) (w:World) (T:Nat→Prop) (hm:RM w T sv lv rv r []) (hL:zaD r) (hc:yX c=0) (hco:c.ok) (hrd:0≤r.round∧r.round<1000000) (hcb:w.heap[cb]? = some (.cells c.cells.toArray 29 (0,0))):
  Calls Tryz.prog 43 #[.agg (r.cells sv lv rv).toArray,.pointer (some ⟨cb,0,none⟩)] w (ClOut w (fun _=>False) (fun _=>True) r [(⟨c,r.commit,r.round+1,1⟩:yL)]):=by
 obtain ⟨As,cs,Al,cl,Ra,rc,rfl,rfl,rfl⟩:=hm.forms
 obtain ⟨sn,hsn⟩:∃ n,r.hard.snap.length=n:=⟨_,rfl⟩
 obtain ⟨ln,hln⟩:∃ n,r.hard.log.length=n:=⟨_,rfl⟩
 rw[hsn,hln,show ([]:List yL).length=0 from rfl] at hm ⊢
 obtain ⟨b,hb⟩:∃ b,w.heap.size=b:=⟨_,rfl⟩
 have hcon:=fun W (hE:Ext w W)=>r_Ask r c _ _ _ W T (hm.ext hE) hL hc hco hrd
 obtain ⟨Hcon,Hcb⟩:=hJ2 hcon hcb
 clear hcon hm hL hc hco hsn hln hcb hrd
 go_enter Tryz.func43,Tryz.ntmps43
 go_upto_region 1 with fail
 obtain ⟨W1,hW1⟩:∃ W,(w.alloc (.cells (r.cells (.slice As sn cs) (.slice Al ln cl) (.slice Ra 0 rc)).toArray 65)).alloc (.cells rZ.toArray 65)=W:=⟨_,rfl⟩
 have hE1:Ext w W1:=hW1▸(((Mod.refl _ w).alloc _).alloc _)
 have hb1:W1.heap[b]? = some (.cells (r.cells (.slice As sn cs) (.slice Al ln cl) (.slice Ra 0 rc)).toArray 65 (0,0)):=hb▸hW1▸xE _ _ _
 have hz1:W1.heap[b+1]? = some (.cells rZ.toArray 65 (0,0)):=by rw[←hW1,←hb];exact xA _ _ _
 obtain ⟨HE1,Hb1,Hz1⟩:=hJ3 hE1 hb1 hz1
 rw[hW1]
 clear hW1 hE1 hb1 hz1
 have hld:(Instr.loadAt 29 (.pointer (some ⟨cb,0,none⟩))).run Tryz.prog W1=.ok (.agg c.cells.toArray) W1:=ld0 (cs:=c.cells) zV (HE1.out.blk Hcb.out id)
 have Hld:=hJ hld
 clear hld
 go_upto_region 2 with (first
  | (refine zK ?_;first
    | (refine lD 65 b 0 (yY Hb1.out) ?_)
    | (refine lD 29 cb 0 Hld.out ?_))
  | (go_at_call 44;refine (Hcon.out _ HE1.out).mono ?_;rintro e w2 ⟨sv2,lv2,rv2,rfl,hF2,hE2⟩;obtain ⟨A5,n5,c5,rfl⟩:∃ A n c,sv2=.slice A n c:=⟨_,_,zC hF2.hard.1.1 |>.choose_spec⟩;obtain ⟨B5,m5,d5,rfl⟩:∃ A n c,lv2=.slice A n c:=⟨_,_,zC hF2.hard.2.1 |>.choose_spec⟩;obtain ⟨C5,k5,e5,rfl⟩:∃ A n c,rv2=.slice A n c:=⟨_,_,zC hF2.reads.1 |>.choose_spec⟩;have Hb2:=hJ (hE2.blk Hb1.out id))
  | (refine zF ?_;first
    | refine stQ rfl 65 _ _ rfl 40 b 0 (.agg (r.cells (.slice A5 n5 c5) (.slice B5 m5 d5) (.slice C5 k5 e5)).toArray) (r.cells (.slice A5 n5 c5) (.slice B5 m5 d5) (.slice C5 k5 e5)) yA.2 _ _ (r.cells (.slice A5 n5 c5) (.slice B5 m5 d5) (.slice C5 k5 e5)) Hb2.out rfl ?_;intro W3 hbW3 hmW3 hsW3))
 have HF3:=hJ ((hF2.up HE1.out).box Hb2.out hmW3 (by decide) (by decide) (by decide))
 have Hz3:=hJ (hmW3.blk (hE2.blk Hz1.out id) (by omega))
 have HM3:=hJ (show Mod (zD w.heap.size) w W3 from (Ext.mod (HE1.out.ext hE2) _).trans hmW3 (fun k _ e=>by unfold zD;omega))
 have Hb3:=hJ hbW3
 clear hF2 hbW3 hmW3 hsW3 hE2
 go_wp2_with (first
  | (refine zK ?_;refine lD 65 b 0 (yY Hb3.out) ?_)
  | (refine zF ?_;refine stQ rfl 65 _ _ rfl 40 (b+1) 0 (.agg (r.cells (.slice A5 n5 c5) (.slice B5 m5 d5) (.slice C5 k5 e5)).toArray) (r.cells (.slice A5 n5 c5) (.slice B5 m5 d5) (.slice C5 k5 e5)) yA.2 _ _ (r.cells (.slice A5 n5 c5) (.slice B5 m5 d5) (.slice C5 k5 e5)) Hz3.out rfl ?_;intro W6 hbW6 hmW6 hsW6))
 exact bodyPost_ret (zaB rfl _ _ (b+1) 65 (r.cells (.slice A5 n5 c5) (.slice B5 m5 d5) (.slice C5 k5 e5)) yA rfl hbW6 rfl) rfl ⟨_,_,_,rfl,HF3.out.box Hz3.out hmW6 (by decide) (by decide) (by decide),Mod.toExt (HM3.out.trans hmW6 (fun k _ e=>by unfold zD;omega)),trivial⟩
theorem znB (r:zS) (c:zW) (cb ab:Nat) (sv lv rv:Value) (w:World) (T:Nat→Prop) (hm:RM w T sv lv rv r []) (hL:zaD r) (hc:yX c=0) (hco:c.ok) (hn:r.hard.log.length<64) (hcb:w.heap[cb]? = some (.cells c.cells.toArray 29 (0,0))) (hab:w.heap[ab]? = some (.cells [Value.int .i64 0].toArray 3 (0,0))):
  Calls Tryz.prog 105 #[.agg (r.cells sv lv rv).toArray,.pointer (some ⟨cb,0,none⟩),.pointer (some ⟨ab,0,none⟩)] w (ClOut w (fun k=>k=ab) (fun w'=>w'.heap[ab]? = some (.cells [Value.int .i64 (r.last+1)].toArray 3 (0,0))) (r.put (zT r.hard.term c)) []):=by
 obtain ⟨As,cs,Al,cl,Ra,rc,rfl,rfl,rfl⟩:=hm.forms
 obtain ⟨sn,hsn⟩:∃ n,r.hard.snap.length=n:=⟨_,rfl⟩
 obtain ⟨ln,hln⟩:∃ n,r.hard.log.length=n:=⟨_,rfl⟩
 rw[hsn,hln,show ([]:List yL).length=0 from rfl] at hm ⊢
 obtain ⟨b,hb⟩:∃ b,w.heap.size=b:=⟨_,rfl⟩
 have hcon:=fun W (hE:Ext w W)=>zpR r c _ _ _ W T (hm.ext hE) hL hc hco hn
 obtain ⟨Hcon,Hcb,Hab⟩:=hJ3 hcon hcb hab
 clear hcon hm hL hc hco hsn hln hcb hab hn
 go_enter Tryz.func105,Tryz.ntmps105
 go_upto_region 2 with fail
 obtain ⟨W1,hW1⟩:∃ W,(w.alloc (.cells (r.cells (.slice As sn cs) (.slice Al ln cl) (.slice Ra 0 rc)).toArray 65)).alloc (.cells rZ.toArray 65)=W:=⟨_,rfl⟩
 have hE1:Ext w W1:=hW1▸(((Mod.refl _ w).alloc _).alloc _)
 have hb1:W1.heap[b]? = some (.cells (r.cells (.slice As sn cs) (.slice Al ln cl) (.slice Ra 0 rc)).toArray 65 (0,0)):=hb▸hW1▸xE _ _ _
 have hz1:W1.heap[b+1]? = some (.cells rZ.toArray 65 (0,0)):=by rw[←hW1,←hb];exact xA _ _ _
 obtain ⟨HE1,Hb1,Hz1⟩:=hJ3 hE1 hb1 hz1
 rw[hW1]
 clear hW1 hE1 hb1 hz1
 have hld:(Instr.loadAt 29 (.pointer (some ⟨cb,0,none⟩))).run Tryz.prog W1=.ok (.agg c.cells.toArray) W1:=ld0 (cs:=c.cells) zV (HE1.out.blk Hcb.out id)
 have Hld:=hJ hld
 clear hld
 go_upto_region 3 with (first
  | (refine zK ?_;first
    | (refine lD 65 b 0 (yY Hb1.out) ?_)
    | (refine lD 29 cb 0 Hld.out ?_))
  | (go_at_call 106;refine (Hcon.out _ HE1.out).mono ?_;rintro e w2 ⟨sv2,lv2,rv2,rfl,hF2,hE2⟩;obtain ⟨A5,n5,c5,rfl⟩:∃ A n c,sv2=.slice A n c:=⟨_,_,zC hF2.hard.1.1 |>.choose_spec⟩;obtain ⟨B5,m5,d5,rfl⟩:∃ A n c,lv2=.slice A n c:=⟨_,_,zC hF2.hard.2.1 |>.choose_spec⟩;obtain ⟨C5,k5,e5,rfl⟩:∃ A n c,rv2=.slice A n c:=⟨_,_,zC hF2.reads.1 |>.choose_spec⟩;have Hb2:=hJ (hE2.blk Hb1.out id);have Ha2:=hJ ((HE1.out.ext hE2).blk Hab.out id))
  | (refine zF ?_;first
    | refine stQ rfl 65 _ _ rfl 40 b 0 (.agg ((r.put (zT r.hard.term c)).cells (.slice A5 n5 c5) (.slice B5 m5 d5) (.slice C5 k5 e5)).toArray) ((r.put (zT r.hard.term c)).cells (.slice A5 n5 c5) (.slice B5 m5 d5) (.slice C5 k5 e5)) yA.2 _ _ ((r.put (zT r.hard.term c)).cells (.slice A5 n5 c5) (.slice B5 m5 d5) (.slice C5 k5 e5)) Hb2.out rfl ?_;intro W3 hbW3 hmW3 hsW3;have Ha3:=hJ (hmW3.blk Ha2.out (fun e=>by have h1:=(Array.getElem?_eq_some_iff.1 Hab.out).1;omega))
    | refine stQ rfl 3 _ _ rfl 1 ab 0 (.int .i64 (r.last+1)) [.int .i64 (r.last+1)] zQ.size _ _ [.int .i64 (r.last+1)] Ha3.out rfl ?_;intro W4 hbW4 hmW4 hsW4))
 have hba:¬ b=ab:=fun e=>by have h1:=(Array.getElem?_eq_some_iff.1 Hab.out).1;omega
 have HF3:=hJ ((hF2.up HE1.out).box Hb2.out hmW3 (by decide) (by decide) (by decide))
 have Hz3:=hJ (hmW3.blk (hE2.blk Hz1.out id) (by omega))
 have HM3:=hJ (show Mod (zD w.heap.size) w W3 from (Ext.mod (HE1.out.ext hE2) _).trans hmW3 (fun k _ e=>by unfold zD;omega))
 have Hb3:=hJ hbW3
 clear hF2 hbW3 hmW3 hsW3 hE2
 have HF4:=hJ (HF3.out.box Ha3.out hmW4 (by decide) (by decide) (by decide))
 have Hz4:=hJ (hmW4.blk Hz3.out (fun e=>by have h1:=(Array.getElem?_eq_some_iff.1 Hab.out).1;omega))
 have Hb3b:=hJ (hmW4.blk Hb3.out hba)
 obtain ⟨Ha4,HM4⟩:=hJ2 hbW4 hmW4
 clear hbW4 hmW4 hsW4
 go_wp2_with (first
  | (refine zK ?_;refine lD 65 b 0 (yY Hb3b.out) ?_)
  | (refine zF ?_;refine stQ rfl 65 _ _ rfl 40 (b+1) 0 (.agg ((r.put (zT r.hard.term c)).cells (.slice A5 n5 c5) (.slice B5 m5 d5) (.slice C5 k5 e5)).toArray) ((r.put (zT r.hard.term c)).cells (.slice A5 n5 c5) (.slice B5 m5 d5) (.slice C5 k5 e5)) yA.2 _ _ ((r.put (zT r.hard.term c)).cells (.slice A5 n5 c5) (.slice B5 m5 d5) (.slice C5 k5 e5)) Hz4.out rfl ?_;intro W6 hbW6 hmW6 hsW6))
 exact bodyPost_ret (zaB rfl _ _ (b+1) 65 ((r.put (zT r.hard.term c)).cells (.slice A5 n5 c5) (.slice B5 m5 d5) (.slice C5 k5 e5)) yA rfl hbW6 rfl) rfl ⟨_,_,_,rfl,HF4.out.box Hz4.out hmW6 (by decide) (by decide) (by decide),Mod.mono (((HM3.out.mono (T:=fun k=>w.heap.size≤k∨k=ab) (fun k _ e=>.inl e)).trans HM4.out (fun k _ e=>.inr e)).trans hmW6 (fun k _ e=>.inl (by omega))) (fun k hk e=>by omega),hmW6.blk Ha4.out (fun e=>by have h1:=(Array.getElem?_eq_some_iff.1 Hab.out).1;omega)⟩
theorem ziQ:Sca Tryz.prog 31:=⟨fun w=>by kernel_rfl,by kernel_rfl⟩
theorem zaF:Sca Tryz.prog 110:=⟨fun w=>by kernel_rfl,by kernel_rfl⟩
theorem yD.turn {w0 w w':World} {n:Nat} {V V':NV} {N N':yB} (h:yD w0 w n V N) (hM:Mod (fun k=>k=n) w w') (hb:w'.heap[n]? = some (.cells (yE false V' N').toArray 112 (0,0))) (hp:zeG w0 w' n V N→zeG w0 w' n V' N')
    (htt:V'.tv=V.tv∧N'.told=N.told) (hdd:V'.dv=V.dv∧N'.done=N.done):yD w0 w' n V' N':=
  ⟨hp (h.p.odd hM (fun k hk=>hk▸h.oddBox)),hb,by rw[htt.1,htt.2];exact ⟨zN h.tt.1 hM (fun g hg=>zG h.tt.1 hg h.box (by decide)),h.tt.2⟩,by rw[hdd.1,hdd.2];exact ⟨zN h.dd.1 hM (fun g hg=>zG h.dd.1 hg h.box (by decide)),h.dd.2⟩⟩
theorem znC (w0 w:World) (n nb cb ab:Nat) (V:NV) (N:yB) (c:zW) (i:Int) (h0:w0.heap.size≤w.heap.size) (hN:yD w0 w n V N) (hw:V.wv=.slice none 0 0) (hc:yX c=0) (hi:1≤i∧i≤1099511627776) (hnb:w.heap[nb]? = some (.cells [Value.pointer (some ⟨n,0,none⟩)].toArray 31 (0,0))) (hcb:w.heap[cb]? = some (.cells c.cells.toArray 29 (0,0))) (hab:w.heap[ab]? = some (.cells [Value.int .i64 i].toArray 3 (0,0))):
  Calls Tryz.prog 107 #[.pointer (some ⟨nb,0,none⟩),.pointer (some ⟨cb,0,none⟩),.pointer (some ⟨ab,0,none⟩)] w fun e w'=>e=.returned (.tuple #[])∧∃ wv,yD w0 w' n { V with wv:=wv } { N with waits:=[⟨c,i⟩] }∧Mod (fun k=>k=n) w w':=by
 obtain ⟨W1,hW1⟩:∃ W,w.drew=W:=⟨_,rfl⟩
 have hE1:Ext w W1:=hW1▸(Mod.refl _ w).drew
 have HN1:=hJ (hN.ext hE1)
 have Hnb:=hJ (hE1.blk hnb id)
 have Hcb:=hJ (hE1.blk hcb id)
 have Hab:=hJ (hE1.blk hab id)
 have H0:=hJ (Nat.le_trans h0 hE1.size)
 obtain ⟨HE1,Hw,Hc,Hi⟩:=hJ4 hE1 hw hc hi
 clear hN hnb hcb hab hE1 hw hc hi h0
 go_enter Tryz.func107,Tryz.ntmps107
 go_wp2_with fail
 refine yZ (fun W=>Ext W1 W) 10 (by show Ext W1 w.drew;rw[hW1];exact Mod.refl _ _) (fun hS=>?_)
 rw[hW1] at hS ⊢
 clear hW1
 refine tU 0 6 (.pointer (some ⟨n,0,none⟩)) hS nb 0 (fun W' hW'=>zL ziQ (hW'.blk Hnb.out id) rfl) ?_
 try simp only[pL]
 iterate 2
  (first|refine tP 1 7 ?_ hS (fun W'=>?_) ?_|refine tP 2 8 ?_ hS (fun W'=>?_) ?_);rotate_left;· go_simp;try rfl
  try simp only[pL]
 refine tU 3 9 (.slice none 0 0) hS n 46 (fun W' hW'=>zL zaF (hW'.blk HN1.out.box id) (show some V.wv=_ by rw[Hw.out])) ?_
 try simp only[pL]
 refine tU 4 10 (.agg c.cells.toArray) hS cb 0 (fun W' hW'=>ld0 zV (hW'.blk Hcb.out id)) ?_
 try simp only[pL]
 refine tU 5 11 (.int .i64 i) hS ab 0 (fun W' hW'=>zL zQ (hW'.blk Hab.out id) rfl) ?_
 try simp only[pL]
 refine jP 6 (fun K hK=>?_)
 go_simp
 go_wp2_with fail
 refine (g_put0 c i _ Hc.out Hi.out).mono ?_
 rintro e w2 ⟨v2,rfl,hN2,hE2⟩
 obtain ⟨A2,c2,rfl⟩:=zC hN2.1
 have HN2:=hJ (show zb7 181 11 w0 w2 (.slice A2 1 c2) 1 (zdQ.cells ⟨c,i⟩) from ⟨hN2.1,fun g hg=>Nat.le_trans (Nat.le_trans H0.out hS.size) (hN2.2 g hg)⟩)
 clear hN2
 have hX:=hS.ext hE2
 go_simp
 refine hK.out _ _ hX (fun hS=>?_)
 clear hK K hX
 try simp only[pL]
 iterate 3
  (first|refine tP 7 5 ?_ hS (fun W'=>?_) ?_|refine tP 8 13 ?_ hS (fun W'=>?_) ?_|refine tP 9 14 ?_ hS (fun W'=>?_) ?_);rotate_left;· go_simp;try rfl
  try simp only[pL]
 refine xN 10 rfl ?_
 simp only[List.drop_succ_cons,List.drop_zero]
 have HN3:=hJ (HN1.out.ext hS)
 have Hq3:=hJ HN3.out.box
 have HE3:=hJ (HE1.out.ext hS)
 have Hnb3:=hJ (hS.blk Hnb.out id)
 clear hS hE2
 go_wp2_with (first
  | (refine zK ?_;refine lD 31 nb 0 (zL ziQ Hnb3.out rfl) ?_)
  | (refine zF ?_;refine stQ rfl 110 _ _ rfl 1 n 46 (.slice A2 1 c2) [.slice A2 1 c2] zaF.size _ _ (yE false { V with wv:=.slice A2 1 c2 } { N with waits:=[⟨c,i⟩] }) Hq3.out rfl ?_;intro W4 hbW4 hmW4 hsW4))
 go_end0
 refine ⟨rfl,⟨.slice A2 1 c2,HN3.out.turn hmW4 hbW4 (fun hP=>⟨hP.st,hP.dk,hP.gh,hP.rh,hP.pp,hP.xx,⟨?_,HN2.out.2⟩,hP.ap,hP.nb⟩) ⟨rfl,rfl⟩ ⟨rfl,rfl⟩⟩,(Ext.mod HE3.out _).trans hmW4 (fun k _ e=>e)⟩
 have h5:=zN HN2.out.1 hmW4 (fun g hg=>zG HN2.out.1 hg Hq3.out (by decide))
 simpa using h5
end Go.Proofs.YtjbkjhhjofeldaaGreat
