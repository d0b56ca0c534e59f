/-
 A node that is down: Take; a message in memory; clients' numbers. Conditions: as each theorem names them.
-/
import Derived.Test.YtjbkjhhjofeldaaGreatK0
set_option maxRecDepth 100000
set_option maxHeartbeats 2000000
namespace Go.Proofs.YtjbkjhhjofeldaaGreat
set_option linter.unusedSimpArgs false
set_option linter.unusedVariables false
open Go.RowKit
structure AHead where
 kind:Int
 src:Int
 dst:Int
 term:Int
 index:Int
 logTerm:Int
 commit:Int
 round:Int
 yes:Bool
 entV:Value
 ents:List zO
 conf:jB
 snapV:Value
 snap:List UInt8
 innV:Value
 inn:Nat
abbrev AHead.cells (h:AHead):List Value:=[.int .i64 h.kind,.int .i64 h.src,.int .i64 h.dst,.int .i64 h.term,.int .i64 h.index,.int .i64 h.logTerm,.int .i64 h.commit,.int .i64 h.round,.bool h.yes,h.entV,.int .i64 h.conf.full,.int .i64 h.conf.wit,.int .i64 h.conf.learn,.int .i64 h.conf.learnWit,h.snapV,h.innV]
abbrev AHead.ints (h:AHead):List Int:=[h.kind,h.src,h.dst,h.term,h.index,h.logTerm,h.commit,h.round]
def AHead.ok (w:World) (T:Nat→Prop) (h:AHead):Prop:=
 (∀ n∈h.ints,I64 n)∧zoU w T h.entV h.ents∧h.conf.ok∧Byt w T h.snapV h.snap∧(∃ A c,h.innV=.slice A h.inn c)∧h.inn≤maxLen
theorem AHead.ok.mod {w w':World} {S T:Nat→Prop} {h:AHead} (k:h.ok w T) (hm:Mod S w w') (hd:∀ g,T g→¬ S g):h.ok w' T:=
 ⟨k.1,k.2.1.mod hm hd,k.2.2.1,k.2.2.2.1.mod hm hd,k.2.2.2.2⟩
theorem headAt {w:World} {T:Nat→Prop} {A:Option Addr} {n c:Nat} {l:List AHead} (h:Sl w T 16 (.slice A n c) n (l.flatMap AHead.cells)) {i:Nat} (hi:i<n):
  ∃ g off x,A=some ⟨g,off,none⟩∧T g∧l[i]? = some x∧∀ j u,x.cells[j]? = some u→w.cell? ⟨g,off+i*16+j,none⟩=some u:=by
 obtain ⟨hl,A',c',e,hn,hc,hx⟩:=h
 injection e with e1 e2 e3;subst e1;subst e3
 obtain ⟨g,off,rfl,hT,hcell⟩:=hx (by omega)
 have hll:l.length=n:=by rw[ziC (k:=16) (fun _=>rfl)] at hl;omega
 have hget:l[i]? = some (l[i]'(by omega)):=List.getElem?_eq_getElem (by omega)
 refine ⟨g,off,l[i]'(by omega),rfl,hT,hget,fun j u hu=>?_⟩
 have hj:j<16:=(List.getElem?_eq_some_iff.1 hu).1
 rw[Nat.add_assoc]
 exact hcell _ u (by rw[zdI (k:=16) (fun _=>rfl) l i j _ hget hj];exact hu)
def Heads (w:World) (T:Nat→Prop) (v:Value) (l:List AHead):Prop:=Sl w T 16 v l.length (l.flatMap AHead.cells)∧∀ x∈l,x.ok w T
theorem Heads.mod {w w':World} {S T:Nat→Prop} {v:Value} {l:List AHead} (h:Heads w T v l) (hm:Mod S w w') (hd:∀ g,T g→¬ S g):Heads w' T v l:=⟨h.1.mod hm hd,fun x hx=>(h.2 x hx).mod hm hd⟩
theorem Heads.at {w:World} {T:Nat→Prop} {A:Option Addr} {n c:Nat} {l:List AHead} (h:Heads w T (.slice A n c) l) {i:Nat} (hi:i<n):
  ∃ g off x,A=some ⟨g,off,none⟩∧T g∧l[i]? = some x∧x.ok w T∧∀ j u,x.cells[j]? = some u→w.cell? ⟨g,off+i*16+j,none⟩=some u:=by
 have hl:l.length=n:=by obtain ⟨_,_,_,e,_⟩:=h.1;injection e with _ e _;exact e.symm
 have h1:=h.1
 rw[hl] at h1
 obtain ⟨g,off,x,h2,h3,h4,h5⟩:=headAt h1 hi
 exact ⟨g,off,x,h2,h3,h4,h.2 x (List.mem_of_getElem? h4),h5⟩
def Msg3 (w:World) (T:Nat→Prop) (h:AHead) (ins:List AHead):Prop:=h.ok w T∧h.inn=ins.length∧Heads w T h.innV ins∧∀ x∈ins,∃ l:List AHead,x.inn=l.length∧Heads w T x.innV l
theorem Msg3.mod {w w':World} {S T:Nat→Prop} {h:AHead} {l:List AHead} (k:Msg3 w T h l) (hm:Mod S w w') (hd:∀ g,T g→¬ S g):Msg3 w' T h l:=
 ⟨k.1.mod hm hd,k.2.1,k.2.2.1.mod hm hd,fun x hx=>by obtain ⟨l,h1,h2⟩:=k.2.2.2 x hx;exact ⟨l,h1,h2.mod hm hd⟩⟩
theorem n_TakeDown (w:World) (n:Nat) (V:NV) (N:yB) (h:AHead) (hn:w.heap[n]? = some (.cells (yE true V N).toArray 112 (0,0))):Calls Tryz.prog 38 #[.pointer (some ⟨n,0,none⟩),.agg #[.int .i64 h.kind,.int .i64 h.src,.int .i64 h.dst,.int .i64 h.term,.int .i64 h.index,.int .i64 h.logTerm,.int .i64 h.commit,.int .i64 h.round,.bool h.yes,h.entV,.int .i64 h.conf.full,.int .i64 h.conf.wit,.int .i64 h.conf.learn,.int .i64 h.conf.learnWit,h.snapV,h.innV]] w (OffOut w):=by
 obtain ⟨b,hb0⟩:∃ b,w.heap.size=b:=⟨_,rfl⟩
 have hst:=fun W (hE:Ext w W)=>n_stepDown W n V N 85 45 #[.pointer (some ⟨b,0,none⟩)] #[] (hE.blk hn id)
 obtain ⟨Hst,Hn⟩:=hJ2 hst hn
 clear hst hn
 have hmf:∀ (fn:Fn) (first cap:Array Value) (w:World),(Instr.makeFunc fn first cap).run Tryz.prog w=.ok (.func fn first cap) w:=fun _ _ _ _=>rfl
 go_enter Tryz.func38,Tryz.ntmps38
 go_upto_region 1 with fail
 obtain ⟨W1,hW1⟩:∃ W,w.alloc (.cells #[.int .i64 h.kind,.int .i64 h.src,.int .i64 h.dst,.int .i64 h.term,.int .i64 h.index,.int .i64 h.logTerm,.int .i64 h.commit,.int .i64 h.round,.bool h.yes,h.entV,.int .i64 h.conf.full,.int .i64 h.conf.wit,.int .i64 h.conf.learn,.int .i64 h.conf.learnWit,h.snapV,h.innV] 92)=W:=⟨_,rfl⟩
 have hE1:Ext w W1:=hW1▸((Mod.refl _ w).alloc _)
 rw[hW1]
 clear hW1
 have HE1:=hJ hE1
 have p2:W1.cell? ⟨n,2,none⟩=some (.bool true):=zA (hE1.blk Hn.out id) rfl
 clear hE1
 go_wp2_with (go_at_call 42;refine (Hst.out _ HE1.out).mono ?_;rintro e w2 ⟨rfl,h2⟩)
 have HF:=hJ (show OffOut w (.returned (.tuple #[.slice none 0 0,.int .i64 4])) w2 from ⟨rfl,HE1.out.ext h2⟩)
 clear h2
 first|(go_end0;exact HF.out)|(go_ret2;exact HF.out)|(go_ret;exact HF.out)
theorem zn5.ses {w w':World} {pv v:Value} {m:jK} (h:zn5 w w' pv v m):Ses w' (fun g=>v.ownBlock=some g) v m.sess:=h.2.1.ses
theorem more_put (g:zX) (x:zO):(zfJ g (g.put x)).length≠0:=by
  have hc:=zo4 (g.put x).log g.log
  have hl:0<((g.put x).log.drop (ze0 (g.put x).log g.log)).length:=by
    rw[List.length_drop]
    show 0<(g.log++[x]).length-_
    rw[List.length_append]
    simp
    omega
  rcases he:(g.put x).log.drop (ze0 (g.put x).log g.log) with _|⟨y,r⟩
  · rw[he] at hl
    simp at hl
  · unfold zfJ recsP
    rw[he,List.map_cons,List.flatMap_append,List.flatMap_cons,List.length_append,List.length_append,jY]
    omega
theorem on_arm {D:zU} (h:On D 0):On (D.arm 1 0) 1:=by
  have e:D.arm 1 0={ D with trip:=(max (1:Int) 0).toNat,keep:=0 }:=by unfold zU.arm;rw[if_neg (by rw[h.off];simp)]
  rw[e]
  exact ⟨h.off,rfl,h.room⟩
theorem yD.armed {w0 w w':World} {n:Nat} {V:NV} {N:yB} {D':zU} (h:yD w0 w n V N) (hD:Dsk w' V.d V.fv D') (hM:Mod (fun k=>k=V.d) w w'):yD w0 w' n V { N with dk:=D' }:=by
  have hb:=h.p.dk.1
  have ow:∀ {e:TypeId} {k m:Nat} {v:Value} {xs:List Value},w.ownsRow 0 e k v m xs→e≠140→w'.ownsRow 0 e k v m xs:=fun ho he=>zN ho hM (fun g hg=>zG ho hg hb he)
  exact {
    p:={
      st:=hM.blk h.p.st (fun e=>jZ h.p.st hb (by decide) e)
      dk:=hD
      gh:=⟨⟨ow h.p.gh.1.1 (by decide),h.p.gh.1.2⟩,⟨ow h.p.gh.2.1 (by decide),h.p.gh.2.2⟩⟩
      rh:=⟨⟨⟨ow h.p.rh.hard.1.1 (by decide),h.p.rh.hard.1.2⟩,⟨ow h.p.rh.hard.2.1 (by decide),h.p.rh.hard.2.2⟩⟩,⟨ow h.p.rh.reads.1 (by decide),h.p.rh.reads.2⟩⟩
      pp:=⟨ow h.p.pp.1 (by decide),h.p.pp.2⟩
      xx:=⟨ow h.p.xx.1 (by decide),h.p.xx.2⟩
      ww:=⟨ow h.p.ww.1 (by decide),h.p.ww.2⟩
      ap:=h.p.ap
      nb:=h.p.nb }
    box:=hM.blk h.box (fun e=>jZ h.box hb (by decide) e)
    tt:=⟨ow h.tt.1 (by decide),h.tt.2⟩
    dd:=⟨ow h.dd.1 (by decide),h.dd.2⟩ }
theorem call_off {N:yB} {k:Nat} (hG:za3 N k) (hk:k≤50000) {c:zW} (hc:yX c=0) (hco:c.ok) (hck:c.cmd.kind≠1) (hls:(yJ N.mach.sess c.client).1<c.seq):
    ∃ D',∀ (w0 w:World) (n:Nat) (V:NV),w0.heap.size≤w.heap.size→yD w0 w n V { N with dk:=N.dk.arm 1 0 }→V.wv=.slice none 0 0→Calls Tryz.prog 10 #[.pointer (some ⟨n,0,none⟩),.agg #[.int .i64 c.client,.int .i64 c.seq,.int .i64 c.cmd.kind,.string c.cmd.key,.int .i64 c.cmd.old.kind,.float .f64 c.cmd.old.num,.string c.cmd.old.text,.int .i64 c.cmd.val.kind,.float .f64 c.cmd.val.num,.string c.cmd.val.text]] w (DnOut w n V D'):=by
  have hL:=hG.L
  have hR:=hL.right
  have hH:=hR.hard
  have hl0:=hG.last0
  have hla:=hG.la
  have hlg:=hG.lg
  have hsn:=hG.sn
  have hxo:(zT N.r.hard.term c).ok:=znX hH.t0 hH.t1 hco
  have hL':zaD (N.r.put (zT N.r.hard.term c)):=hL.called hc hxo (by omega)
  have hpn:(N.r.put (zT N.r.hard.term c)).hard.log.length=N.r.hard.log.length+1:=by
    show (N.r.hard.log++[zT N.r.hard.term c]).length=_
    rw[List.length_append];rfl
  obtain ⟨D',hs⟩:=save_trip (g:=N.g) (on_arm hG.on) hL'.right.hard (by rw[hG.g];exact Int.le_refl _) (by rw[hG.g];exact Int.le_refl _) (zbL hL'.right.hard hL'.oks (by omega) hsn) (fun _=>by rw[hG.g];exact more_put _ _)
  exact ⟨D',fun w0 w n V h0 hN hwv=>n_CallNewOff w0 w n V { N with dk:=N.dk.arm 1 0 } c D' h0 hN (fun _=>hwv) hL hG.rd hG.w hc hco hck (slast _) hls (by show N.r.hard.log.length<64;omega) ⟨hl0.1,by show N.r.last+1≤_;omega⟩ hs (by show N.g.log.length≤_;rw[hG.g];omega) (by show N.r.hard.snap.length≤_;omega)⟩
def Seqs (N:yB) (k:Nat):Prop:=∀ s∈N.mach.sess,0≤s.seq∧s.seq≤k
theorem seqs_once {m:jK} {k:Nat} {c:zW} (hm:jU m=true) (h:∀ s∈m.sess,0≤s.seq∧s.seq≤k) (hc:0≤c.seq∧c.seq≤k+1):∀ s∈(zdB m c).1.sess,0≤s.seq∧s.seq≤((k+1:Nat):Int):=by
  intro s hs
  have hup:∀ s∈m.sess,0≤s.seq∧s.seq≤((k+1:Nat):Int):=fun s hs=>by have:=h s hs;omega
  rcases zqH c hm with ⟨e,_⟩|⟨_,_,_,e⟩
  · rw[e] at hs;exact hup s hs
  · rw[e] at hs
    rcases mem_setS (mach_srt hm) hs with rfl|hs
    · show 0≤c.seq∧c.seq≤((k+1:Nat):Int)
      omega
    · exact hup s hs
theorem next_seq {m:jK} {k:Nat} (h:∀ s∈m.sess,0≤s.seq∧s.seq≤k) (c:zW):0≤(zlF m c).seq∧(zlF m c).seq≤k+1:=by
  have:=lastS_in (l:=m.sess) (B:=k) (by omega) h (1+um4 c.client)
  show 0≤(yJ m.sess (1+um4 c.client)).1+1∧(yJ m.sess (1+um4 c.client)).1+1≤(k:Int)+1
  omega
theorem call_get2 {N:yB} {k:Nat} (hG:za3 N k) (hk:k≤50000) {c:zW} (hc:yX c=0) (hco:c.ok) (hck:c.cmd.kind=1):
    ∃ N5,za3 N5 (k+1)∧N5.mach=N.mach∧zgZ N c N5:=by
  have hL:=hG.L
  have hR:=hL.right
  have hH:=hR.hard
  have hl0:=hG.last0
  have hla:=hG.la
  have hlg:=hG.lg
  have hsn:=hG.sn
  have hlast:N.r.last=N.r.hard.base+N.r.hard.log.length:=rfl
  have hap:=hG.ap
  have hall:=hL.all
  obtain ⟨D',hs,hO⟩:=zgO (g:=N.g) hG.on hH (by rw[hG.g];exact Int.le_refl _) (by rw[hG.g];exact Int.le_refl _) (zbL hH hL.oks (by omega) hsn)
  rcases hd:doP N.mach.pairs c.cmd with ⟨L,rp⟩
  have hdo:=kdo N.mach.pairs c.cmd hG.small.1 hco.2.2.2.2.2 hd
  refine ⟨{ N with r:=N.r,rds:=[],g:=N.r.hard,dk:=D',told:=N.told++[⟨c,rp,N.applied⟩] },⟨hL,rfl,hG.w,hap,hG.m,rfl,hO,hlg,hsn,by show N.r.last≤((k+1:Nat):Int)+1;omega,hG.rn,by
    show (N.told++[_]).length≤k+1
    rw[List.length_append];have:=hG.tl;simp;omega,by show N.done.length≤k+1+1;have:=hG.dn;omega⟩,rfl,fun w0 w n V h0 hN hwv=>?_⟩
  exact zq8 w0 w n V N c rp D' h0 hN hwv hL hG.rd hG.w hc hco hck hG.rn hs (by omega) (by rw[hG.g];omega) (by omega) (by omega) (by omega) ⟨by omega,by omega⟩ (by omega) ⟨hH.b0,hH.b1⟩ hdo (by have:=hG.tl;omega)
theorem call_any2 {N:yB} {k:Nat} (hG:za3 N k) (hS:Seqs N k) (hk:k≤50000) {x:zW} (hxo:x.ok):∃ (E:Int) (N5:yB),za3 N5 (k+1)∧Seqs N5 (k+1)∧zlG N (zlF N.mach x) E N5:=by
  have hco:=zrA hG.m hxo
  have hls:=zmO N.mach x
  have hsq:=next_seq hS x
  have hup:Seqs N (k+1):=fun s hs=>by have:=hS s hs;omega
  by_cases hc:yX (zlF N.mach x)=0
  · by_cases hck:(zlF N.mach x).cmd.kind=1
    · obtain ⟨N5,h1,h2,h3⟩:=call_get2 hG hk hc hco hck
      exact ⟨0,N5,h1,by unfold Seqs;rw[h2];exact hup,h3.any h1.w⟩
    · obtain ⟨N5,h1,h2,_,_,h3⟩:=zi3 hG hk hc hco hck hls
      exact ⟨0,N5,h1,by unfold Seqs;rw[h2];exact seqs_once hG.m hS hsq,h3.any h1.w⟩
  · exact ⟨_,N,hG.up (by omega),hup,any_bad hG.L rfl hc⟩
end Go.Proofs.YtjbkjhhjofeldaaGreat
