/-
 One variable of a box that is known whole: loaded, stored. Conditions: as each theorem names them.
-/
import Derived.Test.YtjbkjhhjofeldaaGreatG18
namespace Go.Proofs.YtjbkjhhjofeldaaGreat
set_option linter.unusedSimpArgs false
set_option linter.unusedVariables false
open Go.RowKit
structure Sca (P:Program) (t:TypeId):Prop where
  agg:∀ w,(isAgg t).run P w=.ok false w
  size:(P.info? t).map (·.size)=some 1
theorem zQ:Sca Tryz.prog 3:=⟨fun w=>by kernel_rfl,by kernel_rfl⟩
theorem ze2:Sca Tryz.prog 59:=⟨fun w=>by kernel_rfl,by kernel_rfl⟩
theorem zc9:Sca Tryz.prog 63:=⟨fun w=>by kernel_rfl,by kernel_rfl⟩
theorem zdM:Sca Tryz.prog 71:=⟨fun w=>by kernel_rfl,by kernel_rfl⟩
section
variable {P:Program} {w:World} {t:TypeId} {k g j:Nat} {e:TypeId} {cur cs vs:List Value} {v:Value}
theorem zL (hs:Sca P t) (hg:w.heap[g]? = some (.cells cur.toArray e (0,0))) (hj:cur[j]? = some v):(Instr.loadAt t (.pointer (some ⟨g,j,none⟩))).run P w=.ok v w:=by
  have hc:=zA hg hj
  simp[Instr.loadAt,loadVar,hs.agg,Instr.sureAddr,run_load,hc]
theorem load_arr (ha:∀ w,(isAgg t).run P w=.ok true w) (hz:(P.info? t).map (·.size)=some k) (hg:w.heap[g]? = some (.cells cur.toArray e (0,0))) (hc:cs.length=k) (h:∀ i u,cs[i]? = some u→cur[j+i]? = some u):(Instr.loadAt t (.pointer (some ⟨g,j,none⟩))).run P w=.ok (.agg cs.toArray) w:=by
  have h1:=run_loadCells_list (P:=P) (w:=w) ⟨g,j,none⟩ cs (fun i v hv=>by rw[zcQ];exact zA hg (h i v hv))
  rw[hc] at h1
  have h2:(sizeOf t).run P w=.ok k w:=by
    cases hq:P.info? t with
    | none=>simp[hq] at hz
    | some i=>
      have hi:i.size=k:=by simpa [hq] using hz
      simp[sizeOf,typeInfo,hq,hi]
  simp[Instr.loadAt,loadVar,ha,h2,h1,Instr.sureAddr]
theorem zjZ {xv:Value} (hz:(P.info? t).map (·.size)=some k) (hg:w.heap[g]? = some (.cells cur.toArray e (0,0))) (hv:xv.cells=vs.toArray) (hc:vs.length=k) (hfit:j+k≤cur.length) (h1:∀ v∈vs,v.oneCell'=true):
    (Instr.storeAt t (.pointer (some ⟨g,j,none⟩)) xv).run P w=.ok () (w.setRow g (put cur j vs).toArray):=by
  have h:=run_storeCells_at (P:=P) g j e vs 0 cur.toArray w hg (by simpa [hc] using hfit) h1
  have h2:(sizeOf t).run P w=.ok k w:=by
    cases hq:P.info? t with
    | none=>simp[hq] at hz
    | some i=>
      have hi:i.size=k:=by simpa [hq] using hz
      simp[sizeOf,typeInfo,hq,hi]
  simp[Instr.storeAt,storeVar,Instr.sureAddr,h2,hv,hc]
  rw[h]
  simp[put]
variable {ops:Array Oper} {rest:List Oper} {op:Oper} {a:Act} {Q:Exit→Act→World→Prop}
theorem zF {d:Option Tmp} {t:TypeId} {x y:Operand} {ty:TypeId} {pos:String} {af:Array Edge} {gd:Option (Nat×Bool)} (h:wpList P ops Q (⟨d,.store t x y,ty,pos,af,gd⟩ :: rest) a w):wpList P ops Q (⟨d,.store t x y,ty,pos,af,gd⟩ :: rest) a w:=h
theorem zK {d:Option Tmp} {t:TypeId} {x:Operand} {ty:TypeId} {pos:String} {af:Array Edge} {gd:Option (Nat×Bool)} (h:wpList P ops Q (⟨d,.load t x,ty,pos,af,gd⟩ :: rest) a w):wpList P ops Q (⟨d,.load t x,ty,pos,af,gd⟩ :: rest) a w:=h
theorem zb8 (hgd:op.guard=none) (t:TypeId) (p x:Operand) (ho:op.op=.store t p x) (k g j:Nat) (xv:Value) (vs:List Value) (hp:a.eval p=.pointer (some ⟨g,j,none⟩)) (hx:a.eval x=xv) (hv:xv.cells=vs.toArray)
    (hz:(P.info? t).map (·.size)=some k) (e:TypeId) (cur cur':List Value) (hg:w.heap[g]? = some (.cells cur.toArray e (0,0))) (hc:vs.length=k) (hfit:j+k≤cur.length) (h1:∀ v∈vs,v.oneCell'=true) (hcur:put cur j vs=cur')
    (h:∀ w',w'.heap[g]? = some (.cells cur'.toArray e (0,0))→Mod (fun k=>k=g) w w'→w'.heap.size=w.heap.size→wpList P ops Q rest (a.put op.dst undef) w'):wpList P ops Q (op :: rest) a w:=by
  refine zjF hgd t p x ho _ _ hp hx (zjZ hz hg hv hc hfit h1) (h _ ?_ ?_ ?_)
  · rw[hcur];exact setRow_heap w g _ _ e _ hg
  · exact ⟨rfl,rfl,rfl,by simp,fun k hk hn=>setRow_other w g k _ hn⟩
  · simp
end
theorem Rep.turn {w0 w w':World} {q:Nat} {sv lv rv:Value} {r r':zS} {rds:List yL} (h:Rep w0 w q sv lv rv r rds) (hM:Mod (fun k=>k=q) w w') (hb:w'.heap[q]? = some (.cells (r'.cells sv lv rv++[Value.slice none 0 0]).toArray 178 (0,0))) (hs:r'.hard.snap=r.hard.snap) (hl:r'.hard.log=r.hard.log):Rep w0 w' q sv lv rv r' rds:=by
  refine ⟨hb,h.new,⟨?_,?_⟩,⟨zN h.reads.1 hM (fun g hg=>zG h.reads.1 hg h.box (by decide)),h.reads.2⟩⟩
  · rw[hs];exact ⟨zN h.hard.1.1 hM (fun g hg=>zG h.hard.1.1 hg h.box (by decide)),h.hard.1.2⟩
  · rw[hl];exact zeC h.hard.2 h.box hM (by decide)
theorem zb9 {W:World} {q:Nat} {t:TypeId} {r:zS} {sv lv rv:Value} {l:List Value} (h:W.heap[q]? = some (.cells (r.cells sv lv rv++l).toArray t (0,0))):(Instr.loadAt 65 (.pointer (some ⟨q,0,none⟩))).run Tryz.prog W=.ok (.agg (r.cells sv lv rv).toArray) W:=
  xH yA h rfl (fun j u hu=>by rw[Nat.zero_add,List.getElem?_append_left (List.getElem?_eq_some_iff.1 hu).1];exact hu)
theorem zkX {W:World} {q:Nat} {t:TypeId} {r:zS} {sv lv rv:Value} {l:List Value} (h:W.heap[q]? = some (.cells (r.cells sv lv rv++l).toArray t (0,0))):(Instr.loadAt 61 (.pointer (some ⟨q,1,none⟩))).run Tryz.prog W=.ok (.agg (r.hard.cells sv lv).toArray) W:=
  xH (o:=1) (cs:=r.hard.cells sv lv) yF h rfl (fun j u hu=>by rcases j with _|_|_|_|_|_|_|_|_|_|j <;> first|exact hu|cases hu)
theorem stQ {P:Program} {op:Oper} {rest:List Oper} {ops:Array Oper} {Q:Exit→Act→World→Prop} {a:Act} {w:World} (hgd:op.guard=none) (t:TypeId) (p x:Operand) (ho:op.op=.store t p x) (k g j:Nat) (xv:Value) (vs:List Value)
    (hz:(P.info? t).map (·.size)=some k) (e:TypeId) (cur cur':List Value) (hg:w.heap[g]? = some (.cells cur.toArray e (0,0))) (hcur:put cur j vs=cur')
    (h:∀ w',w'.heap[g]? = some (.cells cur'.toArray e (0,0))→Mod (fun k=>k=g) w w'→w'.heap.size=w.heap.size→wpList P ops Q rest (a.put op.dst undef) w')
    (hp:a.eval p=.pointer (some ⟨g,j,none⟩):=by exact rfl) (hx:a.eval x=xv:=by exact rfl) (hv:xv.cells=vs.toArray:=by exact rfl) (hc:vs.length=k:=by simp) (hfit:j+k≤cur.length:=by simp) (h1:∀ v∈vs,v.oneCell'=true:=by simp[Value.oneCell']):wpList P ops Q (op :: rest) a w:=
  zb8 hgd t p x ho k g j xv vs hp hx hv hz e cur cur' hg hc hfit h1 hcur h
set_option maxRecDepth 100000
set_option maxHeartbeats 2000000
theorem t_ready0 (A:Option Addr) (c:Nat) (n:Int) (w:World):Calls Tryz.prog 275 #[.slice A 0 c,c1v,.int .i64 n] w fun e w'=>e=.returned (.tuple #[.slice none 0 0,.slice none 0 0])∧Ext w w':=by
 have hE:Ext w (w.alloc (.cells #[.int .i64 1,.int .i64 0,.int .i64 0,.int .i64 0] 57)):=(Mod.refl _ w).alloc _
 go_enter Tryz.func275,Tryz.ntmps275
 go_wp2_with fail
 obtain ⟨W1,hW1⟩:∃ W1,w.alloc (.cells #[.int .i64 1,.int .i64 0,.int .i64 0,.int .i64 0] 57)=W1:=⟨_,rfl⟩
 rw[hW1] at hE ⊢
 clear hW1
 go_loopw [6,7,12] (fun a b iv wr=>a=.slice none 0 0∧b=.slice none 0 0∧iv=.int .i64 0∧wr=W1) (fun _ _ _ _=>0)
 case atStart=>exact ⟨rfl,rfl,rfl,rfl⟩
 obtain ⟨rfl,rfl,rfl,rfl⟩:=hrel
 go_wp2
 go_ret2
 exact ⟨rfl,hE⟩
theorem g_check0 (A:Option Addr) (c:Nat) (w:World):Calls Tryz.prog 181 #[.slice A 0 c] w fun e w'=>e=.returned (.int .i64 0)∧w'=w:=by
 go_enter Tryz.func181,Tryz.ntmps181
 go_wp2_with fail
 go_loopw [12] (fun iv wr=>iv=.int .i64 0∧wr=w) (fun _ _=>0)
 case atStart=>exact ⟨rfl,rfl⟩
 obtain ⟨rfl,rfl⟩:=hrel
 go_wp2
 go_ret
 exact ⟨rfl,rfl⟩
theorem zeF (w:World) (xs:List Value) (e:TypeId) (k:Nat) (h:xs.length=k):Sl (w.alloc (.cells xs.toArray e)) (fun _=>True) k (.slice (some ⟨w.heap.size,0,none⟩) 1 1) 1 xs:=
 ⟨by rw[h,Nat.one_mul],_,_,rfl,Nat.le_refl _,by simp[maxLen],fun _=>⟨_,0,rfl,trivial,fun j u hu=>zA (zI w _) (by rw[Nat.zero_add];exact hu)⟩⟩
def Ready1 (w:World) (x:yL) (e:Ending) (w':World):Prop:=∃ v',e=.returned (.tuple #[v',.slice none 0 0])∧zb7 138 13 w w' v' 1 x.cells∧Ext w w'
theorem t_ready1 (x:yL) (A:Option Addr) (c:Nat) (n:Int) (w:World) (T:Nat→Prop) (hv:Sl w T 13 (.slice A 1 c) 1 x.cells) (ha:x.acks=1) (hi:x.index≤n):Calls Tryz.prog 275 #[.slice A 1 c,c1v,.int .i64 n] w (Ready1 w x):=by
 obtain ⟨i0,hi0,hz0,hz1,hz2⟩:=info_parts zgH
 obtain ⟨b,hb⟩:∃ b,w.heap.size=b:=⟨_,rfl⟩
 obtain ⟨g,off,rfl,hcell⟩:∃ g off,A=some ⟨g,off,none⟩∧∀ j u,x.cells[j]? = some u→w.cell? ⟨g,off+j,none⟩=some u:=by
  obtain ⟨_,A',c',e,_,_,hx'⟩:=hv
  injection e with e1 _ e3;subst e1;subst e3
  obtain ⟨g,off,rfl,hg,hcell⟩:=hx' (by omega)
  exact ⟨g,off,rfl,hcell⟩
 obtain ⟨Hcell,Ha⟩:=hJ2 hcell ha
 clear hv hcell ha
 go_enter Tryz.func275,Tryz.ntmps275
 go_wp2_with fail
 obtain ⟨W1,hW1⟩:∃ W1,w.alloc (.cells #[.int .i64 1,.int .i64 0,.int .i64 0,.int .i64 0] 57)=W1:=⟨_,rfl⟩
 have hE:Ext w W1:=hW1▸((Mod.refl _ w).alloc _)
 have hb1:W1.heap[b]? = some (.cells [.int .i64 1,.int .i64 0,.int .i64 0,.int .i64 0].toArray 57 (0,0)):=hb▸hW1▸zI _ _
 rw[hW1]
 obtain ⟨Hb1,HE⟩:=hJ2 hb1 hE
 clear hW1 hE hb1
 go_loopw [6,7,12] (fun v b2 iv wr=>b2=.slice none 0 0∧((v=.slice none 0 0∧iv=.int .i64 0∧wr=W1)∨(iv=.int .i64 1∧zb7 138 13 w wr v 1 x.cells∧Ext w wr))) (fun _ _ iv _=>1-(intOf iv).toNat)
 case atStart=>exact ⟨rfl,.inl ⟨rfl,rfl,rfl⟩⟩
 obtain ⟨rfl,⟨rfl,rfl,rfl⟩|⟨rfl,hN,hE⟩⟩:=hrel
 · have hld:(Instr.loadAt 138 (.pointer (some ⟨g,off,none⟩))).run Tryz.prog wr=.ok (.agg x.cells.toArray) wr:=jE zeE rfl (fun j u hu=>HE.out.cell (p:=⟨g,off+j,none⟩) (Hcell.out j u hu) id)
   go_upto_region 4 with (refine lD 138 g off hld ?_)
   obtain ⟨q,hq⟩:∃ q,wr.heap.size=q:=⟨_,rfl⟩
   obtain ⟨W2,hW2⟩:∃ W2,wr.alloc (.cells x.cells.toArray 138)=W2:=⟨_,rfl⟩
   have hE2:Ext wr W2:=hW2▸((Mod.refl _ wr).alloc _)
   have hb2:W2.heap[q]? = some (.cells x.cells.toArray 138 (0,0)):=hq▸hW2▸zI _ _
   rw[hW2,hq]
   have hldc:(Instr.loadAt 57 (.pointer (some ⟨b,0,none⟩))).run Tryz.prog W2=.ok c1v W2:=ld0 za5 (hE2.blk Hb1.out id)
   have p12:W2.cell? ⟨q,12,none⟩=some (.int .i64 1):=(zA hb2 rfl).trans (by rw[Ha.out])
   have Hb2:=hJ hb2
   have HE2:=hJ (HE.out.ext hE2)
   clear hW2 hq hb2 hE2 hld
   go_upto_region 5 with (first
    | (refine lD 57 b 0 hldc ?_)
    | (go_at_call 200;refine (zf8 _).mono ?_;rintro e w3 ⟨rfl,hE3⟩;have z10:w3.cell? ⟨q,10,none⟩=some (.int .i64 x.index):=zA (hE3.blk Hb2.out id) rfl))
   have hld3:(Instr.loadAt 138 (.pointer (some ⟨q,0,none⟩))).run Tryz.prog w3=.ok (.agg x.cells.toArray) w3:=ld0 zeE (hE3.blk Hb2.out id)
   have HE3:=hJ (HE2.out.ext hE3)
   clear hE3 z10 p12 hldc
   go_wp2_with (first
    | (refine lD 138 q 0 hld3 ?_)
    | (at_builtin;refine xB _ rfl _ _ 63 rfl 138 i0 _ 13 128 Tryz.underlying63 hi0 hz0 hz1 hz2 rfl (by omega) (.slice none 0 0) 0 [] rfl (World.ownsRow_nil _ _ _ _) (fun _=>True) _ 1 x.cells rfl (zeF w3 x.cells _ 13 rfl) (fun u hu=>ziM [x] u (by simpa using hu)) (by simp only[maxLen];omega) (by omega) ?_;intro v5 w5 ho hgr hat))
   have hM:Mod (zD w.heap.size) w w5:=(((Ext.mod HE3.out (zD w.heap.size)).alloc _).grown hgr (fun k hk=>by simp[Value.ownBlock] at hk))
   exact ⟨⟨rfl,.inr ⟨rfl,⟨by simpa using ho,fun g hgg=>by
    rcases hat with e|e <;> rw[e] at hgg <;> simp[Value.ownBlock] at hgg
    have:=HE3.out.size;omega⟩,hM.toExt⟩⟩,by simp[intOf]⟩
 · go_wp2
   go_ret2
   exact ⟨_,rfl,hN,hE⟩
def AddOut (w0 w:World) (q:Nat) (sv rv:Value) (r:zS) (x:zO) (e:Ending) (w':World):Prop:=
  e=.returned (.int .i64 (r.last+1))∧∃ lv',Rep w0 w' q sv lv' rv (r.put x) []∧Mod (zD w0.heap.size) w w'
theorem zpM (x:zO):∀ u∈x.cells,u.oneCell'=true:=fun u hu=>zeA [x] u (by simpa using hu)
theorem agg7:∀ w,(isAgg 62).run Tryz.prog w=.ok true w:=fun w=>by kernel_rfl
theorem r_add (w0 w:World) (q:Nat) (sv lv rv:Value) (r:zS) (x:zO) (hR:Rep w0 w q sv lv rv r []) (hl:zdL r.hard) (hrv:∃ A c,rv=.slice A 0 c) (hx:x.ok) (hk:x.kind≠2) (hn:r.hard.log.length<1000) (ht:x.term=r.hard.term) (ht0:0≤r.hard.term) (hid:r.id=0) (hm:∃ m,r.mtch=⟨m,0,0,0,0,0,0⟩) (hc:r.hard.base≤r.commit∧r.commit≤r.last):
  Calls Tryz.prog 164 #[.pointer (some ⟨q,0,none⟩),.agg x.cells.toArray] w (AddOut w0 w q sv rv r x):=by
 obtain ⟨i0,hi0,hz0,hz1,hz2⟩:=info_parts zhO
 obtain ⟨b,hb⟩:∃ b,w.heap.size=b:=⟨_,rfl⟩
 obtain ⟨As,sn,cs,rfl⟩:∃ A n c,sv=.slice A n c:=⟨_,_,zC hR.hard.1.1 |>.choose_spec⟩
 obtain ⟨Al,cl,rfl⟩:=hR.hard.2.form
 obtain ⟨Ra,rc,rfl⟩:=hrv
 obtain ⟨m0,hm⟩:=hm
 obtain ⟨L,hL⟩:∃ L,r.last+1=L:=⟨_,rfl⟩
 have hL1:r.hard.base+r.hard.log.length+1=L:=hL
 have Hl2:=hJ (hl.put hk hn)
 have hLi:zjQ (r.hard.put x)=L:=by unfold zjQ;rw[←hL1];show r.hard.base+((r.hard.log++[x]).length:Int)=_;rw[List.length_append];simp;omega
 have Htat:=hJ (show Tat (r.hard.put x) L (r.hard.put x).term from by have:=zpL r.hard x;rw[ht] at this;rw[hL1] at this;exact this)
 have HLi:=hJ hLi
 have Hc:=hJ (show (r.hard.put x).base≤r.commit∧r.commit<L from ⟨hc.1,by have:=hc.2;unfold zS.last at this;omega⟩)
 obtain ⟨Ht0,Hn,Hm,Hid0,Hx,HR,Hb,HL⟩:=hJ8 ht0 hn hm hid hx hR hb hL
 have Hlt:=hJ (show ∀ k,(Value.slice Al r.hard.log.length cl).ownBlock=some k→k<b from fun k hk=>hb▸za0 hR.hard.2.1 hk)
 clear hR hl hx hk hn ht ht0 hid hm hc hL1 hLi hL
 go_enter Tryz.func164,Tryz.ntmps164
 go_upto_region 1 with fail
 obtain ⟨W0,hW0⟩:∃ W0,w.alloc (.cells x.cells.toArray 100)=W0:=⟨_,rfl⟩
 have hE0:Ext w W0:=hW0▸((Mod.refl _ w).alloc _)
 have hb0:W0.heap[b]? = some (.cells x.cells.toArray 100 (0,0)):=Hb.out▸hW0▸zI _ _
 rw[hW0]
 clear hW0 hb
 obtain ⟨W1,hW1⟩:∃ W1,W0.drew=W1:=⟨_,rfl⟩
 have hE1:Ext w W1:=hW1▸hE0.drew
 have hb1:W1.heap[b]? = some (.cells x.cells.toArray 100 (0,0)):=hW1▸((Mod.refl (fun _=>False) W0).drew).blk hb0 id
 have HE1:=hJ hE1
 have HR1:=hJ (HR.out.ext hE1)
 have HN1:=hJ (HR.out.ext hE1).hard.2
 have Hb1:=hJ hb1
 clear hE0 hb0 hE1 hb1
 refine yZ (fun W=>W.heap[q]? = some (.cells (r.cells (.slice As sn cs) (.slice Al r.hard.log.length cl) (.slice Ra 0 rc)++[Value.slice none 0 0]).toArray 178 (0,0))∧W.heap[b]? = some (.cells x.cells.toArray 100 (0,0))) 14 (hW1▸⟨HR1.out.box,Hb1.out⟩) (fun hS=>?_)
 rw[hW1] at hS ⊢
 clear hW1
 iterate 6
  (first|refine tP 0 7 ?_ hS (fun W'=>?_) ?_|refine tP 1 8 ?_ hS (fun W'=>?_) ?_|refine tP 2 9 ?_ hS (fun W'=>?_) ?_|refine tP 3 10 ?_ hS (fun W'=>?_) ?_|refine tP 4 11 ?_ hS (fun W'=>?_) ?_|refine tP 5 12 ?_ hS (fun W'=>?_) ?_);rotate_left;· go_simp;try rfl
  try simp only[pL]
 refine tU 6 13 (.slice Al r.hard.log.length cl) hS q 10 (fun W' ⟨hX1,hX2⟩=>zL ze2 hX1 rfl) ?_
 try simp only[pL]
 refine tU 7 14 (.agg x.cells.toArray) hS b 0 (fun W' ⟨hX1,hX2⟩=>ld0 yR hX2) ?_
 try simp only[pL]
 refine jP 8 (fun K hK=>?_)
 go_simp
 refine hK.out _ _ (⟨((Mod.refl (fun _=>False) W1).alloc _).blk hS.1 id,((Mod.refl (fun _=>False) W1).alloc _).blk hS.2 id⟩) (fun hS=>?_)
 clear hK K
 try simp only[pL]
 refine jP 9 (fun K hK=>?_)
 refine zbN _ rfl _ _ 59 rfl 100 i0 _ 16 152 Tryz.underlying59 hi0 hz0 hz1 hz2 rfl (by omega) (.slice Al r.hard.log.length cl) r.hard.log.length (r.hard.log.flatMap zO.cells) rfl (zN HN1.out.1 ((Mod.refl (fun _=>False) W1).alloc _) (fun _ _=>id)) (fun _=>True) _ 1 x.cells rfl (zeF W1 x.cells _ 16 rfl) (zpM x) (by simp only[maxLen];have:=Hn.out;omega) (by have:=Hn.out;omega) ?_
 intro v9 w9 ho hgr hat
 obtain ⟨A9,c9,rfl⟩:=zC ho
 have hM9:Mod (fun k=>(Value.slice Al r.hard.log.length cl).ownBlock=some k) W1 w9:=((Mod.refl _ W1).alloc _).grown hgr (fun k hk=>.inr hk)
 refine hK.out _ _ (⟨hM9.blk HR1.out.box (fun e=>zG HN1.out.1 e HR1.out.box (by decide) rfl),hM9.blk Hb1.out (fun e=>Nat.lt_irrefl b (Hlt.out _ e))⟩) (fun hS=>?_)
 clear hK K
 try simp only[pL]
 iterate 4
  (first|refine tP 10 17 ?_ hS (fun W'=>?_) ?_|refine tP 11 18 ?_ hS (fun W'=>?_) ?_|refine tP 12 19 ?_ hS (fun W'=>?_) ?_|refine tP 13 20 ?_ hS (fun W'=>?_) ?_);rotate_left;· go_simp;try rfl
  try simp only[pL]
 have Hq9:=hJ hS.1
 refine xN 14 rfl ?_
 simp only[List.drop_succ_cons,List.drop_zero]
 go_upto_region 2 with (refine stQ rfl 59 _ _ rfl 1 q 10 (.slice A9 (r.hard.log.length+1) c9) [.slice A9 (r.hard.log.length+1) c9] ze2.size _ _ _ Hq9.out rfl ?_;intro W2 hbW2 hmW2 hsW2)
 have HM1:=hJ (HE1.out.mod (zD w0.heap.size))
 have hs9:w0.heap.size≤(W1.alloc (.cells x.cells.toArray 100)).heap.size:=by have:=HE1.out.size;have:=HR.out.new;have:=(Array.getElem?_eq_some_iff.1 HR.out.box).1;simp;omega
 have hN9:ziF w0 w9 (.slice A9 (r.hard.log.length+1) c9) (r.hard.log++[x]):=newE_app (k:=[x]) HN1.out (fun y hy=>by rw[List.mem_singleton.1 hy];exact Hx.out) rfl rfl (by simpa using ho) hat hs9
 have hB9:zaN w0 w9 (.slice As sn cs) r.hard.snap:=⟨zN HR1.out.hard.1.1 hM9 (fun g hg e=>jT HN1.out.1 HR1.out.hard.1.1 (by decide) e hg),HR1.out.hard.1.2⟩
 have hG9:zb7 138 13 w0 w9 (.slice Ra 0 rc) 0 []:=⟨zN HR1.out.reads.1 hM9 (fun g hg e=>jT HN1.out.1 HR1.out.reads.1 (by decide) e hg),HR1.out.reads.2⟩
 have hR2:Rep w0 W2 q (.slice As sn cs) (.slice A9 (r.hard.log.length+1) c9) (.slice Ra 0 rc) { r with hard:=r.hard.put x } []:=⟨hbW2,HR.out.new,⟨⟨zN hB9.1 hmW2 (fun g hg=>zG hB9.1 hg Hq9.out (by decide)),hB9.2⟩,zeC hN9 Hq9.out hmW2 (by decide)⟩,⟨zN hG9.1 hmW2 (fun g hg=>zG hG9.1 hg Hq9.out (by decide)),hG9.2⟩⟩
 have hM2:Mod (zD w0.heap.size) w W2:=(HM1.out.trans hM9 (fun k _ hk=>HN1.out.2.2 k hk)).trans hmW2 (fun k _ e=>by unfold zD;have:=HR.out.new;omega)
 obtain ⟨HR2,HM2⟩:=hJ2 hR2 hM2
 have Hq2:=hJ hR2.box
 clear hN9 hB9 hG9 hR2 hM2 hbW2 hmW2 hsW2 hs9 ho hgr hat hM9 hS
 have hla:∀ W,Ext W2 W→Calls Tryz.prog 162 #[.agg ((r.hard.put x).cells (.slice As sn cs) (.slice A9 (r.hard.log.length+1) c9)).toArray] W fun e w'=>(∃ t:Int,e=.returned (.tuple #[.int .i64 L,.int .i64 t]))∧Ext W w':=fun W hE=>(zjR W _ (r.hard.put x) _ _ (HR2.out.hard.mem.ext hE) Hl2.out.few Hl2.out.base.1 Hl2.out.base.2).mono fun e w' h=>⟨⟨_,HLi.out▸h.1⟩,h.2⟩
 have Hla:=hJ hla
 clear hla
 go_upto_region 3 with (first
  | (refine lD 61 q 1 (zkX Hq2.out) ?_)
  | (go_at_call 162;refine (Hla.out _ (Mod.refl _ W2)).mono ?_;rintro e w3 ⟨⟨t3,rfl⟩,hE3⟩))
 obtain ⟨W3,hW3⟩:∃ W3,w3.drew=W3:=⟨_,rfl⟩
 have hE3d:Ext W2 W3:=hW3▸hE3.drew
 have HR3:=hJ (HR2.out.ext hE3d)
 have HM3:=hJ (HM2.out.ext hE3d)
 have Hq3:=hJ HR3.out.box
 clear hE3 hE3d
 refine yZ (fun W=>W.heap[q]? = some (.cells (r.cells (.slice As sn cs) (.slice A9 (r.hard.log.length+1) c9) (.slice Ra 0 rc)++[Value.slice none 0 0]).toArray 178 (0,0))) 11 (hW3▸Hq3.out) (fun hS=>?_)
 rw[hW3] at hS ⊢
 clear hW3
 iterate 5
  (first|refine tP 0 30 ?_ hS (fun W'=>?_) ?_|refine tP 1 31 ?_ hS (fun W'=>?_) ?_|refine tP 2 32 ?_ hS (fun W'=>?_) ?_|refine tP 3 33 ?_ hS (fun W'=>?_) ?_|refine tP 4 34 ?_ hS (fun W'=>?_) ?_);rotate_left;· go_simp;try rfl
  try simp only[pL]
 refine tU 5 35 (.int .i64 0) hS q 0 (fun W' hX1=>zL zQ hX1 (show some (Value.int .i64 r.id)=_ by rw[Hid0.out])) ?_
 try simp only[pL]
 iterate 5
  (first|refine tP 6 36 ?_ hS (fun W'=>?_) ?_|refine tP 7 37 ?_ hS (fun W'=>?_) ?_|refine tP 8 38 ?_ hS (fun W'=>?_) ?_|refine tP 9 39 ?_ hS (fun W'=>?_) ?_|refine tP 10 40 ?_ hS (fun W'=>?_) ?_);rotate_left;· go_simp;try rfl
  try simp only[pL]
 refine xN 11 rfl ?_
 simp only[List.drop_succ_cons,List.drop_zero]
 go_upto_region 4 with (refine zb8 rfl 3 _ _ rfl 1 q 25 (.int .i64 L) [.int .i64 L] rfl rfl rfl zQ.size _ _ (({ r with hard:=r.hard.put x,mtch:=⟨L,0,0,0,0,0,0⟩ }:zS).cells (.slice As sn cs) (.slice A9 (r.hard.log.length+1) c9) (.slice Ra 0 rc)++[Value.slice none 0 0]) Hq3.out (by simp) (by simp) (by simp[Value.oneCell']) (by simp only[zS.cells,Hm.out];rfl) ?_;intro W4 hbW4 hmW4 hsW4)
 have HR4:=hJ (show Rep w0 W4 q _ _ _ { r with hard:=r.hard.put x,mtch:=⟨L,0,0,0,0,0,0⟩ } [] from HR3.out.turn hmW4 hbW4 rfl rfl)
 have HM4:=hJ (HM3.out.trans hmW4 (fun k _ e=>by unfold zD;have:=HR.out.new;omega))
 clear hbW4 hmW4 hsW4 hS
 obtain ⟨W5,hW5⟩:∃ W5,W4.drew=W5:=⟨_,rfl⟩
 have hE5:Ext W4 W5:=hW5▸(Mod.refl _ W4).drew
 have HR5:=hJ (HR4.out.ext hE5)
 have HM5:=hJ (HM4.out.ext hE5)
 have Hq5:=hJ HR5.out.box
 clear hE5
 have hco:∀ W,Ext W5 W→Calls Tryz.prog 266 #[.agg ((r.hard.put x).cells (.slice As sn cs) (.slice A9 (r.hard.log.length+1) c9)).toArray,.int .i64 r.commit,.agg #[.int .i64 L,.int .i64 0,.int .i64 0,.int .i64 0,.int .i64 0,.int .i64 0,.int .i64 0]] W fun e w'=>e=.returned (.int .i64 L)∧Ext W w':=fun W hE=>zpI W _ (r.hard.put x) _ _ r.commit L (HR5.out.hard.mem.ext hE) Hl2.out HLi.out Hc.out Htat.out Ht0.out
 have Hco:=hJ hco
 clear hco
 refine yZ (fun W=>Ext W5 W) 20 (hW5▸(Mod.refl _ _)) (fun hS=>?_)
 rw[hW5] at hS ⊢
 clear hW5
 iterate 5
  (first|refine tP 0 41 ?_ hS (fun W'=>?_) ?_|refine tP 1 42 ?_ hS (fun W'=>?_) ?_|refine tP 2 43 ?_ hS (fun W'=>?_) ?_|refine tP 3 44 ?_ hS (fun W'=>?_) ?_|refine tP 4 45 ?_ hS (fun W'=>?_) ?_);rotate_left;· go_simp;try rfl
  try simp only[pL]
 refine tU 5 46 (.agg ((r.hard.put x).cells (.slice As sn cs) (.slice A9 (r.hard.log.length+1) c9)).toArray) hS q 1 (fun W' hW'=>zkX (r:={ r with hard:=r.hard.put x,mtch:=⟨L,0,0,0,0,0,0⟩ }) (hW'.blk Hq5.out id)) ?_
 try simp only[pL]
 iterate 4
  (first|refine tP 6 47 ?_ hS (fun W'=>?_) ?_|refine tP 7 48 ?_ hS (fun W'=>?_) ?_|refine tP 8 49 ?_ hS (fun W'=>?_) ?_|refine tP 9 50 ?_ hS (fun W'=>?_) ?_);rotate_left;· go_simp;try rfl
  try simp only[pL]
 refine tU 10 51 (.int .i64 r.commit) hS q 11 (fun W' hW'=>zL zQ (hW'.blk Hq5.out id) rfl) ?_
 try simp only[pL]
 iterate 4
  (first|refine tP 11 52 ?_ hS (fun W'=>?_) ?_|refine tP 12 53 ?_ hS (fun W'=>?_) ?_|refine tP 13 54 ?_ hS (fun W'=>?_) ?_|refine tP 14 55 ?_ hS (fun W'=>?_) ?_);rotate_left;· go_simp;try rfl
  try simp only[pL]
 refine tU 15 56 (.agg #[.int .i64 L,.int .i64 0,.int .i64 0,.int .i64 0,.int .i64 0,.int .i64 0,.int .i64 0]) hS q 25 (fun W' hW'=>load_arr (cs:=(A7.cells ⟨L,0,0,0,0,0,0⟩)) agg7 (by kernel_rfl) (hW'.blk Hq5.out id) rfl (fun j u hu=>by rcases j with _|_|_|_|_|_|_|j <;> first|exact hu|cases hu)) ?_
 try simp only[pL]
 refine jP 16 (fun K hK=>?_)
 go_simp
 go_wp2_with fail
 refine (Hco.out _ hS).mono ?_
 rintro e w6 ⟨rfl,hE6⟩
 have hX:=hS.ext hE6
 go_simp
 refine hK.out _ _ hX (fun hS=>?_)
 clear hK K hX
 try simp only[pL]
 iterate 3
  (first|refine tP 17 58 ?_ hS (fun W'=>?_) ?_|refine tP 18 59 ?_ hS (fun W'=>?_) ?_|refine tP 19 60 ?_ hS (fun W'=>?_) ?_);rotate_left;· go_simp;try rfl
  try simp only[pL]
 refine xN 20 rfl ?_
 simp only[List.drop_succ_cons,List.drop_zero]
 have HR6:=hJ (HR5.out.ext hE6)
 have HM6:=hJ (HM5.out.ext hE6)
 have Hq6:=hJ HR6.out.box
 clear hE6 hS
 go_wp2_with (refine stQ rfl 3 _ _ rfl 1 q 11 (.int .i64 L) [.int .i64 L] zQ.size _ _ _ Hq6.out rfl ?_;intro W7 hbW7 hmW7 hsW7)
 go_ret
 exact ⟨by rw[HL.out];rfl,_,HR6.out.turn (r':=r.put x) hmW7 (by rw[show r.put x={ r with hard:=r.hard.put x,commit:=L,mtch:=⟨L,0,0,0,0,0,0⟩ } from by rw[←HL.out];rfl];exact hbW7) rfl rfl,HM6.out.trans hmW7 (fun k _ e=>by unfold zD;have:=HR.out.new;omega)⟩
theorem Rep.turn0 {w0 w w':World} {q:Nat} {sv lv rv:Value} {r r':zS} {rds:List yL} (h:Rep w0 w q sv lv rv r rds) (hM:Mod (fun k=>k=q) w w') (hb:w'.heap[q]? = some (.cells (r'.cells sv lv (.slice none 0 0)++[Value.slice none 0 0]).toArray 178 (0,0))) (hs:r'.hard.snap=r.hard.snap) (hl:r'.hard.log=r.hard.log):Rep w0 w' q sv lv (.slice none 0 0) r' []:=by
  refine ⟨hb,h.new,⟨?_,?_⟩,⟨World.ownsRow_nil _ _ _ _,by simp[Value.ownBlock]⟩⟩
  · rw[hs];exact ⟨zN h.hard.1.1 hM (fun g hg=>zG h.hard.1.1 hg h.box (by decide)),h.hard.1.2⟩
  · rw[hl];exact zeC h.hard.2 h.box hM (by decide)
theorem r_bit (w:World) (q:Nat) (r:zS) (sv lv rv:Value) (l:List Value) (ty:TypeId) (hq:w.heap[q]? = some (.cells (r.cells sv lv rv++l).toArray ty (0,0))) (h0:r.id=0):Calls Tryz.prog 199 #[.pointer (some ⟨q,0,none⟩)] w fun e w'=>e=.returned (.int .i64 1)∧w'=w:=by
 have p0:w.cell? ⟨q,0,none⟩=some (.int .i64 0):=(zA hq rfl).trans (by rw[h0])
 clear hq h0
 go_enter Tryz.func199,Tryz.ntmps199
 go_wp2
 go_ret
 exact ⟨rfl,rfl⟩
theorem r_others (w:World) (q:Nat) (r:zS) (sv lv rv:Value) (l:List Value) (ty:TypeId) (hq:w.heap[q]? = some (.cells (r.cells sv lv rv++l).toArray ty (0,0))) (h0:r.id=0):Calls Tryz.prog 198 #[.pointer (some ⟨q,0,none⟩),.int .i64 1] w fun e w'=>e=.returned (.slice none 0 0)∧w'=w:=by
 have p0:w.cell? ⟨q,0,none⟩=some (.int .i64 0):=(zA hq rfl).trans (by rw[h0])
 have b0:bits .and .i64 0 1=0:=by decide +kernel
 clear hq h0
 go_enter Tryz.func198,Tryz.ntmps198
 go_wp2_with fail
 go_loopw [5,6,7] (fun l _ iv wr=>∃ i:Nat,i≤7∧iv=.int .i64 i∧l=.slice none 0 0∧wr=w) (fun _ _ iv _=>7-(intOf iv).toNat)
 case atStart=>exact ⟨0,by omega,rfl,rfl,rfl⟩
 obtain ⟨i,hi,rfl,rfl,rfl⟩:=hrel
 have hc:i=0∨i=1∨i=2∨i=3∨i=4∨i=5∨i=6∨i=7:=by omega
 rcases hc with rfl|rfl|rfl|rfl|rfl|rfl|rfl|rfl
 all_goals go_wp2
 iterate 7 (rotate_left;skip)
 · go_ret
   exact ⟨rfl,rfl⟩
 · exact ⟨⟨1,by omega,rfl,rfl,trivial⟩,by simp[intOf]⟩
 · exact ⟨⟨2,by omega,rfl,rfl,trivial⟩,by simp[intOf]⟩
 · exact ⟨⟨3,by omega,rfl,rfl,trivial⟩,by simp[intOf]⟩
 · exact ⟨⟨4,by omega,rfl,rfl,trivial⟩,by simp[intOf]⟩
 · exact ⟨⟨5,by omega,rfl,rfl,trivial⟩,by simp[intOf]⟩
 · exact ⟨⟨6,by omega,rfl,rfl,trivial⟩,by simp[intOf]⟩
 · exact ⟨⟨7,by omega,rfl,rfl,trivial⟩,by simp[intOf]⟩
theorem zpN (w0 w:World) (q:Nat) (sv lv rv:Value) (r:zS) (hR:Rep w0 w q sv lv rv r []) (hl:zdL r.hard) (hrv:∃ A c,rv=.slice A 0 c) (h0:r.id=0):Calls Tryz.prog 202 #[.pointer (some ⟨q,0,none⟩)] w fun e w'=>e=.returned (.tuple #[])∧Ext w w':=by
 obtain ⟨Ra,rc,rfl⟩:=hrv
 have Hq:=hJ hR.box
 have hco:=zcJ r sv lv Ra 0 rc w _ hR.hard.mem hl
 have hot:=fun W (hE:Ext w W)=>r_others W q r sv lv (.slice Ra 0 rc) _ _ (hE.blk hR.box id) h0
 obtain ⟨Hco,Hot⟩:=hJ2 hco hot
 clear hco hot hR hl h0
 go_enter Tryz.func202,Tryz.ntmps202
 go_wp2_with (first
  | (refine lD 65 q 0 (zb9 Hq.out) ?_)
  | (go_at_call 90;refine Hco.out.mono ?_;rintro e w1 ⟨rfl,hE1⟩)
  | (go_at_call 163;refine (c_all1 _).mono ?_;rintro e w2 ⟨rfl,hE2⟩)
  | (go_at_call 198;refine (Hot.out _ (hE1.ext hE2)).mono ?_;rintro e w3 ⟨rfl,rfl⟩))
 have HE:=hJ (hE1.ext hE2)
 clear hE1 hE2
 obtain ⟨W3,hW3⟩:∃ W,w3=W:=⟨_,rfl⟩
 rw[hW3] at HE ⊢
 clear hW3
 go_loopw [14] (fun iv wr=>iv=.int .i64 0∧wr=W3) (fun _ _=>0)
 case atStart=>exact ⟨rfl,rfl⟩
 obtain ⟨rfl,rfl⟩:=hrel
 go_wp2
 go_end0
 exact ⟨rfl,HE.out⟩
def zcK (t:Int):zO:=⟨t,0,zW.zero,jB.zero⟩
def zS.led (r:zS):zS:={ r with hard:=r.hard.put (zcK r.hard.term),commit:=r.last+1,role:=3,lead:=0,votes:=0,quiet:=0,round:=r.round+1,next:=A7.const (r.last+1),mtch:=⟨r.last+1,0,0,0,0,0,0⟩,silent:=A7.const 0 }
theorem zpO:yO.zero.ok:=⟨zc1,by show (0:Nat)<_;omega,Nat.zero_le _⟩
theorem ok_zcall:zW.zero.ok:=⟨zc1,zc1,zc1,Nat.zero_le _,zpO,zpO⟩
theorem zpP {t:Int} (h:I64 t):(zcK t).ok:=⟨h,zc1,ok_zcall,zc1,zc1,zc1,zc1⟩
def zkY (w0 w:World) (q:Nat) (sv:Value) (r:zS) (e:Ending) (w':World):Prop:=e=.returned (.tuple #[])∧∃ lv',Rep w0 w' q sv lv' (.slice none 0 0) r []∧Mod (zD w0.heap.size) w w'
def nx (a:A7) (L:Int):Nat→A7
  | 0=>⟨a.x0,a.x1,a.x2,a.x3,a.x4,a.x5,a.x6⟩
  | 1=>⟨L,a.x1,a.x2,a.x3,a.x4,a.x5,a.x6⟩
  | 2=>⟨L,L,a.x2,a.x3,a.x4,a.x5,a.x6⟩
  | 3=>⟨L,L,L,a.x3,a.x4,a.x5,a.x6⟩
  | 4=>⟨L,L,L,L,a.x4,a.x5,a.x6⟩
  | 5=>⟨L,L,L,L,L,a.x5,a.x6⟩
  | 6=>⟨L,L,L,L,L,L,a.x6⟩
  | _=>A7.const L
theorem r_lead (w0 w:World) (q:Nat) (sv lv rv:Value) (r:zS) (hR:Rep w0 w q sv lv rv r []) (hl:zdL r.hard) (hn:r.hard.log.length<1000) (hc:r.hard.base≤r.commit∧r.commit≤r.last) (ht:0≤r.hard.term∧r.hard.term≤1099511627776) (h0:r.id=0) (hrd:0≤r.round∧r.round<1000000):Calls Tryz.prog 255 #[.pointer (some ⟨q,0,none⟩)] w (zkY w0 w q sv r.led):=by
 obtain ⟨As,sn,cs,rfl⟩:∃ A n c,sv=.slice A n c:=⟨_,_,zC hR.hard.1.1 |>.choose_spec⟩
 obtain ⟨hrd0,hrd1⟩:=hrd
 have hrd2:r.round+1≤1099511627776:=by omega
 have hrd3:¬ 1099511627776<r.round+1:=by omega
 have HR:=hJ hR
 have Hq:=hJ hR.box
 obtain ⟨Hl,Hn,Hc,Ht,H0⟩:=hJ5 hl hn hc ht h0
 clear hR hl hn hc ht h0
 go_enter Tryz.func255,Tryz.ntmps255
 go_upto_region 1 with (first
  | (refine zK ?_;first
    | (refine lD 3 q 0 (zL zQ Hq.out (show some (Value.int .i64 r.id)=some (.int .i64 0) by rw[H0.out])) ?_))
  | (refine zF ?_;first
    | (refine stQ rfl 3 _ _ rfl 1 q 12 (.int .i64 3) [.int .i64 3] zQ.size _ _ (({ r with role:=3 }:zS).cells (.slice As sn cs) lv rv++[Value.slice none 0 0]) Hq.out rfl ?_;intro W1 hbW1 hmW1 hsW1;have HqW1:=hJ hbW1)
    | (refine stQ rfl 3 _ _ rfl 1 q 13 (.int .i64 0) [.int .i64 0] zQ.size _ _ (({ r with role:=3,lead:=0 }:zS).cells (.slice As sn cs) lv rv++[Value.slice none 0 0]) HqW1.out rfl ?_;intro W2 hbW2 hmW2 hsW2;have HqW2:=hJ hbW2)
    | (refine stQ rfl 3 _ _ rfl 1 q 16 (.int .i64 0) [.int .i64 0] zQ.size _ _ (({ r with role:=3,lead:=0,votes:=0 }:zS).cells (.slice As sn cs) lv rv++[Value.slice none 0 0]) HqW2.out rfl ?_;intro W3 hbW3 hmW3 hsW3;have HqW3:=hJ hbW3)
    | (refine stQ rfl 63 _ _ rfl 1 q 39 (.slice none 0 0) [.slice none 0 0] zc9.size _ _ (({ r with role:=3,lead:=0,votes:=0 }:zS).cells (.slice As sn cs) lv (.slice none 0 0)++[Value.slice none 0 0]) HqW3.out rfl ?_;intro W4 hbW4 hmW4 hsW4;have HqW4:=hJ hbW4)
    | (refine stQ rfl 3 _ _ rfl 1 q 15 (.int .i64 0) [.int .i64 0] zQ.size _ _ (({ r with role:=3,lead:=0,votes:=0,quiet:=0 }:zS).cells (.slice As sn cs) lv (.slice none 0 0)++[Value.slice none 0 0]) HqW4.out rfl ?_;intro W5 hbW5 hmW5 hsW5)))
 have hM5:Mod (fun k=>k=q) w W5:=(((hmW1.self hmW2).self hmW3).self hmW4).self hmW5
 have HR5:=hJ (show Rep w0 W5 q (.slice As sn cs) lv (.slice none 0 0) ({ r with role:=3,lead:=0,votes:=0,quiet:=0 }:zS) [] from HR.out.turn0 hM5 hbW5 rfl rfl)
 have Hqn:∀ k,k=q→w0.heap.size≤k:=fun k e=>e▸HR.out.new
 have HM5:=hJ (show Mod (zD w0.heap.size) w W5 from hM5.mono (fun k _ e=>Hqn k e))
 have Hq5:=hJ HR5.out.box
 clear hbW1 hbW2 hbW3 hbW4 hbW5 HqW1 HqW2 HqW3 HqW4 hmW1 hmW2 hmW3 hmW4 hmW5 hsW1 hsW2 hsW3 hsW4 hsW5 hM5 Hq
 go_upto_region 2 with (first
  | (refine zK ?_;first
    | (refine lD 3 q 17 (zL zQ Hq5.out rfl) ?_))
  | (refine zF ?_;first
    | (refine stQ rfl 3 _ _ rfl 1 q 17 (.int .i64 (r.round+1)) [.int .i64 (r.round+1)] zQ.size _ _ (({ r with role:=3,lead:=0,votes:=0,quiet:=0,round:=r.round+1 }:zS).cells (.slice As sn cs) lv (.slice none 0 0)++[Value.slice none 0 0]) Hq5.out rfl ?_;intro W6 hbW6 hmW6 hsW6)))
 have HR6:=hJ (show Rep w0 W6 q (.slice As sn cs) lv (.slice none 0 0) ({ r with role:=3,lead:=0,votes:=0,quiet:=0,round:=r.round+1 }:zS) [] from HR5.out.turn hmW6 hbW6 rfl rfl)
 have HM6:=hJ (HM5.out.trans hmW6 (fun k _ e=>Hqn k e))
 have Hq6:=hJ HR6.out.box
 clear hbW6 hmW6 hsW6
 go_upto_region 3 with (first
  | (refine zF ?_;first
    | (refine stQ rfl 62 _ _ rfl 7 q 25 (.agg #[.int .i64 0,.int .i64 0,.int .i64 0,.int .i64 0,.int .i64 0,.int .i64 0,.int .i64 0]) [.int .i64 0,.int .i64 0,.int .i64 0,.int .i64 0,.int .i64 0,.int .i64 0,.int .i64 0] (by kernel_rfl) _ _ (({ r with role:=3,lead:=0,votes:=0,quiet:=0,round:=r.round+1,mtch:=A7.const 0 }:zS).cells (.slice As sn cs) lv (.slice none 0 0)++[Value.slice none 0 0]) Hq6.out rfl ?_;intro W7 hbW7 hmW7 hsW7;have HqW7:=hJ hbW7)
    | (refine stQ rfl 62 _ _ rfl 7 q 32 (.agg #[.int .i64 0,.int .i64 0,.int .i64 0,.int .i64 0,.int .i64 0,.int .i64 0,.int .i64 0]) [.int .i64 0,.int .i64 0,.int .i64 0,.int .i64 0,.int .i64 0,.int .i64 0,.int .i64 0] (by kernel_rfl) _ _ (({ r with role:=3,lead:=0,votes:=0,quiet:=0,round:=r.round+1,mtch:=A7.const 0,silent:=A7.const 0 }:zS).cells (.slice As sn cs) lv (.slice none 0 0)++[Value.slice none 0 0]) HqW7.out rfl ?_;intro W8 hbW8 hmW8 hsW8)))
 obtain ⟨r3,hr3⟩:∃ r3:zS,({ r with role:=3,lead:=0,votes:=0,quiet:=0,round:=r.round+1,mtch:=A7.const 0,silent:=A7.const 0 }:zS)=r3:=⟨_,rfl⟩
 have hR8:Rep w0 W8 q (.slice As sn cs) lv (.slice none 0 0) ({ r with role:=3,lead:=0,votes:=0,quiet:=0,round:=r.round+1,mtch:=A7.const 0,silent:=A7.const 0 }:zS) []:=HR6.out.turn (hmW7.self hmW8) hbW8 rfl rfl
 rw[hr3] at hR8
 have HR8:=hJ hR8
 have HM8:=hJ (HM6.out.trans (hmW7.self hmW8) (fun k _ e=>Hqn k e))
 have Hq8:=hJ HR8.out.box
 obtain ⟨L,hL⟩:∃ L,r.last+1=L:=⟨_,rfl⟩
 obtain ⟨HL,Hr3⟩:=hJ2 hL hr3
 have had:=fun t (h:r.hard.term=t)=>r_add w0 W8 q (.slice As sn cs) lv (.slice none 0 0) r3 (zcK t) HR8.out (hr3▸Hl.out) ⟨_,_,rfl⟩ (zpP (by rw[←h];have:=Ht.out;unfold I64;omega)) (by show (0:Int)≠2;omega) (hr3▸Hn.out) (by rw[←hr3];exact h.symm) (hr3▸Ht.out.1) (hr3▸H0.out) ⟨0,hr3▸rfl⟩ (hr3▸Hc.out)
 have Had:=hJ had
 have htm:r3.hard.term=r.hard.term:=hr3▸rfl
 have Htm:=hJ htm
 have hl3:r3.last=r.last:=hr3▸rfl
 have Hl3:=hJ hl3
 clear hbW7 hmW7 hsW7 hbW8 hmW8 hsW8 HqW7 hR8 hr3 had htm hL hl3
 go_upto_region 4 with (first
  | (refine zK ?_;refine lD 3 q 1 (zL zQ Hq8.out (show some (Value.int .i64 r3.hard.term)=some (.int .i64 r.hard.term) by rw[Htm.out])) ?_)
  | (go_at_call 164;refine (Had.out _ rfl).mono ?_;rintro e w9 ⟨rfl,lv9,hR9,hM9⟩))
 rw[Hl3.out,HL.out]
 obtain ⟨r4,hr4⟩:∃ r4,r3.put (zcK r.hard.term)=r4:=⟨_,rfl⟩
 rw[hr4] at hR9
 have h40:r4.id=0:=by rw[←hr4,←Hr3.out];exact H0.out
 have h4l:zdL r4.hard:=by rw[←hr4,←Hr3.out];exact Hl.out.put (show (0:Int)≠2 by omega) Hn.out
 have h4e:({ r4 with next:=A7.const L }:zS)=r.led:=by rw[←hr4,←Hr3.out,←HL.out];rfl
 have HR9:=hJ hR9
 have HM9:=hJ (HM8.out.trans hM9 (fun k _ h=>h))
 obtain ⟨H40,H4l,H4e⟩:=hJ3 h40 h4l h4e
 clear hR9 hM9 hr4 h40 h4l h4e Had
 go_wp2_with fail
 go_loopw [3,59] (fun _ iv wr=>∃ i:Nat,i≤7∧iv=.int .i64 i∧Rep w0 wr q (.slice As sn cs) lv9 (.slice none 0 0) { r4 with next:=nx r4.next L i } []∧Mod (zD w0.heap.size) w wr) (fun _ iv _=>7-(intOf iv).toNat)
 case atStart=>exact ⟨0,by omega,rfl,HR9.out,HM9.out⟩
 obtain ⟨i,hi,rfl,hRi,hMi⟩:=hrel
 have hc:i=0∨i=1∨i=2∨i=3∨i=4∨i=5∨i=6∨i=7:=by omega
 obtain ⟨HRi,HMi⟩:=hJ2 hRi hMi
 have Hqi:=hJ hRi.box
 clear hRi hMi
 rcases hc with rfl|rfl|rfl|rfl|rfl|rfl|rfl|rfl
 · go_wp2_with (refine zF ?_;refine stQ rfl 3 _ _ rfl 1 q 18 (.int .i64 L) [.int .i64 L] zQ.size _ _ (({ r4 with next:=nx r4.next L 1 }:zS).cells (.slice As sn cs) lv9 (.slice none 0 0)++[Value.slice none 0 0]) Hqi.out rfl ?_;intro Wn hbWn hmWn hsWn)
   exact ⟨⟨1,by omega,rfl,HRi.out.turn hmWn hbWn rfl rfl,HMi.out.trans hmWn (fun k _ e=>Hqn k e)⟩,by simp[intOf]⟩
 · go_wp2_with (refine zF ?_;refine stQ rfl 3 _ _ rfl 1 q 19 (.int .i64 L) [.int .i64 L] zQ.size _ _ (({ r4 with next:=nx r4.next L 2 }:zS).cells (.slice As sn cs) lv9 (.slice none 0 0)++[Value.slice none 0 0]) Hqi.out rfl ?_;intro Wn hbWn hmWn hsWn)
   exact ⟨⟨2,by omega,rfl,HRi.out.turn hmWn hbWn rfl rfl,HMi.out.trans hmWn (fun k _ e=>Hqn k e)⟩,by simp[intOf]⟩
 · go_wp2_with (refine zF ?_;refine stQ rfl 3 _ _ rfl 1 q 20 (.int .i64 L) [.int .i64 L] zQ.size _ _ (({ r4 with next:=nx r4.next L 3 }:zS).cells (.slice As sn cs) lv9 (.slice none 0 0)++[Value.slice none 0 0]) Hqi.out rfl ?_;intro Wn hbWn hmWn hsWn)
   exact ⟨⟨3,by omega,rfl,HRi.out.turn hmWn hbWn rfl rfl,HMi.out.trans hmWn (fun k _ e=>Hqn k e)⟩,by simp[intOf]⟩
 · go_wp2_with (refine zF ?_;refine stQ rfl 3 _ _ rfl 1 q 21 (.int .i64 L) [.int .i64 L] zQ.size _ _ (({ r4 with next:=nx r4.next L 4 }:zS).cells (.slice As sn cs) lv9 (.slice none 0 0)++[Value.slice none 0 0]) Hqi.out rfl ?_;intro Wn hbWn hmWn hsWn)
   exact ⟨⟨4,by omega,rfl,HRi.out.turn hmWn hbWn rfl rfl,HMi.out.trans hmWn (fun k _ e=>Hqn k e)⟩,by simp[intOf]⟩
 · go_wp2_with (refine zF ?_;refine stQ rfl 3 _ _ rfl 1 q 22 (.int .i64 L) [.int .i64 L] zQ.size _ _ (({ r4 with next:=nx r4.next L 5 }:zS).cells (.slice As sn cs) lv9 (.slice none 0 0)++[Value.slice none 0 0]) Hqi.out rfl ?_;intro Wn hbWn hmWn hsWn)
   exact ⟨⟨5,by omega,rfl,HRi.out.turn hmWn hbWn rfl rfl,HMi.out.trans hmWn (fun k _ e=>Hqn k e)⟩,by simp[intOf]⟩
 · go_wp2_with (refine zF ?_;refine stQ rfl 3 _ _ rfl 1 q 23 (.int .i64 L) [.int .i64 L] zQ.size _ _ (({ r4 with next:=nx r4.next L 6 }:zS).cells (.slice As sn cs) lv9 (.slice none 0 0)++[Value.slice none 0 0]) Hqi.out rfl ?_;intro Wn hbWn hmWn hsWn)
   exact ⟨⟨6,by omega,rfl,HRi.out.turn hmWn hbWn rfl rfl,HMi.out.trans hmWn (fun k _ e=>Hqn k e)⟩,by simp[intOf]⟩
 · go_wp2_with (refine zF ?_;refine stQ rfl 3 _ _ rfl 1 q 24 (.int .i64 L) [.int .i64 L] zQ.size _ _ (({ r4 with next:=nx r4.next L 7 }:zS).cells (.slice As sn cs) lv9 (.slice none 0 0)++[Value.slice none 0 0]) Hqi.out rfl ?_;intro Wn hbWn hmWn hsWn)
   exact ⟨⟨7,by omega,rfl,HRi.out.turn hmWn hbWn rfl rfl,HMi.out.trans hmWn (fun k _ e=>Hqn k e)⟩,by simp[intOf]⟩
 · have hRe:Rep w0 wr q (.slice As sn cs) lv9 (.slice none 0 0) { r4 with next:=A7.const L } []:=HRi.out
   go_wp2_with (go_at_call 202;refine (zpN w0 wr q _ _ _ _ hRe H4l.out ⟨_,_,rfl⟩ H40.out).mono ?_;rintro e w10 ⟨rfl,hE10⟩)
   go_end0
   rw[H4e.out] at hRe
   exact ⟨rfl,lv9,hRe.ext hE10,HMi.out.ext hE10⟩
end Go.Proofs.YtjbkjhhjofeldaaGreat
