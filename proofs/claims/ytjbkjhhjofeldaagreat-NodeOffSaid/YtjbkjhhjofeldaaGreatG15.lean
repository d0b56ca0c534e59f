/-
 Layer 22 (node): package logs on the log of a node alone: Conf, Entry, Term, Fits. Conditions: as each theorem names them.
-/
import Derived.Test.YtjbkjhhjofeldaaGreatG14
import Derived.StillTailTactics
set_option maxRecDepth 100000
set_option maxHeartbeats 1000000
namespace Go.Proofs.YtjbkjhhjofeldaaGreat
set_option linter.unusedSimpArgs false
set_option linter.unusedVariables false
open Go.RowKit
theorem xP.ext {w w':World} {T:Nat→Prop} {sv lv:Value} {h:zX} (hh:xP w T sv lv h) (hE:Ext w w'):xP w' T sv lv h:=hh.mod hE (fun _ _=>id)
theorem zkW (w:World) (T:Nat→Prop) (h:zX) (sv lv:Value) (u:Int) (hv:xP w T sv lv h) (ha:Alone h) (hl:h.log.length≤1000000) (hb:0≤h.base∧h.base≤1099511627776):
  Calls Tryz.prog 166 #[.agg (h.cells sv lv).toArray,.int .i64 u] w fun e w'=>e=.returned (.tuple #[c1v,.int .i64 h.base])∧Ext w w':=by
 obtain ⟨As,cs,Al,cl,rfl,rfl⟩:=hv.forms
 obtain ⟨b,hb0⟩:∃ b,w.heap.size=b:=⟨_,rfl⟩
 obtain ⟨n,hn⟩:∃ n,h.snap.length=n:=⟨_,rfl⟩
 obtain ⟨m,hm⟩:∃ m,h.log.length=m:=⟨_,rfl⟩
 rw[hn,hm] at hv ⊢
 rw[hm] at hl
 obtain ⟨Hv,Ha⟩:=hJ2 hv ha
 clear hv ha hn
 have Hm:=hJ hm
 clear hm
 go_enter Tryz.func166,Tryz.ntmps166
 go_upto_region 1 with fail
 obtain ⟨W2,hW2⟩:∃ W2,(w.alloc (.cells (h.cells (.slice As n cs) (.slice Al m cl)).toArray 61)).alloc (.cells #[.int .i64 0,.int .i64 0,.int .i64 0,.int .i64 0] 57)=W2:=⟨_,rfl⟩
 have hE2:Ext w W2:=hW2▸(((Mod.refl _ w).alloc _).alloc _)
 have hb2:W2.heap[b]? = some (.cells (h.cells (.slice As n cs) (.slice Al m cl)).toArray 61 (0,0)):=hb0▸hW2▸xE _ _ _
 have hc2:W2.heap[b+1]? = some (.cells [.int .i64 0,.int .i64 0,.int .i64 0,.int .i64 0].toArray 57 (0,0)):=by rw[←hW2,←hb0];exact xA _ _ _
 rw[hW2]
 clear hW2
 have p9:W2.cell? ⟨b,9,none⟩=some (.slice Al m cl):=zA hb2 rfl
 have p2:W2.cell? ⟨b,2,none⟩=some (.int .i64 h.base):=zA hb2 rfl
 have p4:W2.cell? ⟨b,4,none⟩=some (.int .i64 1):=by have:=zA (j:=4) hb2 rfl;rw[this,Ha.out.conf];rfl
 have p5:W2.cell? ⟨b,5,none⟩=some (.int .i64 0):=by have:=zA (j:=5) hb2 rfl;rw[this,Ha.out.conf];rfl
 have p6:W2.cell? ⟨b,6,none⟩=some (.int .i64 0):=by have:=zA (j:=6) hb2 rfl;rw[this,Ha.out.conf];rfl
 have p7:W2.cell? ⟨b,7,none⟩=some (.int .i64 0):=by have:=zA (j:=7) hb2 rfl;rw[this,Ha.out.conf];rfl
 obtain ⟨Hb2,Hc2,HE2⟩:=hJ3 hb2 hc2 hE2
 clear hb2 hc2 hE2
 go_wp2_with fail
 go_loopw [6] (fun iv wr=>∃ k:Nat,iv=.int .i64 ((k:Int)-1)∧k≤m∧wr=W2) (fun iv _=>((intOf iv)+1).toNat)
 case atStart=>exact ⟨m,by go_num,by omega,rfl⟩
 obtain ⟨k,rfl,hk,rfl⟩:=hrel
 by_cases h0:k=0
 · subst h0
   go_wp2
   have c0:wr.cell? ⟨(b+1),0,none⟩=some _:=zA Hc2.out rfl
   have c1:wr.cell? ⟨(b+1),1,none⟩=some _:=zA Hc2.out rfl
   have c2:wr.cell? ⟨(b+1),2,none⟩=some _:=zA Hc2.out rfl
   have c3:wr.cell? ⟨(b+1),3,none⟩=some _:=zA Hc2.out rfl
   have f0:wr.frozen? ⟨(b+1),0,none⟩=false:=zB 0 Hc2.out
   have f1:wr.frozen? ⟨(b+1),1,none⟩=false:=zB 1 Hc2.out
   have f2:wr.frozen? ⟨(b+1),2,none⟩=false:=zB 2 Hc2.out
   have f3:wr.frozen? ⟨(b+1),3,none⟩=false:=zB 3 Hc2.out
   go_region_held3 (fun W=>W.cell? ⟨b,2,none⟩=some (.int .i64 h.base)∧W.cell? ⟨b,4,none⟩=some (.int .i64 1)∧W.cell? ⟨b,5,none⟩=some (.int .i64 0)∧W.cell? ⟨b,6,none⟩=some (.int .i64 0)∧W.cell? ⟨b,7,none⟩=some (.int .i64 0)) (go_keep) (fail)
   all_goals
    go_wp2
    exact bodyPost_ret (zaA rfl _ _ (b+1) 57 [.int .i64 1,.int .i64 0,.int .i64 0,.int .i64 0] za5 rfl (jA (jA (jA (jA Hc2.out 0 (.int .i64 1)) 1 (.int .i64 0)) 2 (.int .i64 0)) 3 (.int .i64 0)) rfl) rfl ⟨rfl,by
     refine Mod.toExt ?_
     repeat (first|exact Ext.mod HE2.out _|refine Mod.drew ?_|refine Mod.setCell ?_ (.inl (by simp only;omega)) _)⟩
 obtain ⟨g,off,x,rfl,hgT,hx,hxok,hcells⟩:=Hv.out.2.at (i:=k-1) (by omega)
 have hkd:x.kind≠2:=Ha.out.none x (List.mem_of_getElem? hx)
 have hkb:(x.kind==2)=false:=by simpa using hkd
 have x1:=(HE2.out.cell (hcells 1 _ rfl) id)
 have hki:(k:Int)-1=((k-1:Nat):Int):=by omega
 have q3:(0:Int)≤((k-1:Nat):Int):=by omega
 have q4:((k-1:Nat):Int)<(m:Int):=by omega
 rw[hki]
 clear hgT hx hxok hcells hkd
 go_wp2
 exact ⟨⟨k-1,rfl,by omega,trivial⟩,by simp[intOf]⟩
theorem ziJ (w:World) (T:Nat→Prop) (h:zX) (sv lv:Value) (i:Int) (x:zO) (hv:xP w T sv lv h) (hl:h.log.length≤1000000) (hb:0≤h.base∧h.base≤1099511627776) (k:Nat) (hi:i=h.base+1+k) (hx:h.log[k]? = some x):
  Calls Tryz.prog 172 #[.agg (h.cells sv lv).toArray,.int .i64 i] w fun e w'=>e=.returned (.tuple #[.agg x.cells.toArray,.bool true])∧Ext w w':=by
 obtain ⟨As,cs,Al,cl,rfl,rfl⟩:=hv.forms
 obtain ⟨b,hb0⟩:∃ b,w.heap.size=b:=⟨_,rfl⟩
 obtain ⟨n,hn⟩:∃ n,h.snap.length=n:=⟨_,rfl⟩
 obtain ⟨m,hm⟩:∃ m,h.log.length=m:=⟨_,rfl⟩
 rw[hn,hm] at hv ⊢
 rw[hm] at hl
 have hkm:k<m:=by rw[←hm];exact (List.getElem?_eq_some_iff.1 hx).1
 obtain ⟨g,off,y,rfl,hgT,hy,hyok,hcells⟩:=hv.2.at (i:=k) hkm
 obtain rfl:y=x:=Option.some.inj (hy.symm.trans hx)
 have Hcells:=hJ hcells
 have d1:¬ i≤h.base:=by omega
 have d2:¬ (m:Int)<i-h.base:=by omega
 have d3:¬ i-h.base<1:=by omega
 have d4:i-h.base-1=(k:Int):=by omega
 have d5:(k:Int)<(m:Int):=by omega
 clear hv hn hx hy hyok hcells hgT hi hm
 go_enter Tryz.func172,Tryz.ntmps172
 go_upto_region 1 with fail
 obtain ⟨W2,hW2⟩:∃ W2,(w.alloc (.cells (h.cells (.slice As n cs) (.slice (some ⟨g,off,none⟩) m cl)).toArray 61)).alloc (.cells zE.toArray 100)=W2:=⟨_,rfl⟩
 have hE2:Ext w W2:=hW2▸(((Mod.refl _ w).alloc _).alloc _)
 have hb2:W2.heap[b]? = some (.cells (h.cells (.slice As n cs) (.slice (some ⟨g,off,none⟩) m cl)).toArray 61 (0,0)):=hb0▸hW2▸xE _ _ _
 have hc2:W2.heap[b+1]? = some (.cells zO.zero.cells.toArray 100 (0,0)):=by rw[←hW2,←hb0];exact xA _ _ _
 rw[hW2]
 clear hW2
 have p9:W2.cell? ⟨b,9,none⟩=some (.slice (some ⟨g,off,none⟩) m cl):=zA hb2 rfl
 have p2:W2.cell? ⟨b,2,none⟩=some (.int .i64 h.base):=zA hb2 rfl
 have hld:(Instr.loadAt 100 (.pointer (some ⟨g,off+k*16,none⟩))).run Tryz.prog W2=.ok (.agg y.cells.toArray) W2:=jE yR rfl (fun j u hu=>hE2.cell (p:=⟨g,off+k*16+j,none⟩) (Hcells.out j u hu) id)
 obtain ⟨Hc2,HE2⟩:=hJ2 hc2 hE2
 clear hb2 hc2 hE2
 go_wp2_with (first
  | (refine lD 100 g (off+k*16) hld ?_)
  | (refine qH rfl 100 _ _ rfl 16 (b+1) 0 y.cells rfl rfl yR _ _ y.cells Hc2.out rfl (by simp) (by simp[Value.oneCell']) rfl ?_;intro W3 hb3 hm3 hs3))
 exact bodyPost_ret (zaA rfl _ _ (b+1) 100 y.cells yR rfl hb3 rfl) rfl ⟨rfl,Mod.toExt ((Ext.mod HE2.out (zD w.heap.size)).trans hm3 (fun k hk e=>by unfold zD;omega))⟩
theorem l_termA (w:World) (T:Nat→Prop) (h:zX) (sv lv:Value) (i:Int) (x:zO) (hv:xP w T sv lv h) (hl:h.log.length≤1000000) (hb:0≤h.base∧h.base≤1099511627776) (k:Nat) (hi:i=h.base+1+k) (hx:h.log[k]? = some x):
  Calls Tryz.prog 282 #[.agg (h.cells sv lv).toArray,.int .i64 i] w fun e w'=>e=.returned (.int .i64 x.term)∧Ext w w':=by
 obtain ⟨As,cs,Al,cl,rfl,rfl⟩:=hv.forms
 obtain ⟨b,hb0⟩:∃ b,w.heap.size=b:=⟨_,rfl⟩
 obtain ⟨n,hn⟩:∃ n,h.snap.length=n:=⟨_,rfl⟩
 obtain ⟨m,hm⟩:∃ m,h.log.length=m:=⟨_,rfl⟩
 have he:∀ W,Ext w W→Calls Tryz.prog 172 #[.agg (h.cells (.slice As n cs) (.slice Al m cl)).toArray,.int .i64 i] W fun e w'=>e=.returned (.tuple #[.agg x.cells.toArray,.bool true])∧Ext W w':=fun W hE=>by
  have:=ziJ W T h _ _ i x (hv.ext hE) hl hb k hi hx
  rw[hn,hm] at this;exact this
 rw[hn,hm]
 have He:=hJ he
 have d1:(i==h.base)=false:=by simp;omega
 clear hv hn hx hi hm he
 go_enter Tryz.func282,Tryz.ntmps282
 go_upto_region 1 with fail
 obtain ⟨W2,hW2⟩:∃ W2,w.alloc (.cells (h.cells (.slice As n cs) (.slice Al m cl)).toArray 61)=W2:=⟨_,rfl⟩
 have hE2:Ext w W2:=hW2▸((Mod.refl _ w).alloc _)
 have hb2:W2.heap[b]? = some (.cells (h.cells (.slice As n cs) (.slice Al m cl)).toArray 61 (0,0)):=hb0▸hW2▸zI _ _
 rw[hW2]
 clear hW2
 have p2:W2.cell? ⟨b,2,none⟩=some (.int .i64 h.base):=zA hb2 rfl
 have hld:(Instr.loadAt 61 (.pointer (some ⟨b,0,none⟩))).run Tryz.prog W2=.ok (.agg (h.cells (.slice As n cs) (.slice Al m cl)).toArray) W2:=ld0 yF hb2
 have HE2:=hJ hE2
 clear hb2 hE2
 go_wp2_with (first
  | (refine lD 61 b 0 hld ?_)
  | (go_at_call 172;refine (He.out _ HE2.out).mono ?_;rintro e w3 ⟨rfl,hE3⟩))
 go_ret
 exact ⟨rfl,(HE2.out.ext hE3).alloc _⟩
theorem yA:Str Tryz.prog 65 40:=⟨⟨_,Tryz.underlying65⟩,by kernel_rfl⟩
structure RM (w:World) (T:Nat→Prop) (sv lv rv:Value) (r:zS) (rds:List yL):Prop where
  hard:xP w T sv lv r.hard
  reads:Sl w T 13 rv rds.length (rds.flatMap yL.cells)
theorem RM.ext {w w':World} {T:Nat→Prop} {sv lv rv:Value} {r:zS} {rds:List yL} (h:RM w T sv lv rv r rds) (hE:Ext w w'):RM w' T sv lv rv r rds:=⟨h.hard.ext hE,h.reads.ext hE⟩
theorem zcI {w W:World} {b:Nat} {t:TypeId} {r:zS} {sv lv rv:Value} (hb:w.heap.size=b) (hW:w.alloc (.cells (r.cells sv lv rv).toArray t)=W):Ext w W∧W.heap[b]? = some (.cells (r.cells sv lv rv).toArray t (0,0)):=⟨hW▸(Mod.refl _ w).alloc _,hb▸hW▸zI _ _⟩
theorem yY {W:World} {b:Nat} {t:TypeId} {r:zS} {sv lv rv:Value} (h:W.heap[b]? = some (.cells (r.cells sv lv rv).toArray t (0,0))):(Instr.loadAt 65 (.pointer (some ⟨b,0,none⟩))).run Tryz.prog W=.ok (.agg (r.cells sv lv rv).toArray) W:=ld0 yA h
theorem zbQ {W:World} {b:Nat} {t:TypeId} {r:zS} {sv lv rv:Value} (h:W.heap[b]? = some (.cells (r.cells sv lv rv).toArray t (0,0))):(Instr.loadAt 61 (.pointer (some ⟨b,1,none⟩))).run Tryz.prog W=.ok (.agg (r.hard.cells sv lv).toArray) W:=xH (o:=1) (cs:=r.hard.cells sv lv) yF h rfl (fun j u hu=>by rcases j with _|_|_|_|_|_|_|_|_|_|j <;> first|exact hu|cases hu)
theorem zaZ {P:Program} {fn:Func} {p:Tmp} {ty:TypeId} {k:Nat} (h:fn.results = #[.cell p ty]) (tmps:Array Value) (w:World) (g:Nat) (t:TypeId) (cs:List Value) (hs:Str P ty k)
    (hp:tmps.getD p undef=.pointer (some ⟨g,0,none⟩)) (hg:w.heap[g]? = some (.cells cs.toArray t (0,0))) (hc:cs.length=k):(results fn tmps).run P w=.ok (.agg cs.toArray) w:=by
  have hl:=xH (P:=P) (o:=0) (cs:=cs) hs hg hc (fun j u hu=>by rw[Nat.zero_add];exact hu)
  have hv:(loadVar ty ⟨g,0,none⟩).run P w=.ok (.agg cs.toArray) w:=by simpa [Instr.loadAt,Instr.sureAddr] using hl
  have hp':tmps[p]?.getD undef=.pointer (some ⟨g,0,none⟩):=by rw[←Array.getD_eq_getD_getElem?];exact hp
  simp[results,h,hp',asAddr,hv,Result.andThen]
structure zdL (h:zX):Prop where
  alone:Alone h
  few:h.log.length≤1000000
  base:0≤h.base∧h.base≤1099511627776
theorem zcJ (r:zS) (sv lv:Value) (Ra:Option Addr) (rn rc:Nat) (w:World) (T:Nat→Prop) (hv:xP w T sv lv r.hard) (hl:zdL r.hard):
  Calls Tryz.prog 90 #[.agg (r.cells sv lv (.slice Ra rn rc)).toArray] w fun e w'=>e=.returned c1v∧Ext w w':=by
 obtain ⟨b,hb⟩:∃ b,w.heap.size=b:=⟨_,rfl⟩
 obtain ⟨As,cs,Al,cl,hs1,hs2⟩:=hv.forms
 have hla:∀ W,Ext w W→Calls Tryz.prog 162 #[.agg (r.hard.cells sv lv).toArray] W fun e w'=>(∃ i t:Int,e=.returned (.tuple #[.int .i64 i,.int .i64 t]))∧Ext W w':=fun W hE=>(zjR W T r.hard sv lv (hv.ext hE) hl.few hl.base.1 hl.base.2).mono fun e w' h=>⟨⟨_,_,h.1⟩,h.2⟩
 have hco:∀ W u,Ext w W→Calls Tryz.prog 166 #[.agg (r.hard.cells sv lv).toArray,.int .i64 u] W fun e w'=>e=.returned (.tuple #[c1v,.int .i64 r.hard.base])∧Ext W w':=fun W u hE=>zkW W T r.hard sv lv u (hv.ext hE) hl.alone hl.few hl.base
 subst hs1
 subst hs2
 obtain ⟨Hla,Hco⟩:=hJ2 hla hco
 clear hv hl hla hco
 go_enter Tryz.func90,Tryz.ntmps90
 go_upto_region 1 with fail
 obtain ⟨W2,hW2⟩:∃ W2,(w.alloc (.cells (r.cells (.slice As r.hard.snap.length cs) (.slice Al r.hard.log.length cl) (.slice Ra rn rc)).toArray 65)).alloc (.cells #[.int .i64 0,.int .i64 0,.int .i64 0,.int .i64 0] 57)=W2:=⟨_,rfl⟩
 have hE2:Ext w W2:=hW2▸(((Mod.refl _ w).alloc _).alloc _)
 have hb2:W2.heap[b]? = some (.cells (r.cells (.slice As r.hard.snap.length cs) (.slice Al r.hard.log.length cl) (.slice Ra rn rc)).toArray 65 (0,0)):=hb▸hW2▸xE _ _ _
 have hc2:W2.heap[b+1]? = some (.cells [.int .i64 0,.int .i64 0,.int .i64 0,.int .i64 0].toArray 57 (0,0)):=by rw[←hW2,←hb];exact xA _ _ _
 rw[hW2]
 clear hW2
 obtain ⟨Hb2,Hc2,HE2⟩:=hJ3 hb2 hc2 hE2
 clear hb2 hc2 hE2
 go_upto_region 2 with (first
  | (refine lD 61 b 1 (zbQ Hb2.out) ?_)
  | (go_at_call 162;refine (Hla.out _ HE2.out).mono ?_;rintro e w3 ⟨⟨i3,t3,rfl⟩,hE3⟩))
 have HE3:=hJ hE3
 have Hb3:=hJ (hE3.blk Hb2.out id)
 have Hc3:=hJ (hE3.blk Hc2.out id)
 clear hE3
 go_upto_region 3 with (first
  | (refine lD 61 b 1 (zbQ Hb3.out) ?_)
  | (go_at_call 166;refine (Hco.out _ _ (HE2.out.ext HE3.out)).mono ?_;rintro e w4 ⟨rfl,hE4⟩))
 obtain ⟨W5,hW5⟩:∃ W5,w4.alloc (.cells #[.int .i64 1,.int .i64 0,.int .i64 0,.int .i64 0] 57)=W5:=⟨_,rfl⟩
 have hE5:Ext w4 W5:=hW5▸((Mod.refl _ w4).alloc _)
 obtain ⟨q,hq⟩:∃ q,w4.heap.size=q:=⟨_,rfl⟩
 have hb5:W5.heap[q]? = some (.cells [.int .i64 1,.int .i64 0,.int .i64 0,.int .i64 0].toArray 57 (0,0)):=hq▸hW5▸zI _ _
 have hc5:=hE5.blk (hE4.blk Hc3.out id) id
 have hld:(Instr.loadAt 57 (.pointer (some ⟨q,0,none⟩))).run Tryz.prog W5=.ok c1v W5:=ld0 za5 hb5
 rw[hW5,hq]
 have HE5:=hJ ((HE2.out.ext HE3.out).ext (hE4.ext hE5))
 clear hW5 hq hE5 hE4 hb5
 go_wp2_with (first
  | (refine lD 57 q 0 hld ?_)
  | (refine qH rfl 57 _ _ rfl 4 (b+1) 0 [.int .i64 1,.int .i64 0,.int .i64 0,.int .i64 0] rfl rfl za5 _ _ [.int .i64 1,.int .i64 0,.int .i64 0,.int .i64 0] hc5 rfl (by simp) (by simp[Value.oneCell']) rfl ?_;intro W6 hb6 hm6 hs6))
 exact bodyPost_ret (zaZ rfl _ _ (b+1) 57 [.int .i64 1,.int .i64 0,.int .i64 0,.int .i64 0] za5 rfl hb6 rfl) rfl ⟨rfl,Mod.toExt ((Ext.mod HE5.out (zD w.heap.size)).trans hm6 (fun k hk e=>by unfold zD;omega))⟩
theorem v_bit1 (w:World):Calls Tryz.prog 197 #[.int .i64 1,.int .i64 0] w fun e w'=>e=.returned (.bool true)∧w'=w:=by
 have e:=and11
 go_enter Tryz.func197,Tryz.ntmps197
 go_wp2
 go_ret
 exact ⟨rfl,rfl⟩
theorem ziK (w:World):Calls Tryz.prog 125 #[c1v,.int .i64 0] w fun e w'=>e=.returned (.int .i64 6)∧Ext w w':=by
 have hE:Ext w (w.alloc (.cells #[.int .i64 1,.int .i64 0,.int .i64 0,.int .i64 0] 57)):=(Mod.refl _ w).alloc _
 go_enter Tryz.func125,Tryz.ntmps125
 go_wp2_with (go_at_call 197;refine (v_bit1 _).mono ?_;rintro e w1 ⟨rfl,rfl⟩)
 go_ret
 exact ⟨rfl,hE⟩
theorem zl6 (r:zS) (sv lv:Value) (Ra:Option Addr) (rn rc:Nat) (w:World) (T:Nat→Prop) (hv:xP w T sv lv r.hard) (hl:zdL r.hard) (h0:r.id=0):Calls Tryz.prog 201 #[.agg (r.cells sv lv (.slice Ra rn rc)).toArray] w fun e w'=>e=.returned (.bool true)∧Ext w w':=by
 obtain ⟨b,hb⟩:∃ b,w.heap.size=b:=⟨_,rfl⟩
 have hco:=fun W (hE:Ext w W)=>zcJ r sv lv Ra rn rc W T (hv.ext hE) hl
 obtain ⟨As,cs,Al,cl,hs1,hs2⟩:=hv.forms
 obtain ⟨sn,hsn⟩:∃ n,r.hard.snap.length=n:=⟨_,rfl⟩
 obtain ⟨ln,hln⟩:∃ n,r.hard.log.length=n:=⟨_,rfl⟩
 rw[hsn] at hs1
 rw[hln] at hs2
 subst hs1
 subst hs2
 have Hco:=hJ hco
 clear hv hl hco hsn hln
 go_enter Tryz.func201,Tryz.ntmps201
 go_upto_region 1 with fail
 obtain ⟨W1,hW1⟩:∃ W1,w.alloc (.cells (r.cells (.slice As sn cs) (.slice Al ln cl) (.slice Ra rn rc)).toArray 65)=W1:=⟨_,rfl⟩
 obtain ⟨hE1,hb1⟩:=zcI hb hW1
 rw[hW1]
 clear hW1
 obtain ⟨Hb1,HE1⟩:=hJ2 hb1 hE1
 have Hc:Hid (∀ W,Ext W1 W→W.cell? ⟨b,0,none⟩=some (.int .i64 0)):=hJ (fun W hE=>(zA (hE.blk hb1 id) rfl).trans (by rw[h0]))
 have p0:=Hc.out _ (Mod.refl _ W1)
 clear hb1 hE1 h0
 refine wp_region_held_drew (S:=(fun W=>Ext W1 W∧W.cell? ⟨b,0,none⟩=some (.int .i64 0))) (by kernel_rfl) ⟨(Mod.refl (fun _=>False) W1).drew,p0⟩ (fun hS=>?_)
 refine tkH 0 (some 3) rfl rfl ((.agg (r.cells (.slice As sn cs) (.slice Al ln cl) (.slice Ra rn rc)).toArray)) hS ?_ ?_
 · rintro W' ⟨hW1',p0⟩
   exact zbH _ _ rfl (.pointer (some ⟨b,0,none⟩)) _ rfl (yY (hW1'.blk Hb1.out id))
 try simp only[Act.put,List.setIfInBounds_toArray,List.set_cons_zero,List.set_cons_succ]
 refine zbB (i:=3) (v:=?_) (some 6) rfl rfl (by kernel_rfl) (by kernel_rfl) (by kernel_rfl) (fun _ _ _ h=>h) (Or.inl ⟨by kernel_rfl,?_⟩) hS ?_
 rotate_left
 · rintro W' ⟨hW1',p0⟩
   go_simp
   try rfl
 try simp only[Act.put,List.setIfInBounds_toArray,List.set_cons_zero,List.set_cons_succ]
 refine zbB (i:=4) (v:=?_) (some 7) rfl rfl (by kernel_rfl) (by kernel_rfl) (by kernel_rfl) (fun _ _ _ h=>h) (Or.inl ⟨by kernel_rfl,?_⟩) hS ?_
 rotate_left
 · rintro W' ⟨hW1',p0⟩
   go_simp
   try rfl
 try simp only[Act.put,List.setIfInBounds_toArray,List.set_cons_zero,List.set_cons_succ]
 refine zaJ 1 rfl (fun K hK=>?_)
 go_simp
 go_wp2_with fail
 refine (Hco.out _ (HE1.out.ext hS.1)).mono ?_
 rintro e w3 ⟨rfl,hE3⟩
 have hX:=And.intro (hS.1.ext hE3) (Hc.out _ (hS.1.ext hE3))
 go_simp
 refine hK.out _ _ hX (fun hS=>?_)
 clear hK K hX
 try simp only[Act.put,List.setIfInBounds_toArray,List.set_cons_zero,List.set_cons_succ]
 refine zaJ 2 rfl (fun K hK=>?_)
 go_simp
 go_wp2_with fail
 refine (zjM _).mono ?_
 rintro e w4 ⟨rfl,hE4⟩
 have hX:=And.intro (hS.1.ext hE4) (Hc.out _ (hS.1.ext hE4))
 go_simp
 refine hK.out _ _ hX (fun hS=>?_)
 clear hK K hX
 try simp only[Act.put,List.setIfInBounds_toArray,List.set_cons_zero,List.set_cons_succ]
 refine zaJ 5 rfl (fun K hK=>?_)
 go_simp
 go_wp2_with fail
 refine (v_bit1 _).mono ?_
 rintro e w5 ⟨rfl,rfl⟩
 have hX:=And.intro (hS.1.ext (Mod.refl _ _)) (Hc.out _ (hS.1.ext (Mod.refl _ _)))
 go_simp
 refine hK.out _ _ hX (fun hS=>?_)
 clear hK K hX
 try simp only[Act.put,List.setIfInBounds_toArray,List.set_cons_zero,List.set_cons_succ]
 refine zbB (i:=6) (v:=?_) (some 2) rfl rfl (by kernel_rfl) (by kernel_rfl) (by kernel_rfl) (fun _ _ _ h=>h) (Or.inl ⟨by kernel_rfl,?_⟩) hS ?_
 rotate_left
 · rintro W' ⟨hW1',p0⟩
   go_simp
   try rfl
 try simp only[Act.put,List.setIfInBounds_toArray,List.set_cons_zero,List.set_cons_succ]
 refine wpAnyH_done (by kernel_rfl) ?_ _
 go_wp2_with fail
 go_ret
 exact ⟨rfl,HE1.out.ext hS.1⟩
theorem zpF (r:zS) (sv lv:Value) (Ra:Option Addr) (rn rc:Nat) (w:World) (T:Nat→Prop) (hv:xP w T sv lv r.hard) (hl:zdL r.hard) (h0:r.votes=1):Calls Tryz.prog 204 #[.agg (r.cells sv lv (.slice Ra rn rc)).toArray] w fun e w'=>e=.returned (.bool true)∧Ext w w':=by
 obtain ⟨b,hb⟩:∃ b,w.heap.size=b:=⟨_,rfl⟩
 have hco:=fun W (hE:Ext w W)=>zcJ r sv lv Ra rn rc W T (hv.ext hE) hl
 obtain ⟨As,cs,Al,cl,hs1,hs2⟩:=hv.forms
 obtain ⟨sn,hsn⟩:∃ n,r.hard.snap.length=n:=⟨_,rfl⟩
 obtain ⟨ln,hln⟩:∃ n,r.hard.log.length=n:=⟨_,rfl⟩
 rw[hsn] at hs1
 rw[hln] at hs2
 subst hs1
 subst hs2
 have Hco:=hJ hco
 clear hv hl hco hsn hln
 go_enter Tryz.func204,Tryz.ntmps204
 go_upto_region 1 with fail
 obtain ⟨W1,hW1⟩:∃ W1,w.alloc (.cells (r.cells (.slice As sn cs) (.slice Al ln cl) (.slice Ra rn rc)).toArray 65)=W1:=⟨_,rfl⟩
 obtain ⟨hE1,hb1⟩:=zcI hb hW1
 rw[hW1]
 clear hW1
 obtain ⟨Hb1,HE1⟩:=hJ2 hb1 hE1
 have Hc:Hid (∀ W,Ext W1 W→W.cell? ⟨b,16,none⟩=some (.int .i64 1)):=hJ (fun W hE=>(zA (hE.blk hb1 id) rfl).trans (by rw[h0]))
 have p0:=Hc.out _ (Mod.refl _ W1)
 clear hb1 hE1 h0
 refine wp_region_held_drew (S:=(fun W=>Ext W1 W∧W.cell? ⟨b,16,none⟩=some (.int .i64 1))) (by kernel_rfl) ⟨(Mod.refl (fun _=>False) W1).drew,p0⟩ (fun hS=>?_)
 refine tkH 0 (some 3) rfl rfl ((.agg (r.cells (.slice As sn cs) (.slice Al ln cl) (.slice Ra rn rc)).toArray)) hS ?_ ?_
 · rintro W' ⟨hW1',p0⟩
   exact zbH _ _ rfl (.pointer (some ⟨b,0,none⟩)) _ rfl (yY (hW1'.blk Hb1.out id))
 try simp only[Act.put,List.setIfInBounds_toArray,List.set_cons_zero,List.set_cons_succ]
 refine zbB (i:=2) (v:=?_) (some 5) rfl rfl (by kernel_rfl) (by kernel_rfl) (by kernel_rfl) (fun _ _ _ h=>h) (Or.inl ⟨by kernel_rfl,?_⟩) hS ?_
 rotate_left
 · rintro W' ⟨hW1',p0⟩
   go_simp
   try rfl
 try simp only[Act.put,List.setIfInBounds_toArray,List.set_cons_zero,List.set_cons_succ]
 refine zbB (i:=3) (v:=?_) (some 6) rfl rfl (by kernel_rfl) (by kernel_rfl) (by kernel_rfl) (fun _ _ _ h=>h) (Or.inl ⟨by kernel_rfl,?_⟩) hS ?_
 rotate_left
 · rintro W' ⟨hW1',p0⟩
   go_simp
   try rfl
 try simp only[Act.put,List.setIfInBounds_toArray,List.set_cons_zero,List.set_cons_succ]
 refine zaJ 1 rfl (fun K hK=>?_)
 go_simp
 go_wp2_with fail
 refine (Hco.out _ (HE1.out.ext hS.1)).mono ?_
 rintro e w3 ⟨rfl,hE3⟩
 have hX:=And.intro (hS.1.ext hE3) (Hc.out _ (hS.1.ext hE3))
 go_simp
 refine hK.out _ _ hX (fun hS=>?_)
 clear hK K hX
 try simp only[Act.put,List.setIfInBounds_toArray,List.set_cons_zero,List.set_cons_succ]
 refine zaJ 4 rfl (fun K hK=>?_)
 go_simp
 go_wp2_with fail
 refine (zf8 _).mono ?_
 rintro e w4 ⟨rfl,hE4⟩
 have hX:=And.intro (hS.1.ext hE4) (Hc.out _ (hS.1.ext hE4))
 go_simp
 refine hK.out _ _ hX (fun hS=>?_)
 clear hK K hX
 try simp only[Act.put,List.setIfInBounds_toArray,List.set_cons_zero,List.set_cons_succ]
 refine zbB (i:=5) (v:=?_) (some 2) rfl rfl (by kernel_rfl) (by kernel_rfl) (by kernel_rfl) (fun _ _ _ h=>h) (Or.inl ⟨by kernel_rfl,?_⟩) hS ?_
 rotate_left
 · rintro W' ⟨hW1',p0⟩
   go_simp
   try rfl
 try simp only[Act.put,List.setIfInBounds_toArray,List.set_cons_zero,List.set_cons_succ]
 refine wpAnyH_done (by kernel_rfl) ?_ _
 go_wp2_with fail
 go_ret
 exact ⟨rfl,HE1.out.ext hS.1⟩
set_option maxHeartbeats 2000000
def Tat (h:zX) (i t:Int):Prop:=(i=h.base∧t=h.baseTerm)∨∃ (k:Nat) (x:zO),i=h.base+1+k∧h.log[k]? = some x∧t=x.term
theorem zpG (w:World) (T:Nat→Prop) (h:zX) (sv lv:Value) (i t:Int) (hv:xP w T sv lv h) (hl:h.log.length≤1000000) (hb:0≤h.base∧h.base≤1099511627776) (ht:Tat h i t):
  Calls Tryz.prog 282 #[.agg (h.cells sv lv).toArray,.int .i64 i] w fun e w'=>e=.returned (.int .i64 t)∧Ext w w':=by
 rcases ht with ⟨rfl,rfl⟩|⟨k,x,hi,hx,rfl⟩
 · obtain ⟨As,cs,Al,cl,rfl,rfl⟩:=hv.forms
   obtain ⟨n,hn⟩:∃ n,h.snap.length=n:=⟨_,rfl⟩
   obtain ⟨m,hm⟩:∃ m,h.log.length=m:=⟨_,rfl⟩
   rw[hn,hm]
   clear hv hn hm
   obtain ⟨b,hb0⟩:∃ b,w.heap.size=b:=⟨_,rfl⟩
   go_enter Tryz.func282,Tryz.ntmps282
   go_upto_region 1 with fail
   obtain ⟨W2,hW2⟩:∃ W2,w.alloc (.cells (h.cells (.slice As n cs) (.slice Al m cl)).toArray 61)=W2:=⟨_,rfl⟩
   have hE2:Ext w W2:=hW2▸((Mod.refl _ w).alloc _)
   have hb2:W2.heap[b]? = some (.cells (h.cells (.slice As n cs) (.slice Al m cl)).toArray 61 (0,0)):=hb0▸hW2▸zI _ _
   rw[hW2]
   clear hW2
   have p2:W2.cell? ⟨b,2,none⟩=some (.int .i64 h.base):=zA hb2 rfl
   have p3:W2.cell? ⟨b,3,none⟩=some (.int .i64 h.baseTerm):=zA hb2 rfl
   clear hb2
   go_wp2
   go_ret
   exact ⟨rfl,hE2⟩
 · exact l_termA w T h sv lv i x hv hl hb k hi hx
theorem zpH (w:World) (T:Nat→Prop) (h:zX) (sv lv:Value) (i u t:Int) (hv:xP w T sv lv h) (hl:h.log.length≤1000000) (hb:0≤h.base∧h.base≤1099511627776) (hx:Tat h i u) (ht:t≠-1):
  Calls Tryz.prog 179 #[.agg (h.cells sv lv).toArray,.int .i64 i,.int .i64 t] w fun e w'=>e=.returned (.bool (u==t))∧Ext w w':=by
 obtain ⟨As,cs,Al,cl,rfl,rfl⟩:=hv.forms
 obtain ⟨b,hb0⟩:∃ b,w.heap.size=b:=⟨_,rfl⟩
 obtain ⟨n,hn⟩:∃ n,h.snap.length=n:=⟨_,rfl⟩
 obtain ⟨m,hm⟩:∃ m,h.log.length=m:=⟨_,rfl⟩
 have he:∀ W,Ext w W→Calls Tryz.prog 282 #[.agg (h.cells (.slice As n cs) (.slice Al m cl)).toArray,.int .i64 i] W fun e w'=>e=.returned (.int .i64 u)∧Ext W w':=fun W hE=>by
  have:=zpG W T h _ _ i u (hv.ext hE) hl hb hx
  rw[hn,hm] at this;exact this
 rw[hn,hm]
 have He:=hJ he
 have d1:(t != -1)=true:=by simpa using ht
 clear hv hn hx hm he ht
 go_enter Tryz.func179,Tryz.ntmps179
 go_upto_region 1 with fail
 obtain ⟨W2,hW2⟩:∃ W2,w.alloc (.cells (h.cells (.slice As n cs) (.slice Al m cl)).toArray 61)=W2:=⟨_,rfl⟩
 have hE2:Ext w W2:=hW2▸((Mod.refl _ w).alloc _)
 have hb2:W2.heap[b]? = some (.cells (h.cells (.slice As n cs) (.slice Al m cl)).toArray 61 (0,0)):=hb0▸hW2▸zI _ _
 rw[hW2]
 clear hW2
 have hld:(Instr.loadAt 61 (.pointer (some ⟨b,0,none⟩))).run Tryz.prog W2=.ok (.agg (h.cells (.slice As n cs) (.slice Al m cl)).toArray) W2:=ld0 yF hb2
 have HE2:=hJ hE2
 clear hb2 hE2
 go_wp2_with (first
  | (refine xR (by kernel_rfl) 61 _ rfl (.pointer (some ⟨b,0,none⟩)) _ rfl hld ?_)
  | (go_at_call 282;refine (He.out _ HE2.out).mono ?_;rintro e w3 ⟨rfl,hE3⟩))
 go_ret
 exact ⟨rfl,HE2.out.ext hE3⟩
theorem t_own (w:World) (T:Nat→Prop) (h:zX) (sv lv:Value) (i:Int) (hv:xP w T sv lv h) (hl:h.log.length≤1000000) (hb:0≤h.base∧h.base≤1099511627776) (hx:Tat h i h.term) (ht:0≤h.term):
  Calls Tryz.prog 101 #[.agg (h.cells sv lv).toArray,.int .i64 i] w fun e w'=>e=.returned (.bool true)∧Ext w w':=by
 obtain ⟨As,cs,Al,cl,rfl,rfl⟩:=hv.forms
 obtain ⟨b,hb0⟩:∃ b,w.heap.size=b:=⟨_,rfl⟩
 obtain ⟨n,hn⟩:∃ n,h.snap.length=n:=⟨_,rfl⟩
 obtain ⟨m,hm⟩:∃ m,h.log.length=m:=⟨_,rfl⟩
 have he:∀ W,Ext w W→Calls Tryz.prog 179 #[.agg (h.cells (.slice As n cs) (.slice Al m cl)).toArray,.int .i64 i,.int .i64 h.term] W fun e w'=>e=.returned (.bool true)∧Ext W w':=fun W hE=>by
  have:=zpH W T h _ _ i h.term h.term (hv.ext hE) hl hb hx (by omega)
  rw[hn,hm] at this;simpa using this
 rw[hn,hm]
 have He:=hJ he
 clear hv hn hx hm he ht
 go_enter Tryz.func101,Tryz.ntmps101
 go_upto_region 1 with fail
 obtain ⟨W2,hW2⟩:∃ W2,w.alloc (.cells (h.cells (.slice As n cs) (.slice Al m cl)).toArray 61)=W2:=⟨_,rfl⟩
 have hE2:Ext w W2:=hW2▸((Mod.refl _ w).alloc _)
 have hb2:W2.heap[b]? = some (.cells (h.cells (.slice As n cs) (.slice Al m cl)).toArray 61 (0,0)):=hb0▸hW2▸zI _ _
 rw[hW2]
 clear hW2
 have p0:W2.cell? ⟨b,0,none⟩=some (.int .i64 h.term):=zA hb2 rfl
 have hld:(Instr.loadAt 61 (.pointer (some ⟨b,0,none⟩))).run Tryz.prog W2=.ok (.agg (h.cells (.slice As n cs) (.slice Al m cl)).toArray) W2:=ld0 yF hb2
 have HE2:=hJ hE2
 clear hb2 hE2
 go_wp2_with (first
  | (refine lD 61 b 0 hld ?_)
  | (go_at_call 179;refine (He.out _ HE2.out).mono ?_;rintro e w3 ⟨rfl,hE3⟩))
 go_ret
 exact ⟨rfl,HE2.out.ext hE3⟩
theorem or01:bits .or .i64 0 1=1:=by decide +kernel
theorem zpI (w:World) (T:Nat→Prop) (h:zX) (sv lv:Value) (c L:Int) (hv:xP w T sv lv h) (hl:zdL h) (hL:zjQ h=L) (hc:h.base≤c∧c<L) (hx:Tat h L h.term) (ht:0≤h.term):
  Calls Tryz.prog 266 #[.agg (h.cells sv lv).toArray,.int .i64 c,.agg #[.int .i64 L,.int .i64 0,.int .i64 0,.int .i64 0,.int .i64 0,.int .i64 0,.int .i64 0]] w fun e w'=>e=.returned (.int .i64 L)∧Ext w w':=by
 obtain ⟨As,cs,Al,cl,rfl,rfl⟩:=hv.forms
 obtain ⟨b,hb0⟩:∃ b,w.heap.size=b:=⟨_,rfl⟩
 obtain ⟨n,hn⟩:∃ n,h.snap.length=n:=⟨_,rfl⟩
 obtain ⟨m,hm⟩:∃ m,h.log.length=m:=⟨_,rfl⟩
 have hfi:∀ W,Ext w W→Calls Tryz.prog 179 #[.agg (h.cells (.slice As n cs) (.slice Al m cl)).toArray,.int .i64 L,.int .i64 h.term] W fun e w'=>e=.returned (.bool true)∧Ext W w':=fun W hE=>by
  have:=zpH W T h _ _ L h.term h.term (hv.ext hE) hl.few hl.base hx (by omega)
  rw[hn,hm] at this;simpa using this
 have hla:∀ W,Ext w W→Calls Tryz.prog 162 #[.agg (h.cells (.slice As n cs) (.slice Al m cl)).toArray] W fun e w'=>(∃ t:Int,e=.returned (.tuple #[.int .i64 L,.int .i64 t]))∧Ext W w':=fun W hE=>by
  have:=zjR W T h _ _ (hv.ext hE) hl.few hl.base.1 hl.base.2
  rw[hn,hm] at this
  exact this.mono fun e w' h=>⟨⟨_,hL▸h.1⟩,h.2⟩
 have hco:∀ W u,Ext w W→Calls Tryz.prog 166 #[.agg (h.cells (.slice As n cs) (.slice Al m cl)).toArray,.int .i64 u] W fun e w'=>e=.returned (.tuple #[c1v,.int .i64 h.base])∧Ext W w':=fun W u hE=>by
  have:=zkW W T h _ _ u (hv.ext hE) hl.alone hl.few hl.base
  rw[hn,hm] at this
  exact this
 rw[hn,hm]
 obtain ⟨Hfi,Hla,Hco⟩:=hJ3 hfi hla hco
 have hL1:1≤L:=by have:=hl.base;omega
 have hLb:h.base≤L:=by omega
 have hcL:c<L:=hc.2
 have hL63:L≤9223372036854775807:=by rw[←hL];unfold zjQ;have:=hl.few;have:=hl.base;omega
 clear hv hl hn hm hx hfi hla hco hL hc ht
 go_enter Tryz.func266,Tryz.ntmps266
 go_upto_region 1 with fail
 obtain ⟨W2,hW2⟩:∃ W2,(w.alloc (.cells (h.cells (.slice As n cs) (.slice Al m cl)).toArray 61)).alloc (.cells #[.int .i64 L,.int .i64 0,.int .i64 0,.int .i64 0,.int .i64 0,.int .i64 0,.int .i64 0] 62)=W2:=⟨_,rfl⟩
 have hE2:Ext w W2:=hW2▸(((Mod.refl _ w).alloc _).alloc _)
 have hb2:W2.heap[b]? = some (.cells (h.cells (.slice As n cs) (.slice Al m cl)).toArray 61 (0,0)):=hb0▸hW2▸xE _ _ _
 have hc2:W2.heap[b+1]? = some (.cells [.int .i64 L,.int .i64 0,.int .i64 0,.int .i64 0,.int .i64 0,.int .i64 0,.int .i64 0].toArray 62 (0,0)):=by rw[←hW2,←hb0];exact xA _ _ _
 rw[hW2]
 clear hW2
 obtain ⟨Hb2,Hc2,HE2⟩:=hJ3 hb2 hc2 hE2
 have hldF:∀ W,Ext W2 W→(Instr.loadAt 61 (.pointer (some ⟨b,0,none⟩))).run Tryz.prog W=.ok (.agg (h.cells (.slice As n cs) (.slice Al m cl)).toArray) W:=fun W hE=>ld0 yF (hE.blk hb2 id)
 have HldF:=hJ hldF
 clear hb2 hc2 hE2 hldF
 have hld:=HldF.out _ (Mod.refl _ W2)
 go_upto_region 2 with (first
  | (refine lD 61 b 0 hld ?_)
  | (go_at_call 162;refine (Hla.out _ HE2.out).mono ?_;rintro e w3 ⟨⟨t3,rfl⟩,hE3⟩))
 have hld3:=HldF.out _ hE3
 have HE3:=hJ hE3
 clear hE3 hld
 go_upto_region 3 with (first
  | (refine lD 61 b 0 hld3 ?_)
  | (go_at_call 166;refine (Hco.out _ _ (HE2.out.ext HE3.out)).mono ?_;rintro e w4 ⟨rfl,hE4⟩))
 obtain ⟨W5,hW5⟩:∃ W5,w4.alloc (.cells [.int .i64 1,.int .i64 0,.int .i64 0,.int .i64 0].toArray 57)=W5:=⟨_,rfl⟩
 have hE5:Ext w4 W5:=hW5▸((Mod.refl _ w4).alloc _)
 obtain ⟨q,hq⟩:∃ q,w4.heap.size=q:=⟨_,rfl⟩
 have hb5:W5.heap[q]? = some (.cells [.int .i64 1,.int .i64 0,.int .i64 0,.int .i64 0].toArray 57 (0,0)):=hq▸hW5▸zI _ _
 rw[hW5,hq]
 have HE35:=hJ (HE3.out.ext (hE4.ext hE5))
 have Hb5:=hJ hb5
 clear hW5 hq hE5 hE4 hb5 hld3
 have p2:W5.cell? ⟨b,2,none⟩=some (.int .i64 h.base):=zA (HE35.out.blk Hb2.out id) rfl
 have p0:W5.cell? ⟨b,0,none⟩=some (.int .i64 h.term):=zA (HE35.out.blk Hb2.out id) rfl
 have m0:W5.cell? ⟨(b+1),0,none⟩=some _:=zA (HE35.out.blk Hc2.out id) rfl
 have m1:W5.cell? ⟨(b+1),1,none⟩=some _:=zA (HE35.out.blk Hc2.out id) rfl
 have m2:W5.cell? ⟨(b+1),2,none⟩=some _:=zA (HE35.out.blk Hc2.out id) rfl
 have m3:W5.cell? ⟨(b+1),3,none⟩=some _:=zA (HE35.out.blk Hc2.out id) rfl
 have m4:W5.cell? ⟨(b+1),4,none⟩=some _:=zA (HE35.out.blk Hc2.out id) rfl
 have m5:W5.cell? ⟨(b+1),5,none⟩=some _:=zA (HE35.out.blk Hc2.out id) rfl
 have m6:W5.cell? ⟨(b+1),6,none⟩=some _:=zA (HE35.out.blk Hc2.out id) rfl
 go_wp2_with fail
 go_loopw [11] (fun nv wr=>nv=.int .i64 L∧wr=W5) (fun _ _=>0)
 case atStart=>exact ⟨rfl,rfl⟩
 obtain ⟨rfl,rfl⟩:=hrel
 go_wp2_with fail
 go_loopw [12,39] (fun hv iv wr2=>∃ i:Nat,i≤7∧iv=.int .i64 i∧hv=.int .i64 (if i=0 then 0 else 1)∧wr2=wr) (fun _ iv _=>7-(intOf iv).toNat)
 case atStart=>exact ⟨0,by omega,rfl,rfl,rfl⟩
 obtain ⟨i,hi,rfl,rfl,rfl⟩:=hrel
 have hci:i=0∨i=1∨i=2∨i=3∨i=4∨i=5∨i=6∨i=7:=by omega
 have h01:=or01
 have hnl:¬ L≤0:=by omega
 rcases hci with rfl|rfl|rfl|rfl|rfl|rfl|rfl|rfl
 · have x:∀ W,(Instr.index 62 (.agg #[.int .i64 L,.int .i64 0,.int .i64 0,.int .i64 0,.int .i64 0,.int .i64 0,.int .i64 0]) (.int .i64 0)).run Tryz.prog W=.ok (.int .i64 L) W:=fun W=>by kernel_rfl
   go_wp2
   exact ⟨⟨1,by omega,rfl,rfl,trivial⟩,by simp[intOf]⟩
 · have x:∀ W,(Instr.index 62 (.agg #[.int .i64 L,.int .i64 0,.int .i64 0,.int .i64 0,.int .i64 0,.int .i64 0,.int .i64 0]) (.int .i64 1)).run Tryz.prog W=.ok (.int .i64 0) W:=fun W=>by kernel_rfl
   go_wp2
   exact ⟨⟨2,by omega,rfl,rfl,trivial⟩,by simp[intOf]⟩
 · have x:∀ W,(Instr.index 62 (.agg #[.int .i64 L,.int .i64 0,.int .i64 0,.int .i64 0,.int .i64 0,.int .i64 0,.int .i64 0]) (.int .i64 2)).run Tryz.prog W=.ok (.int .i64 0) W:=fun W=>by kernel_rfl
   go_wp2
   exact ⟨⟨3,by omega,rfl,rfl,trivial⟩,by simp[intOf]⟩
 · have x:∀ W,(Instr.index 62 (.agg #[.int .i64 L,.int .i64 0,.int .i64 0,.int .i64 0,.int .i64 0,.int .i64 0,.int .i64 0]) (.int .i64 3)).run Tryz.prog W=.ok (.int .i64 0) W:=fun W=>by kernel_rfl
   go_wp2
   exact ⟨⟨4,by omega,rfl,rfl,trivial⟩,by simp[intOf]⟩
 · have x:∀ W,(Instr.index 62 (.agg #[.int .i64 L,.int .i64 0,.int .i64 0,.int .i64 0,.int .i64 0,.int .i64 0,.int .i64 0]) (.int .i64 4)).run Tryz.prog W=.ok (.int .i64 0) W:=fun W=>by kernel_rfl
   go_wp2
   exact ⟨⟨5,by omega,rfl,rfl,trivial⟩,by simp[intOf]⟩
 · have x:∀ W,(Instr.index 62 (.agg #[.int .i64 L,.int .i64 0,.int .i64 0,.int .i64 0,.int .i64 0,.int .i64 0,.int .i64 0]) (.int .i64 5)).run Tryz.prog W=.ok (.int .i64 0) W:=fun W=>by kernel_rfl
   go_wp2
   exact ⟨⟨6,by omega,rfl,rfl,trivial⟩,by simp[intOf]⟩
 · have x:∀ W,(Instr.index 62 (.agg #[.int .i64 L,.int .i64 0,.int .i64 0,.int .i64 0,.int .i64 0,.int .i64 0,.int .i64 0]) (.int .i64 6)).run Tryz.prog W=.ok (.int .i64 0) W:=fun W=>by kernel_rfl
   go_wp2
   exact ⟨⟨7,by omega,rfl,rfl,trivial⟩,by simp[intOf]⟩
 · have hld5:=HldF.out _ HE35.out
   have hldc:∀ W,Ext wr W→(Instr.loadAt 57 (.pointer (some ⟨q,0,none⟩))).run Tryz.prog W=.ok c1v W:=fun W hE=>ld0 za5 (hE.blk Hb5.out id)
   have Hldc:=hJ hldc
   clear hldc
   go_wp2_with (first
    | (refine lD 61 b 0 hld5 ?_)
    | (go_at_call 179;refine (Hfi.out _ (HE2.out.ext HE35.out)).mono ?_;rintro e w6 ⟨rfl,hE6⟩;have hldq:=Hldc.out _ hE6)
    | (refine xR (by kernel_rfl) 57 _ rfl (.pointer (some ⟨q,0,none⟩)) _ rfl hldq ?_)
    | (go_at_call 200;refine (zf8 _).mono ?_;rintro e w7 ⟨rfl,hE7⟩))
   go_ret
   exact ⟨rfl,(HE2.out.ext HE35.out).ext (hE6.ext hE7)⟩
end Go.Proofs.YtjbkjhhjofeldaaGreat
