/-
 Layer 22 (node): gate.Has of none waiting. Conditions: as each theorem names them.
-/
import Derived.Test.YtjbkjhhjofeldaaGreatG21
set_option maxRecDepth 100000
set_option maxHeartbeats 2000000
namespace Go.Proofs.YtjbkjhhjofeldaaGreat
set_option linter.unusedSimpArgs false
set_option linter.unusedVariables false
open Go.RowKit
theorem zl9 (A:Option Addr) (c:Nat) (f:Value) (w:World):Calls Tryz.prog 180 #[.slice A 0 c,f] w fun e w'=>e=.returned (.int .i64 (-1))∧w'=w:=by
 go_enter Tryz.func180,Tryz.ntmps180
 go_wp2_with fail
 go_loopw [8] (fun iv wr=>iv=.int .i64 0∧wr=w) (fun _ _=>0)
 case atStart=>exact ⟨rfl,rfl⟩
 obtain ⟨rfl,rfl⟩:=hrel
 go_wp2
 go_ret
 exact ⟨rfl,rfl⟩
theorem zk0 (A:Option Addr) (c:Nat) (f:Value) (w:World):Calls Tryz.prog 102 #[.slice A 0 c,f] w fun e w'=>e=.returned (.bool false)∧w'=w:=by
 go_enter Tryz.func102,Tryz.ntmps102
 go_wp2_with (go_at_call 180;refine (zl9 A c f _).mono ?_;rintro e w1 ⟨rfl,rfl⟩)
 go_ret
 exact ⟨rfl,rfl⟩
theorem g_has0 (A:Option Addr) (c:Nat) (x:zW) (w:World):Calls Tryz.prog 47 #[.slice A 0 c,.agg #[.int .i64 x.client,.int .i64 x.seq,.int .i64 x.cmd.kind,.string x.cmd.key,.int .i64 x.cmd.old.kind,.float .f64 x.cmd.old.num,.string x.cmd.old.text,.int .i64 x.cmd.val.kind,.float .f64 x.cmd.val.num,.string x.cmd.val.text]] w fun e w'=>e=.returned (.bool false)∧Ext w w':=by
 have hE:Ext w (w.alloc (.cells #[.int .i64 x.client,.int .i64 x.seq,.int .i64 x.cmd.kind,.string x.cmd.key,.int .i64 x.cmd.old.kind,.float .f64 x.cmd.old.num,.string x.cmd.old.text,.int .i64 x.cmd.val.kind,.float .f64 x.cmd.val.num,.string x.cmd.val.text] 29)):=(Mod.refl _ w).alloc _
 go_enter Tryz.func47,Tryz.ntmps47
 go_wp2_with (go_at_call 102;refine (zk0 A c _ _).mono ?_;rintro e w1 ⟨rfl,rfl⟩)
 go_ret
 exact ⟨rfl,hE⟩
theorem g_clone0 (w:World):Calls Tryz.prog 183 #[.slice none 0 0] w fun e w'=>e=.returned (.slice none 0 0)∧w'=w:=by
 have heq:=fun (w:World) (a:Option Addr) (n c n' c':Nat)=>Lib.run_eql_slice_nil (P:=Tryz.prog) w 110 181 a n c n' c' Tryz.underlying110
 go_enter Tryz.func183,Tryz.ntmps183
 go_wp2
 go_ret
 exact ⟨rfl,rfl⟩
theorem zpW (f:Value) (w:World):Calls Tryz.prog 182 #[.slice none 0 0,f] w fun e w'=>e=.returned (.slice none 0 0)∧w'=w:=by
 go_enter Tryz.func182,Tryz.ntmps182
 go_wp2_with (go_at_call 180;refine (zl9 none 0 f _).mono ?_;rintro e w1 ⟨rfl,rfl⟩)
 go_ret
 exact ⟨rfl,rfl⟩
structure zdQ where
  call:zW
  index:Int
abbrev zdQ.cells (x:zdQ):List Value:=[.int .i64 x.call.client,.int .i64 x.call.seq,.int .i64 x.call.cmd.kind,.string x.call.cmd.key,.int .i64 x.call.cmd.old.kind,.float .f64 x.call.cmd.old.num,.string x.call.cmd.old.text,.int .i64 x.call.cmd.val.kind,.float .f64 x.call.cmd.val.num,.string x.call.cmd.val.text,.int .i64 x.index]
theorem zpX:(Tryz.prog.info? 181).map (fun i=>(i.zero,i.size,i.bytes))=some (some (.agg #[.int .i64 0,.int .i64 0,.int .i64 0,.string ⟨#[]⟩,.int .i64 0,.float .f64 0,.string ⟨#[]⟩,.int .i64 0,.float .f64 0,.string ⟨#[]⟩,.int .i64 0]),11,112):=by kernel_rfl
theorem pend_one (x:zdQ):∀ v∈x.cells,v.oneCell'=true:=by
 intro v hx
 simp only[zdQ.cells,List.mem_cons,List.not_mem_nil,or_false] at hx
 rcases hx with rfl|rfl|rfl|rfl|rfl|rfl|rfl|rfl|rfl|rfl|rfl <;> rfl
def Put1 (w:World) (x:zdQ) (e:Ending) (w':World):Prop:=∃ v',e=.returned (.tuple #[v',.int .i64 0])∧zb7 181 11 w w' v' 1 x.cells∧Ext w w'
theorem g_put0 (c:zW) (n:Int) (w:World) (hc:yX c=0) (hn:1≤n∧n≤1099511627776):Calls Tryz.prog 108 #[.slice none 0 0,.agg #[.int .i64 c.client,.int .i64 c.seq,.int .i64 c.cmd.kind,.string c.cmd.key,.int .i64 c.cmd.old.kind,.float .f64 c.cmd.old.num,.string c.cmd.old.text,.int .i64 c.cmd.val.kind,.float .f64 c.cmd.val.num,.string c.cmd.val.text],.int .i64 n] w (Put1 w ⟨c,n⟩):=by
 obtain ⟨i0,hi0,hz0,hz1,hz2⟩:=info_parts zpX
 obtain ⟨b,hb⟩:∃ b,w.heap.size=b:=⟨_,rfl⟩
 have hsr:=fun W=>jS c W
 rw[hc] at hsr
 have Hsr:=hJ hsr
 obtain ⟨hn1,hn2⟩:=hn
 have d1:¬ n≤0:=by omega
 clear hsr hc
 go_enter Tryz.func108,Tryz.ntmps108
 go_upto_region 1 with fail
 obtain ⟨W1,hW1⟩:∃ W1,w.alloc (.cells #[.int .i64 c.client,.int .i64 c.seq,.int .i64 c.cmd.kind,.string c.cmd.key,.int .i64 c.cmd.old.kind,.float .f64 c.cmd.old.num,.string c.cmd.old.text,.int .i64 c.cmd.val.kind,.float .f64 c.cmd.val.num,.string c.cmd.val.text] 29)=W1:=⟨_,rfl⟩
 have hE:Ext w W1:=hW1▸((Mod.refl _ w).alloc _)
 have hb1:W1.heap[b]? = some (.cells [.int .i64 c.client,.int .i64 c.seq,.int .i64 c.cmd.kind,.string c.cmd.key,.int .i64 c.cmd.old.kind,.float .f64 c.cmd.old.num,.string c.cmd.old.text,.int .i64 c.cmd.val.kind,.float .f64 c.cmd.val.num,.string c.cmd.val.text].toArray 29 (0,0)):=hb▸hW1▸zI _ _
 rw[hW1]
 obtain ⟨Hb1,HE⟩:=hJ2 hb1 hE
 clear hW1 hE hb1
 have hld:(Instr.loadAt 29 (.pointer (some ⟨b,0,none⟩))).run Tryz.prog W1=.ok (.agg #[.int .i64 c.client,.int .i64 c.seq,.int .i64 c.cmd.kind,.string c.cmd.key,.int .i64 c.cmd.old.kind,.float .f64 c.cmd.old.num,.string c.cmd.old.text,.int .i64 c.cmd.val.kind,.float .f64 c.cmd.val.num,.string c.cmd.val.text]) W1:=ld0 zV Hb1.out
 go_upto_region 4 with (first
  | (go_at_call 181;refine (g_check0 none 0 _).mono ?_;rintro e w2 ⟨rfl,rfl⟩)
  | (refine lD 29 b 0 hld ?_)
  | (go_at_call 41;refine (Hsr.out _).mono ?_;rintro e w3 ⟨rfl,hE3⟩))
 have hld3:(Instr.loadAt 29 (.pointer (some ⟨b,0,none⟩))).run Tryz.prog w3=.ok (.agg #[.int .i64 c.client,.int .i64 c.seq,.int .i64 c.cmd.kind,.string c.cmd.key,.int .i64 c.cmd.old.kind,.float .f64 c.cmd.old.num,.string c.cmd.old.text,.int .i64 c.cmd.val.kind,.float .f64 c.cmd.val.num,.string c.cmd.val.text]) w3:=ld0 zV (hE3.blk Hb1.out id)
 have HE3:=hJ (HE.out.ext hE3)
 clear hE3 hld
 go_wp2_with (first
  | (go_at_call 183;refine (g_clone0 _).mono ?_;rintro e w4 ⟨rfl,rfl⟩)
  | (go_at_call 182;refine (zpW _ _).mono ?_;rintro e w4 ⟨rfl,rfl⟩)
  | (refine lD 29 b 0 hld3 ?_)
  | (at_builtin;refine xB _ rfl _ _ 110 rfl 181 i0 _ 11 112 Tryz.underlying110 hi0 hz0 hz1 hz2 rfl (by omega) (.slice none 0 0) 0 [] rfl (World.ownsRow_nil _ _ _ _) (fun _=>True) _ 1 (zdQ.cells ⟨c,n⟩) rfl (zeF _ (zdQ.cells ⟨c,n⟩) _ 11 rfl) (pend_one ⟨c,n⟩) (by simp only[maxLen];omega) (by omega) ?_;intro v5 w5 ho hgr hat))
 have hM:Mod (zD w.heap.size) w w5:=(((Ext.mod HE3.out (zD w.heap.size)).alloc _).grown hgr (fun k hk=>by simp[Value.ownBlock] at hk))
 go_ret2
 exact ⟨v5,rfl,⟨by simpa using ho,fun g hgg=>by
  rcases hat with e|e <;> rw[e] at hgg <;> simp[Value.ownBlock] at hgg
  have:=HE3.out.size;omega⟩,hM.toExt⟩
theorem zgK {P:Program} {fn:Func} {p u v:Tmp} {ty:TypeId} {k:Nat} (h:fn.results = #[.tmp u,.cell p ty,.tmp v]) (tmps:Array Value) (w:World) (g:Nat) (t:TypeId) (cs:List Value) (hs:Str P ty k)
    (hp:tmps.getD p undef=.pointer (some ⟨g,0,none⟩)) (hg:w.heap[g]? = some (.cells cs.toArray t (0,0))) (hc:cs.length=k):(results fn tmps).run P w=.ok (.tuple #[tmps.getD u undef,.agg cs.toArray,tmps.getD v undef]) w:=by
  have hl:=xH (P:=P) (o:=0) (cs:=cs) hs hg hc (fun j u hu=>by rw[Nat.zero_add];exact hu)
  have hv:(loadVar ty ⟨g,0,none⟩).run P w=.ok (.agg cs.toArray) w:=by simpa [Instr.loadAt,Instr.sureAddr] using hl
  have hp':tmps[p]?.getD undef=.pointer (some ⟨g,0,none⟩):=by rw[←Array.getD_eq_getD_getElem?];exact hp
  simp[results,h,hp',asAddr,hv,Result.andThen]
def GkOut (w:World) (c:zW) (hit:Bool) (e:Ending) (w':World):Prop:=e=.returned (.tuple #[.slice none 0 0,.agg c.cells.toArray,.bool hit])∧Ext w w'
theorem str_pend:Str Tryz.prog 181 11:=⟨⟨_,Tryz.underlying181⟩,by kernel_rfl⟩
theorem g_own (c:zW) (w:World):Calls Tryz.prog 104 #[.agg #[.int .i64 c.client,.int .i64 c.seq,.int .i64 c.cmd.kind,.string c.cmd.key,.int .i64 c.cmd.old.kind,.float .f64 c.cmd.old.num,.string c.cmd.old.text,.int .i64 c.cmd.val.kind,.float .f64 c.cmd.val.num,.string c.cmd.val.text],.agg #[.int .i64 c.client,.int .i64 c.seq,.int .i64 c.cmd.kind,.string c.cmd.key,.int .i64 c.cmd.old.kind,.float .f64 c.cmd.old.num,.string c.cmd.old.text,.int .i64 c.cmd.val.kind,.float .f64 c.cmd.val.num,.string c.cmd.val.text]] w fun e w'=>e=.returned (.bool true)∧Ext w w':=by
 have hE:Ext w ((w.alloc (.cells #[.int .i64 c.client,.int .i64 c.seq,.int .i64 c.cmd.kind,.string c.cmd.key,.int .i64 c.cmd.old.kind,.float .f64 c.cmd.old.num,.string c.cmd.old.text,.int .i64 c.cmd.val.kind,.float .f64 c.cmd.val.num,.string c.cmd.val.text] 29)).alloc (.cells #[.int .i64 c.client,.int .i64 c.seq,.int .i64 c.cmd.kind,.string c.cmd.key,.int .i64 c.cmd.old.kind,.float .f64 c.cmd.old.num,.string c.cmd.old.text,.int .i64 c.cmd.val.kind,.float .f64 c.cmd.val.num,.string c.cmd.val.text] 29)):=((Mod.refl _ w).alloc _).alloc _
 go_enter Tryz.func104,Tryz.ntmps104
 go_wp2
 go_ret
 exact ⟨by simp,hE⟩
theorem g_take0 (A:Option Addr) (cp:Nat) (i:Int) (x:zO) (w:World):Calls Tryz.prog 174 #[.slice A 0 cp,.int .i64 i,.agg x.cells.toArray] w (GkOut w zW.zero false):=by
 obtain ⟨b,hb⟩:∃ b,w.heap.size=b:=⟨_,rfl⟩
 go_enter Tryz.func174,Tryz.ntmps174
 go_wp2_with fail
 obtain ⟨W1,hW1⟩:∃ W,(w.alloc (.cells x.cells.toArray 100)).alloc (.cells [Value.int .i64 0,.int .i64 0,.int .i64 0,.string ⟨#[]⟩,.int .i64 0,.float .f64 0,.string ⟨#[]⟩,.int .i64 0,.float .f64 0,.string ⟨#[]⟩].toArray 29)=W:=⟨_,rfl⟩
 have hE1:Ext w W1:=hW1▸(((Mod.refl _ w).alloc _).alloc _)
 have hb1:W1.heap[b]? = some (.cells x.cells.toArray 100 (0,0)):=hb▸hW1▸xE _ _ _
 have hz1:W1.heap[b+1]? = some (.cells zW.zero.cells.toArray 29 (0,0)):=by rw[←hW1,←hb];exact xA _ _ _
 obtain ⟨HE1,Hb1,Hz⟩:=hJ3 hE1 hb1 hz1
 rw[hW1]
 clear hW1 hE1 hb1 hz1
 go_loopw [6,8,13] (fun l hv iv wr=>l=.slice none 0 0∧hv=.bool false∧iv=.int .i64 0∧wr=W1) (fun _ _ _ _=>0)
 case atStart=>exact ⟨rfl,rfl,rfl,rfl⟩
 obtain ⟨rfl,rfl,rfl,rfl⟩:=hrel
 go_wp2_with fail
 obtain ⟨Wd,hWd⟩:∃ W,wr.drew=W:=⟨_,rfl⟩
 have hEd:Ext wr Wd:=hWd▸(Mod.refl _ wr).drew
 have hzd:=hEd.blk Hz.out id
 refine yZ (fun W=>W.heap[b+1]? = some (.cells (zW.zero).cells.toArray 29 (0,0))) 4 (hWd▸hzd) (fun hS=>?_)
 rw[hWd] at hS ⊢
 clear hWd
 refine tP 0 50 ?_ hS (fun W'=>?_) ?_;rotate_left;· go_simp;try rfl
 try simp only[pL]
 refine tU 1 51 (.agg (zW.zero).cells.toArray) hS (b+1) 0 (fun W' hX1=>ld0 zV hX1) ?_
 try simp only[pL]
 iterate 2
  (first|refine tP 2 52 ?_ hS (fun W'=>?_) ?_|refine tP 3 6 ?_ hS (fun W'=>?_) ?_);rotate_left;· go_simp;try rfl
  try simp only[pL]
 refine xN 4 rfl ?_
 simp only[List.drop_succ_cons,List.drop_zero]
 have Hq:=hJ hS
 clear hS hzd
 go_wp2_with (refine zF ?_;refine stQ rfl 29 _ _ rfl 10 (b+1) 0 (.agg (zW.zero).cells.toArray) (zW.zero).cells zV.2 _ _ (zW.zero).cells Hq.out rfl ?_;intro We hbWe hmWe hsWe)
 exact bodyPost_ret (zgK rfl _ _ (b+1) 29 zW.zero.cells zV rfl hbWe rfl) rfl ⟨rfl,Mod.toExt ((Ext.mod (HE1.out.ext hEd) (zD w.heap.size)).trans hmWe (fun k _ e=>by unfold zD;omega))⟩
theorem g_take1 (A:Option Addr) (cp:Nat) (i tm:Int) (c:zW) (w:World) (T:Nat→Prop) (hv:Sl w T 11 (.slice A 1 cp) 1 (⟨c,i⟩:zdQ).cells):Calls Tryz.prog 174 #[.slice A 1 cp,.int .i64 i,.agg (zT tm c).cells.toArray] w (GkOut w c true):=by
 obtain ⟨b,hb⟩:∃ b,w.heap.size=b:=⟨_,rfl⟩
 obtain ⟨g,off,rfl,hcell⟩:∃ g off,A=some ⟨g,off,none⟩∧∀ j u,(⟨c,i⟩:zdQ).cells[j]? = some u→w.cell? ⟨g,off+j,none⟩=some u:=by
  obtain ⟨_,A',c',e,_,_,hx'⟩:=hv
  injection e with e1 _ e3;subst e1;subst e3
  obtain ⟨g,off,rfl,hg,hcell⟩:=hx' (by omega)
  exact ⟨g,off,rfl,hcell⟩
 have Hcell:=hJ hcell
 clear hv hcell
 obtain ⟨x,hx⟩:∃ x,zT tm c=x:=⟨_,rfl⟩
 rw[hx]
 have Hx:=hJ hx
 clear hx
 go_enter Tryz.func174,Tryz.ntmps174
 go_wp2_with fail
 obtain ⟨W1,hW1⟩:∃ W,(w.alloc (.cells x.cells.toArray 100)).alloc (.cells [Value.int .i64 0,.int .i64 0,.int .i64 0,.string ⟨#[]⟩,.int .i64 0,.float .f64 0,.string ⟨#[]⟩,.int .i64 0,.float .f64 0,.string ⟨#[]⟩].toArray 29)=W:=⟨_,rfl⟩
 have hE1:Ext w W1:=hW1▸(((Mod.refl _ w).alloc _).alloc _)
 have hb1:W1.heap[b]? = some (.cells x.cells.toArray 100 (0,0)):=hb▸hW1▸xE _ _ _
 have hz1:W1.heap[b+1]? = some (.cells zW.zero.cells.toArray 29 (0,0)):=by rw[←hW1,←hb];exact xA _ _ _
 obtain ⟨HE1,Hb1,Hz⟩:=hJ3 hE1 hb1 hz1
 rw[hW1]
 clear hW1 hE1 hb1 hz1
 go_loopw [6,8,13] (fun l hv iv wr=>l=.slice none 0 0∧((hv=.bool false∧iv=.int .i64 0∧wr=W1)∨(hv=.bool true∧iv=.int .i64 1∧Ext w wr∧wr.heap[b+1]? = some (.cells c.cells.toArray 29 (0,0))))) (fun _ _ iv _=>1-(intOf iv).toNat)
 case atStart=>exact ⟨rfl,.inl ⟨rfl,rfl,rfl⟩⟩
 obtain ⟨rfl,⟨rfl,rfl,rfl⟩|⟨rfl,rfl,hE,hz⟩⟩:=hrel
 · have hld:(Instr.loadAt 181 (.pointer (some ⟨g,off,none⟩))).run Tryz.prog wr=.ok (.agg (⟨c,i⟩:zdQ).cells.toArray) wr:=jE str_pend rfl (fun j u hu=>HE1.out.cell (p:=⟨g,off+j,none⟩) (Hcell.out j u hu) id)
   go_upto_region 4 with (refine zK ?_;refine lD 181 g off hld ?_)
   obtain ⟨q,hq⟩:∃ q,wr.heap.size=q:=⟨_,rfl⟩
   obtain ⟨W2,hW2⟩:∃ W2,wr.alloc (.cells (⟨c,i⟩:zdQ).cells.toArray 181)=W2:=⟨_,rfl⟩
   have hE2:Ext wr W2:=hW2▸((Mod.refl _ wr).alloc _)
   have hq2:W2.heap[q]? = some (.cells (⟨c,i⟩:zdQ).cells.toArray 181 (0,0)):=hq▸hW2▸zI _ _
   rw[hW2,hq]
   have p10:W2.cell? ⟨q,10,none⟩=some (.int .i64 i):=zA hq2 rfl
   have Hq2:=hJ hq2
   have Hb2:=hJ (hE2.blk Hb1.out id)
   have Hz2:=hJ (hE2.blk Hz.out id)
   have HE2:=hJ (HE1.out.ext hE2)
   clear hW2 hq hq2 hE2 hld
   have pk:W2.cell? ⟨b,1,none⟩=some (.int .i64 1):=(zA Hb2.out rfl).trans (by rw[←Hx.out];rfl)
   have hldx:(Instr.loadAt 29 (.pointer (some ⟨b,2,none⟩))).run Tryz.prog W2=.ok (.agg c.cells.toArray) W2:=by
    have h0:=xH (P:=Tryz.prog) (o:=2) (cs:=x.call.cells) zV Hb2.out rfl (fun j u hu=>by rcases j with _|_|_|_|_|_|_|_|_|_|j <;> first|exact hu|cases hu)
    rw[show x.call=c from Hx.out▸rfl] at h0
    exact h0
   have hldq:∀ W,Ext W2 W→(Instr.loadAt 29 (.pointer (some ⟨q,0,none⟩))).run Tryz.prog W=.ok (.agg c.cells.toArray) W:=fun W hE=>xH (P:=Tryz.prog) (o:=0) (cs:=c.cells) zV (hE.blk Hq2.out id) rfl (fun j u hu=>by rcases j with _|_|_|_|_|_|_|_|_|_|j <;> first|exact hu|cases hu)
   have Hldq:=hJ hldq
   clear hldq
   have hl0:=Hldq.out _ (Mod.refl _ W2)
   go_upto_region 7 with (first
    | (refine xR (by kernel_rfl) 29 _ rfl (.pointer (some ⟨b,2,none⟩)) _ rfl hldx ?_)
    | (refine xR (by kernel_rfl) 29 _ rfl (.pointer (some ⟨q,0,none⟩)) _ rfl hl0 ?_)
    | (go_at_call 104;refine (g_own c _).mono ?_;rintro e w3 ⟨rfl,hE3⟩;have hl3:=Hldq.out _ hE3))
   have Hz3:=hJ (hE3.blk Hz2.out id)
   go_wp2_with (first
    | (refine zK ?_;refine lD 29 q 0 hl3 ?_)
    | (refine zF ?_;refine stQ rfl 29 _ _ rfl 10 (b+1) 0 (.agg c.cells.toArray) c.cells zV.2 _ _ c.cells Hz3.out rfl ?_;intro W4 hbW4 hmW4 hsW4))
   exact ⟨⟨rfl,.inr ⟨rfl,rfl,Mod.toExt ((Ext.mod (HE2.out.ext hE3) (zD w.heap.size)).trans hmW4 (fun k _ e=>by unfold zD;omega)),hbW4⟩⟩,by simp[intOf]⟩
 · have Hz:=hJ hz
   clear hz
   go_wp2_with fail
   obtain ⟨Wd,hWd⟩:∃ W,wr.drew=W:=⟨_,rfl⟩
   have hEd:Ext wr Wd:=hWd▸(Mod.refl _ wr).drew
   have hzd:=hEd.blk Hz.out id
   refine yZ (fun W=>W.heap[b+1]? = some (.cells (c).cells.toArray 29 (0,0))) 4 (hWd▸hzd) (fun hS=>?_)
   rw[hWd] at hS ⊢
   clear hWd
   refine tP 0 50 ?_ hS (fun W'=>?_) ?_;rotate_left;· go_simp;try rfl
   try simp only[pL]
   refine tU 1 51 (.agg (c).cells.toArray) hS (b+1) 0 (fun W' hX1=>ld0 zV hX1) ?_
   try simp only[pL]
   iterate 2
    (first|refine tP 2 52 ?_ hS (fun W'=>?_) ?_|refine tP 3 6 ?_ hS (fun W'=>?_) ?_);rotate_left;· go_simp;try rfl
    try simp only[pL]
   refine xN 4 rfl ?_
   simp only[List.drop_succ_cons,List.drop_zero]
   have Hq:=hJ hS
   clear hS hzd
   go_wp2_with (refine zF ?_;refine stQ rfl 29 _ _ rfl 10 (b+1) 0 (.agg (c).cells.toArray) (c).cells zV.2 _ _ (c).cells Hq.out rfl ?_;intro We hbWe hmWe hsWe)
   exact bodyPost_ret (zgK rfl _ _ (b+1) 29 c.cells zV rfl hbWe rfl) rfl ⟨rfl,Mod.toExt ((Ext.mod (hE.ext hEd) (zD w.heap.size)).trans hmWe (fun k _ e=>by unfold zD;omega))⟩
end Go.Proofs.YtjbkjhhjofeldaaGreat
