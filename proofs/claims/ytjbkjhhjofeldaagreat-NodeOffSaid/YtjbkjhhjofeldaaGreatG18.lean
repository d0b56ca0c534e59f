/-
 Layer 22 (node): raft.within, raft.rightReads, raft.Check of a right replica. Conditions: as each theorem names them.
-/
import Derived.Test.YtjbkjhhjofeldaaGreatG17
set_option maxRecDepth 100000
set_option maxHeartbeats 2000000
namespace Go.Proofs.YtjbkjhhjofeldaaGreat
set_option linter.unusedSimpArgs false
set_option linter.unusedVariables false
open Go.RowKit
theorem zeD (g:Int) (is:List Int) (v:Value) (T:Nat→Prop) (w:World) (hv:Sl w T 1 v is.length (is.map (Value.int .i64))) (hi:∀ i∈is,0≤i∧i≤g):
  Calls Tryz.prog 250 #[.int .i64 g,v] w fun e w'=>e=.returned (.bool true)∧w'=w:=by
 obtain ⟨n,hn⟩:∃ n,is.length=n:=⟨_,rfl⟩
 have hnl:=Sl.le hv
 rw[hn] at hnl
 unfold maxLen at hnl
 obtain ⟨A,cp,rfl⟩:∃ A cp,v=.slice A n cp:=by obtain ⟨_,A,c,e,_⟩:=hv;rw[hn] at e;exact ⟨A,c,e⟩
 rw[hn] at hv
 obtain ⟨Hn,Hv,Hi⟩:=hJ3 hn hv hi
 clear hn hv hi
 go_enter Tryz.func250,Tryz.ntmps250
 go_wp2_with fail
 go_loopw [6,9] (fun _ iv wr=>∃ k:Nat,iv=.int .i64 k∧k≤n∧wr=w) (fun _ iv _=>n-(intOf iv).toNat)
 case atStart=>exact ⟨0,rfl,by omega,rfl⟩
 obtain ⟨k,rfl,hk,rfl⟩:=hrel
 by_cases hlt:k<n
 · obtain ⟨x,hx⟩:∃ x,is[k]? = some x:=⟨_,List.getElem?_eq_getElem (by rw[Hn.out];exact hlt)⟩
   obtain ⟨hx0,hx1⟩:=Hi.out x (List.mem_of_getElem? hx)
   obtain ⟨q,off,rfl,hcell⟩:∃ q off,A=some ⟨q,off,none⟩∧wr.cell? ⟨q,off+k,none⟩=some (.int .i64 x):=by
    obtain ⟨_,A',c',e,_,_,hx'⟩:=Hv.out
    injection e with e1 _ e3;subst e1;subst e3
    obtain ⟨q,off,rfl,hg,hcell⟩:=hx' (by omega)
    exact ⟨q,off,rfl,hcell k _ (by simp[hx])⟩
   clear hx
   go_wp2
   exact ⟨⟨k+1,by push_cast;rfl,by omega,trivial⟩,by simp[intOf] <;> omega⟩
 obtain rfl:k=n:=by omega
 go_wp2
 go_ret
 exact ⟨rfl,rfl⟩
theorem zbK {w:World} {n:Nat} {v:Value} {t:TypeId} (h:w.heap.size=n):(w.alloc (.cells #[v] t)).cell? ⟨n,0,none⟩=some v:=by subst h;simp
theorem zjY {w:World} {n:Nat} {v u:Value} {t:TypeId} (h:w.heap.size=n):(w.alloc (.cells #[v,u] t)).cell? ⟨n,0,none⟩=some v∧(w.alloc (.cells #[v,u] t)).cell? ⟨n,1,none⟩=some u:=by subst h;simp
theorem zd1 (g x:Int) (W:World) (a:Nat) (h:0≤x∧x≤g) (h0:W.cell? ⟨a,0,none⟩=some (.int .i64 x)):Calls Tryz.prog 250 #[.int .i64 g,.slice (some ⟨a,0,none⟩) 1 1] W fun e w'=>e=.returned (.bool true)∧w'=W:=
 zeD g [x] _ (fun _=>True) _ ⟨rfl,_,_,rfl,Nat.le_refl _,by simp[maxLen],fun _=>⟨_,0,rfl,trivial,fun j u hu=>by
    rcases j with _|j
    · simp at hu;subst hu;exact h0
    · simp at hu⟩⟩ (by intro i hi;rw[List.mem_singleton] at hi;subst hi;exact h)
theorem within2 (g x y:Int) (W:World) (a:Nat) (h:0≤x∧x≤g) (h2:0≤y∧y≤g) (h0:W.cell? ⟨a,0,none⟩=some (.int .i64 x)) (h1:W.cell? ⟨a,1,none⟩=some (.int .i64 y)):Calls Tryz.prog 250 #[.int .i64 g,.slice (some ⟨a,0,none⟩) 2 2] W fun e w'=>e=.returned (.bool true)∧w'=W:=
 zeD g [x,y] _ (fun _=>True) _ ⟨rfl,_,_,rfl,Nat.le_refl _,by simp[maxLen],fun _=>⟨_,0,rfl,trivial,fun j u hu=>by
    rcases j with _|_|j
    · simp at hu;subst hu;exact h0
    · simp at hu;subst hu;exact h1
    · simp at hu⟩⟩ (by intro i hi;simp only[List.mem_cons,List.not_mem_nil,or_false] at hi;rcases hi with rfl|rfl;exact h;exact h2)
theorem zeE:Str Tryz.prog 138 13:=⟨⟨_,Tryz.underlying138⟩,by kernel_rfl⟩
theorem r_reads0 (r:zS) (As Al Ra:Option Addr) (sn cs ln cl rc:Nat) (w:World):
  Calls Tryz.prog 281 #[.agg (r.cells (.slice As sn cs) (.slice Al ln cl) (.slice Ra 0 rc)).toArray] w fun e w'=>e=.returned (.bool true)∧Ext w w':=by
 obtain ⟨b,hb⟩:∃ b,w.heap.size=b:=⟨_,rfl⟩
 go_enter Tryz.func281,Tryz.ntmps281
 go_upto_region 1 with fail
 obtain ⟨W1,hW1⟩:∃ W1,w.alloc (.cells (r.cells (.slice As sn cs) (.slice Al ln cl) (.slice Ra 0 rc)).toArray 65)=W1:=⟨_,rfl⟩
 obtain ⟨hE1,hb1⟩:=zcI hb hW1
 rw[hW1]
 clear hW1
 have p39:W1.cell? ⟨b,39,none⟩=some (.slice Ra 0 rc):=zA hb1 rfl
 clear hb1
 go_wp2_with fail
 go_loopw [23] (fun iv wr=>iv=.int .i64 0∧wr=W1) (fun _ _=>0)
 case atStart=>exact ⟨rfl,rfl⟩
 obtain ⟨rfl,rfl⟩:=hrel
 go_wp2
 go_ret
 exact ⟨rfl,hE1⟩
theorem r_reads1 (r:zS) (x:yL) (As Al Ra:Option Addr) (sn cs ln cl rc:Nat) (w:World) (T:Nat→Prop) (hv:Sl w T 13 (.slice Ra 1 rc) 1 x.cells) (hr:r.role=3) (hc:yX x.call=0) (hi:0≤x.index∧x.index≤r.commit) (ho:0≤x.round∧x.round≤1099511627776) (ha:0≤x.acks∧x.acks≤127):
  Calls Tryz.prog 281 #[.agg (r.cells (.slice As sn cs) (.slice Al ln cl) (.slice Ra 1 rc)).toArray] w fun e w'=>e=.returned (.bool true)∧Ext w w':=by
 obtain ⟨b,hb⟩:∃ b,w.heap.size=b:=⟨_,rfl⟩
 obtain ⟨g,off,rfl,hcell⟩:∃ g off,Ra=some ⟨g,off,none⟩∧∀ j u,x.cells[j]? = some u→w.cell? ⟨g,off+j,none⟩=some u:=by
  obtain ⟨_,A',c',e,_,_,hx'⟩:=hv
  injection e with e1 _ e3;subst e1;subst e3
  obtain ⟨g,off,rfl,hg,hcell⟩:=hx' (by omega)
  exact ⟨g,off,rfl,hcell⟩
 have Hcell:=hJ hcell
 have hsr:=fun W=>jS x.call W
 rw[hc] at hsr
 have Hsr:=hJ hsr
 have w1:=fun W a=>zd1 r.commit x.index W a hi
 have w2:=fun W a=>zd1 1099511627776 x.round W a ho
 have w3:=fun W a=>zd1 127 x.acks W a ha
 obtain ⟨Hw1,Hw2,Hw3,Hr⟩:=hJ4 w1 w2 w3 hr
 clear hv hcell hsr w1 w2 w3 hr hc hi ho ha
 go_enter Tryz.func281,Tryz.ntmps281
 go_upto_region 1 with fail
 obtain ⟨W1,hW1⟩:∃ W1,w.alloc (.cells (r.cells (.slice As sn cs) (.slice Al ln cl) (.slice (some ⟨g,off,none⟩) 1 rc)).toArray 65)=W1:=⟨_,rfl⟩
 obtain ⟨hE1,hb1⟩:=zcI hb hW1
 rw[hW1]
 clear hW1
 have p39:W1.cell? ⟨b,39,none⟩=some (.slice (some ⟨g,off,none⟩) 1 rc):=zA hb1 rfl
 have p12:W1.cell? ⟨b,12,none⟩=some (.int .i64 3):=(zA hb1 rfl).trans (by rw[Hr.out])
 have p11:W1.cell? ⟨b,11,none⟩=some (.int .i64 r.commit):=zA hb1 rfl
 have hld:(Instr.loadAt 138 (.pointer (some ⟨g,off,none⟩))).run Tryz.prog W1=.ok (.agg x.cells.toArray) W1:=jE zeE rfl (fun j u hu=>hE1.cell (p:=⟨g,off+j,none⟩) (Hcell.out j u hu) id)
 have HE1:=hJ hE1
 have hbW:b<W1.heap.size:=(Array.getElem?_eq_some_iff.1 hb1).1
 clear hb1 hE1
 go_wp2_with fail
 go_loopw [23] (fun iv wr=>(iv=.int .i64 0∧wr=W1)∨(iv=.int .i64 1∧Ext W1 wr)) (fun iv _=>1-(intOf iv).toNat)
 case atStart=>exact .inl ⟨rfl,rfl⟩
 rcases hrel with ⟨rfl,rfl⟩|⟨rfl,hE⟩
 · go_upto_region 6 with (refine lD 138 g off hld ?_)
   obtain ⟨q,hq⟩:∃ q,wr.heap.size=q:=⟨_,rfl⟩
   obtain ⟨W2,hW2⟩:∃ W2,wr.alloc (.cells x.cells.toArray 138)=W2:=⟨_,rfl⟩
   have hE2:Ext wr W2:=hW2▸((Mod.refl _ wr).alloc _)
   have hb2:W2.heap[q]? = some (.cells x.cells.toArray 138 (0,0)):=hq▸hW2▸zI _ _
   rw[hW2,hq]
   have hldc:(Instr.loadAt 29 (.pointer (some ⟨q,0,none⟩))).run Tryz.prog W2=.ok (.agg #[.int .i64 x.call.client,.int .i64 x.call.seq,.int .i64 x.call.cmd.kind,.string x.call.cmd.key,.int .i64 x.call.cmd.old.kind,.float .f64 x.call.cmd.old.num,.string x.call.cmd.old.text,.int .i64 x.call.cmd.val.kind,.float .f64 x.call.cmd.val.num,.string x.call.cmd.val.text]) W2:=xH (o:=0) (cs:=[.int .i64 x.call.client,.int .i64 x.call.seq,.int .i64 x.call.cmd.kind,.string x.call.cmd.key,.int .i64 x.call.cmd.old.kind,.float .f64 x.call.cmd.old.num,.string x.call.cmd.old.text,.int .i64 x.call.cmd.val.kind,.float .f64 x.call.cmd.val.num,.string x.call.cmd.val.text]) zV hb2 rfl (fun j u hu=>by rcases j with _|_|_|_|_|_|_|_|_|_|j <;> first|exact hu|cases hu)
   obtain ⟨Hb2,HE2⟩:=hJ2 hb2 hE2
   have p11':=hE2.cell p11 id
   clear hW2 hq hb2 hE2 p12 p39 hld
   go_wp2_with (first
    | (refine lD 29 q 0 hldc ?_)
    | (go_at_call 41;refine (Hsr.out _).mono ?_;rintro e w3 ⟨rfl,hE3⟩;have z11:w3.cell? ⟨b,11,none⟩=some (.int .i64 r.commit):=hE3.cell p11' id;have zb:b<w3.heap.size:=World.block_lt_of_cell? _ _ z11;have z10:w3.cell? ⟨q,10,none⟩=some (.int .i64 x.index):=zA (hE3.blk Hb2.out id) rfl;have z12:w3.cell? ⟨q,11,none⟩=some (.int .i64 x.round):=zA (hE3.blk Hb2.out id) rfl;have z13:w3.cell? ⟨q,12,none⟩=some (.int .i64 x.acks):=zA (hE3.blk Hb2.out id) rfl;have zq:q<w3.heap.size:=World.block_lt_of_cell? _ _ z10)
    | (go_at_call 250;with_reducible refine (Hw1.out _ _ (zbK (by simp))).mono ?_;rintro e w4 ⟨rfl,rfl⟩)
    | (go_at_call 250;with_reducible refine (Hw2.out _ _ (zbK (by simp))).mono ?_;rintro e w4 ⟨rfl,rfl⟩)
    | (go_at_call 250;with_reducible refine (Hw3.out _ _ (zbK (by simp))).mono ?_;rintro e w4 ⟨rfl,rfl⟩))
   exact ⟨.inr ⟨rfl,HE2.out.ext ((((hE3.alloc _).alloc _).alloc _))⟩,by simp[intOf]⟩
 · go_wp2
   go_ret
   exact ⟨rfl,HE1.out.ext hE⟩
set_option maxHeartbeats 4000000
theorem sl7 {W:World} {b o:Nat} {a:A7} (h:∀ j u,a.cells[j]? = some u→W.cell? ⟨b,o+j,none⟩=some u):Sl W (fun _=>True) 1 (.slice (some ⟨b,o,none⟩) 7 7) a.ints.length (a.ints.map (Value.int .i64)):=
 ⟨rfl,_,_,rfl,Nat.le_refl _,by simp[maxLen],fun _=>⟨_,_,rfl,trivial,fun j u hu=>h j u hu⟩⟩
theorem r_checkR (r:zS) (rds:List yL) (As Al Ra:Option Addr) (sn cs ln cl rn rc:Nat) (w:World) (T:Nat→Prop) (hm:RM w T (.slice As sn cs) (.slice Al ln cl) (.slice Ra rn rc) r rds) (hr:zbF r rds):
  Calls Tryz.prog 178 #[.agg (r.cells (.slice As sn cs) (.slice Al ln cl) (.slice Ra rn rc)).toArray] w fun e w'=>e=.returned (.int .i64 0)∧Ext w w':=by
 obtain ⟨b,hb⟩:∃ b,w.heap.size=b:=⟨_,rfl⟩
 have hfew:r.hard.log.length≤1000000:=by have:=hr.few;omega
 have hck:∀ W,Ext w W→Calls Tryz.prog 118 #[.agg (r.hard.cells (.slice As sn cs) (.slice Al ln cl)).toArray] W fun e w'=>e=.returned (.int .i64 0)∧Ext W w':=fun W hE=>by
  have h:=zdY W T r.hard _ _ (hm.hard.ext hE) hfew
  rw[(jM _).2 hr.hard] at h
  exact h
 have hla:∀ W,Ext w W→Calls Tryz.prog 162 #[.agg (r.hard.cells (.slice As sn cs) (.slice Al ln cl)).toArray] W fun e w'=>(∃ t:Int,e=.returned (.tuple #[.int .i64 r.last,.int .i64 t]))∧Ext W w':=fun W hE=>(zjR W T r.hard _ _ (hm.hard.ext hE) hfew hr.hard.b0 hr.hard.b1).mono fun e w' h=>⟨⟨_,h.1⟩,h.2⟩
 have hrd:∀ W,Ext w W→Calls Tryz.prog 281 #[.agg (r.cells (.slice As sn cs) (.slice Al ln cl) (.slice Ra rn rc)).toArray] W fun e w'=>e=.returned (.bool true)∧Ext W w':=fun W hE=>by
  have hrs:=hm.reads.ext hE
  rcases rds with _|⟨x,_|⟨y,rr⟩⟩
  · obtain rfl:rn=0:=by obtain ⟨_,A,c,e,_⟩:=hrs;injection e
    exact r_reads0 r As Al Ra sn cs ln cl rc W
  · obtain rfl:rn=1:=by obtain ⟨_,A,c,e,_⟩:=hrs;injection e
    obtain ⟨h1,h2,h3,h4⟩:=hr.ask x (by simp)
    refine r_reads1 r x As Al Ra sn cs ln cl rc W T ?_ (hr.rule (by simp)) h1 h2 h3 h4
    have:List.flatMap yL.cells [x]=x.cells:=by simp
    rw[this] at hrs;exact hrs
  · have:=hr.asks;simp at this
 obtain ⟨L,hL⟩:∃ L,r.last=L:=⟨_,rfl⟩
 rw[hL] at hla
 obtain ⟨Hck,Hla,Hrd⟩:=hJ3 hck hla hrd
 have g1:=fun W a=>zd1 6 r.id W a hr.id
 have g2:=fun W a=>zd1 3 r.role W a hr.role
 have g3:=fun W a=>zd1 100 r.wait W a hr.wait
 have g4:=fun W a=>within2 1099511627776 r.quiet r.round W a hr.quiet hr.round
 have g5:=fun W a=>zd1 127 r.votes W a hr.votes
 have k1:=fun W h=>zeD 1099511627776 r.next.ints (.slice (some ⟨b,18,none⟩) 7 7) (fun _=>True) W h hr.next
 have k2:=fun W h=>zeD L r.mtch.ints (.slice (some ⟨b,25,none⟩) 7 7) (fun _=>True) W h (hL▸hr.mtch)
 have k3:=fun W h=>zeD 1099511627776 r.silent.ints (.slice (some ⟨b,32,none⟩) 7 7) (fun _=>True) W h hr.silent
 obtain ⟨G1,G2,G3,G4,G5,K1,K2,K3⟩:=hJ8 g1 g2 g3 g4 g5 k1 k2 k3
 have d1:r.hard.base≤r.commit:=hr.base
 have d2:r.commit≤L:=hL▸hr.commit
 have d3 : -1≤r.lead:=hr.lead.1
 have d4:r.lead<7:=hr.lead.2
 have d5:(r.role != 3)=true∨((r.role != 3)=false∧(r.lead==r.id)=true):=by
  by_cases h:r.role=3
  · exact .inr ⟨by simp[h],by simp[hr.own h]⟩
  · exact .inl (by simpa using h)
 clear hm hr hck hla hrd g1 g2 g3 g4 g5 k1 k2 k3 hL hfew
 go_enter Tryz.func178,Tryz.ntmps178
 go_upto_region 1 with fail
 obtain ⟨W1,hW1⟩:∃ W1,w.alloc (.cells (r.cells (.slice As sn cs) (.slice Al ln cl) (.slice Ra rn rc)).toArray 65)=W1:=⟨_,rfl⟩
 obtain ⟨hE1,hb1⟩:=zcI hb hW1
 rw[hW1]
 clear hW1
 obtain ⟨Hb1,HE1⟩:=hJ2 hb1 hE1
 clear hb1 hE1
 go_upto_region 3 with (first
  | (refine lD 61 b 1 (zbQ Hb1.out) ?_)
  | (go_at_call 118;refine (Hck.out _ HE1.out).mono ?_;rintro e w2 ⟨rfl,hE2⟩))
 have Hb2:=hJ (hE2.blk Hb1.out id)
 have HE2:=hJ (HE1.out.ext hE2)
 clear hE2
 go_upto_region 4 with (first
  | (refine lD 61 b 1 (zbQ Hb2.out) ?_)
  | (go_at_call 162;refine (Hla.out _ HE2.out).mono ?_;rintro e w3 ⟨⟨t3,rfl⟩,hE3⟩))
 have hb3:=hE3.blk Hb2.out id
 have Hb3:=hJ hb3
 have HE3:=hJ (HE2.out.ext hE3)
 have p0:w3.cell? ⟨b,0,none⟩=some (.int .i64 r.id):=zA hb3 rfl
 have p3:w3.cell? ⟨b,3,none⟩=some (.int .i64 r.hard.base):=zA hb3 rfl
 have p11:w3.cell? ⟨b,11,none⟩=some (.int .i64 r.commit):=zA hb3 rfl
 have p12:w3.cell? ⟨b,12,none⟩=some (.int .i64 r.role):=zA hb3 rfl
 have p13:w3.cell? ⟨b,13,none⟩=some (.int .i64 r.lead):=zA hb3 rfl
 have p14:w3.cell? ⟨b,14,none⟩=some (.int .i64 r.wait):=zA hb3 rfl
 have p15:w3.cell? ⟨b,15,none⟩=some (.int .i64 r.quiet):=zA hb3 rfl
 have p16:w3.cell? ⟨b,16,none⟩=some (.int .i64 r.votes):=zA hb3 rfl
 have p17:w3.cell? ⟨b,17,none⟩=some (.int .i64 r.round):=zA hb3 rfl
 have hbw:b<w3.heap.size:=(Array.getElem?_eq_some_iff.1 hb3).1
 have hbw1:b<w3.heap.size+1:=by omega
 have hbw2:b<w3.heap.size+1+1:=by omega
 have hbw3:b<w3.heap.size+1+1+1:=by omega
 have hbw4:b<w3.heap.size+1+1+1+1:=by omega
 have hbw5:b<w3.heap.size+1+1+1+1+1:=by omega
 have k1:∀ W,Ext w3 W→Sl W (fun _=>True) 1 (.slice (some ⟨b,18,none⟩) 7 7) r.next.ints.length (r.next.ints.map (Value.int .i64)):=fun W hE=>sl7 (fun j u hu=>zA (hE.blk Hb3.out id) (by rcases j with _|_|_|_|_|_|_|j <;> first|exact hu|cases hu))
 have S1:=hJ k1
 clear k1
 have k2:∀ W,Ext w3 W→Sl W (fun _=>True) 1 (.slice (some ⟨b,25,none⟩) 7 7) r.mtch.ints.length (r.mtch.ints.map (Value.int .i64)):=fun W hE=>sl7 (fun j u hu=>zA (hE.blk Hb3.out id) (by rcases j with _|_|_|_|_|_|_|j <;> first|exact hu|cases hu))
 have S2:=hJ k2
 clear k2
 have k3:∀ W,Ext w3 W→Sl W (fun _=>True) 1 (.slice (some ⟨b,32,none⟩) 7 7) r.silent.ints.length (r.silent.ints.map (Value.int .i64)):=fun W hE=>sl7 (fun j u hu=>zA (hE.blk Hb3.out id) (by rcases j with _|_|_|_|_|_|_|j <;> first|exact hu|cases hu))
 have S3:=hJ k3
 clear k3
 clear hE3 hb3
 rcases d5 with d5|⟨d5,d6⟩
 all_goals
  go_upto_region 5 with (first
  | (go_at_call 250;with_reducible refine (G1.out _ _ (zbK (by simp))).mono ?_;rintro e w4 ⟨rfl,rfl⟩)
  | (go_at_call 250;with_reducible refine (G2.out _ _ (zbK (by simp))).mono ?_;rintro e w4 ⟨rfl,rfl⟩)
  | (go_at_call 250;with_reducible refine (G3.out _ _ (zbK (by simp))).mono ?_;rintro e w4 ⟨rfl,rfl⟩)
  | (go_at_call 250;with_reducible refine (G4.out _ _ (zjY (by simp)).1 (zjY (by simp)).2).mono ?_;rintro e w4 ⟨rfl,rfl⟩)
  | (go_at_call 250;with_reducible refine (G5.out _ _ (zbK (by simp))).mono ?_;rintro e w4 ⟨rfl,rfl⟩)
  | (go_at_call 250;with_reducible refine (K1.out _ (S1.out _ (by repeat (first|exact Mod.refl _ _|refine Mod.alloc ?_ _)))).mono ?_;rintro e w4 ⟨rfl,rfl⟩)
  | (go_at_call 250;with_reducible refine (K2.out _ (S2.out _ (by repeat (first|exact Mod.refl _ _|refine Mod.alloc ?_ _)))).mono ?_;rintro e w4 ⟨rfl,rfl⟩)
  | (go_at_call 250;with_reducible refine (K3.out _ (S3.out _ (by repeat (first|exact Mod.refl _ _|refine Mod.alloc ?_ _)))).mono ?_;rintro e w4 ⟨rfl,rfl⟩)
  | (refine xR (by kernel_rfl) 65 _ rfl (.pointer (some ⟨b,0,none⟩)) _ rfl (yY ((show Ext w3 _ from (by repeat (first|exact Mod.refl _ _|refine Mod.alloc ?_ _))).blk Hb3.out id)) ?_)
  | (go_at_call 281;refine (Hrd.out _ (HE3.out.ext (by repeat (first|exact Mod.refl _ _|refine Mod.alloc ?_ _)))).mono ?_;rintro e w5 ⟨rfl,hE5⟩;have hb5:=hE5.blk ((show Ext w3 _ from (by repeat (first|exact Mod.refl _ _|refine Mod.alloc ?_ _))).blk Hb3.out id) id;have z0:w5.cell? ⟨b,0,none⟩=some (.int .i64 r.id):=zA hb5 rfl;have z12:w5.cell? ⟨b,12,none⟩=some (.int .i64 r.role):=zA hb5 rfl;have z13:w5.cell? ⟨b,13,none⟩=some (.int .i64 r.lead):=zA hb5 rfl;have HE5:=hJ (HE3.out.ext ((show Ext w3 _ from (by repeat (first|exact Mod.refl _ _|refine Mod.alloc ?_ _))).ext hE5));clear hE5 hb5;clear p0 p3 p11 p12 p13 p14 p15 p16 p17))
  go_wp2
  go_ret
  exact ⟨rfl,HE5.out⟩
set_option maxHeartbeats 1000000
theorem zl7 (r:zS) (sv lv:Value) (Ra:Option Addr) (rn rc:Nat) (w:World) (T:Nat→Prop) (hv:xP w T sv lv r.hard) (hl:zdL r.hard) (hr:r.role=3) (h0:r.id=0):Calls Tryz.prog 100 #[.agg (r.cells sv lv (.slice Ra rn rc)).toArray] w fun e w'=>e=.returned (.int .i64 0)∧Ext w w':=by
 obtain ⟨b,hb⟩:∃ b,w.heap.size=b:=⟨_,rfl⟩
 have hco:=fun W (hE:Ext w W)=>zcJ r sv lv Ra rn rc W T (hv.ext hE) hl
 obtain ⟨As,cs,Al,cl,hs1,hs2⟩:=hv.forms
 obtain ⟨sn,hsn⟩:∃ n,r.hard.snap.length=n:=⟨_,rfl⟩
 obtain ⟨ln,hln⟩:∃ n,r.hard.log.length=n:=⟨_,rfl⟩
 rw[hsn] at hs1
 rw[hln] at hs2
 subst hs1
 subst hs2
 have Hco:=hJ hco
 clear hv hl hco hsn hln
 go_enter Tryz.func100,Tryz.ntmps100
 go_upto_region 1 with fail
 obtain ⟨W1,hW1⟩:∃ W1,w.alloc (.cells (r.cells (.slice As sn cs) (.slice Al ln cl) (.slice Ra rn rc)).toArray 65)=W1:=⟨_,rfl⟩
 obtain ⟨hE1,hb1⟩:=zcI hb hW1
 rw[hW1]
 clear hW1
 obtain ⟨Hb1,HE1⟩:=hJ2 hb1 hE1
 have Hc:Hid (∀ W,Ext W1 W→W.cell? ⟨b,12,none⟩=some (.int .i64 3)∧W.cell? ⟨b,0,none⟩=some (.int .i64 0)):=hJ (fun W hE=>⟨(zA (hE.blk hb1 id) rfl).trans (by rw[hr]),(zA (hE.blk hb1 id) rfl).trans (by rw[h0])⟩)
 clear hb1 hE1 h0 hr
 refine wp_region_held_drew (S:=(fun W=>Ext W1 W∧W.cell? ⟨b,12,none⟩=some (.int .i64 3)∧W.cell? ⟨b,0,none⟩=some (.int .i64 0))) (by kernel_rfl) ⟨(Mod.refl (fun _=>False) W1).drew,Hc.out _ ((Mod.refl _ W1).drew)⟩ (fun hS=>?_)
 refine zbB (i:=0) (v:=?_) (some 3) rfl rfl (by kernel_rfl) (by kernel_rfl) (by kernel_rfl) (fun _ _ _ h=>h) (Or.inl ⟨by kernel_rfl,?_⟩) hS ?_
 rotate_left
 · rintro W' ⟨hW1',p12,p0⟩
   go_simp
   try rfl
 try simp only[Act.put,List.setIfInBounds_toArray,List.set_cons_zero,List.set_cons_succ]
 refine zbB (i:=1) (v:=?_) (some 4) rfl rfl (by kernel_rfl) (by kernel_rfl) (by kernel_rfl) (fun _ _ _ h=>h) (Or.inl ⟨by kernel_rfl,?_⟩) hS ?_
 rotate_left
 · rintro W' ⟨hW1',p12,p0⟩
   go_simp
   try rfl
 try simp only[Act.put,List.setIfInBounds_toArray,List.set_cons_zero,List.set_cons_succ]
 refine zbB (i:=2) (v:=?_) (some 5) rfl rfl (by kernel_rfl) (by kernel_rfl) (by kernel_rfl) (fun _ _ _ h=>h) (Or.inl ⟨by kernel_rfl,?_⟩) hS ?_
 rotate_left
 · rintro W' ⟨hW1',p12,p0⟩
   go_simp
   try rfl
 try simp only[Act.put,List.setIfInBounds_toArray,List.set_cons_zero,List.set_cons_succ]
 refine zbB (i:=3) (v:=?_) (some 6) rfl rfl (by kernel_rfl) (by kernel_rfl) (by kernel_rfl) (fun _ _ _ h=>h) (Or.inl ⟨by kernel_rfl,?_⟩) hS ?_
 rotate_left
 · rintro W' ⟨hW1',p12,p0⟩
   go_simp
   try rfl
 try simp only[Act.put,List.setIfInBounds_toArray,List.set_cons_zero,List.set_cons_succ]
 refine tkH 4 (some 7) rfl rfl ((.agg (r.cells (.slice As sn cs) (.slice Al ln cl) (.slice Ra rn rc)).toArray)) hS ?_ ?_
 · rintro W' ⟨hW1',p12,p0⟩
   exact zbH _ _ rfl (.pointer (some ⟨b,0,none⟩)) _ rfl (yY (hW1'.blk Hb1.out id))
 try simp only[Act.put,List.setIfInBounds_toArray,List.set_cons_zero,List.set_cons_succ]
 refine zbB (i:=6) (v:=?_) (some 9) rfl rfl (by kernel_rfl) (by kernel_rfl) (by kernel_rfl) (fun _ _ _ h=>h) (Or.inl ⟨by kernel_rfl,?_⟩) hS ?_
 rotate_left
 · rintro W' ⟨hW1',p12,p0⟩
   go_simp
   try rfl
 try simp only[Act.put,List.setIfInBounds_toArray,List.set_cons_zero,List.set_cons_succ]
 refine zbB (i:=7) (v:=?_) (some 10) rfl rfl (by kernel_rfl) (by kernel_rfl) (by kernel_rfl) (fun _ _ _ h=>h) (Or.inl ⟨by kernel_rfl,?_⟩) hS ?_
 rotate_left
 · rintro W' ⟨hW1',p12,p0⟩
   go_simp
   try rfl
 try simp only[Act.put,List.setIfInBounds_toArray,List.set_cons_zero,List.set_cons_succ]
 refine zaJ 5 rfl (fun K hK=>?_)
 go_simp
 go_wp2_with fail
 refine (Hco.out _ (HE1.out.ext hS.1)).mono ?_
 rintro e w3 ⟨rfl,hE3⟩
 have hX:=And.intro (hS.1.ext hE3) (Hc.out _ (hS.1.ext hE3))
 go_simp
 refine hK.out _ _ hX (fun hS=>?_)
 clear hK K hX
 try simp only[Act.put,List.setIfInBounds_toArray,List.set_cons_zero,List.set_cons_succ]
 refine zaJ 8 rfl (fun K hK=>?_)
 go_simp
 go_wp2_with fail
 refine (zoR _).mono ?_
 rintro e w4 ⟨rfl,hE4⟩
 have hX:=And.intro (hS.1.ext hE4) (Hc.out _ (hS.1.ext hE4))
 go_simp
 refine hK.out _ _ hX (fun hS=>?_)
 clear hK K hX
 try simp only[Act.put,List.setIfInBounds_toArray,List.set_cons_zero,List.set_cons_succ]
 refine zbB (i:=9) (v:=?_) (some 12) rfl rfl (by kernel_rfl) (by kernel_rfl) (by kernel_rfl) (fun _ _ _ h=>h) (Or.inl ⟨by kernel_rfl,?_⟩) hS ?_
 rotate_left
 · rintro W' ⟨hW1',p12,p0⟩
   go_simp
   try rfl
 try simp only[Act.put,List.setIfInBounds_toArray,List.set_cons_zero,List.set_cons_succ]
 refine zbB (i:=10) (v:=?_) (some 13) rfl rfl (by kernel_rfl) (by kernel_rfl) (by kernel_rfl) (fun _ _ _ h=>h) (Or.inl ⟨by kernel_rfl,?_⟩) hS ?_
 rotate_left
 · rintro W' ⟨hW1',p12,p0⟩
   go_simp
   try rfl
 try simp only[Act.put,List.setIfInBounds_toArray,List.set_cons_zero,List.set_cons_succ]
 refine wpAnyH_done (by kernel_rfl) ?_ _
 go_wp2
 go_ret
 exact ⟨rfl,HE1.out.ext hS.1⟩
set_option maxHeartbeats 2000000
def zb7 (E:TypeId) (k:Nat) (w w':World) (v:Value) (n:Nat) (xs:List Value):Prop:=w'.ownsRow 0 E k v n xs∧∀ g,v.ownBlock=some g→w.heap.size≤g
theorem zb7.ext {E:TypeId} {k n:Nat} {w w1 w2:World} {v:Value} {xs:List Value} (h:zb7 E k w w1 v n xs) (hE:Ext w1 w2):zb7 E k w w2 v n xs:=⟨zN h.1 hE (fun _ _=>id),h.2⟩
theorem zgH:(Tryz.prog.info? 138).map (fun i=>(i.zero,i.size,i.bytes))=some (some (.agg #[.int .i64 0,.int .i64 0,.int .i64 0,.string ⟨#[]⟩,.int .i64 0,.float .f64 0,.string ⟨#[]⟩,.int .i64 0,.float .f64 0,.string ⟨#[]⟩,.int .i64 0,.int .i64 0,.int .i64 0]),13,128):=by kernel_rfl
theorem ziM (l:List yL):∀ v∈l.flatMap yL.cells,v.oneCell'=true:=by
 intro v hv
 obtain ⟨x,_,hx⟩:=List.mem_flatMap.1 hv
 simp only[yL.cells,List.mem_cons,List.not_mem_nil,or_false] at hx
 rcases hx with rfl|rfl|rfl|rfl|rfl|rfl|rfl|rfl|rfl|rfl|rfl|rfl|rfl <;> rfl
theorem zl8 (w:World) (T:Nat→Prop) (v:Value) (l:List yL) (h:Sl w T 13 v l.length (l.flatMap yL.cells)) (hl:l.length≤1000):
    Calls Tryz.prog 61 #[v] w fun e w'=>∃ v',e=.returned v'∧zb7 138 13 w w' v' l.length (l.flatMap yL.cells)∧Ext w w':=by
  obtain ⟨i0,hi,hz0,hz1,hz2⟩:=info_parts zgH
  obtain ⟨n,hn⟩:∃ n,l.length=n:=⟨_,rfl⟩
  obtain ⟨xs,hxs⟩:∃ xs,l.flatMap yL.cells=xs:=⟨_,rfl⟩
  have hone:=ziM l
  obtain ⟨A,c,rfl⟩:=h.form
  rw[hxs] at h hone ⊢
  rw[hn] at hl h ⊢
  have Hone:=hJ hone
  clear hn hxs hone
  have heq:=fun (w:World) (a:Option Addr) (n c n' c':Nat)=>Lib.run_eql_slice_nil (P:=Tryz.prog) w 63 138 a n c n' c' Tryz.underlying63
  rcases A with _|A
  · have hn0:n=0:=by
      rcases Nat.eq_zero_or_pos n with h0|h0
      · exact h0
      · obtain ⟨_,A',c',e,_,_,hx⟩:=h
        injection e with e1 _ _
        obtain ⟨g,off,hA,_⟩:=hx h0
        rw[←e1] at hA;cases hA
    subst hn0
    have hx0:xs=[]:=List.eq_nil_of_length_eq_zero (by simpa using h.1)
    subst hx0
    clear h
    go_enter Tryz.func61,Tryz.ntmps61
    go_wp2
    go_ret
    exact ⟨_,rfl,⟨World.ownsRow_nil _ _ _ _,by simp[Value.ownBlock]⟩,Mod.refl _ w⟩
  · have hEa:Ext w (w.alloc (.cells #[] 138)):=(Mod.refl _ w).alloc _
    have h3:=h.ext hEa
    have hown:(w.alloc (.cells #[] 138)).ownsRow 0 138 13 (.slice (some ⟨w.heap.size,0,none⟩) 0 0) 0 []:=World.ownsRow_made w #[] 0 (Nat.zero_le _) (by simp[maxLen]) rfl
    go_enter Tryz.func61,Tryz.ntmps61
    go_wp2_with (at_builtin;refine xB _ rfl _ _ 63 rfl 138 i0 _ 13 128 Tryz.underlying63 hi hz0 hz1 hz2 rfl (by omega) _ 0 [] rfl hown T _ n xs rfl h3 Hone.out (by simp only[maxLen];omega) (by omega) ?_)
    intro v' w1 ho hgr hat
    have hM:Mod (zD w.heap.size) w w1:=(((Mod.refl (zD w.heap.size) w).alloc _).grown hgr (fun k hk=>by
      simp[Value.ownBlock] at hk;subst hk;exact .inl (Nat.le_refl _)))
    have hN:zb7 138 13 w w1 v' n xs:=by
      refine ⟨by simpa using ho,fun g hgg=>?_⟩
      rcases hat with e|e <;> rw[e] at hgg <;> simp[Value.ownBlock] at hgg <;> omega
    go_wp2
    go_ret
    exact ⟨v',rfl,hN,hM.toExt⟩
structure Rep (w w':World) (q:Nat) (sv lv rv:Value) (r:zS) (rds:List yL):Prop where
  box:w'.heap[q]? = some (.cells (r.cells sv lv rv++[Value.slice none 0 0]).toArray 178 (0,0))
  new:w.heap.size≤q
  hard:zcS w w' sv lv r.hard
  reads:zb7 138 13 w w' rv rds.length (rds.flatMap yL.cells)
theorem Rep.ext {w w1 w2:World} {q:Nat} {sv lv rv:Value} {r:zS} {rds:List yL} (h:Rep w w1 q sv lv rv r rds) (hE:Ext w1 w2):Rep w w2 q sv lv rv r rds:=⟨hE.blk h.box id,h.new,h.hard.ext hE,h.reads.ext hE⟩
def OfOut (w:World) (r:zS) (rds:List yL) (e:Ending) (w':World):Prop:=∃ q sv lv rv,e=.returned (.tuple #[.pointer (some ⟨q,0,none⟩),.int .i64 0])∧Rep w w' q sv lv rv r rds∧Ext w w'
theorem RM.forms {w:World} {T:Nat→Prop} {sv lv rv:Value} {r:zS} {rds:List yL} (h:RM w T sv lv rv r rds):∃ As cs Al cl Ra rc,sv=.slice As r.hard.snap.length cs∧lv=.slice Al r.hard.log.length cl∧rv=.slice Ra rds.length rc:=by
  obtain ⟨As,cs,Al,cl,h1,h2⟩:=h.hard.forms
  obtain ⟨Ra,rc,h3⟩:=h.reads.form
  exact ⟨As,cs,Al,cl,Ra,rc,h1,h2,h3⟩
theorem r_of (r:zS) (rds:List yL) (sv lv rv:Value) (w:World) (T:Nat→Prop) (hm:RM w T sv lv rv r rds) (hr:zbF r rds):
  Calls Tryz.prog 99 #[.agg (r.cells sv lv rv).toArray] w (OfOut w r rds):=by
 obtain ⟨As,cs,Al,cl,Ra,rc,rfl,rfl,rfl⟩:=hm.forms
 obtain ⟨b,hb⟩:∃ b,w.heap.size=b:=⟨_,rfl⟩
 have hsn0:r.hard.snap.length≤1000000:=by have:=hr.hard.s;omega
 have hln0:r.hard.log.length≤1000000:=by have:=hr.few;omega
 have hrn0:rds.length≤1000:=by have:=hr.asks;omega
 have hck:=fun W (hE:Ext w W)=>r_checkR r rds As Al Ra _ cs _ cl _ rc W T (hm.ext hE) hr
 have hbc:=fun W (hE:Ext w W)=>zdZ W T (.slice As r.hard.snap.length cs) r.hard.snap (hm.hard.ext hE).1 hsn0
 have hec:=fun W (hE:Ext w W)=>zeZ W T (.slice Al r.hard.log.length cl) r.hard.log (hm.hard.ext hE).2 hln0
 have hrc:=fun W (hE:Ext w W)=>zl8 W T (.slice Ra rds.length rc) rds (hm.reads.ext hE) hrn0
 obtain ⟨sn,hsn⟩:∃ n,r.hard.snap.length=n:=⟨_,rfl⟩
 obtain ⟨ln,hln⟩:∃ n,r.hard.log.length=n:=⟨_,rfl⟩
 obtain ⟨rn,hrn⟩:∃ n,rds.length=n:=⟨_,rfl⟩
 rw[hsn,hln,hrn] at hck
 rw[hsn] at hbc ⊢
 rw[hln] at hec ⊢
 rw[hrn] at hrc ⊢
 obtain ⟨Hck,Hbc,Hec,Hrc,Hrn⟩:=hJ5 hck hbc hec hrc hrn
 clear hm hr hck hbc hec hrc hsn hln hrn hsn0 hln0 hrn0
 go_enter Tryz.func99,Tryz.ntmps99
 go_upto_region 1 with fail
 obtain ⟨W1,hW1⟩:∃ W1,w.alloc (.cells (r.cells (.slice As sn cs) (.slice Al ln cl) (.slice Ra rn rc)).toArray 65)=W1:=⟨_,rfl⟩
 obtain ⟨hE1,hb1⟩:=zcI hb hW1
 rw[hW1]
 clear hW1
 obtain ⟨HE0,Hb0⟩:=hJ2 hE1 hb1
 clear hE1 hb1
 go_upto_region 4 with (first
  | (refine lD 65 b 0 (yY Hb0.out) ?_)
  | (go_at_call 178;refine (Hck.out _ HE0.out).mono ?_;rintro e wc ⟨rfl,hEc⟩))
 have HE1:=hJ (HE0.out.ext hEc)
 have Hb1:=hJ (hEc.blk Hb0.out id)
 clear hEc
 obtain ⟨W1,hW1⟩:∃ W,wc=W:=⟨_,rfl⟩
 rw[hW1] at HE1 Hb1 ⊢
 clear hW1
 refine yZ (fun W=>Ext W1 W∧W.heap[b]? = some (.cells (r.cells (.slice As sn cs) (.slice Al ln cl) (.slice Ra rn rc)).toArray 65 (0,0))) 13 ⟨(Mod.refl (fun _=>False) W1).drew,((Mod.refl (fun _=>False) W1).drew).blk Hb1.out id⟩ (fun hS=>?_)
 iterate 2
  (first|refine tP 0 10 ?_ hS (fun W'=>?_) ?_|refine tP 1 11 ?_ hS (fun W'=>?_) ?_);rotate_left;· go_simp;try rfl
  try simp only[pL]
 refine zkH 2 (some 12) ?_ hS (Or.inl ⟨by kernel_rfl,?_⟩) ?_;rotate_left;· rintro W' ⟨hX1,hb9⟩;have p9:W'.cell? ⟨b,9,none⟩=some _:=zA hb9 rfl;have p10:W'.cell? ⟨b,10,none⟩=some _:=zA hb9 rfl;have p39:W'.cell? ⟨b,39,none⟩=some _:=zA hb9 rfl;go_simp;try rfl
 try simp only[pL]
 iterate 2
  (first|refine tP 4 14 ?_ hS (fun W'=>?_) ?_|refine tP 5 15 ?_ hS (fun W'=>?_) ?_);rotate_left;· go_simp;try rfl
  try simp only[pL]
 refine zkH 6 (some 16) ?_ hS (Or.inl ⟨by kernel_rfl,?_⟩) ?_;rotate_left;· rintro W' ⟨hX1,hb9⟩;have p9:W'.cell? ⟨b,9,none⟩=some _:=zA hb9 rfl;have p10:W'.cell? ⟨b,10,none⟩=some _:=zA hb9 rfl;have p39:W'.cell? ⟨b,39,none⟩=some _:=zA hb9 rfl;go_simp;try rfl
 try simp only[pL]
 refine tP 8 18 ?_ hS (fun W'=>?_) ?_;rotate_left;· go_simp;try rfl
 try simp only[pL]
 refine zkH 9 (some 19) ?_ hS (Or.inl ⟨by kernel_rfl,?_⟩) ?_;rotate_left;· rintro W' ⟨hX1,hb9⟩;have p9:W'.cell? ⟨b,9,none⟩=some _:=zA hb9 rfl;have p10:W'.cell? ⟨b,10,none⟩=some _:=zA hb9 rfl;have p39:W'.cell? ⟨b,39,none⟩=some _:=zA hb9 rfl;go_simp;try rfl
 try simp only[pL]
 refine jP 3 (fun K hK=>?_)
 go_simp
 go_wp2_with fail
 refine (Hbc.out _ (HE1.out.ext hS.1)).mono ?_
 rintro e w2 ⟨v2,rfl,hN2,hE2⟩
 obtain ⟨A2,c2,rfl⟩:=zC hN2.1
 have HN2:=hJ (hN2.up (HE1.out.ext hS.1))
 clear hN2
 have hX:=And.intro (hS.1.ext hE2) (hE2.blk hS.2 id)
 go_simp
 refine hK.out _ _ hX (fun hS=>?_)
 clear hK K hX
 try simp only[pL]
 iterate 2
  (first|refine tP 11 21 ?_ hS (fun W'=>?_) ?_|refine tP 12 22 ?_ hS (fun W'=>?_) ?_);rotate_left;· go_simp;try rfl
  try simp only[pL]
 refine jP 7 (fun K hK=>?_)
 go_simp
 go_wp2_with fail
 refine (Hec.out _ ((HE1.out.ext hS.1))).mono ?_
 rintro e w3 ⟨v3,rfl,hN3,hE3⟩
 obtain ⟨A3,c3,rfl⟩:=hN3.form
 have HN3:=hJ (jH hN3 (HE1.out.ext hS.1).size)
 have HN2a:=hJ (HN2.out.ext hE3)
 clear hN3
 have hX:=And.intro (hS.1.ext hE3) (hE3.blk hS.2 id)
 go_simp
 refine hK.out _ _ hX (fun hS=>?_)
 clear hK K hX
 try simp only[pL]
 refine jP 10 (fun K hK=>?_)
 go_simp
 go_wp2_with fail
 refine (Hrc.out _ ((HE1.out.ext hS.1))).mono ?_
 rintro e w4 ⟨v4,rfl,hN4,hE4⟩
 obtain ⟨A4,c4,rfl⟩:=zC hN4.1
 have HN4:=hJ (show zb7 _ _ w _ _ _ _ from ⟨hN4.1,fun g hg=>Nat.le_trans (HE1.out.ext hS.1).size (hN4.2 g hg)⟩)
 have HN2b:=hJ (HN2a.out.ext hE4)
 have HN3b:=hJ (zeB HN3.out hE4 (fun _ _=>id))
 clear hN4
 have hX:=And.intro (hS.1.ext hE4) (hE4.blk hS.2 id)
 go_simp
 refine hK.out _ _ hX (fun hS=>?_)
 clear hK K hX
 try simp only[pL]
 refine xN 13 rfl ?_
 simp only[List.drop_succ_cons,List.drop_zero]
 have hE4:=HE1.out.ext hS.1
 have hb4:=hS.2
 have p9:w4.cell? ⟨b,9,none⟩=some _:=zA hb4 rfl
 have p10:w4.cell? ⟨b,10,none⟩=some _:=zA hb4 rfl
 have p39:w4.cell? ⟨b,39,none⟩=some _:=zA hb4 rfl
 have f9:w4.frozen? ⟨b,9,none⟩=false:=zB 9 hb4
 have f10:w4.frozen? ⟨b,10,none⟩=false:=zB 10 hb4
 have f39:w4.frozen? ⟨b,39,none⟩=false:=zB 39 hb4
 obtain ⟨Hb4,HE4⟩:=hJ2 hb4 hE4
 clear hb4 hE4 hS
 go_upto_region 5 with fail
 obtain ⟨W5,hW5⟩:∃ W5,((w4.setCell ⟨b,9,none⟩ (.slice A2 r.hard.snap.length c2)).setCell ⟨b,10,none⟩ (.slice A3 r.hard.log.length c3)).setCell ⟨b,39,none⟩ (.slice A4 rn c4)=W5:=⟨_,rfl⟩
 have hb5:W5.heap[b]? = some (.cells (r.cells (.slice A2 r.hard.snap.length c2) (.slice A3 r.hard.log.length c3) (.slice A4 rn c4)).toArray 65 (0,0)):=hW5▸jA (jA (jA Hb4.out 9 (.slice A2 r.hard.snap.length c2)) 10 (.slice A3 r.hard.log.length c3)) 39 (.slice A4 rn c4)
 have hm5:Mod (fun k=>k=b) w4 W5:=hW5▸zM (zM (zM (Mod.refl _ w4) 9 _) 10 _) 39 _
 rw[hW5]
 clear hW5
 obtain ⟨q,hq⟩:∃ q,W5.heap.size=q:=⟨_,rfl⟩
 have HE5:=hJ (Mod.toExt ((Ext.mod HE4.out (zD w.heap.size)).trans hm5 (fun k _ e=>by unfold zD;omega)))
 have HN2c:=hJ (show zaN w W5 (.slice A2 r.hard.snap.length c2) r.hard.snap from ⟨zN HN2b.out.1 hm5 (fun g hg=>zG HN2b.out.1 hg Hb4.out (by decide)),HN2b.out.2⟩)
 have HN3c:=hJ (zeC HN3b.out Hb4.out hm5 (by decide))
 have HN4c:=hJ (show zb7 _ _ w W5 (.slice A4 rn c4) _ _ from ⟨zN HN4.out.1 hm5 (fun g hg=>zG HN4.out.1 hg Hb4.out (by decide)),HN4.out.2⟩)
 have Hq:=hJ hq
 clear hm5 p9 p10 p39 f9 f10 f39 hq
 have hld:=yY hb5
 clear hb5
 go_wp2_with (refine lD 65 b 0 hld ?_)
 go_ret2
 have hE6:=fun o=>(Mod.refl (fun _=>False) W5).alloc o
 refine ⟨W5.heap.size,.slice A2 r.hard.snap.length c2,.slice A3 r.hard.log.length c3,.slice A4 rn c4,rfl,⟨zI W5 _,HE5.out.size,⟨HN2c.out.ext (hE6 _),zeB HN3c.out (hE6 _) (fun _ _=>id)⟩,?_⟩,HE5.out.ext (hE6 _)⟩
 rw[Hrn.out]
 exact HN4c.out.ext (hE6 _)
end Go.Proofs.YtjbkjhhjofeldaaGreat
