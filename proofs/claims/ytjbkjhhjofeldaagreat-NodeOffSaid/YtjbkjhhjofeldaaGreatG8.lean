/-
 Contracts of package wire's writer: configurations and entries. Conditions: as each theorem names them.
-/
import Derived.Test.YtjbkjhhjofeldaaGreatG7
import Derived.ProofKit
import Derived.OpenShut
import Derived.ShutString
import Derived.ChangeOld
import Derived.Deep.Slices
import Derived.Deep.Fields
import Derived.Defers
import Derived.Recover
set_option maxRecDepth 100000
set_option maxHeartbeats 2000000
namespace Go.Proofs.YtjbkjhhjofeldaaGreat
open Go.RowKit
theorem zf9 (w:World) (l:List Int) (e:TypeId) (cs:Array Value) (hc:cs=(l.map (Value.int .i64)).toArray) (n:Nat) (hn:n=l.length) (hl:n≤100):
  Sl (w.alloc (.cells cs e)) (fun g=>w.heap.size≤g) 1 (.slice (some ⟨w.heap.size,0,none⟩) n n) l.length (l.map (Value.int .i64)):=by
 subst hn
 subst hc
 have h:=World.ownsRow_lit (base:=0) (e:=e) (size:=1) w (l.map (Value.int .i64)).toArray l.length (Nat.zero_le _) (by simp only[maxLen];omega) (by simp)
 exact Sl.of_own (base:=0) (e:=e) (by simpa using h) (fun g hg=>by simp[Value.ownBlock] at hg;omega)
theorem zoT (w:World) (S:Nat→Prop) (b:Nat) (bs:List UInt8) (long:Bool) (c:jB) (h:St w S b bs long) (hv:c.ok) (hb:bs.length≤899000000):
  Calls Tryz.prog 421 #[.pointer (some ⟨b,0,none⟩),.agg #[.int .i64 c.full,.int .i64 c.wit,.int .i64 c.learn,.int .i64 c.learnWit]] w (zn2 w S b bs long (zg5 c)):=by
 obtain ⟨hc1,hc2,hc3,hc4⟩:=hv
 obtain ⟨wb,hwb⟩:∃ wb,wb=w.alloc (.cells #[.int .i64 c.full,.int .i64 c.wit,.int .i64 c.learn,.int .i64 c.learnWit] 57):=⟨_,rfl⟩
 have hE:Ext w wb:=by rw[hwb];exact (Mod.refl _ w).alloc _
 have hSb:=h.of_ext hE
 have hsz:wb.heap.size=w.heap.size+1:=by rw[hwb];simp
 obtain ⟨Hwb,Hsz⟩:=hJ2 hwb hsz
 have Hr:Hid (∀ n∈[c.full,c.wit,c.learn,c.learnWit],I64 n):=hJ (by simp;exact ⟨hc1,hc2,hc3,hc4⟩)
 clear hwb hsz hc1 hc2 hc3 hc4
 go_enter Tryz.func421,Tryz.ntmps421
 go_wp2_with fail
 rw[←Hwb.out]
 have hE1:Ext wb (wb.alloc (.cells #[.int .i64 c.full,.int .i64 c.wit,.int .i64 c.learn,.int .i64 c.learnWit] 3)):=(Mod.refl _ wb).alloc _
 have hsl:=zf9 wb [c.full,c.wit,c.learn,c.learnWit] 3 #[.int .i64 c.full,.int .i64 c.wit,.int .i64 c.learn,.int .i64 c.learnWit] rfl 4 rfl (by omega)
 rw[Hsz.out] at hsl
 refine (ziB _ S _ b bs long _ [c.full,c.wit,c.learn,c.learnWit] (hSb.of_ext hE1) hsl (fun g h1 h2=>by have:=hSb.2 g h2;rw[Hsz.out] at this;omega) Hr.out (by simp) (by omega)).mono ?_
 rintro e w1 ⟨hm1,rfl,S1,hS1,hg1⟩
 have hm1:Mod S wb w1:=(hE1.mod S).self hm1
 have Hg1:Hid (∀ k,S1 k→S k∨wb.heap.size≤k):=hJ (fun k hk=>(hg1 k hk).imp id (fun h=>Nat.le_trans hE1.size h))
 clear hg1
 go_wp2
 go_end0
 exact jO (d:=zY [c.full,c.wit,c.learn,c.learnWit]) (l:=false) hE hm1 hS1 Hg1.out rfl
theorem zl0 (a b c d:Int) (w:World):(binOp .eql 57 (.agg #[.int .i64 a,.int .i64 b,.int .i64 c,.int .i64 d]) (.agg #[.int .i64 0,.int .i64 0,.int .i64 0,.int .i64 0])).run Tryz.prog w=.ok (.bool (zcU ⟨a,b,c,d⟩)) w:=by
 by_cases h1:a=0 <;> by_cases h2:b=0 <;> by_cases h3:c=0 <;> by_cases h4:d=0 <;> go_simp <;> simp[zcU,h1,h2,h3,h4]
attribute [local go_sem high] zl0
theorem zl1 (w:World) (S:Nat→Prop) (b:Nat) (bs:List UInt8) (long:Bool) (x:zO) (h:St w S b bs long) (hv:x.ok) (hb:bs.length≤897000000):
  Calls Tryz.prog 441 #[.pointer (some ⟨b,0,none⟩),.agg #[.int .i64 x.term,.int .i64 x.kind,.int .i64 x.call.client,.int .i64 x.call.seq,.int .i64 x.call.cmd.kind,.string x.call.cmd.key,.int .i64 x.call.cmd.old.kind,.float .f64 x.call.cmd.old.num,.string x.call.cmd.old.text,.int .i64 x.call.cmd.val.kind,.float .f64 x.call.cmd.val.num,.string x.call.cmd.val.text,.int .i64 x.conf.full,.int .i64 x.conf.wit,.int .i64 x.conf.learn,.int .i64 x.conf.learnWit]] w (zn2 w S b bs long (jF x)):=by
 obtain ⟨hc1,hc2,hcall,hconf⟩:=hv
 obtain ⟨wb,hwb⟩:∃ wb,wb=w.alloc (.cells #[.int .i64 x.term,.int .i64 x.kind,.int .i64 x.call.client,.int .i64 x.call.seq,.int .i64 x.call.cmd.kind,.string x.call.cmd.key,.int .i64 x.call.cmd.old.kind,.float .f64 x.call.cmd.old.num,.string x.call.cmd.old.text,.int .i64 x.call.cmd.val.kind,.float .f64 x.call.cmd.val.num,.string x.call.cmd.val.text,.int .i64 x.conf.full,.int .i64 x.conf.wit,.int .i64 x.conf.learn,.int .i64 x.conf.learnWit] 100):=⟨_,rfl⟩
 have hE:Ext w wb:=by rw[hwb];exact (Mod.refl _ w).alloc _
 have hSb:=h.of_ext hE
 have hnS:¬ S w.heap.size:=fun hs=>by have:=h.2 _ hs;omega
 have hcs:∀ w1,Mod S wb w1→∀ j u,(#[.int .i64 x.term,.int .i64 x.kind,.int .i64 x.call.client,.int .i64 x.call.seq,.int .i64 x.call.cmd.kind,.string x.call.cmd.key,.int .i64 x.call.cmd.old.kind,.float .f64 x.call.cmd.old.num,.string x.call.cmd.old.text,.int .i64 x.call.cmd.val.kind,.float .f64 x.call.cmd.val.num,.string x.call.cmd.val.text,.int .i64 x.conf.full,.int .i64 x.conf.wit,.int .i64 x.conf.learn,.int .i64 x.conf.learnWit]:Array Value)[j]? = some u→w1.cell? ⟨w.heap.size,j,none⟩=some u:=by
  intro w1 hm j u hu
  refine hm.cell ?_ hnS
  rw[hwb,cell_of_row _ _ _ _ _ _ (heap_alloc_new w _)]
  exact hu
 have hsz:wb.heap.size=w.heap.size+1:=by rw[hwb];simp
 obtain ⟨Hwb,Hcs,Hsz⟩:=hJ3 hwb hcs hsz
 have Hr:Hid (∀ n∈[x.term,x.kind],I64 n):=hJ (by simp;exact ⟨hc1,hc2⟩)
 have Hc:=hJ (And.intro hcall hconf)
 have hlI:=yS [x.term,x.kind]
 have Hs:Hid (jF x=((((zcR (zY [x.term,x.kind])).seq (qB (decide (0≤x.kind∧x.kind≤2)))).seq (qB (x.kind==1||yW x.call))).seq (qB (x.kind==2||zcU x.conf))).seq
  (if x.kind=1 then zh2 x.call else if x.kind=2 then zg5 x.conf else zcR [])):=hJ rfl
 obtain ⟨I,hI⟩:∃ I,zY [x.term,x.kind]=I:=⟨_,rfl⟩
 rw[hI] at Hs hlI
 have HI:=hJ hI
 clear hwb hcs hsz hc1 hc2 hcall hconf hI
 simp only[List.length_cons,List.length_nil] at hlI
 go_enter Tryz.func441,Tryz.ntmps441
 go_wp2_with fail
 rw[←Hwb.out]
 have hE1:Ext wb (wb.alloc (.cells #[.int .i64 x.term,.int .i64 x.kind] 3)):=(Mod.refl _ wb).alloc _
 have hsl:=zf9 wb [x.term,x.kind] 3 #[.int .i64 x.term,.int .i64 x.kind] rfl 2 rfl (by omega)
 rw[Hsz.out] at hsl
 refine (ziB _ S _ b bs long _ [x.term,x.kind] (hSb.of_ext hE1) hsl (fun g h1 h2=>by have:=hSb.2 g h2;rw[Hsz.out] at this;omega) Hr.out (by simp) (by omega)).mono ?_
 rintro e w1 ⟨hm1,rfl,S1,hS1,hg1⟩
 rw[HI.out,Bool.or_false] at hS1
 have hm1:Mod S wb w1:=(hE1.mod S).self hm1
 have Hg1:Hid (∀ k,S1 k→S k∨wb.heap.size≤k):=hJ (fun k hk=>(hg1 k hk).imp id (fun h=>Nat.le_trans hE1.size h))
 clear hg1 hE1 hsl
 have x1:=Hcs.out w1 hm1 1 _ rfl
 by_cases hk:0≤x.kind∧x.kind≤2
 case neg=>
  have Ho:Hid (jF x=none):=hJ (by rw[Hs.out];simp[hk,qB,zcR,zcH,xM])
  by_cases h0:0≤x.kind
  ·
   have h2:¬ x.kind≤2:=fun h=>hk ⟨h0,h⟩
   have d2:decide (x.kind≤2)=false:=by simpa using h2
   go_wp2_with fail
   refine (zbW _).mono ?_
   rintro e w' ⟨rfl,rfl⟩
   exact ⟨rfl,xU hE hm1 Ho.out⟩
  go_wp2_with fail
  refine (zbW _).mono ?_
  rintro e w' ⟨rfl,rfl⟩
  exact ⟨rfl,xU hE hm1 Ho.out⟩
 obtain ⟨k0,k2⟩:=hk
 have d0:decide (0≤x.kind)=true:=by simpa using k0
 have d2:decide (x.kind≤2)=true:=by simpa using k2
 have x2:=Hcs.out w1 hm1 2 _ rfl
 have x3:=Hcs.out w1 hm1 3 _ rfl
 have x4:=Hcs.out w1 hm1 4 _ rfl
 have x5:=Hcs.out w1 hm1 5 _ rfl
 have x6:=Hcs.out w1 hm1 6 _ rfl
 have x7:=Hcs.out w1 hm1 7 _ rfl
 have x8:=Hcs.out w1 hm1 8 _ rfl
 have x9:=Hcs.out w1 hm1 9 _ rfl
 have x10:=Hcs.out w1 hm1 10 _ rfl
 have x11:=Hcs.out w1 hm1 11 _ rfl
 have x12:=Hcs.out w1 hm1 12 _ rfl
 have x13:=Hcs.out w1 hm1 13 _ rfl
 have x14:=Hcs.out w1 hm1 14 _ rfl
 have x15:=Hcs.out w1 hm1 15 _ rfl
 go_wp2_with fail
 refine (zaU _).mono ?_
 rintro e w' ⟨rfl,rfl⟩
 have hk3:x.kind=0∨x.kind=1∨x.kind=2:=by omega
 rcases hk3 with hk3|hk3|hk3
 ·
  have e1:(x.kind==1)=false:=by simp[hk3]
  have e2:(x.kind==2)=false:=by simp[hk3]
  have Ho:Hid (jF x=(WO.seq (WO.seq (some (I,false)) (qB (yW x.call))) (qB (zcU x.conf))).seq (some ([],false))):=hJ (by rw[Hs.out];simp[hk3,qB,zcR,xD])
  clear hk3
  go_wp2_with fail
  refine (zhM x.call _).mono ?_
  rintro e w2 ⟨rfl,hE2⟩
  rcases hn:yW x.call with _|_
  ·
   go_wp2_with fail
   refine (zbW _).mono ?_
   rintro e w' ⟨rfl,rfl⟩
   exact ⟨rfl,xU hE (hm1.ext hE2) (by rw[Ho.out,hn];rfl)⟩
  have hm2:=hm1.ext hE2
  have hS2:=hS1.of_ext hE2
  have y1:=Hcs.out w2 hm2 1 _ rfl
  have y12:=Hcs.out w2 hm2 12 _ rfl
  have y13:=Hcs.out w2 hm2 13 _ rfl
  have y14:=Hcs.out w2 hm2 14 _ rfl
  have y15:=Hcs.out w2 hm2 15 _ rfl
  clear x1 x2 x3 x4 x5 x6 x7 x8 x9 x10 x11 x12 x13 x14 x15 hE2
  go_wp2_with fail
  refine (zaU _).mono ?_
  rintro e w' ⟨rfl,rfl⟩
  rcases hc:zcU x.conf with _|_
  ·
   go_wp2_with fail
   refine (zbW _).mono ?_
   rintro e w' ⟨rfl,rfl⟩
   exact ⟨rfl,xU hE hm2 (by rw[Ho.out,hn,hc];rfl)⟩
  go_wp2_with fail
  refine (zaU _).mono ?_
  rintro e w' ⟨rfl,rfl⟩
  go_wp2
  go_end0
  exact jO (d:=I) (l:=false) hE hm2 (by simpa using hS2) Hg1.out (by rw[Ho.out,hn,hc];simp[qB,xD])
 ·
  have e1:(x.kind==1)=true:=by simp[hk3]
  have e2:(x.kind==2)=false:=by simp[hk3]
  have Ho:Hid (jF x=(WO.seq (some (I,false)) (qB (zcU x.conf))).seq (zh2 x.call)):=hJ (by rw[Hs.out];simp[hk3,qB,zcR,xD])
  clear hk3
  go_wp2_with fail
  refine (zaU _).mono ?_
  rintro e w' ⟨rfl,rfl⟩
  rcases hc:zcU x.conf with _|_
  ·
   go_wp2_with fail
   refine (zbW _).mono ?_
   rintro e w' ⟨rfl,rfl⟩
   exact ⟨rfl,xU hE hm1 (by rw[Ho.out,hc];rfl)⟩
  go_wp2_with fail
  refine (zaU _).mono ?_
  rintro e w' ⟨rfl,rfl⟩
  go_wp2_with fail
  refine (wi_call w1 S1 b _ _ x.call hS1 Hc.out.1 (by simp;omega)).mono ?_
  rintro e w3 ⟨hm4,h4⟩
  have hm5:=zb4 hm1 hm4 Hg1.out
  rcases hV:zh2 x.call with _|⟨D2,L2⟩
  · rw[hV] at h4
    subst h4
    exact ⟨rfl,xU hE hm5 (by rw[Ho.out,hV,hc];rfl)⟩
  rw[hV] at h4
  obtain ⟨rfl,S3,hS3,hg3⟩:=h4
  have HV:=hJ hV
  have hg5:=jN Hg1.out hg3 hm1.size
  have Hg5:=hJ hg5
  clear hg5 hg3 hV
  go_wp2
  go_end0
  exact jO (d:=I++D2) (l:=L2) hE hm5 (by simpa using hS3) Hg5.out (by rw[Ho.out,HV.out,hc];simp[qB,xD])
 have e1:(x.kind==1)=false:=by simp[hk3]
 have e2:(x.kind==2)=true:=by simp[hk3]
 have Ho:Hid (jF x=(WO.seq (some (I,false)) (qB (yW x.call))).seq (zg5 x.conf)):=hJ (by rw[Hs.out];simp[hk3,qB,zcR,xD];cases yW x.call <;> simp[xD,xM,zcH])
 clear hk3
 go_wp2_with fail
 refine (zhM x.call _).mono ?_
 rintro e w2 ⟨rfl,hE2⟩
 rcases hn:yW x.call with _|_
 ·
  go_wp2_with fail
  refine (zbW _).mono ?_
  rintro e w' ⟨rfl,rfl⟩
  exact ⟨rfl,xU hE (hm1.ext hE2) (by rw[Ho.out,hn];rfl)⟩
 have hm2:=hm1.ext hE2
 have hS2:=hS1.of_ext hE2
 have y1:=Hcs.out w2 hm2 1 _ rfl
 have y12:=Hcs.out w2 hm2 12 _ rfl
 have y13:=Hcs.out w2 hm2 13 _ rfl
 have y14:=Hcs.out w2 hm2 14 _ rfl
 have y15:=Hcs.out w2 hm2 15 _ rfl
 clear x1 x2 x3 x4 x5 x6 x7 x8 x9 x10 x11 x12 x13 x14 x15 hE2
 go_wp2_with fail
 refine (zaU _).mono ?_
 rintro e w' ⟨rfl,rfl⟩
 go_wp2_with fail
 refine (zaU _).mono ?_
 rintro e w' ⟨rfl,rfl⟩
 go_wp2_with fail
 refine (zoT w2 S1 b _ _ x.conf hS2 Hc.out.2 (by simp;omega)).mono ?_
 rintro e w3 ⟨hm4,rfl,S3,hS3,hg3⟩
 have hm5:=zb4 hm2 hm4 Hg1.out
 have hg5:=jN Hg1.out hg3 hm2.size
 have Hg5:=hJ hg5
 clear hg5 hg3
 go_wp2
 go_end0
 exact jO (d:=I++zY [x.conf.full,x.conf.wit,x.conf.learn,x.conf.learnWit]) (l:=false) hE hm5 (by simpa using hS3) Hg5.out (by rw[Ho.out,hn];simp[qB,zg5,zcR,xD])
end Go.Proofs.YtjbkjhhjofeldaaGreat
namespace Go.Proofs.YtjbkjhhjofeldaaGreat
open Go.RowKit Go.ChangeShapes Go.WideShapes Go.Deep
section
variable {H:Type} {enc:TypeId×Value→H} {P:Program} {w:World} {base:Nat} {spare:Nat→Bool} {held:Bool} {fuel:Nat} {t:TypeId} {cs:List Value} {x:DataW H×List MemPlace}
theorem zmY {k:FloatKind} (ht:P.underlying t=some (.float k)) (h:DataW.trod enc P w base spare held fuel t cs=some x):∃ b,cs=[.float k b]∧(Lit.float k b).wf=true:=by
 cases fuel with
 | zero=>simp[DataW.trod] at h
 | succ n=>
  unfold DataW.trod at h
  rw[ht] at h
  split at h <;> simp_all
theorem zfP (ht:P.underlying t=some (.int .i64)) (h:DataW.trod enc P w base spare held fuel t cs=some x):
  ∃ n:Int,cs=[.int .i64 n]∧-9223372036854775808≤n∧n≤9223372036854775807:=by
 obtain ⟨n,hc,_,hw⟩:=DataW.trod_int ht h
 have:_:=bounds_i64 hw
 exact ⟨n,hc,this⟩
theorem trod_f64 (ht:P.underlying t=some (.float .f64)) (h:DataW.trod enc P w base spare held fuel t cs=some x):∃ b:Nat,cs=[.float .f64 b]∧b<18446744073709551616:=by
 obtain ⟨b,hc,hw⟩:=zmY ht h
 refine ⟨b,hc,?_⟩
 simpa [Lit.wf] using hw
theorem ziC {α:Type} {c:α→List Value} {k:Nat} (hc:∀ a,(c a).length=k):∀ l:List α,(l.flatMap c).length=l.length*k
 | []=>by simp
 | a :: l=>by rw[List.flatMap_cons,List.length_append,hc,ziC hc l,List.length_cons,Nat.succ_mul,Nat.add_comm]
theorem zdI {α:Type} {c:α→List Value} {k:Nat} (hc:∀ a,(c a).length=k):∀ (l:List α) (i j:Nat) (a:α),l[i]? = some a→j<k→(l.flatMap c)[i*k+j]? = (c a)[j]?
 | [],i,j,a,h,_=>by simp at h
 | b :: l,0,j,a,h,hj=>by
  simp at h;subst h
  rw[List.flatMap_cons,Nat.zero_mul,Nat.zero_add,List.getElem?_append_left (by rw[hc];exact hj)]
 | b :: l,i+1,j,a,h,hj=>by
  have e:(i+1)*k+j=k+(i*k+j):=by rw[Nat.succ_mul];omega
  rw[List.flatMap_cons,List.getElem?_append_right (by rw[hc];omega),hc,e,Nat.add_sub_cancel_left]
  exact zdI hc l i j a (by simpa using h) hj
theorem open_sl {α:Type} (c:α→List Value) (ok:α→Prop) (k:Nat) (hck:∀ a,(c a).length=k) (hk:0<k) {e:TypeId} (ht:P.underlying t=some (.slice e)) (hC:P.cellsOf e=k)
  (hel:∀ n cs' y,DataW.trod enc P w base spare held n e cs'=some y→∃ a,cs'=c a∧ok a)
  (h:DataW.trod enc P w base spare held fuel t cs=some x):
  ∃ (v:Value) (l:List α),cs=[v]∧Sl w (fun g=>g<w.heap.size) k v l.length (l.flatMap c)∧∀ a∈l,ok a:=by
 rcases open_slice ht h with ⟨h0,_⟩|⟨a,len,cap,m,n,D,Pl,hcs,hb,hl,hm,hmm,hx,hi⟩
 · exact ⟨_,[],h0,Sl.nil _ _ _,by simp⟩
 rw[hC] at hi
 have hlm:len≤m:=by rw[hmm];split <;> omega
 have hch:∀ i:Fin len,∃ b:α,ok b∧w.cells? base (a.add (i.1*k)) k=some (c b):=by
  intro i
  obtain ⟨cs',h1,h2⟩:=hi i.1 (by omega)
  obtain ⟨b,rfl,hb⟩:=hel _ _ _ h2
  exact ⟨b,hb,h1⟩
 refine ⟨_,List.ofFn fun i:Fin len=>Classical.choose (hch i),hcs,⟨ziC hck _,some a,cap,by rw[List.length_ofFn],by rw[List.length_ofFn];exact hl,hm,fun h0=>?_⟩,?_⟩
 ·
  rw[List.length_ofFn] at h0
  have hcell:∀ i (hi:i<len) j,j<k→w.cell? (a.add (i*k+j))=(c (Classical.choose (hch ⟨i,hi⟩)))[j]?:=by
   intro i hi j hj
   have:=(World.cells?_some (Classical.choose_spec (hch ⟨i,hi⟩)).2).2.2 j hj
   rw[Go.Deep.add_add] at this
   exact this
  obtain ⟨u,hu⟩:∃ u,w.cell? (a.add (0*k+0))=some u:=⟨_,(hcell 0 h0 0 hk).trans (List.getElem?_eq_getElem (by rw[hck];exact hk))⟩
  have ha:a.add (0*k+0)=a:=by simp[Addr.add]
  rw[ha] at hu
  have hspot:a.spot=none:=by
   rcases hs:a.spot with _|q
   · rfl
   exfalso
   simp only[World.cell?,hs,Option.isSome_some,if_true] at hu
   split at hu <;> simp at hu
  obtain ⟨g,off,sp⟩:=a
  simp only at hspot
  subst hspot
  refine ⟨g,off,rfl,World.block_lt_of_cell? w _ hu,fun j u hj=>?_⟩
  have hjl:j<len*k:=by
   have:=(List.getElem?_eq_some_iff.1 hj).1
   rw[ziC hck,List.length_ofFn] at this
   exact this
  have hq:j / k<len:=Nat.div_lt_of_lt_mul (by rw[Nat.mul_comm];exact hjl)
  have hr:j % k<k:=Nat.mod_lt _ hk
  have hjj:j=j / k*k+j % k:=by rw[Nat.mul_comm];exact (Nat.div_add_mod j k).symm
  have h1:=hcell (j / k) hq (j % k) hr
  rw[←hjj,zcQ] at h1
  rw[h1,←hj]
  conv=>rhs;rw[hjj]
  rw[zdI hck _ (j / k) (j % k) (Classical.choose (hch ⟨j / k,hq⟩)) (by rw[List.getElem?_ofFn,dif_pos hq]) hr]
 intro b hb
 rw[List.mem_ofFn] at hb
 obtain ⟨i,rfl⟩:=hb
 exact (Classical.choose_spec (hch i)).1
end
theorem val_of {H:Type} {enc:TypeId×Value→H} {P:Program} {w:World} {base b0:Nat} {spare:Nat→Bool} {held:Bool} {r:Reach} {t e:TypeId} {v:Value} {d:DataW H} {p:List MemPlace} (ht:P.underlying t=some (.slice e))
  (hv:Value.okWide P w r b0 t v) (h:DataW.Trod enc P w base spare held t v d p):∃ fuel,DataW.trod enc P w base spare held fuel t [v]=some (d,p):=by
 obtain ⟨a,len,cap,rfl⟩:=okWide_slice ht hv
 obtain ⟨fuel,hf⟩:=h
 exact ⟨fuel,by simpa [Value.cells] using hf⟩
end Go.Proofs.YtjbkjhhjofeldaaGreat
namespace Go.Proofs.YtjbkjhhjofeldaaGreat
def zoU (w:World) (T:Nat→Prop) (v:Value) (l:List zO):Prop:=Sl w T 16 v l.length (l.flatMap zO.cells)∧∀ x∈l,x.ok
theorem zoU.mod {w w':World} {S T:Nat→Prop} {v:Value} {l:List zO} (h:zoU w T v l) (hm:Mod S w w') (hd:∀ g,T g→¬ S g):zoU w' T v l:=⟨h.1.mod hm hd,h.2⟩
theorem zoU.at {w:World} {T:Nat→Prop} {A:Option Addr} {n c:Nat} {l:List zO} (h:zoU w T (.slice A n c) l) {i:Nat} (hi:i<n):
  ∃ g off x,A=some ⟨g,off,none⟩∧T g∧l[i]? = some x∧x.ok∧∀ j u,x.cells[j]? = some u→w.cell? ⟨g,off+i*16+j,none⟩=some u:=by
 obtain ⟨⟨hl,A',c',e,hn,hc,hx⟩,hf⟩:=h
 injection e with e1 e2 e3;subst e1;subst e2;subst e3
 obtain ⟨g,off,rfl,hT,hcell⟩:=hx (by omega)
 have hget:l[i]? = some l[i]:=List.getElem?_eq_getElem hi
 refine ⟨g,off,l[i],rfl,hT,hget,hf _ (List.getElem_mem hi),fun j u hu=>?_⟩
 have hj:j<16:=(List.getElem?_eq_some_iff.1 hu).1
 rw[Nat.add_assoc]
 exact hcell _ u (by rw[zdI (k:=16) (fun _=>rfl) l i j _ hget hj];exact hu)
end Go.Proofs.YtjbkjhhjofeldaaGreat
set_option maxRecDepth 100000
set_option maxHeartbeats 2000000
namespace Go.Proofs.YtjbkjhhjofeldaaGreat
open Go.RowKit
theorem zoV (a b c:WO):(a.seq b).seq c=a.seq (b.seq c):=by
 rcases a with _|⟨x,l⟩
 · simp[zcH]
 rcases b with _|⟨y,m⟩
 · simp[zcH,xM]
 rcases c with _|⟨z,n⟩
 · simp[xD,xM]
 simp[xD,Bool.or_assoc]
theorem seq_nil (a:WO):a.seq (zcR [])=a:=by
 rcases a with _|⟨x,l⟩
 · rfl
 simp[zcR,xD]
theorem nil_seq (a:WO):(zcR []).seq a=a:=by
 rcases a with _|⟨x,l⟩
 · rfl
 simp[zcR,xD]
theorem zc4 (a b:List zO):xL (a++b)=(xL a).seq (xL b):=by
 induction a with
 | nil=>simp[xL,nil_seq]
 | cons x a ih=>simp only[List.cons_append,xL,ih,zoV]
theorem take_at' {α:Type} {l:List α} {i:Nat} {x:α} (h:l[i]? = some x):l.take (i+1)=l.take i++[x]:=by
 obtain ⟨hi,rfl⟩:=List.getElem?_eq_some_iff.1 h
 exact List.take_succ_eq_append_getElem hi
theorem drop_at' {α:Type} {l:List α} {i:Nat} {x:α} (h:l[i]? = some x):l.drop i=x :: l.drop (i+1):=by
 obtain ⟨hi,rfl⟩:=List.getElem?_eq_some_iff.1 h
 exact List.drop_eq_getElem_cons hi
theorem ziD {l:List zO} {i:Nat} {x:zO} (h:l[i]? = some x):xL (l.take (i+1))=(xL (l.take i)).seq (jF x):=by
 rw[take_at' h,zc4];simp[xL,seq_nil]
theorem zg6 {l:List zO} {i:Nat} {x:zO} (h:l[i]? = some x) (hn:jF x=none):xL l=none:=by
 have e:l=l.take i++(x :: l.drop (i+1)):=by rw[←drop_at' h,List.take_append_drop]
 rw[e,zc4,xL,hn,zcH]
 rcases xL (l.take i) with _|⟨_,_⟩ <;> rfl
theorem zoW (c:zW):∀ d l,zh2 c=some (d,l)→d.length≤60000:=by
 intro d l h
 have:=qC (qC (qC (zaV (yS [c.client,c.seq,c.cmd.kind])) (zc3 _)) (zeY c.cmd.old)) (zeY c.cmd.val) d l h
 simp at this;omega
theorem zhN (x:zO):∀ d l,jF x=some (d,l)→d.length≤70000:=by
 intro d l h
 have:=qC (n:=60000) (qC (qC (qC (zaV (yS [x.term,x.kind])) (zb5 _)) (zb5 _)) (zb5 _)) (fun d l h=>by
  split at h
  · exact zoW _ d l h
  split at h
  · have:=zaV (yS _) d l h;simp at this;omega
  have:=zaV (n:=0) (by simp) d l h;omega) d l h
 simp at this;omega
theorem zfF (es:List zO):∀ d l,xL es=some (d,l)→d.length≤es.length*70000:=by
 induction es with
 | nil=>intro d l h;have:=zaV (n:=0) (by simp) d l h;omega
 | cons x es ih=>
  intro d l h
  have:=qC (zhN x) ih d l h
  simp[Nat.succ_mul] at *;omega
theorem zmZ (w:World) (S T:Nat→Prop) (b:Nat) (bs:List UInt8) (long:Bool) (v:Value) (l:List zO) (h:St w S b bs long) (hv:zoU w T v l) (hd:∀ g,T g→¬ S g) (hl:l.length≤12700) (hb:bs.length+70000*l.length≤896000000):
  Calls Tryz.prog 422 #[.pointer (some ⟨b,0,none⟩),v] w (zn2 w S b bs long (zh3 l)):=by
 obtain ⟨n,hn⟩:∃ n,l.length=n:=⟨_,rfl⟩
 obtain ⟨A,c,rfl⟩:=hv.1.form
 rw[hn] at hv hl hb ⊢
 have Hn:=hJ hn
 clear hn
 have hlI:=zP n
 have Hs:Hid (zh3 l=WO.seq (some (yM n,false)) (xL l)):=hJ (by unfold zh3 zcR;rw[Hn.out])
 go_enter Tryz.func422,Tryz.ntmps422
 go_wp2_with fail
 refine (zmR w S b bs long n h.1 (by omega) (by omega) (by omega)).mono ?_
 rintro e w1 ⟨rfl,hW1,hm1⟩
 obtain ⟨S1,hS1,hg1⟩:=ziA hW1
 have Hg1:=hJ hg1
 clear hg1
 go_wp2
 go_loopw [14] (fun iv wr=>∃ (i:Nat) (S2:Nat→Prop) (d:List UInt8) (l2:Bool),i≤n∧iv=.int .i64 i∧xL (l.take i)=some (d,l2)∧St wr S2 b (bs++(yM n++d)) (long||l2)∧(∀ k,S2 k→S k∨w.heap.size≤k)∧Mod S w wr) (fun iv _=>n-(intOf iv).toNat)
 case atStart=>exact ⟨0,S1,[],false,by omega,rfl,rfl,by simpa using hS1,Hg1.out,hm1⟩
 obtain ⟨i,S2,d,l2,hin,rfl,hd2,hS2,hg2,hm2⟩:=hrel
 have hdl:=zfF _ _ _ hd2
 rw[List.length_take] at hdl
 obtain ⟨Hd2,Hg2⟩:=hJ2 hd2 hg2
 clear hd2 hg2
 have hvr:=hv.mod hm2 hd
 by_cases hi:i<n
 ·
  obtain ⟨g,off,x,rfl,hgT,hx,hxok,hcells⟩:=hvr.at hi
  have x0:=hcells 0 _ rfl
  have x1:=hcells 1 _ rfl
  have x2:=hcells 2 _ rfl
  have x3:=hcells 3 _ rfl
  have x4:=hcells 4 _ rfl
  have x5:=hcells 5 _ rfl
  have x6:=hcells 6 _ rfl
  have x7:=hcells 7 _ rfl
  have x8:=hcells 8 _ rfl
  have x9:=hcells 9 _ rfl
  have x10:=hcells 10 _ rfl
  have x11:=hcells 11 _ rfl
  have x12:=hcells 12 _ rfl
  have x13:=hcells 13 _ rfl
  have x14:=hcells 14 _ rfl
  have x15:=hcells 15 _ rfl
  obtain ⟨Hx,Hok⟩:=hJ2 hx hxok
  clear hcells hx hvr hxok
  rw[Nat.add_zero] at x0
  go_wp2_with fail
  have hEx:Ext wr (wr.alloc (.cells #[.int .i64 x.term,.int .i64 x.kind,.int .i64 x.call.client,.int .i64 x.call.seq,.int .i64 x.call.cmd.kind,.string x.call.cmd.key,.int .i64 x.call.cmd.old.kind,.float .f64 x.call.cmd.old.num,.string x.call.cmd.old.text,.int .i64 x.call.cmd.val.kind,.float .f64 x.call.cmd.val.num,.string x.call.cmd.val.text,.int .i64 x.conf.full,.int .i64 x.conf.wit,.int .i64 x.conf.learn,.int .i64 x.conf.learnWit] 100)):=(Mod.refl _ wr).alloc _
  refine (zl1 _ S2 b _ _ x (hS2.of_ext hEx) Hok.out (by simp;omega)).mono ?_
  rintro e w3 ⟨hm4,h4⟩
  have hm4:Mod S2 wr w3:=(hEx.mod S2).self hm4
  have hm5:=zb4 hm2 hm4 Hg2.out
  have hsx:=hEx.size
  clear x0 x1 x2 x3 x4 x5 x6 x7 x8 x9 x10 x11 x12 x13 x14 x15
  rcases hV:jF x with _|⟨D2,L2⟩
  ·
   rw[hV] at h4
   subst h4
   exact ⟨rfl,xU (Mod.refl _ w) hm5 (by
    have e1:=zg6 Hx.out hV
    rw[Hs.out,e1,xM])⟩
  rw[hV] at h4
  obtain ⟨rfl,S3,hS3,hg3⟩:=h4
  have hg5:∀ k,S3 k→S k∨w.heap.size≤k:=jN Hg2.out (fun k hk=>(hg3 k hk).imp id (fun h=>Nat.le_trans hsx h)) hm2.size
  have Hg5:=hJ hg5
  have Hsn:Hid (xL (l.take (i+1))=some (d++D2,l2||L2)):=hJ (by rw[ziD Hx.out,Hd2.out,hV,xD])
  clear hg5 hg3 hV hEx
  go_wp2
  exact ⟨⟨i+1,S3,d++D2,l2||L2,by omega,by go_num,Hsn.out,by simpa [Bool.or_assoc] using hS3,Hg5.out,hm5⟩,by simp[intOf];omega⟩
 have Ho:Hid (zh3 l=some (yM n++d,l2)):=hJ (by
  have:=Hd2.out
  rw[List.take_of_length_le (by rw[Hn.out];omega)] at this
  rw[Hs.out,this,xD,Bool.false_or])
 go_wp2
 go_end0
 exact jO (d:=yM n++d) (l:=l2) (Mod.refl _ w) hm2 hS2 Hg2.out Ho.out
end Go.Proofs.YtjbkjhhjofeldaaGreat
set_option maxRecDepth 100000
set_option maxHeartbeats 1000000
namespace Go.Proofs.YtjbkjhhjofeldaaGreat
open Go.RowKit
theorem ta_wrong (n:Int) (w:World):(Instr.typeAssert (.iface 394 (.agg #[.int .i64 n])) 20 394 true).run Tryz.prog w=.ok (.tuple #[.agg #[.int .i64 n],.bool true]) w:=by kernel_rfl
attribute [local go_sem] ta_wrong
theorem zoX (n:Int) (p:Nat) (u:Value) (w:World) (hc:w.cell? ⟨p,0,none⟩=some u) (hf:w.frozen? ⟨p,0,none⟩=false):
  Calls Tryz.prog 419 #[.iface 394 (.agg #[.int .i64 n]),(.pointer (some ⟨p,0,none⟩))] w fun e w'=>e=.returned (.tuple #[])∧w'=(w.setCell ⟨p,0,none⟩ (.int .i64 n)).alloc (.cells #[.int .i64 n] 394):=by
 have hlt:p<w.heap.size:=World.block_lt_of_cell? _ _ hc
 go_enter Tryz.func419,Tryz.ntmps419
 go_wp2
 go_end0
 exact ⟨rfl,rfl⟩
theorem wd_idle (pb pe:Addr) (w:World):
  CallsD Tryz.prog 418 #[.pointer (some pb),.pointer (some pe)] .returning w fun e u' w'=>e=.returned (.tuple #[])∧u'=.returning∧w'=w:=by
 refine callsD_of_wpS Tryz.func418 rfl fun c₀ cs hu=>?_
 apply wpS_seq
 apply wpS_region
 simp[wpOpsS,go_sem,recoverD,hu,Tryz.ntmps418,Exit.thenS]
 refine wpS_of_wp ?_
 go_wp2
 cases c₀
 simp_all[bodyPostS,results,Tryz.results418]
theorem zgA (pb pe:Nat) (n:Int) (w:World) (ub ue:Value) (hb:w.cell? ⟨pb,0,none⟩=some ub) (fb:w.frozen? ⟨pb,0,none⟩=false) (he:w.cell? ⟨pe,0,none⟩=some ue) (fe:w.frozen? ⟨pe,0,none⟩=false) (hne:pb≠pe):
  CallsD Tryz.prog 418 #[.pointer (some ⟨pb,0,none⟩),.pointer (some ⟨pe,0,none⟩)] (.panicking [{ v:=.iface 394 (.agg #[.int .i64 n]),recovered:=false }]) w fun e u' w'=>
   e=.returned (.tuple #[])∧u'=.panicking [{ v:=.iface 394 (.agg #[.int .i64 n]),recovered:=true }]∧w'=(((w.setCell ⟨pb,0,none⟩ (.slice none 0 0)).setCell ⟨pe,0,none⟩ (.int .i64 n)).alloc (.cells #[.int .i64 n] 394)):=by
 refine callsD_of_wpS Tryz.func418 rfl fun c₀ cs hu=>?_
 apply wpS_seq
 apply wpS_region
 simp[wpOpsS,go_sem,recoverD,hu,Tryz.ntmps418,Exit.thenS]
 refine wpS_of_wp ?_
 go_wp2_with fail
 refine (zoX n pe ue _ (by rw[World.cell?_of_block (Below.heap_setCell _ _ _ _ (Ne.symm hne))];exact he) (by rw[World.frozen?_of_block (Below.heap_setCell _ _ _ _ (Ne.symm hne))];exact fe)).mono ?_
 rintro e w1 ⟨rfl,rfl⟩
 go_wp2
 cases c₀
 simp_all[bodyPostS,results,Tryz.results418]
def zbI (w:World) (o:WO) (e:Ending) (w':World):Prop:=∃ v,e=.returned (.tuple #[v,.int .i64 (told o).2])∧zaN w w' v (told o).1∧Ext w w'
theorem ziE {w:World} {g h:Nat} {a b:Value} {t u:TypeId} (x y:Value) (hg:w.heap[g]? = some (.cells #[a] t (0,0))) (hh:w.heap[h]? = some (.cells #[b] u (0,0))) (hne:g≠h):
  ((w.setCell ⟨g,0,none⟩ x).setCell ⟨h,0,none⟩ y).heap[g]? = some (.cells #[x] t (0,0))∧((w.setCell ⟨g,0,none⟩ x).setCell ⟨h,0,none⟩ y).heap[h]? = some (.cells #[y] u (0,0)) ∧
  Mod (fun k=>k=g∨k=h) w ((w.setCell ⟨g,0,none⟩ x).setCell ⟨h,0,none⟩ y):=by
 refine ⟨?_,?_,((Mod.refl _ w).setCell (p:=⟨g,0,none⟩) (.inr (.inl rfl)) _).setCell (p:=⟨h,0,none⟩) (.inr (.inr rfl)) _⟩
 · rw[Below.heap_setCell _ _ _ _ (by simpa using hne)]
   simp[World.setCell,Array.getElem?_modify,hg]
 have:(w.setCell ⟨g,0,none⟩ x).heap[h]? = some (.cells #[b] u (0,0)):=by rw[Below.heap_setCell _ _ _ _ (by simpa using Ne.symm hne)];exact hh
 generalize w.setCell ⟨g,0,none⟩ x=w' at this ⊢
 simp[World.setCell,Array.getElem?_modify,this]
theorem zdJ {w:World} {g:Nat} {a:Value} {t:TypeId} (hg:w.heap[g]? = some (.cells #[a] t (0,0))):w.cell? ⟨g,0,none⟩=some a∧w.frozen? ⟨g,0,none⟩=false:=by
 simp[World.cell?,World.frozen?,hg]
theorem zc5 {w w1:World} {u0 u1:Value} (n:Int) (r0:w1.cell? ⟨w.heap.size,0,none⟩=some u0) (r1:w1.cell? ⟨w.heap.size+1,0,none⟩=some u1) (hE:Mod (zD w.heap.size) w w1) (hs:w.heap.size+1<w1.heap.size):
  (((w1.setCell ⟨w.heap.size,0,none⟩ (.slice none 0 0)).setCell ⟨w.heap.size+1,0,none⟩ (.int .i64 n)).alloc (.cells #[.int .i64 n] 394)).cell? ⟨w.heap.size,0,none⟩=some (.slice none 0 0) ∧
  (((w1.setCell ⟨w.heap.size,0,none⟩ (.slice none 0 0)).setCell ⟨w.heap.size+1,0,none⟩ (.int .i64 n)).alloc (.cells #[.int .i64 n] 394)).cell? ⟨w.heap.size+1,0,none⟩=some (.int .i64 n) ∧
  Ext w (((w1.setCell ⟨w.heap.size,0,none⟩ (.slice none 0 0)).setCell ⟨w.heap.size+1,0,none⟩ (.int .i64 n)).alloc (.cells #[.int .i64 n] 394)):=by
 have r1':(w1.setCell ⟨w.heap.size,0,none⟩ (.slice none 0 0)).cell? ⟨w.heap.size+1,0,none⟩=some u1:=by
  rw[World.cell?_setCell_other _ _ _ _ (by simp)];exact r1
 have z0:(w1.setCell ⟨w.heap.size,0,none⟩ (.slice none 0 0)).cell? ⟨w.heap.size,0,none⟩=some (.slice none 0 0):=World.cell?_setCell_same _ _ _ r0
 have z1:((w1.setCell ⟨w.heap.size,0,none⟩ (.slice none 0 0)).setCell ⟨w.heap.size+1,0,none⟩ (.int .i64 n)).cell? ⟨w.heap.size+1,0,none⟩=some (.int .i64 n):=World.cell?_setCell_same _ _ _ r1'
 have hsz:((w1.setCell ⟨w.heap.size,0,none⟩ (.slice none 0 0)).setCell ⟨w.heap.size+1,0,none⟩ (.int .i64 n)).heap.size=w1.heap.size:=by simp[World.setCell]
 refine ⟨?_,?_,Mod.toExt (((hE.setCell (p:=⟨w.heap.size,0,none⟩) (.inl (Nat.le_refl _)) _).setCell (p:=⟨w.heap.size+1,0,none⟩) (.inl (by simp)) _).alloc _)⟩
 · rw[World.cell?_alloc_lt _ _ _ (by rw[hsz];simp;omega),World.cell?_setCell_other _ _ _ _ (by simp)];exact z0
 rw[World.cell?_alloc_lt _ _ _ (by rw[hsz];simp;omega)];exact z1
theorem zgB (f:FuncId) (p:Nat) (w:World) (o:WO) (hcall:∀ args W,(callFunc f args).run Tryz.prog W=.ok (.enter f args) W) (ho:∀ d l,o=some (d,l)→d.length≤900000000)
  (hstep:∀ W b,Ext w W→w.heap.size≤b→St W (fun k=>k=b) b [] false→Calls Tryz.prog f #[.pointer (some ⟨b,0,none⟩),.pointer (some ⟨p,0,none⟩)] W (zn2 W (fun k=>k=b) b [] false o)):
  Calls Tryz.prog 361 #[.func (Fn.func f) #[] #[.pointer (some ⟨p,0,none⟩)]] w (zbI w o):=by
 have hmf:∀ (fn:Fn) (first cap:Array Value) (w:World),(Instr.makeFunc fn first cap).run Tryz.prog w=.ok (.func fn first cap) w:=fun _ _ _ _=>rfl
 obtain ⟨Hstep,Ho⟩:=hJ2 hstep ho
 have Hfail:Hid (∀ n:Int,told o=([],n)→∀ w',Ext w w'→zbI w o (.returned (.tuple #[.slice none 0 0,.int .i64 n])) w'):=hJ (fun n h w' hE=>by
  unfold zbI
  rw[h]
  exact ⟨_,rfl,⟨World.ownsRow_nil _ _ _ _,by simp[Value.ownBlock]⟩,hE⟩)
 clear hstep ho
 go_enter_defers Tryz.func361,Tryz.ntmps361
 go_wp2_with fail
 obtain ⟨W3,hW3⟩:∃ W3,W3=((w.alloc (.cells #[.slice none 0 0] 58)).alloc (.cells #[.int .i64 0] 35)).alloc (.cells #[.slice none 0 0,.bool false] 392):=⟨_,rfl⟩
 have hE:Ext w W3:=by rw[hW3];exact (((Mod.refl _ w).alloc _).alloc _).alloc _
 have hsz:W3.heap.size=w.heap.size+3:=by rw[hW3];simp
 have hS0:St W3 (fun k=>k=w.heap.size+1+1) (w.heap.size+1+1) [] false:=by
  refine ⟨⟨_,392,?_,World.ownsRow_nil _ _ _ _,rfl,by simp[Value.ownBlock]⟩,fun k hk=>by omega⟩
  rw[hW3]
  have:=heap_alloc_new ((w.alloc (.cells #[.slice none 0 0] 58)).alloc (.cells #[.int .i64 0] 35)) (.cells #[.slice none 0 0,.bool false] 392)
  simpa using this
 have b0:W3.heap[w.heap.size]? = some (.cells #[.slice none 0 0] 58 (0,0)):=by
  rw[hW3,Below.heap_alloc _ _ _ (by simp;omega),Below.heap_alloc _ _ _ (by simp)]
  exact heap_alloc_new w _
 have b1:W3.heap[w.heap.size+1]? = some (.cells #[.int .i64 0] 35 (0,0)):=by
  rw[hW3,Below.heap_alloc _ _ _ (by simp)]
  have:=heap_alloc_new (w.alloc (.cells #[.slice none 0 0] 58)) (.cells #[.int .i64 0] 35)
  simpa using this
 rw[←hW3]
 obtain ⟨HW3,Hsz⟩:=hJ2 hW3 hsz
 clear hW3 hsz
 refine (Hstep.out W3 _ hE (by omega) hS0).mono ?_
 rintro e w1 ⟨hm1,h1⟩
 have c0:=hm1.blk b0 (by omega)
 have c1:=hm1.blk b1 (by omega)
 have hs1:=hm1.size
 have hE1:Mod (zD w.heap.size) w w1:=(hE.mod _).trans hm1 (fun k _ h=>by unfold zD;omega)
 have r0:w1.cell? ⟨w.heap.size,0,none⟩=some (.slice none 0 0):=by simp[World.cell?,c0]
 have r1:w1.cell? ⟨w.heap.size+1,0,none⟩=some (.int .i64 0):=by simp[World.cell?,c1]
 have f0:w1.frozen? ⟨w.heap.size,0,none⟩=false:=by simp[World.frozen?,c0]
 have f1:w1.frozen? ⟨w.heap.size+1,0,none⟩=false:=by simp[World.frozen?,c1]
 have HE1:=hJ hE1
 rcases o with _|⟨d,l⟩
 ·
  subst h1
  refine leaves_cons (f:=418) (args:=#[.pointer (some ⟨w.heap.size,0,none⟩),.pointer (some ⟨w.heap.size+1,0,none⟩)]) (by simp) (by simp[go_sem]) ?_
  refine (zgA _ _ 3 _ _ _ r0 f0 r1 f1 (by omega)).mono ?_
  rintro e u' w'' ⟨rfl,rfl,rfl⟩
  obtain ⟨q0,q1,q2⟩:=zc5 (w:=w) 3 r0 r1 hE1 (by have:=Hsz.out;omega)
  have hF:=Hfail.out 3 rfl _ q2
  simp[Leaves,settle,results,Tryz.results361,go_sem,q0,q1]
  exact hF
 obtain ⟨rfl,S1,hS1,hg1⟩:=h1
 have hdl:=Ho.out d l rfl
 have Hg1:=hJ hg1
 clear hg1
 rw[List.nil_append,Bool.false_or] at hS1
 rcases l with _|_
 ·
  go_wp2_with fail
  refine (zkJ _ _ _ _ hS1.1 (by omega)).mono ?_
  rintro e w2 ⟨v2,rfl,hN2,hE2⟩
  have r0:=hE2.cell r0 id
  have r1:=hE2.cell r1 id
  have c0:=hE2.blk c0 id
  have c1:=hE2.blk c1 id
  have f0:w2.frozen? ⟨w.heap.size,0,none⟩=false:=by simp[World.frozen?,c0]
  have f1:w2.frozen? ⟨w.heap.size+1,0,none⟩=false:=by simp[World.frozen?,c1]
  obtain ⟨m,hm⟩:∃ m,d.length=m:=⟨_,rfl⟩
  obtain ⟨A2,k2,rfl⟩:=zC hN2.1
  have Hm:=hJ hm
  rw[hm] at hN2 hdl ⊢
  obtain ⟨HN2,C0,C1⟩:=hJ3 hN2 c0 c1
  have hE12:Mod (zD w.heap.size) w w2:=hE1.ext hE2
  have hs2:=hE2.size
  clear hm hN2 c0 c1
  by_cases hl:16384<m
  ·
   have dl:decide ((16384:Int)<(m:Int))=true:=by simp;omega
   go_wp2
   obtain ⟨d0,d1,dm⟩:=ziE (.slice A2 m k2) (.int .i64 0) C0.out C1.out (by omega)
   obtain ⟨t0,g0⟩:=zdJ d0
   obtain ⟨t1,g1⟩:=zdJ d1
   have hE3:=hE12.trans dm (fun k _ h=>by unfold zD;omega)
   have hs3:=dm.size
   refine leaves_cons (f:=418) (args:=#[.pointer (some ⟨w.heap.size,0,none⟩),.pointer (some ⟨w.heap.size+1,0,none⟩)]) (by simp) (by simp[go_sem]) ?_
   refine (zgA _ _ 2 _ _ _ t0 g0 t1 g1 (by omega)).mono ?_
   rintro e u' w'' ⟨rfl,rfl,rfl⟩
   obtain ⟨q0,q1,q2⟩:=zc5 (w:=w) 2 t0 t1 hE3 (by have:=Hsz.out;omega)
   have hF:=Hfail.out 2 (by simp[told,Hm.out,hl]) _ q2
   simp[Leaves,settle,results,Tryz.results361,go_sem,q0,q1]
   exact hF
  have dl:decide ((16384:Int)<(m:Int))=false:=by simp;omega
  go_wp2
  obtain ⟨d0,d1,dm⟩:=ziE (.slice A2 m k2) (.int .i64 0) C0.out C1.out (by omega)
  obtain ⟨e0,e1,em⟩:=ziE (.slice A2 m k2) (.int .i64 0) d0 d1 (by omega)
  obtain ⟨t0,g0⟩:=zdJ e0
  obtain ⟨t1,g1⟩:=zdJ e1
  have hE3:Mod (zD w.heap.size) w _:=(hE12.trans dm (fun k _ h=>by unfold zD;omega)).trans em (fun k _ h=>by unfold zD;omega)
  refine leaves_cons (f:=418) (args:=#[.pointer (some ⟨w.heap.size,0,none⟩),.pointer (some ⟨w.heap.size+1,0,none⟩)]) (by simp) (by simp[go_sem]) ?_
  refine (wd_idle _ _ _).mono ?_
  rintro e u' w'' ⟨rfl,rfl,rfl⟩
  have htold:told (some (d,false))=(d,0):=by simp[told,Hm.out];omega
  have hF:zbI w (some (d,false)) (.returned (.tuple #[.slice A2 m k2,.int .i64 0])) ((((w2.setCell ⟨w.heap.size,0,none⟩ (.slice A2 m k2)).setCell ⟨w.heap.size+1,0,none⟩ (.int .i64 0)).setCell ⟨w.heap.size,0,none⟩ (.slice A2 m k2)).setCell ⟨w.heap.size+1,0,none⟩ (.int .i64 0)):=by
   unfold zbI
   rw[htold]
   have hb:=HN2.out.2
   refine ⟨_,rfl,⟨?_,fun g hg=>by have:=hb g hg;have:=Hsz.out;omega⟩,Mod.toExt hE3⟩
   exact zN (zN HN2.out.1 dm (fun g hg h=>by have:=hb g hg;have:=Hsz.out;omega)) em (fun g hg h=>by have:=hb g hg;have:=Hsz.out;omega)
  simp[Leaves,settle,results,Tryz.results361,go_sem,t0,t1]
  exact hF
 go_wp2_with fail
 refine (zi9 _ _ _ _ hS1.1).mono ?_
 rintro e w' ⟨rfl,rfl⟩
 obtain ⟨C0,C1⟩:=hJ2 c0 c1
 clear c0 c1
 go_wp2
 obtain ⟨d0,d1,dm⟩:=ziE (.slice none 0 0) (.int .i64 2) C0.out C1.out (by omega)
 obtain ⟨t0,g0⟩:=zdJ d0
 obtain ⟨t1,g1⟩:=zdJ d1
 have hE3:=hE1.trans dm (fun k _ h=>by unfold zD;omega)
 have hs3:=dm.size
 refine leaves_cons (f:=418) (args:=#[.pointer (some ⟨w.heap.size,0,none⟩),.pointer (some ⟨w.heap.size+1,0,none⟩)]) (by simp) (by simp[go_sem]) ?_
 refine (zgA _ _ 2 _ _ _ t0 g0 t1 g1 (by omega)).mono ?_
 rintro e u' w'' ⟨rfl,rfl,rfl⟩
 obtain ⟨q0,q1,q2⟩:=zc5 (w:=w) 2 t0 t1 hE3 (by have:=Hsz.out;omega)
 have hF:=Hfail.out 2 (by simp[told]) _ q2
 simp[Leaves,settle,results,Tryz.results361,go_sem,q0,q1]
 exact hF
end Go.Proofs.YtjbkjhhjofeldaaGreat
