/-
 Contracts of package wire's writer: hard states (wire.Hard). Conditions: as each theorem names them.
-/
import Derived.Test.YtjbkjhhjofeldaaGreatG8
import Derived.Laws.CopyOwn
import Derived.Lib.AppendZerosOnto
import Derived.Lib.Overlaps
import Derived.Test.YtjbkjhhjofeldaaGreatG6
set_option maxRecDepth 100000
set_option maxHeartbeats 2000000
namespace Go.Proofs.YtjbkjhhjofeldaaGreat
set_option linter.unusedSimpArgs false
open Go.RowKit
def xP (w:World) (T:Nat→Prop) (sv lv:Value) (h:zX):Prop:=Byt w T sv h.snap∧zoU w T lv h.log
theorem xP.mod {w w':World} {S T:Nat→Prop} {sv lv:Value} {h:zX} (hh:xP w T sv lv h) (hm:Mod S w w') (hd:∀ g,T g→¬ S g):xP w' T sv lv h:=⟨hh.1.mod hm hd,hh.2.mod hm hd⟩
def zX.ok (h:zX):Prop:=I64 h.term∧I64 h.vote∧I64 h.base∧I64 h.baseTerm∧h.conf.ok
abbrev zX.cells (h:zX) (sv lv:Value):List Value:=[.int .i64 h.term,.int .i64 h.vote,.int .i64 h.base,.int .i64 h.baseTerm,.int .i64 h.conf.full,.int .i64 h.conf.wit,.int .i64 h.conf.learn,.int .i64 h.conf.learnWit,sv,lv]
def zX.w (h:zX):WO:=wHard h.term h.vote h.base h.baseTerm h.conf h.snap h.log
theorem yF:Str Tryz.prog 61 10:=⟨⟨_,Tryz.underlying61⟩,by kernel_rfl⟩
theorem wi_hard (w:World) (S T:Nat→Prop) (b:Nat) (bs:List UInt8) (long:Bool) (h:zX) (sv lv:Value) (hs:St w S b bs long) (hv:xP w T sv lv h) (ho:h.ok) (hd:∀ g,T g→¬ S g) (hT:∀ g,T g→g<w.heap.size) (hb:bs.length+70000*h.log.length≤895000000) (hll:h.log.length≤12700):
  Calls Tryz.prog 363 #[.pointer (some ⟨b,0,none⟩),.agg #[.int .i64 h.term,.int .i64 h.vote,.int .i64 h.base,.int .i64 h.baseTerm,.int .i64 h.conf.full,.int .i64 h.conf.wit,.int .i64 h.conf.learn,.int .i64 h.conf.learnWit,sv,lv]] w (zn2 w S b bs long h.w):=by
 obtain ⟨hsnap,hents⟩:=hv
 obtain ⟨o1,o2,o3,o4,hconf⟩:=ho
 obtain ⟨As,cs,hsv⟩:=hsnap.form
 obtain ⟨Ae,ce,hlv⟩:=hents.1.form
 obtain ⟨wb,hwb⟩:∃ wb,wb=w.alloc (.cells #[.int .i64 h.term,.int .i64 h.vote,.int .i64 h.base,.int .i64 h.baseTerm,.int .i64 h.conf.full,.int .i64 h.conf.wit,.int .i64 h.conf.learn,.int .i64 h.conf.learnWit,sv,lv] 61):=⟨_,rfl⟩
 have hE:Ext w wb:=by rw[hwb];exact (Mod.refl _ w).alloc _
 have hSb:=hs.of_ext hE
 have hnS:¬ S w.heap.size:=fun h1=>by have:=hs.2 _ h1;omega
 have hcs:∀ w1,Mod S wb w1→∀ j u,(#[.int .i64 h.term,.int .i64 h.vote,.int .i64 h.base,.int .i64 h.baseTerm,.int .i64 h.conf.full,.int .i64 h.conf.wit,.int .i64 h.conf.learn,.int .i64 h.conf.learnWit,sv,lv]:Array Value)[j]? = some u→w1.cell? ⟨w.heap.size,j,none⟩=some u:=by
  intro w1 hm j u hu
  refine hm.cell ?_ hnS
  rw[hwb,cell_of_row _ _ _ _ _ _ (heap_alloc_new w _)]
  exact hu
 have hsz:wb.heap.size=w.heap.size+1:=by rw[hwb];simp
 have hdS:∀ S1:Nat→Prop,(∀ k,S1 k→S k∨wb.heap.size≤k)→∀ g,T g→¬ S1 g:=fun S1 hg g hg1 hg2=>by
  rcases hg g hg2 with h|h
  · exact hd g hg1 h
  have:=hT g hg1;omega
 obtain ⟨Hwb,Hcs,Hsz,HdS,Hconf⟩:=hJ5 hwb hcs hsz hdS hconf
 have Hints:Hid (∀ n∈[h.term,h.vote,h.base,h.baseTerm],I64 n):=hJ (by simp;exact ⟨o1,o2,o3,o4⟩)
 obtain ⟨Hsnap,Hents⟩:=hJ2 hsnap hents
 have hlI:=yS [h.term,h.vote,h.base,h.baseTerm]
 have Hs:Hid (h.w=(((zcR (zY [h.term,h.vote,h.base,h.baseTerm])).seq (zg5 h.conf)).seq (zbT h.snap)).seq (zh3 h.log)):=hJ rfl
 obtain ⟨I,hI⟩:∃ I,zY [h.term,h.vote,h.base,h.baseTerm]=I:=⟨_,rfl⟩
 rw[hI] at Hs hlI
 have HI:=hJ hI
 clear hwb hcs hsz hdS hconf hI hsnap hents o1 o2 o3 o4
 simp only[List.length_cons,List.length_nil] at hlI
 obtain ⟨Hsv,Hlv⟩:=hJ2 hsv hlv
 clear hsv hlv
 go_enter Tryz.func363,Tryz.ntmps363
 go_wp2_with fail
 rw[←Hwb.out]
 have hE1:Ext wb (wb.alloc (.cells #[.int .i64 h.term,.int .i64 h.vote,.int .i64 h.base,.int .i64 h.baseTerm] 3)):=(Mod.refl _ wb).alloc _
 have hsl:=zf9 wb [h.term,h.vote,h.base,h.baseTerm] 3 #[.int .i64 h.term,.int .i64 h.vote,.int .i64 h.base,.int .i64 h.baseTerm] rfl 4 rfl (by omega)
 rw[Hsz.out] at hsl
 refine (ziB _ S _ b bs long _ [h.term,h.vote,h.base,h.baseTerm] (hSb.of_ext hE1) hsl (fun g h1 h2=>by have:=hSb.2 g h2;rw[Hsz.out] at this;omega) Hints.out (by simp) (by omega)).mono ?_
 rintro e w3 ⟨hm1,rfl,S3,hS3,hg1⟩
 rw[HI.out,Bool.or_false] at hS3
 have hm3:Mod S wb w3:=(hE1.mod S).self hm1
 have Hg3:Hid (∀ k,S3 k→S k∨wb.heap.size≤k):=hJ (fun k hk=>(hg1 k hk).imp id (fun h=>Nat.le_trans hE1.size h))
 clear hg1 hE1 hsl hm1
 have z4:=Hcs.out w3 hm3 4 _ rfl
 have z5:=Hcs.out w3 hm3 5 _ rfl
 have z6:=Hcs.out w3 hm3 6 _ rfl
 have z7:=Hcs.out w3 hm3 7 _ rfl
 go_wp2_with fail
 refine (zoT w3 S3 b _ _ h.conf hS3 Hconf.out (by simp;omega)).mono ?_
 rintro e w4 ⟨hm4,rfl,S4,hS4,hg4⟩
 have hm4:=zb4 hm3 hm4 Hg3.out
 have Hg4:=hJ (jN Hg3.out hg4 hm3.size)
 have hlc:=yS [h.conf.full,h.conf.wit,h.conf.learn,h.conf.learnWit]
 obtain ⟨C4,hC4⟩:∃ C,zY [h.conf.full,h.conf.wit,h.conf.learn,h.conf.learnWit]=C:=⟨_,rfl⟩
 rw[hC4] at hS4 hlc
 have HC4:Hid (zg5 h.conf=some (C4,false)):=hJ (by unfold zg5 zcR;rw[hC4])
 simp only[List.length_cons,List.length_nil] at hlc
 clear hg4 z4 z5 z6 z7 hC4
 have u8:=Hcs.out w4 hm4 8 _ rfl
 have hmw4:Mod S w w4:=(hE.mod S).self hm4
 have hsn4:=Hsnap.out.mod hmw4 hd
 have hnS4:¬ S4 w.heap.size:=fun h1=>by
  rcases Hg4.out _ h1 with h2|h2
  · exact hnS h2
  rw[Hsz.out] at h2;omega
 go_wp2_with fail
 go_region_held3 (fun W=>W.cell? ⟨w.heap.size,8,none⟩=some sv) (first|go_keep|exact hy)
  ((go_at_call 247
    refine (zmX w4.drew S4 T b _ h.snap _ _ hS4.1 (by simp;omega) hsn4 (HdS.out S4 Hg4.out)).mono ?_
    rintro e w5 ⟨rfl,⟨D,L,hTx,hW5⟩,hm5⟩
    have HT:=hJ hTx
    clear hTx
    have hy:w5.cell? ⟨w.heap.size,8,none⟩=some sv:=hm5.cell u8 hnS4))
 obtain ⟨S5,hS5,hg5⟩:=ziA hW5
 have hS5:St w5 S5 b (bs++((I++C4)++D)) (long||L):=by simpa [Bool.or_assoc] using hS5
 have hDl:=zc3 _ _ _ HT.out
 have hm5:=zb4 hm4.drew hm5 Hg4.out
 have Hg5:=hJ (jN Hg4.out hg5 hm4.size)
 have Hd:Hid (h.w=WO.seq (some ((I++C4)++D,L)) (zh3 h.log)):=hJ (by rw[Hs.out,HC4.out,HT.out];simp[zcR,xD])
 have v9:=Hcs.out w5 hm5 9 _ rfl
 have hmw5:Mod S w w5:=(hE.mod S).self hm5
 have hen5:=Hents.out.mod hmw5 hd
 clear hg5 u8 hsn4
 go_wp2_with fail
 refine (zmZ w5 S5 T b _ _ lv h.log hS5 hen5 (HdS.out S5 Hg5.out) hll (by simp;omega)).mono ?_
 rintro e w6 ⟨hm6,h6⟩
 have hm6:=zb4 hm5 hm6 Hg5.out
 rcases hL:zh3 h.log with _|⟨D6,L6⟩
 ·
  rw[hL] at h6
  subst h6
  exact ⟨rfl,xU hE hm6 (by rw[Hd.out,hL];rfl)⟩
 rw[hL] at h6
 obtain ⟨rfl,S6,hS6,hg6⟩:=h6
 have hF:=jO (o:=h.w) (d:=((I++C4)++D)++D6) (l:=L||L6) hE hm6 (by simpa [Bool.or_assoc] using hS6) (jN Hg5.out hg6 hm5.size) (by rw[Hd.out,hL];rfl)
 have HF:=hJ hF
 clear hF hL hS6 hg6 v9
 go_wp2
 go_end0
 exact HF.out
theorem zoY (h:zX) (hl:h.log.length≤12700):∀ d l,h.w=some (d,l)→d.length≤900000000:=by
 intro d l hh
 have h1:=yS [h.term,h.vote,h.base,h.baseTerm]
 have h2:=yS [h.conf.full,h.conf.wit,h.conf.learn,h.conf.learnWit]
 have:=qC (qC (qC (zaV h1) (zaV h2)) (zc3 h.snap)) (qC (zaV (zP h.log.length)) (zfF h.log)) d l hh
 simp at this
 have:h.log.length*70000≤12700*70000:=Nat.mul_le_mul_right _ hl
 omega
theorem wo_hard1 (W:World) (T:Nat→Prop) (p b:Nat) (h:zX) (sv lv:Value) (hp:W.heap[p]? = some (.cells #[.int .i64 h.term,.int .i64 h.vote,.int .i64 h.base,.int .i64 h.baseTerm,.int .i64 h.conf.full,.int .i64 h.conf.wit,.int .i64 h.conf.learn,.int .i64 h.conf.learnWit,sv,lv] 61 (0,0))) (hv:xP W T sv lv h) (ho:h.ok) (hs:St W (fun k=>k=b) b [] false) (hT:∀ g,T g→g<W.heap.size∧g≠b) (hl:h.log.length≤12700):
  Calls Tryz.prog 362 #[.pointer (some ⟨b,0,none⟩),.pointer (some ⟨p,0,none⟩)] W (zn2 W (fun k=>k=b) b [] false h.w):=by
 have hld:=ld0 (P:=Tryz.prog) (cs:=h.cells sv lv) yF hp
 obtain ⟨HV,HT⟩:=hJ2 hv hT
 clear hp hv hT
 go_enter Tryz.func362,Tryz.ntmps362
 go_wp2_with (refine yT rfl 61 _ rfl _ _ rfl hld ?_)
 clear hld
 refine (wi_hard W (fun k=>k=b) T b [] false h sv lv hs HV.out ho (fun g hg=>(HT.out g hg).2) (fun g hg=>(HT.out g hg).1) (by simp;omega) hl).mono ?_
 rintro e w1 ⟨hm,h1⟩
 rcases hV:h.w with _|⟨D,L⟩
 ·
  rw[hV] at h1
  subst h1
  exact ⟨rfl,xU (Mod.refl _ W) hm hV⟩
 rw[hV] at h1
 obtain ⟨rfl,S1,hS1,hg1⟩:=h1
 obtain ⟨HS1,Hg1,HVV⟩:=hJ3 hS1 hg1 hV
 clear hS1 hg1 hV
 go_wp2
 go_end0
 exact jO (Mod.refl _ W) hm HS1.out Hg1.out HVV.out
theorem wo_hard (w:World) (T:Nat→Prop) (h:zX) (sv lv:Value) (hv:xP w T sv lv h) (ho:h.ok) (hT:∀ g,T g→g<w.heap.size) (hl:h.log.length≤12700):
  Calls Tryz.prog 287 #[.agg #[.int .i64 h.term,.int .i64 h.vote,.int .i64 h.base,.int .i64 h.baseTerm,.int .i64 h.conf.full,.int .i64 h.conf.wit,.int .i64 h.conf.learn,.int .i64 h.conf.learnWit,sv,lv]] w (zbI w h.w):=by
 have hmf:∀ (fn:Fn) (first cap:Array Value) (w:World),(Instr.makeFunc fn first cap).run Tryz.prog w=.ok (.func fn first cap) w:=fun _ _ _ _=>rfl
 obtain ⟨W,hW⟩:∃ W,W=w.alloc (.cells #[.int .i64 h.term,.int .i64 h.vote,.int .i64 h.base,.int .i64 h.baseTerm,.int .i64 h.conf.full,.int .i64 h.conf.wit,.int .i64 h.conf.learn,.int .i64 h.conf.learnWit,sv,lv] 61):=⟨_,rfl⟩
 have hE:Ext w W:=by rw[hW];exact (Mod.refl _ w).alloc _
 have hp:W.heap[w.heap.size]? = some (.cells #[.int .i64 h.term,.int .i64 h.vote,.int .i64 h.base,.int .i64 h.baseTerm,.int .i64 h.conf.full,.int .i64 h.conf.wit,.int .i64 h.conf.learn,.int .i64 h.conf.learnWit,sv,lv] 61 (0,0)):=by rw[hW];exact heap_alloc_new w _
 have hsz:W.heap.size=w.heap.size+1:=by rw[hW];simp
 obtain ⟨HW,HV,HT,Hp,Hsz,Ho⟩:=hJ6 hW hv hT hp hsz ho
 clear hW hv hT hp hsz ho
 go_enter Tryz.func287,Tryz.ntmps287
 go_wp2_with fail
 rw[←HW.out]
 refine (zgB 362 w.heap.size W h.w (fun _ _=>by kernel_rfl) (zoY h hl) (fun W' b hE' hb hS=>?_)).mono ?_
 · exact wo_hard1 W' T w.heap.size b h sv lv (hE'.blk Hp.out id) ((HV.out.mod hE (fun _ _=>id)).mod hE' (fun _ _=>id)) Ho.out hS (fun g hg=>by have:=HT.out g hg;have:=hE'.size;have:=Hsz.out;omega) hl
 rintro e w1 ⟨v,rfl,hN,hE1⟩
 have HN:=hJ hN
 have HE:=hJ (Mod.ext hE hE1)
 clear hN hE1
 go_wp2
 go_ret2
 exact ⟨v,rfl,⟨HN.out.1,fun g hg=>by have:=HN.out.2 g hg;have:=Hsz.out;omega⟩,HE.out⟩
end Go.Proofs.YtjbkjhhjofeldaaGreat
namespace Go.Proofs.YtjbkjhhjofeldaaGreat
open Go.RowKit
def Row (w:World) (g:Nat) (e:TypeId) (cur:List Value):Prop:=w.heap[g]? = some (.cells cur.toArray e (0,0))
theorem Row.mod {w w':World} {S:Nat→Prop} {g:Nat} {e:TypeId} {cur:List Value} (h:Row w g e cur) (hm:Mod S w w') (hS:¬ S g):Row w' g e cur:=hm.blk h hS
theorem Row.lt {w:World} {g:Nat} {e:TypeId} {cur:List Value} (h:Row w g e cur):g<w.heap.size:=(Array.getElem?_eq_some_iff.1 h).1
theorem Row.cell {w:World} {g:Nat} {e:TypeId} {cur:List Value} (h:Row w g e cur) {j:Nat} {v:Value} (hj:cur[j]? = some v):w.cell? ⟨g,j,none⟩=some v:=by
 unfold Row at h;simp[World.cell?,h,hj]
theorem Row.free {w:World} {g:Nat} {e:TypeId} {cur:List Value} (h:Row w g e cur) (j:Nat):w.frozen? ⟨g,j,none⟩=false:=by
 unfold Row at h;simp[World.frozen?,h]
theorem Row.set {w:World} {g:Nat} {e:TypeId} {cur:List Value} (h:Row w g e cur) (cur':List Value):Row (w.setRow g cur'.toArray) g e cur':=setRow_heap w g _ _ e _ h
theorem Mod.setRow {S:Nat→Prop} {a w:World} (h:Mod S a w) {g:Nat} (hg:a.heap.size≤g∨S g) (cs:Array Value):Mod S a (w.setRow g cs):=
 ⟨h.os,h.tape,h.output,by simpa using h.size,fun k hk hn=>(setRow_other w g k cs (fun e=>by
  subst e
  rcases hg with hg|hg
  · omega
  exact hn hg)).trans (h.block k hk hn)⟩
theorem Row.own {w:World} {g cap n:Nat} {e:TypeId} {cur:List Value} {size:Nat} {xs:List Value} (h:Row w g e cur) (hc:cur.length=cap*size) (hn:n≤cap) (hm:cap≤maxLen) (ht:cur.take (n*size)=xs):
  w.ownsRow 0 e size (.slice (some ⟨g,0,none⟩) n cap) n xs:=by
 refine ⟨?_,.inr ⟨g,cap,cur.toArray,rfl,Nat.zero_le _,h,hn,hm,by simpa using hc,by simpa using ht⟩⟩
 rw[←ht,List.length_take]
 exact Nat.min_eq_left (by rw[hc];exact Nat.mul_le_mul_right _ hn)
theorem xJ {w:World} {e:TypeId} {size n:Nat} {v:Value} {xs:List Value} (h:w.ownsRow 0 e size v n xs):
  (v=.slice none 0 0∧n=0)∨∃ g cap cur,v=.slice (some ⟨g,0,none⟩) n cap∧Row w g e cur∧cur.length=cap*size∧n≤cap∧cap≤maxLen∧cur.take (n*size)=xs:=by
 rcases h.2 with h1|⟨g,cap,cur,rfl,_,hg,hn,hm,hs,ht⟩
 · exact .inl h1
 exact .inr ⟨g,cap,cur.toList,rfl,by unfold Row;simpa using hg,by simpa using hs,hn,hm,ht⟩
section
variable {P:Program} (w:World)
theorem zaY (dT sT ty elem:TypeId) (k g o dLen dCap:Nat) (a:Addr) (sLen sCap n:Nat) (e:TypeId) (cur cs:List Value)
  (hu:P.underlying dT=some (.slice elem)) (hs:(P.info? elem).map (·.size)=some k) (hg:Row w g e cur) (hn:Nat.min sLen dLen=n) (hl:cs.length=n*k)
  (hsrc:∀ j v,cs[j]? = some v→w.cell? (a.add j)=some v) (hfit:o+cs.length≤cur.length) (h1:∀ v∈cs,v.oneCell'=true):
  (Builtin.copy_ #[dT,sT] ty #[.slice (some ⟨g,o,none⟩) dLen dCap,.slice (some a) sLen sCap]).run P w=.ok (goInt n) (w.setRow g (splice cur o cs).toArray):=by
 have hf:=run_firstCells_some (P:=P) w k n a sLen sCap cs hl hsrc
 have hst:=run_storeCells_at P g o e cs 0 cur.toArray w hg (by simpa using hfit) h1
 cases hq:P.info? elem with
 | none=>simp[hq] at hs
 | some i=>
  have hi:i.size=k:=by simpa [hq] using hs
  have e1:(cur.toArray.toList.take (o+0)++cs++cur.toArray.toList.drop (o+0+cs.length)).toArray=(splice cur o cs).toArray:=by simp[splice]
  rw[e1] at hst
  simp[Builtin.copy_,run_underlying hu,Builtin.lenOf,sizeOf,typeInfo,hq,hi,hn,hf,hst]
theorem zm0 {α:Type} (L:List α) (o:Nat):splice L o []=L:=by simp[splice]
theorem run_appK (t ty elem:TypeId) (i:TypeInfo) (k g n cap:Nat) (x:Value) (m:Nat) (e:TypeId) (cur news:List Value) (T:Nat→Prop)
  (ht:P.underlying t=some (.slice elem)) (hi:P.info? elem=some i) (hk:i.size=k) (hg:Row w g e cur) (hx:Sl w T k x m news) (hroom:n+m≤cap) (hc:cur.length=cap*k) (h1:∀ v∈news,v.oneCell'=true):
  (Builtin.append_ #[t,t] ty #[.slice (some ⟨g,0,none⟩) n cap,x]).run P w=.ok (.slice (some ⟨g,0,none⟩) (n+m) cap) (w.setRow g (splice cur (n*k) news).toArray):=by
 obtain ⟨hl,A,c,rfl,hmc,hcm,hsrc⟩:=hx
 have hfit:n*k+news.length≤cur.length:=by rw[hl,hc,←Nat.add_mul];exact Nat.mul_le_mul_right _ hroom
 have hst:=run_storeCells_at P g (n*k) e news 0 cur.toArray w hg (by simpa using hfit) h1
 have e1:(cur.toArray.toList.take (n*k+0)++news++cur.toArray.toList.drop (n*k+0+news.length)).toArray=(splice cur (n*k) news).toArray:=by simp[splice]
 rw[e1] at hst
 rcases Nat.eq_zero_or_pos m with h0|h0
 ·
  subst h0
  obtain rfl:news=[]:=List.eq_nil_of_length_eq_zero (by simpa using hl)
  rw[zm0] at hst ⊢
  have hw:w.setRow g cur.toArray=w:=setRow_self w g _ e _ hg
  rw[hw] at hst ⊢
  have hroom':n≤cap:=by omega
  rcases A with _|a
  · simp[Builtin.append_,run_underlying ht,sizeOf,typeInfo,hi,Builtin.lenOf,Builtin.firstCells,hroom',storeCells]
  have hf:=run_firstCells_some (P:=P) w k 0 a 0 c [] (by simp) (by simp)
  simp[Builtin.append_,run_underlying ht,sizeOf,typeInfo,hi,hk,Builtin.lenOf,hf,hroom',storeCells]
 obtain ⟨g',off,rfl,_,hcell⟩:=hsrc h0
 have hf:=run_firstCells_some (P:=P) w k m ⟨g',off,none⟩ m c news hl (fun j u hu=>by rw[zcQ];exact hcell j u hu)
 simp[Builtin.append_,run_underlying ht,sizeOf,typeInfo,hi,hk,Builtin.lenOf,hf,hroom,Addr.add_lit,hst]
theorem zm1 (t elem ty:TypeId) (z:Value) (k g o c:Nat) (e:TypeId) (cur:List Value) (ht:P.underlying t=some (.slice elem)) (hv:(zeroValue elem).run P w=.ok z w) (hz:z.cells.size=k)
  (h1:∀ u∈z.cells.toList,u.oneCell'=true) (hg:Row w g e cur) (hfit:o+k≤cur.length):
  (Builtin.clear_ #[t] ty #[.slice (some ⟨g,o,none⟩) 1 c]).run P w=.ok (.tuple #[]) (w.setRow g (splice cur o z.cells.toList).toArray):=by
 have hzc:(Builtin.zeroCells z.cells 1).toList=z.cells.toList:=by
  apply List.ext_getElem
  · simp[Builtin.zeroCells]
  intro i h1 h2
  have hi:i<z.cells.size:=by simpa using h2
  simp[Builtin.zeroCells,Nat.mod_eq_of_lt hi,getElem!_pos z.cells i hi]
 have hl:z.cells.toList.length=k:=by simpa using hz
 have hst:=run_storeCells_at P g o e z.cells.toList 0 cur.toArray w hg (by simpa [hz] using hfit) h1
 have e1:(cur.toArray.toList.take (o+0)++z.cells.toList++cur.toArray.toList.drop (o+0+z.cells.toList.length)).toArray=(splice cur o z.cells.toList).toArray:=by simp[splice]
 rw[e1] at hst
 simp[Builtin.clear_,run_underlying ht,hv,hzc,hst]
end
theorem zaW {P:Program} (w:World) {ops:Array Oper} {rest:List Oper} {o:Oper} {a:Act} {Q:Exit→Act→World→Prop} (hgd:o.guard=none) (d s:Operand) (t t':TypeId)
  (ho:o.op=.call { callee:=.builtin .copy,args:=#[d,s],argTypes:=#[t,t'] }) (v u:Value) (hd:a.eval d=v) (hs:a.eval s=u) {v':Value} {w':World}
  (hr:(Builtin.copy_ #[t,t'] o.type #[v,u]).run P w=.ok v' w') (h:wpList P ops Q rest (a.put o.dst v') w'):wpList P ops Q (o :: rest) a w:=by
 refine wpList_plain hgd fun K hK=>?_
 unfold Oper.wp
 simp[execOp,ho,resolve,invoke,builtin,hd,hs,hr,Result.andThen]
 exact hK _ _ h
theorem zgC {P:Program} (w:World) {ops:Array Oper} {rest:List Oper} {o:Oper} {a:Act} {Q:Exit→Act→World→Prop} (hgd:o.guard=none) (d:Operand) (t:TypeId)
  (ho:o.op=.call { callee:=.builtin .clear,args:=#[d],argTypes:=#[t] }) (v:Value) (hd:a.eval d=v) {v':Value} {w':World}
  (hr:(Builtin.clear_ #[t] o.type #[v]).run P w=.ok v' w') (h:wpList P ops Q rest (a.put o.dst v') w'):wpList P ops Q (o :: rest) a w:=by
 refine wpList_plain hgd fun K hK=>?_
 unfold Oper.wp
 simp[execOp,ho,resolve,invoke,builtin,hd,hr,Result.andThen]
 exact hK _ _ h
theorem zbP {P:Program} {ops:Array Oper} {o:Oper} {a:Act} {w:World} {K:Act→World→Prop} {Q:Exit→Act→World→Prop} {E:Prop}
  (hg:o.guard=none) (d x:Operand) (dT sT:TypeId) (hop:o.op=Op.call { callee:=Callee.builtin Builtin.copy,args:=#[d,x],argTypes:=#[dT,sT] })
  (v u:Value) (hd:a.eval d=v) (hx:a.eval x=u) {v':Value} {w':World} (hr:(Builtin.copy_ #[dT,sT] o.type #[v,u]).run P w=.ok v' w') (hK:K (a.put o.dst v') w'):
  if Region.wanted o (yielded ops a.tmps)=true then Oper.wp P o a w K Q else E:=by
 have hw:Region.wanted o (yielded ops a.tmps)=true:=by simp[Region.wanted,hg]
 rw[if_pos hw]
 unfold Oper.wp
 simp[execOp,hop,resolve,invoke,builtin,hd,hx,hr,Result.andThen]
 exact hK
theorem zkR {P:Program} {ops:Array Oper} {o:Oper} {a:Act} {w:World} {K:Act→World→Prop} {Q:Exit→Act→World→Prop} {E:Prop}
  (hg:o.guard=none) (d x:Operand) (dT sT:TypeId) (hop:o.op=Op.call { callee:=Callee.builtin Builtin.append,args:=#[d,x],argTypes:=#[dT,sT] })
  (v u:Value) (hd:a.eval d=v) (hx:a.eval x=u) {v':Value} {w':World} (hr:(Builtin.append_ #[dT,sT] o.type #[v,u]).run P w=.ok v' w') (hK:K (a.put o.dst v') w'):
  if Region.wanted o (yielded ops a.tmps)=true then Oper.wp P o a w K Q else E:=by
 have hw:Region.wanted o (yielded ops a.tmps)=true:=by simp[Region.wanted,hg]
 rw[if_pos hw]
 unfold Oper.wp
 simp[execOp,hop,resolve,invoke,builtin,hd,hx,hr,Result.andThen]
 exact hK
theorem zG {w:World} {e t:TypeId} {k n b g:Nat} {v:Value} {xs:List Value} {cs:Array Value} {q:Nat×Nat} (h:w.ownsRow 0 e k v n xs) (hg:v.ownBlock=some g) (hb:w.heap[b]? = some (.cells cs t q)) (ht:e≠t):g≠b:=by
 rintro rfl
 rcases xJ h with ⟨rfl,_⟩|⟨g',cap,cur,rfl,hR,_⟩
 · simp[Value.ownBlock] at hg
 simp[Value.ownBlock] at hg
 subst hg
 unfold Row at hR
 rw[hR] at hb
 injection hb with hb
 injection hb with _ hb
 exact ht hb
end Go.Proofs.YtjbkjhhjofeldaaGreat
namespace Go.Proofs.YtjbkjhhjofeldaaGreat
set_option linter.unusedSimpArgs false
open Go.RowKit
theorem jT {w:World} {e t:TypeId} {k n k' n' g:Nat} {v v':Value} {xs xs':List Value} (h:w.ownsRow 0 e k v n xs) (h':w.ownsRow 0 t k' v' n' xs') (ht:e≠t) (hg:v.ownBlock=some g):v'.ownBlock≠some g:=by
  intro hg'
  rcases xJ h' with ⟨rfl,_⟩|⟨g',cap,cur,rfl,hR,_⟩
  · simp[Value.ownBlock] at hg'
  · simp[Value.ownBlock] at hg'
    subst hg'
    exact zG h hg hR ht rfl
theorem zhO:(Tryz.prog.info? 100).map (fun i=>(i.zero,i.size,i.bytes))=some (some (.agg #[.int .i64 0,.int .i64 0,.int .i64 0,.int .i64 0,.int .i64 0,.string ⟨#[]⟩,.int .i64 0,.float .f64 0,.string ⟨#[]⟩,.int .i64 0,.float .f64 0,.string ⟨#[]⟩,.int .i64 0,.int .i64 0,.int .i64 0,.int .i64 0]),16,152):=by kernel_rfl
theorem zeA (l:List zO):∀ u∈l.flatMap zO.cells,u.oneCell'=true:=by
  intro u hu
  obtain ⟨p,_,hp⟩:=List.mem_flatMap.1 hu
  simp only[zO.cells,List.mem_cons,List.not_mem_nil,or_false] at hp
  rcases hp with rfl|rfl|rfl|rfl|rfl|rfl|rfl|rfl|rfl|rfl|rfl|rfl|rfl|rfl|rfl|rfl <;> rfl
def ziF (w w':World) (v:Value) (l:List zO):Prop:=w'.ownsRow 0 100 16 v l.length (l.flatMap zO.cells)∧(∀ x∈l,x.ok)∧∀ g,v.ownBlock=some g→w.heap.size≤g
theorem zeB {W w1 w2:World} {S:Nat→Prop} {v:Value} {l:List zO} (h:ziF W w1 v l) (hm:Mod S w1 w2) (hd:∀ g,v.ownBlock=some g→¬ S g):ziF W w2 v l:=⟨zN h.1 hm hd,h.2.1,h.2.2⟩
theorem jH {W w0 w1:World} {v:Value} {l:List zO} (h:ziF w0 w1 v l) (hs:W.heap.size≤w0.heap.size):ziF W w1 v l:=⟨h.1,h.2.1,fun g hg=>Nat.le_trans hs (h.2.2 g hg)⟩
theorem newE_nil (W w:World):ziF W w (.slice none 0 0) []:=⟨World.ownsRow_nil _ _ _ _,by simp,by simp[Value.ownBlock]⟩
theorem zeC {W w w':World} {v:Value} {l:List zO} {b:Nat} {t:TypeId} {cs:Array Value} {q:Nat×Nat} (h:ziF W w v l) (hb:w.heap[b]? = some (.cells cs t q)) (hM:Mod (fun k=>k=b) w w') (h1:100≠t):ziF W w' v l:=
  zeB h hM (fun _ hg=>zG h.1 hg hb h1)
theorem ziF.form {w w':World} {v:Value} {l:List zO} (h:ziF w w' v l):∃ A c,v=.slice A l.length c:=zC h.1
theorem newE_app {W w w':World} {v v':Value} {l k:List zO} {n m q:Nat} (h:ziF W w v l) (hk:∀ x∈k,x.ok) (hn:l.length=n) (hm:k.length=m) (ho:w'.ownsRow 0 100 16 v' (n+m) (l.flatMap zO.cells++k.flatMap zO.cells)) (hat:v'.ownBlock=v.ownBlock∨v'.ownBlock=some q) (hs:W.heap.size≤q):ziF W w' v' (l++k):=by
  refine ⟨by rw[List.length_append,List.flatMap_append,hn,hm];exact ho,fun x hx=>?_,fun g hg=>?_⟩
  · rcases List.mem_append.1 hx with hx|hx
    · exact h.2.1 x hx
    · exact hk x hx
  · rcases hat with e|e <;> rw[e] at hg
    · exact h.2.2 g hg
    · injection hg with hg;omega
end Go.Proofs.YtjbkjhhjofeldaaGreat
set_option maxRecDepth 100000
set_option maxHeartbeats 2000000
namespace Go.Proofs.YtjbkjhhjofeldaaGreat
set_option linter.unusedSimpArgs false
open Go.RowKit
attribute [local go_sem high] zl0
theorem l_entry (x:zO) (w:World):Calls Tryz.prog 286 #[.agg #[.int .i64 x.term,.int .i64 x.kind,.int .i64 x.call.client,.int .i64 x.call.seq,.int .i64 x.call.cmd.kind,.string x.call.cmd.key,.int .i64 x.call.cmd.old.kind,.float .f64 x.call.cmd.old.num,.string x.call.cmd.old.text,.int .i64 x.call.cmd.val.kind,.float .f64 x.call.cmd.val.num,.string x.call.cmd.val.text,.int .i64 x.conf.full,.int .i64 x.conf.wit,.int .i64 x.conf.learn,.int .i64 x.conf.learnWit]] w fun e w'=>e=.returned (.bool (jQ x))∧Ext w w':=by
 obtain ⟨wb,hwb⟩:∃ wb,w.alloc (.cells x.cells.toArray 100)=wb:=⟨_,rfl⟩
 have hE:Ext w wb:=by rw[←hwb];exact (Mod.refl _ w).alloc _
 have hcs:∀ w1,Ext wb w1→∀ j u,x.cells[j]? = some u→w1.cell? ⟨w.heap.size,j,none⟩=some u:=by
  intro w1 hm j u hu
  refine hm.cell ?_ id
  rw[←hwb,cell_of_row _ _ _ _ _ _ (heap_alloc_new w _)]
  simpa using hu
 obtain ⟨r,hr⟩:∃ r,jQ x=r:=⟨_,rfl⟩
 rw[hr]
 obtain ⟨Hwb,Hcs,Hr,HE⟩:=hJ4 hwb hcs hr hE
 clear hwb hcs hr hE
 by_cases k0:x.kind=0
 ·
  have e0:(x.kind==0)=true:=by simpa using k0
  have Ho:Hid (r=(yW x.call&&zcU x.conf)):=hJ (by rw[←Hr.out];simp[jQ,k0])
  clear k0
  go_enter Tryz.func286,Tryz.ntmps286
  go_wp2_with fail
  rw[Hwb.out]
  refine (zlV x.call _).mono ?_
  rintro e w1 ⟨rfl,hE1⟩
  have y0:=(Hcs.out w1 hE1) 0 _ rfl
  have y1:=(Hcs.out w1 hE1) 1 _ rfl
  have y2:=(Hcs.out w1 hE1) 2 _ rfl
  have y3:=(Hcs.out w1 hE1) 3 _ rfl
  have y4:=(Hcs.out w1 hE1) 4 _ rfl
  have y5:=(Hcs.out w1 hE1) 5 _ rfl
  have y6:=(Hcs.out w1 hE1) 6 _ rfl
  have y7:=(Hcs.out w1 hE1) 7 _ rfl
  have y8:=(Hcs.out w1 hE1) 8 _ rfl
  have y9:=(Hcs.out w1 hE1) 9 _ rfl
  have y10:=(Hcs.out w1 hE1) 10 _ rfl
  have y11:=(Hcs.out w1 hE1) 11 _ rfl
  have y12:=(Hcs.out w1 hE1) 12 _ rfl
  have y13:=(Hcs.out w1 hE1) 13 _ rfl
  have y14:=(Hcs.out w1 hE1) 14 _ rfl
  have y15:=(Hcs.out w1 hE1) 15 _ rfl
  have HE1:=hJ (HE.out.ext hE1)
  clear hE1
  rcases hn:yW x.call with _|_
  · go_wp2
    go_ret
    exact ⟨by rw[Ho.out,hn];rfl,HE1.out⟩
  rcases hc:zcU x.conf with _|_
  · go_wp2
    go_ret
    exact ⟨by rw[Ho.out,hc,Bool.and_false];rfl,HE1.out⟩
  go_wp2
  go_ret
  exact ⟨by rw[Ho.out,hc,hn];rfl,HE1.out⟩
 have e0:(x.kind==0)=false:=by simpa using k0
 by_cases k1:x.kind=1
 ·
  have e1:(x.kind==1)=true:=by simpa using k1
  have Ho:Hid (r=((yX x.call==0)&&zcU x.conf)):=hJ (by rw[←Hr.out];simp[jQ,k1])
  clear k0 k1
  go_enter Tryz.func286,Tryz.ntmps286
  go_wp2_with fail
  rw[Hwb.out]
  refine (jS x.call _).mono ?_
  rintro e w1 ⟨rfl,hE1⟩
  have y0:=(Hcs.out w1 hE1) 0 _ rfl
  have y1:=(Hcs.out w1 hE1) 1 _ rfl
  have y2:=(Hcs.out w1 hE1) 2 _ rfl
  have y3:=(Hcs.out w1 hE1) 3 _ rfl
  have y4:=(Hcs.out w1 hE1) 4 _ rfl
  have y5:=(Hcs.out w1 hE1) 5 _ rfl
  have y6:=(Hcs.out w1 hE1) 6 _ rfl
  have y7:=(Hcs.out w1 hE1) 7 _ rfl
  have y8:=(Hcs.out w1 hE1) 8 _ rfl
  have y9:=(Hcs.out w1 hE1) 9 _ rfl
  have y10:=(Hcs.out w1 hE1) 10 _ rfl
  have y11:=(Hcs.out w1 hE1) 11 _ rfl
  have y12:=(Hcs.out w1 hE1) 12 _ rfl
  have y13:=(Hcs.out w1 hE1) 13 _ rfl
  have y14:=(Hcs.out w1 hE1) 14 _ rfl
  have y15:=(Hcs.out w1 hE1) 15 _ rfl
  have HE1:=hJ (HE.out.ext hE1)
  clear hE1
  rcases hn:(yX x.call==0) with _|_
  · go_wp2
    go_ret
    exact ⟨by rw[Ho.out,hn];rfl,HE1.out⟩
  rcases hc:zcU x.conf with _|_
  · go_wp2
    go_ret
    exact ⟨by rw[Ho.out,hc,Bool.and_false];rfl,HE1.out⟩
  go_wp2
  go_ret
  exact ⟨by rw[Ho.out,hc,hn];rfl,HE1.out⟩
 have e1:(x.kind==1)=false:=by simpa using k1
 by_cases k2:x.kind=2
 ·
  have e2:(x.kind==2)=true:=by simpa using k2
  have Ho:Hid (r=(yW x.call&&zb2 x.conf)):=hJ (by rw[←Hr.out];simp[jQ,k2])
  clear k0 k1 k2
  go_enter Tryz.func286,Tryz.ntmps286
  go_wp2_with fail
  rw[Hwb.out]
  refine (zlV x.call _).mono ?_
  rintro e w1 ⟨rfl,hE1⟩
  have y0:=(Hcs.out w1 hE1) 0 _ rfl
  have y1:=(Hcs.out w1 hE1) 1 _ rfl
  have y2:=(Hcs.out w1 hE1) 2 _ rfl
  have y3:=(Hcs.out w1 hE1) 3 _ rfl
  have y4:=(Hcs.out w1 hE1) 4 _ rfl
  have y5:=(Hcs.out w1 hE1) 5 _ rfl
  have y6:=(Hcs.out w1 hE1) 6 _ rfl
  have y7:=(Hcs.out w1 hE1) 7 _ rfl
  have y8:=(Hcs.out w1 hE1) 8 _ rfl
  have y9:=(Hcs.out w1 hE1) 9 _ rfl
  have y10:=(Hcs.out w1 hE1) 10 _ rfl
  have y11:=(Hcs.out w1 hE1) 11 _ rfl
  have y12:=(Hcs.out w1 hE1) 12 _ rfl
  have y13:=(Hcs.out w1 hE1) 13 _ rfl
  have y14:=(Hcs.out w1 hE1) 14 _ rfl
  have y15:=(Hcs.out w1 hE1) 15 _ rfl
  have HE1:=hJ (HE.out.ext hE1)
  clear hE1
  rcases hn:yW x.call with _|_
  · go_wp2
    go_ret
    exact ⟨by rw[Ho.out,hn];rfl,HE1.out⟩
  go_wp2_with fail
  refine (zkQ x.conf _).mono ?_
  rintro e w2 ⟨rfl,hE2⟩
  have HE2:=hJ (HE1.out.ext hE2)
  clear hE2
  rcases hc:zb2 x.conf with _|_
  ·
   rw[if_neg (by simp)]
   go_wp2
   go_ret
   exact ⟨by rw[Ho.out,hc,Bool.and_false];rfl,HE2.out⟩
  rw[if_pos rfl]
  go_wp2
  go_ret
  exact ⟨by rw[Ho.out,hc,hn];rfl,HE2.out⟩
 have e2:(x.kind==2)=false:=by simpa using k2
 have Ho:Hid (r=false):=hJ (by rw[←Hr.out];simp[jQ,k0,k1,k2])
 clear k0 k1 k2
 go_enter Tryz.func286,Tryz.ntmps286
 go_wp2
 rw[Hwb.out]
 go_ret
 exact ⟨by rw[Ho.out];rfl,HE.out⟩
end Go.Proofs.YtjbkjhhjofeldaaGreat
