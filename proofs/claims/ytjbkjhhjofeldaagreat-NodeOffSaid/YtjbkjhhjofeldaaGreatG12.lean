/-
 Plain functions: records of a hard state's changes (layer 11): what they make, and that those which lead from one to another do. No program is walked here. Conditions: as each theorem names them.
-/
import Derived.Deep.WholeRow
import Derived.Deep.LoopGhost
import Derived.Laws.BitsAllLaws
import Derived.Test.YtjbkjhhjofeldaaGreatG11
import Derived.Deep.QuietTactic
import Derived.BigQuiet
import Derived.Deep.DeepCutAuto
import Derived.Deep.CutBlock
import Derived.Deep.RegionHeld3
import Derived.StillTailTactics
namespace Go.Proofs.YtjbkjhhjofeldaaGreat
set_option linter.unusedSimpArgs false
theorem zl3 {v:yO} (h:chk v=0):zh6 v=true∧v.text.size≤32:=by
 obtain ⟨k,x,t⟩:=v
 unfold chk at h
 simp only at h
 split at h
 · cases h
 rename_i h1
 split at h
 · cases h
 rename_i h2
 split at h
 · cases h
 rename_i h3
 split at h
 · cases h
 rename_i h4
 have hk:k=0∨k=1∨k=2:=by omega
 have ht:k≠2→t=⟨#[]⟩:=fun hk=>emptyT (by
  rcases he:zZ t with _|_
  · exact absurd (.inl ⟨hk,he⟩) h3
  rfl)
 have hx:k≠1→x=0:=fun hk=>by
  rcases Nat.eq_zero_or_pos x with h|h
  · exact h
  exact absurd (.inr ⟨hk,by omega⟩) h3
 have hc:xS x=x:=by
  unfold xS
  split
  ·
   rename_i hn
   rcases Nat.decEq x zaL with hne|he
   · exact absurd ⟨hn,hne⟩ h4
   exact he.symm
  rfl
 have e0:zZ ⟨#[]⟩=true:=(qF _).2 rfl
 rcases hk with rfl|rfl|rfl
 · rw[ht (by omega),hx (by omega)]
   exact ⟨by unfold zh6;simp[e0],Nat.zero_le _⟩
 · rw[ht (by omega)]
   exact ⟨by unfold zh6;simp[e0,hc],Nat.zero_le _⟩
 rw[hx (by omega)]
 refine ⟨by unfold zh6;simp,?_⟩
 have:¬ 32<t.size:=fun e=>h2 ⟨rfl,e⟩
 simp only
 omega
theorem zgE {c:zW} (h:yW c=true):c=zW.zero:=eqC0 (by rw[←zjB];exact h)
theorem zjS {c:jB} (h:zcU c=true):c=jB.zero:=eqF0 (by rw[←zlP];exact h)
theorem zm4 {c:zW} (h:yX c=0):chk c.cmd.old=0∧chk c.cmd.val=0∧c.cmd.key.size≤8:=by
 unfold yX at h
 split at h
 · cases h
 unfold zcP at h
 split at h
 · cases h
 split at h
 · cases h
 rename_i h2
 split at h
 · cases h
 rename_i h3
 refine ⟨?_,?_,by omega⟩
 ·
  rcases Decidable.em (chk c.cmd.old=0) with h4|h4
  · exact h4
  exact absurd (.inr (.inr (.inl h4))) h3
 rcases Decidable.em (chk c.cmd.val=0) with h4|h4
 · exact h4
 exact absurd (.inr (.inr (.inr h4))) h3
theorem eq00:zbY zW.zero zW.zero=true∧zdR jB.zero jB.zero=true:=by decide +kernel
theorem zc6 {x:zO} (h:jQ x=true) (ho:x.ok):fitE x∧(zfO x).length≤300:=by
 unfold jQ at h
 obtain ⟨t,k,c,f⟩:=x
 simp only at h
 have z0:zW.zero.cmd.key.size=0∧zW.zero.cmd.old.text.size=0∧zW.zero.cmd.val.text.size=0:=⟨rfl,rfl,rfl⟩
 have l1:=zP t
 have l2:=zP k
 split at h
 ·
  rename_i hk
  rw[Bool.and_eq_true] at h
  have h1:=zgE h.1
  have h2:=zjS h.2
  subst h1;subst h2;subst hk
  refine ⟨⟨ho,?_,by simp only;omega,by simp only;omega,by simp only;omega⟩,?_⟩
  · unfold zoG
    rw[eq00.1,eq00.2]
    simp
  unfold zfO zY
  simp
  omega
 split at h
 ·
  rename_i hk
  rw[Bool.and_eq_true,beq_iff_eq] at h
  obtain ⟨p1,p2,p3⟩:=zm4 h.1
  have h2:=zjS h.2
  obtain ⟨q1,q2⟩:=zl3 p1
  obtain ⟨q3,q4⟩:=zl3 p2
  subst h2;subst hk
  refine ⟨⟨ho,?_,by simp only;omega,by simp only;omega,by simp only;omega⟩,?_⟩
  · unfold zoG
    rw[eq00.2,q1,q3]
    simp
  have hv:∀ v:yO,v.text.size≤32→(zi5 v).length≤60:=fun v hv=>by
   unfold zi5 xK qA
   have l3:=zP v.kind
   have l4:=zP ((zbC v.text).length:Int)
   have l5:(zbC v.text).length=v.text.size:=rfl
   have l6:=zcZ 8 (xS v.num)
   split
   · simp only[List.length_append];omega
   split
   · simp only[List.length_append];omega
   simp only[List.length_append,List.length_nil];omega
  have m1:=hv _ q2
  have m2:=hv _ q4
  have l3:=zP c.client
  have l4:=zP c.seq
  have l5:=zP c.cmd.kind
  have l6:=zP ((zbC c.cmd.key).length:Int)
  have l8:=zP (c.cmd.key.size:Int)
  have l7:(zbC c.cmd.key).length=c.cmd.key.size:=rfl
  unfold zfO zY encC zY xK
  simp
  omega
 split at h
 ·
  rename_i hk
  rw[Bool.and_eq_true] at h
  have h1:=zgE h.1
  subst h1;subst hk
  refine ⟨⟨ho,?_,by simp only;omega,by simp only;omega,by simp only;omega⟩,?_⟩
  · unfold zoG
    rw[eq00.1]
    simp
  have l3:=zP f.full
  have l4:=zP f.wit
  have l5:=zP f.learn
  have l6:=zP f.learnWit
  unfold zfO zY encF zY
  simp
  omega
 cases h
theorem zkT {x:zO} (h:jQ x=true) (ho:x.ok):told (jF x)=(zfO x,0):=by
 have h1:=zc6 h ho
 rw[zmS]
 unfold entryP zhF
 rw[h1.1.2.1,if_pos rfl,if_neg (by omega)]
theorem zgF {term:Int}:∀ {l:List zO} {last:Int},zdX term last l=true→∀ x∈l,jQ x=true
 | [],_,_,x,hx=>by simp at hx
 | y :: l,last,h,x,hx=>by
  rw[zdX,Bool.and_eq_true,Bool.and_eq_true] at h
  rcases List.mem_cons.1 hx with rfl|hx
  · exact h.1.2
  exact zgF h.2 x hx
theorem zl4 {term term':Int} (ht:term≤term'):∀ {l:List zO} {last:Int},zdX term last l=true→zdX term' last l=true
 | [],_,_=>rfl
 | y :: l,last,h=>by
  rw[zdX] at h ⊢
  simp only[Bool.and_eq_true,decide_eq_true_eq] at h ⊢
  exact ⟨⟨⟨h.1.1.1,by omega⟩,h.1.2⟩,zl4 ht h.2⟩
def sameB (a b:zO):Bool:=(told (jF a)).1==(told (jF b)).1
def ze0:List zO→List zO→Nat
 | x :: l,y :: m=>if sameB x y then ze0 l m+1 else 0
 | _,_=>0
def recV (h:zX):List UInt8:=2 :: zY [h.term,h.vote]
def recC (n:Int):List UInt8:=3 :: zY [n]
def recE (x:zO):List UInt8:=4 :: zfO x
def ziG (g h:zX):List (List UInt8):=if h.term=g.term∧h.vote=g.vote then [] else [recV h]
def ziH (g h:zX):List (List UInt8):=if ze0 h.log g.log<g.log.length then [recC (h.base+ze0 h.log g.log+1)] else []
def recsP (g h:zX):List (List UInt8):=ziG g h++ziH g h++(h.log.drop (ze0 h.log g.log)).map recE
theorem zo4:∀ l m:List zO,ze0 l m≤l.length∧ze0 l m≤m.length
 | [],_=>by simp[ze0]
 | _ :: _,[]=>by simp[ze0]
 | x :: l,y :: m=>by
  have:=zo4 l m
  rw[ze0]
  split <;> simp <;> omega
theorem Right.i64 {h:zX} (r:Right h):I64 h.term∧I64 h.vote∧I64 h.base∧I64 h.baseTerm:=by
 obtain ⟨r1,r2,r3,r4,r5,r6,r7,r8,r9,r10,r11,r12,r13⟩:=r
 unfold I64
 omega
theorem Right.vote {g:zX} (r:Right g) {t v:Int} (ht:g.term≤t) (h1:t≤1099511627776) (h2 : -1≤v) (h3:v≤6):Right { g with term:=t,vote:=v }:=
 ⟨by have:=r.t0;simp only;omega,h1,h2,h3,r.b0,r.b1,r.bt0,by have:=r.bt1;simp only;omega,r.bb,r.c,r.s,r.bs,zl4 ht r.r⟩
structure zU where
 room:Int
 file:List UInt8
 synced:Nat
 off:Bool
 trip:Nat
 keep:Int
def zU.ok (d:zU):Prop:=0≤d.room∧d.room≤65536∧d.synced≤d.file.length∧(d.file.length:Int)≤d.room∧d.trip<9223372036854775808∧-9223372036854775808≤d.keep∧d.keep≤9223372036854775807
def zU.left (d:zU) (k:Int):Nat:=d.synced+(max (min k ((d.file.length:Int)-d.synced)) 0).toNat
def zU.crash (d:zU) (k:Int):zU:=if d.off then { d with trip:=0 } else { d with trip:=0,off:=true,file:=d.file.take (d.left k),synced:=d.left k }
def zU.count (d:zU):zU×Bool:=if d.trip=0 then (d,false) else ({ d with trip:=d.trip-1 },d.trip==1)
def zU.append (d:zU) (b:List UInt8):zU×Int:=
 if d.off then (d,4) else if d.room-d.file.length<b.length then (d,5) else
 let e:=({ d with file:=d.file++b }:zU).count
 if e.2 then (e.1.crash d.keep,4) else (e.1,0)
def zU.sync (d:zU):zU×Int:=
 if d.off then (d,4) else
 if d.count.2 then (d.count.1.crash d.keep,4) else ({ d.count.1 with synced:=d.file.length },0)
def zU.replace (d:zU) (b:List UInt8):zU×Int:=
 if d.off then (d,4) else if d.room<b.length then (d,5) else
 if d.count.2 then (d.count.1.crash d.keep,4) else ({ d.count.1 with file:=b,synced:=b.length },0)
def zU.new (room:Int):zU:=⟨room,[],0,false,0,0⟩
theorem zo5 (d:zU) (k:Int) (h:d.synced≤d.file.length):d.synced≤d.left k∧d.left k≤d.file.length:=by unfold zU.left;omega
theorem zU.crash_ok {d:zU} (h:d.ok) (k:Int):(d.crash k).ok:=by
 obtain ⟨h1,h2,h3,h4,h5,h6,h7⟩:=h
 unfold zU.crash
 have:=zo5 d k h3
 split
 · exact ⟨h1,h2,h3,h4,by simp,h6,h7⟩
 refine ⟨h1,h2,?_,?_,by simp,h6,h7⟩
 · simp only[List.length_take];omega
 simp only[List.length_take];omega
theorem zU.count_ok {d:zU} (h:d.ok):d.count.1.ok:=by
 unfold zU.count
 split
 · exact h
 obtain ⟨h1,h2,h3,h4,h5,h6,h7⟩:=h
 exact ⟨h1,h2,h3,h4,by simp only;omega,h6,h7⟩
theorem zU.sync_ok {d:zU} (h:d.ok):d.sync.1.ok:=by
 unfold zU.sync
 split
 · exact h
 split
 · exact zU.crash_ok (zU.count_ok h) _
 have hc:=zU.count_ok h
 obtain ⟨h1,h2,h3,h4,h5,h6,h7⟩:=hc
 have hf:d.count.1.file=d.file:=by unfold zU.count;split <;> rfl
 exact ⟨h1,h2,by simp only[hf];omega,h4,h5,h6,h7⟩
theorem zU.replace_ok {d:zU} (h:d.ok) (b:List UInt8):(d.replace b).1.ok:=by
 unfold zU.replace
 split
 · exact h
 split
 · exact h
 rename_i h8 h9
 have hc:=zU.count_ok h
 have hr:d.count.1.room=d.room:=by unfold zU.count;split <;> rfl
 split
 · exact zU.crash_ok hc _
 obtain ⟨h1,h2,h3,h4,h5,h6,h7⟩:=hc
 exact ⟨h1,h2,Nat.le_refl _,by simp only[hr];omega,h5,h6,h7⟩
def zm5 (g h:zX):Bool:=h.base==g.base&&h.baseTerm==g.baseTerm&&zdR h.conf g.conf&&h.snap==g.snap
def zc7 (D:zU) (h:zX):zU×Int:=if 16384≤h.enc.length then (D,2) else D.replace (yP (1 :: h.enc))
def zfJ (g h:zX):List UInt8:=(recsP g h).flatMap yP
def zbJ (D:zU) (g h:zX):zU×Int:=
 if zm5 g h=false then zc7 D h else if (zfJ g h).length=0 then (D,0) else
 if (D.append (zfJ g h)).2=0 then (D.append (zfJ g h)).1.sync else if (D.append (zfJ g h)).2=5 then zc7 (D.append (zfJ g h)).1 h else D.append (zfJ g h)
def zb6 (D:zU) (g h:zX):zU×zX×Int:=
 if D.off then (D,g,4) else if xX h=false∨h.term<g.term∨h.base<g.base then (D,g,6) else
 ((zbJ D g h).1,if (zbJ D g h).2=0 then h else g,(zbJ D g h).2)
set_option maxRecDepth 100000
set_option maxHeartbeats 1000000
open Go.RowKit
def zd0 (i j:Nat):Value:=.int .u32 (if j<i then (tabE j:Int) else 0)
def zaK (i:Nat):Array Value:=((List.range 256).map (zd0 i)).toArray
theorem zm6:zaK 0=Array.replicate 256 (.int .u32 0):=by
 have:zd0 0=fun _=>.int .u32 0:=by funext j;simp[zd0]
 unfold zaK
 rw[this]
 apply Array.ext_getElem?
 intro j
 simp[Array.getElem?_replicate]
 by_cases h:j<256 <;> simp[h]
theorem jC (i:Nat):(zaK i).size=256:=by simp[zaK]
theorem zc8 (i j:Nat) (h:j<256):(zaK i)[j]? = some (zd0 i j):=by simp[zaK,h]
theorem zo6 (i:Nat) (h:i<256):(zaK i).setIfInBounds i (.int .u32 (tabE i:Int))=zaK (i+1):=by
 apply Array.ext_getElem?
 intro j
 rw[Array.getElem?_setIfInBounds]
 by_cases hj:j<256
 ·
  rw[zc8 _ _ hj,zc8 _ _ hj]
  by_cases he:i=j
  · subst he
    rw[if_pos rfl,jC,if_pos h]
    simp[zd0]
  rw[if_neg he]
  unfold zd0
  have:(j<i)=(j<i+1):=by rw[eq_iff_iff];omega
  simp only[this]
 have h1:(zaK i)[j]? = none:=by simp[zaK];omega
 have h2:(zaK (i+1))[j]? = none:=by simp[zaK];omega
 rw[h1,h2,if_neg (by omega)]
theorem zjT (i:Nat):(zaK i).all (·.oneCell')=true:=by
 rw[Array.all_eq_true]
 intro j hj
 have:=zc8 i j (by rw[jC] at hj;exact hj)
 rw[Array.getElem?_eq_getElem hj] at this
 rw[Option.some.injEq] at this
 rw[this]
 rfl
theorem zfQ:(Tryz.prog.info? 398).map (fun i=>(i.zero,i.size))=some (some (.agg (Array.replicate 256 (.int .u32 0))),256):=by kernel_rfl
theorem fr_table (w:World):Calls Tryz.prog 424 #[] w fun e w'=>e=.returned (.agg (zaK 256))∧Ext w w':=by
 have hz:=(zero_of_info zfQ).1
 have hs:=(zero_of_info zfQ).2
 have Hs:=hJ hs
 clear hs
 go_enter Tryz.func424,Tryz.ntmps424
 go_wp2
 rw[←zm6]
 go_loopw [5] (fun iv wr=>∃ i:Nat,i≤256∧iv=.int .i64 i∧wr=(w.alloc (.cells (zaK 0) 398)).alloc (.cells (zaK i) 398)) (fun iv _=>256-(intOf iv).toNat)
 case atStart=>exact ⟨0,by omega,rfl,rfl⟩
 obtain ⟨i,hi,rfl,rfl⟩:=hrel
 by_cases h:i<256
 ·
  have hsz:=jC i
  have hget:=zc8 i i h
  have Hset:=hJ (zo6 i h)
  have hi0:(0:Int)≤(i:Int):=by omega
  have hi1:(i:Int)<256:=by omega
  go_wp2
  go_loopw [3,10] (fun sv kv wr=>∃ k s:Nat,k≤8∧kv=.int .i64 k∧sv=.int .u32 (s:Int)∧s<4294967296∧tabN (8-k) s=tabE i∧wr=(w.alloc (.cells (zaK 0) 398)).alloc (.cells (zaK i) 398)) (fun _ kv _=>8-(intOf kv).toNat)
  case atStart=>exact ⟨0,i,by omega,rfl,rfl,by omega,rfl,rfl⟩
  obtain ⟨k,s,hk,rfl,rfl,hs,ht,rfl⟩:=hrel
  have Ht:=hJ ht
  clear ht
  by_cases hk8:k<8
  ·
   have Hst:Hid (tabN (8-(k+1)) (zc0 s)=tabE i):=hJ (by have:=Ht.out;rw[show 8-k=(8-(k+1))+1 by omega,tabN] at this;exact this)
   have Hx:=hJ (u32_xor_nat (s / 2) 3988292384 (by omega) (by omega))
   have Hsl:=hJ (zhD hs)
   rcases Nat.mod_two_eq_zero_or_one s with hp|hp
   ·
    have hb:bits .and .u32 (s:Int) 1=0:=by
     have:=u32_and_nat s 1 (by omega) (by omega)
     rw[Nat.and_one_is_mod,hp] at this
     exact this
    have e:zc0 s=s / 2:=by unfold zc0;rw[if_neg (by omega)]
    rw[e] at Hst Hsl
    clear hp e
    go_wp2
    exact ⟨⟨k+1,s / 2,by omega,by go_num,by go_num,Hsl.out,Hst.out,trivial⟩,by simp[intOf];omega⟩
   have hb:bits .and .u32 (s:Int) 1=1:=by
    have:=u32_and_nat s 1 (by omega) (by omega)
    rw[Nat.and_one_is_mod,hp] at this
    exact this
   have e:zc0 s=s / 2 ^^^ 3988292384:=by unfold zc0;rw[if_pos hp]
   rw[e] at Hst Hsl
   clear hp e
   go_wp2
   refine ⟨⟨k+1,_,by omega,by go_num,?_,Hsl.out,Hst.out,trivial⟩,by simp[intOf];omega⟩
   have hx:=Hx.out
   rw[Int.natCast_ediv] at hx
   rw[show ((3988292384:Nat):Int)=3988292384 from rfl,show ((2:Nat):Int)=2 from rfl] at hx
   rw[hx]
  have hs':s=tabE i:=by have:=Ht.out;rw[show 8-k=0 by omega] at this;exact this
  subst hs'
  go_wp2
  exact ⟨⟨i+1,by omega,by go_num,by rw[Hset.out]⟩,by simp[intOf];omega⟩
 obtain rfl:i=256:=by omega
 have hiz:¬ ((256:Nat):Int)<256:=by omega
 obtain ⟨w2,hw2⟩:∃ w2,(w.alloc (.cells (zaK 0) 398)).alloc (.cells (zaK 256) 398)=w2:=⟨_,rfl⟩
 have hg0:w2.heap[w.heap.size]? = some (.cells (zaK 0) 398 (0,0)):=by rw[←hw2];exact heap_alloc2_old w _ _
 have hg1:w2.heap[w.heap.size+1]? = some (.cells (zaK 256) 398 (0,0)):=by rw[←hw2];exact heap_alloc2_new w _ _
 have hE:Ext w w2:=by rw[←hw2];exact ((Mod.refl _ w).alloc _).alloc _
 rw[hw2]
 obtain ⟨Hg0,Hg1,HE⟩:=hJ3 hg0 hg1 hE
 clear hw2 hg0 hg1 hE hi
 go_wp2_with (first
  | refine wpList_load_row rfl 398 _ rfl (w.heap.size+1) rfl 398 (zaK 256) (0,0) _ Hg1.out Tryz.underlying398 rfl (by rw[jC];exact Hs.out) ?_
  | refine wpList_store_row rfl 398 _ _ rfl w.heap.size (zaK 256) rfl rfl 398 (zaK 0) Hg0.out (by rw[jC];exact Hs.out) (by rw[jC,jC]) (zjT 256) ?_)
 refine bodyPost_ret (v:=.agg (zaK 256)) (results_cell_row rfl _ _ _ _ _ (0,0) _ rfl (setRow_heap w2 _ _ _ _ _ Hg0.out) Tryz.underlying398 rfl (by rw[jC];exact Hs.out)) rfl ⟨rfl,Mod.setRow HE.out (.inl (Nat.le_refl _)) _⟩
theorem cell_u32 (s:Nat) (c:UInt8):bits .xor .u8 ((s:Int) % 256) (c.toNat:Int)=(((s % 256) ^^^ c.toNat:Nat):Int):=by
 have h:=u8_xor_nat (s % 256) c.toNat (by omega) c.toNat_lt
 rw[Int.natCast_emod] at h
 exact h
theorem zo7 (w:World) (T:Nat→Prop) (s:Nat) (hs:s<4294967296) (A:Option Addr) (n c:Nat) (l:List UInt8) (h:Byt w T (.slice A n c) l) (hn:l.length=n) (hnl:n≤1000000):
  Calls Tryz.prog 365 #[.int .u32 (s:Int),.slice A n c] w fun e w'=>e=.returned (.int .u32 (zbV s l:Int))∧Ext w w':=by
 have Hs:=hJ (zero_of_info zfQ).2
 have Hz:=hJ (zero_of_info zfQ).1
 have h:Sl w T 1 (.slice A n c) n (l.map B):=by unfold Byt at h;rw[hn] at h;exact h
 have Hn:=hJ hn
 clear hn
 go_enter Tryz.func365,Tryz.ntmps365
 go_wp2_with fail
 refine (fr_table w).mono ?_
 rintro e w1 ⟨rfl,hE⟩
 have h1:=h.ext hE
 have HE:=hJ hE
 clear hE h
 have hz:=Hz.out
 obtain ⟨w2,hw2⟩:∃ w2,w1.alloc (.cells (zaK 256) 398)=w2:=⟨_,rfl⟩
 have hc2:∀ j,j<256→w2.cell? ⟨w1.heap.size,j,none⟩=some (.int .u32 (tabE j:Int)):=fun j hj=>by
  rw[←hw2,cell_of_row _ _ _ _ _ _ (heap_alloc_new w1 _),zc8 256 j hj]
  unfold zd0
  rw[if_pos hj]
 have hE2:Ext w1 w2:=by rw[←hw2];exact (Mod.refl _ w1).alloc _
 have h2:=h1.ext hE2
 have HE2:=hJ (HE.out.ext hE2)
 obtain ⟨Hc2,Hw2⟩:=hJ2 hc2 hw2
 clear hE2 hc2 h1 HE hw2
 go_wp2_with (refine wpList_store_row rfl 398 _ _ rfl w1.heap.size (zaK 256) rfl rfl 398 (Array.replicate 256 (.int .u32 0)) (heap_alloc_new w1 _) (by rw[jC];exact Hs.out) (by rw[jC,Array.size_replicate]) (zjT 256) ?_;rw[World.setRow_alloc_new,Hw2.out])
 clear hz
 go_loopw [0,11] (fun sv iv wr=>∃ i x:Nat,i≤n∧iv=.int .i64 i∧sv=.int .u32 (x:Int)∧x<4294967296∧x=zbV s (l.take i)∧wr=w2) (fun _ iv _=>n-(intOf iv).toNat)
 case atStart=>exact ⟨0,s,by omega,rfl,rfl,hs,rfl,rfl⟩
 obtain ⟨i,x,hi,rfl,rfl,hx,hxe,rfl⟩:=hrel
 have Hxe:=hJ hxe
 clear hxe
 by_cases h:i<n
 ·
  obtain ⟨g,off,y,hv,hy,c0⟩:=cellB h2 (i:=i) h
  subst hv
  have hi0:(0:Int)≤(i:Int):=by omega
  have hi1:(i:Int)<(n:Int):=by omega
  have hxl:(x % 256) ^^^ y.toNat<256:=Nat.xor_lt_two_pow (n:=8) (by omega) y.toNat_lt
  have hcx:=cell_u32 x y
  have hcell:=Hc2.out _ hxl
  have ht:tabE ((x % 256) ^^^ y.toNat)<4294967296:=zkL 8 _ (by omega)
  have hxx:=u32_xor_nat (tabE ((x % 256) ^^^ y.toNat)) (x / 256) ht (by omega)
  obtain ⟨j,hj⟩:∃ j,(x % 256) ^^^ y.toNat=j:=⟨_,rfl⟩
  rw[hj] at hcx hxl hcell hxx ht
  rw[Int.natCast_ediv] at hxx
  have Hst:=hJ (zhE (s:=x) y (by omega))
  have Hse:Hid (zcE x y=zbV s (l.take (i+1))):=hJ (by
   show _=(l.take (i+1)).foldl zcE s
   rw[List.take_add_one,hy,List.foldl_append]
   show zcE x y=zcE (zbV s (l.take i)) y
   rw[←Hxe.out])
  have Hsx:Hid (tabE j ^^^ x / 256=zcE x y):=hJ (by rw[←hj];rfl)
  clear hy h2
  go_wp2
  refine ⟨⟨i+1,zcE x y,by omega,by go_num,?_,Hst.out,Hse.out,trivial⟩,by simp[intOf];omega⟩
  have e:=Hsx.out
  rw[←e,←hxx]
  rfl
 obtain rfl:i=n:=by omega
 have hf:x=zbV s l:=by rw[Hxe.out,←Hn.out,List.take_length]
 go_wp2
 go_ret
 exact ⟨by first|rfl|(show Ending.returned (.int .u32 (x:Int))=_;rw[hf]),HE2.out⟩
theorem byt_new (w:World) (l:List UInt8) (cs:Array Value) (n:Nat) (hl:l.length=n) (hn:n≤maxLen) (hc:cs=(l.map B).toArray):Byt (w.alloc (.cells cs 5)) (fun g=>g=w.heap.size) (.slice (some ⟨w.heap.size,0,none⟩) n n) l:=by
 subst hl;subst hc
 refine ⟨by simp,_,_,rfl,Nat.le_refl _,hn,fun _=>⟨_,0,rfl,rfl,fun j u hu=>?_⟩⟩
 rw[cell_of_row _ _ _ _ _ _ (heap_alloc_new w _)]
 simpa using hu
theorem hib4 (n:Nat):hib 4 n=[UInt8.ofNat (n / 16777216 % 256),UInt8.ofNat (n / 65536 % 256),UInt8.ofNat (n / 256 % 256),UInt8.ofNat (n % 256)]:=by
 simp[hib]
theorem B_nat (x:Nat):B (UInt8.ofNat (x % 256))=.int .u8 ((x % 256:Nat):Int):=by
 unfold B
 rw[UInt8.toNat_ofNat']
 simp
theorem fr_put (w0 w:World) (A:Option Addr) (m c:Nat) (xs:List UInt8) (n:Nat) (hn:n<4294967296) (hN:zaN w0 w (.slice A m c) xs) (hE:Ext w0 w) (hm:xs.length=m) (hl:m≤100000):
  Calls Tryz.prog 423 #[.slice A m c,.int .u32 (n:Int)] w fun e w'=>∃ A' c',e=.returned (.slice A' (m+4) c')∧zaN w0 w' (.slice A' (m+4) c') (xs++hib 4 n)∧Ext w0 w':=by
 obtain ⟨w1,hw1⟩:∃ w1,w.alloc (.cells #[.int .u8 ((n:Int) / 16777216),.int .u8 ((n:Int) / 65536 % 256),.int .u8 ((n:Int) / 256 % 256),.int .u8 ((n:Int) % 256)] 5)=w1:=⟨_,rfl⟩
 have hE1:Ext w w1:=by rw[←hw1];exact (Mod.refl _ w).alloc _
 have hb:Byt w1 (fun g=>g=w.heap.size) (.slice (some ⟨w.heap.size,0,none⟩) 4 4) (hib 4 n):=by
  rw[←hw1]
  refine byt_new w _ _ 4 (zcZ 4 n) (by decide) ?_
  rw[hib4]
  simp only[List.map_cons,List.map_nil,B_nat,Int.natCast_emod,Int.natCast_ediv]
  rw[Int.emod_eq_of_lt (a:=((n:Int) / ((16777216:Nat):Int))) (by omega) (by omega)]
  rfl
 have HN:=hJ (hN.ext hE1)
 have HE:=hJ (Mod.ext hE hE1)
 obtain ⟨Hb,Hw,Hm⟩:=hJ3 hb hw1 hm
 have Hl:=hJ (zcZ 4 n)
 clear hN hE hm hE1 hb hw1
 go_enter Tryz.func423,Tryz.ntmps423
 go_wp2_with (at_builtin;rw[Hw.out];refine jI rfl _ _ rfl (.slice A m c) xs w0 rfl HN.out HE.out _ _ (hib 4 n) rfl Hb.out (by rw[Hm.out,Hl.out];omega) ?_)
 rintro A' n' c' w2 hn' hN2 hE2 _ _
 rw[Hm.out,Hl.out] at hn'
 subst hn'
 go_wp2
 go_ret
 exact ⟨_,_,rfl,hN2,hE2⟩
theorem xor_all (y:Nat) (h:y<4294967296):4294967295 ^^^ y=4294967295-y:=by
 apply Nat.eq_of_testBit_eq
 intro i
 rw[Nat.testBit_xor,show 4294967295-y=2 ^ 32-(y+1) by omega,Nat.testBit_two_pow_sub_succ (by omega),show 4294967295=2 ^ 32-1 by omega,Nat.testBit_two_pow_sub_one]
 rcases hi:decide (i<32) with _|_
 ·
  have:y.testBit i=false:=Nat.testBit_lt_two_pow (by
   have h1:32≤i:=by simpa using hi
   have:=Nat.pow_le_pow_right (n:=2) (by omega) h1
   omega)
  simp[this]
 cases y.testBit i <;> rfl
theorem fr_sum (w:World) (T U:Nat→Prop) (A1 A2:Option Addr) (n1 c1 n2 c2:Nat) (a p:List UInt8) (ha:Byt w T (.slice A1 n1 c1) a) (hp:Byt w U (.slice A2 n2 c2) p) (hn1:a.length=n1) (hn2:p.length=n2) (h1:n1≤1000000) (h2:n2≤1000000):
  Calls Tryz.prog 290 #[.slice A1 n1 c1,.slice A2 n2 c2] w fun e w'=>e=.returned (.int .u32 (zkK a p:Int))∧Ext w w':=by
 go_enter Tryz.func290,Tryz.ntmps290
 go_wp2_with fail
 refine (zo7 w T 4294967295 (by omega) A1 n1 c1 a ha hn1 h1).mono ?_
 rintro e w1 ⟨rfl,hE⟩
 obtain ⟨x,hx⟩:∃ x,zbV 4294967295 a=x:=⟨_,rfl⟩
 have hxl:x<4294967296:=by rw[←hx];exact zeV a _ (by omega)
 have Hx:=hJ hx
 rw[hx]
 have hp1:=hp.ext hE
 have HE:=hJ hE
 clear hx hE ha hp
 go_wp2_with fail
 refine (zo7 w1 U x hxl A2 n2 c2 p hp1 hn2 h2).mono ?_
 rintro e w2 ⟨rfl,hE2⟩
 obtain ⟨y,hy⟩:∃ y,zbV x p=y:=⟨_,rfl⟩
 have hyl:y<4294967296:=by rw[←hy];exact zeV p _ hxl
 have Hy:=hJ hy
 rw[hy]
 have HE2:=hJ (HE.out.ext hE2)
 clear hy hE2 hp1 HE
 have hs:IntKind.u32.signed=false:=rfl
 go_wp2
 go_ret
 refine ⟨?_,HE2.out⟩
 have e:zkK a p=4294967295-y:=by unfold zkK;rw[Hx.out,Hy.out]
 rw[e]
 have h3:=u32_xor_nat 4294967295 y (by omega) hyl
 rw[xor_all y hyl] at h3
 rw[←h3]
 rfl
theorem own_lit (w:World) (e:TypeId) (k n:Nat) (cs:List Value) (hc:cs.length=n*k) (hn:n≤maxLen):(w.alloc (.cells cs.toArray e)).ownsRow 0 e k (.slice (some ⟨w.heap.size,0,none⟩) n n) n cs:=
 ⟨hc,.inr ⟨w.heap.size,n,cs.toArray,rfl,Nat.zero_le _,heap_alloc_new w _,Nat.le_refl _,hn,by simpa using hc,by rw[←hc];simp⟩⟩
theorem zl5 (w:World) (bs:List UInt8) (n:Nat) (cs:Array Value) (hn:bs.length=n) (hm:n≤maxLen) (hc:cs=(bs.map B).toArray):zaN w (w.alloc (.cells cs 5)) (.slice (some ⟨w.heap.size,0,none⟩) n n) bs:=by
 subst hn;subst hc
 exact ⟨own_lit w _ 1 _ _ (by simp) hm,fun g hg=>by simp[Value.ownBlock] at hg;omega⟩
theorem byt_sub {w:World} {T:Nat→Prop} {A:Option Addr} {n c i j:Nat} {l:List UInt8} (h:Byt w T (.slice A n c) l) (hn:l.length=n) (hij:i≤j) (hj:j≤n) (q:Nat) (hq:q=j-i):Byt w T (.slice (cutA A i c 1) q (c-i)) ((l.drop i).take q):=by
 subst hn
 have h1:=Sl.cutA h (m:=i) (by omega)
 have h2:=Sl.upto h1 (m:=q) (by omega)
 have e:((l.map B).drop (i*1)).take (q*1)=((l.drop i).take q).map B:=by simp[List.map_take,List.map_drop]
 rw[e] at h2
 unfold Byt
 rw[List.length_take,List.length_drop,show min q (l.length-i)=q by omega]
 exact h2
theorem byt_cap' {w:World} {T:Nat→Prop} {A:Option Addr} {n c:Nat} {xs:List UInt8} (h:Byt w T (.slice A n c) xs):xs.length=n∧n≤c∧c≤maxLen∧(0<n→∃ g off,A=some ⟨g,off,none⟩∧T g):=by
 obtain ⟨_,A',c',e,h1,h2,h3⟩:=h
 injection e with e1 e2 e3
 subst e1;subst e2;subst e3
 exact ⟨rfl,h1,h2,fun h=>by obtain ⟨g,off,h4,h5,_⟩:=h3 h;exact ⟨g,off,h4,h5⟩⟩
theorem zjU (w:World) (A:Option Addr) (n c:Nat) (hl:16384<n):
  Calls Tryz.prog 364 #[.slice A n c] w fun e w'=>e=.returned (.tuple #[.slice none 0 0,.int .i64 2])∧w=w':=by
 have h1:(16384:Int)<(n:Int):=by omega
 clear hl
 go_enter Tryz.func364,Tryz.ntmps364
 go_wp2
 go_ret2
 exact ⟨rfl,rfl⟩
theorem fr_seal (w:World) (T:Nat→Prop) (A:Option Addr) (n c:Nat) (l:List UInt8) (h:Byt w T (.slice A n c) l) (hn:l.length=n) (hl:n≤16384):
  Calls Tryz.prog 364 #[.slice A n c] w fun e w'=>∃ A' c',e=.returned (.tuple #[.slice A' (n+9) c',.int .i64 0])∧zaN w w' (.slice A' (n+9) c') (yP l)∧Ext w w':=by
 have hnl:¬ (16384:Int)<(n:Int):=by omega
 obtain ⟨w1,hw1⟩:∃ w1,w.alloc (.cells #[.int .u8 157] 5)=w1:=⟨_,rfl⟩
 have hN1:zaN w w1 (.slice (some ⟨w.heap.size,0,none⟩) 1 1) [157]:=by rw[←hw1];exact zl5 w [157] 1 _ rfl (by decide) rfl
 have hE1:Ext w w1:=by rw[←hw1];exact (Mod.refl _ w).alloc _
 obtain ⟨a,ha⟩:∃ a,hib 4 n=a:=⟨_,rfl⟩
 have hal:a.length=4:=by rw[←ha];exact zcZ 4 n
 obtain ⟨x,hx⟩:∃ x,zkK a l=x:=⟨_,rfl⟩
 have hxl:x<4294967296:=by rw[←hx];exact crcOf_lt a l
 have hf:yP l=157 :: (a++(hib 4 x++l)):=by unfold yP;rw[hn,ha,hx]
 obtain ⟨Hf,Ha,Hal,Hx,HN1,HE1,Hw1,Hn⟩:=hJ8 hf ha hal hx hN1 hE1 hw1 hn
 have H:=hJ h
 clear hf ha hal hx hN1 hE1 hw1 hn h
 go_enter Tryz.func364,Tryz.ntmps364
 go_wp2_with fail
 rw[Hw1.out]
 refine (fr_put w w1 _ 1 1 [157] n (by omega) HN1.out HE1.out rfl (by omega)).mono ?_
 rintro e w2 ⟨A2,c2,rfl,hN2,hE2⟩
 rw[Ha.out] at hN2
 have hb2:Byt w2 (zD w.heap.size) (.slice A2 5 c2) ([157]++a):=hN2.sl
 obtain ⟨_,hc2,_,hA2⟩:=byt_cap' hb2
 obtain ⟨g,off,rfl,_⟩:=hA2 (by omega)
 have hs2:=byt_sub hb2 (by rw[List.length_append,Hal.out];rfl) (i:=1) (j:=5) (by omega) (by omega) 4 rfl
 have hsa:(([157]++a).drop 1).take 4=a:=by
  show a.take 4=a
  rw[←Hal.out,List.take_length]
 rw[hsa] at hs2
 have hl2:=H.out.ext hE2
 obtain ⟨HN2,HE2⟩:=hJ2 hN2 hE2
 clear hN2 hE2 hb2 hsa HN1 HE1 Hw1
 have hcc:(5:Nat)≤c2:=hc2
 go_wp2_with fail
 refine (fr_sum w2 _ T _ _ 4 _ n c a l hs2 hl2 Hal.out Hn.out (by omega) (by omega)).mono ?_
 rintro e w3 ⟨rfl,hE3⟩
 rw[Hx.out]
 have HN3:=hJ (HN2.out.ext hE3)
 have HE3:=hJ (HE2.out.ext hE3)
 clear hE3 HN2 HE2 hs2 hl2
 go_wp2_with fail
 refine (fr_put w w3 _ 5 c2 ([157]++a) x hxl HN3.out HE3.out (by rw[List.length_append,Hal.out];rfl) (by omega)).mono ?_
 rintro e w4 ⟨A4,c4,rfl,hN4,hE4⟩
 obtain ⟨HN4,HE4⟩:=hJ2 hN4 hE4
 have Hl4:=hJ (H.out.ext hE4)
 clear hN4 hE4 HN3 HE3
 go_wp2_with (at_builtin;refine jI rfl _ _ rfl (.slice A4 (5+4) c4) ([157]++a++hib 4 x) w rfl HN4.out HE4.out T _ l rfl Hl4.out (by rw[List.length_append,List.length_append,Hal.out,zcZ,Hn.out];simp only[List.length_cons,List.length_nil];omega) ?_)
 rintro A5 n5 c5 w5 hn5 hN5 hE5 _ _
 have e5:n5=n+9:=by
  rw[hn5]
  simp only[List.length_append,Hal.out,zcZ,Hn.out,List.length_cons,List.length_nil]
  omega
 subst e5
 rw[←Hf.out] at hN5
 obtain ⟨HN5,HE5⟩:=hJ2 hN5 hE5
 clear hN5 hE5 hn5
 go_wp2
 go_ret2
 exact ⟨_,_,rfl,HN5.out,HE5.out⟩
end Go.Proofs.YtjbkjhhjofeldaaGreat
