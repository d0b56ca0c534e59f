/-
 Plain functions: what the page (layer 10) says of an entry's and of a hard state's bytes; what package wire writes is the same. No program is walked here. Conditions: as each theorem names them.
-/
import Derived.Test.YtjbkjhhjofeldaaGreatG2
namespace Go.Proofs.YtjbkjhhjofeldaaGreat
set_option linter.unusedSimpArgs false
def zh6 (v:yO):Bool:=!(decide (v.kind<0)||decide (2<v.kind)||(v.kind != 2 && !zZ v.text))&&((v.kind==1&&v.num==xS v.num)||(v.kind != 1&&v.num==0))
def zoG (x:zO):Bool:=!(decide (x.kind<0)||decide (2<x.kind)||(x.kind != 1 && !zbY x.call zW.zero)||(x.kind != 2 && !zdR x.conf jB.zero))&&(x.kind != 1||zh6 x.call.cmd.old&&zh6 x.call.cmd.val)
def encC (c:zW):List UInt8:=zY [c.client,c.seq,c.cmd.kind]++xK (zbC c.cmd.key)++zi5 c.cmd.old++zi5 c.cmd.val
def encF (c:jB):List UInt8:=zY [c.full,c.wit,c.learn,c.learnWit]
def zfO (x:zO):List UInt8:=zY [x.term,x.kind]++(if x.kind=1 then encC x.call else if x.kind=2 then encF x.conf else [])
def encEs (l:List zO):List UInt8:=yM l.length++l.flatMap zfO
def zhF (b:List UInt8):List UInt8×Int:=if 16384<b.length then ([],2) else (b,0)
def entryP (x:zO):List UInt8×Int:=if zoG x then zhF (zfO x) else ([],3)
def encH (t v b bt:Int) (c:jB) (snap:List UInt8) (l:List zO):List UInt8:=zY [t,v,b,bt]++encF c++xK snap++encEs l
def hardP (t v b bt:Int) (c:jB) (snap:List UInt8) (l:List zO):List UInt8×Int:=if l.all zoG then zhF (encH t v b bt c snap l) else ([],3)
def wHard (t v b bt:Int) (c:jB) (snap:List UInt8) (l:List zO):WO:=(((zcR (zY [t,v,b,bt])).seq (zg5 c)).seq (zbT snap)).seq (zh3 l)
def zg3 (o:WO) (ok:Bool) (d:List UInt8):Prop:=if ok then ∃ y l,o=some (y,l)∧(l=false→y=d)∧(l=true→16384<d.length) else o=none
theorem zg3.seq {a b:WO} {p q:Bool} {d e:List UInt8} (h:zg3 a p d) (k:zg3 b q e):zg3 (a.seq b) (p&&q) (d++e):=by
 unfold zg3 at *
 rcases p with _|_
 ·
  rw[if_neg (by simp)] at h
  rw[if_neg (by simp),h]
  rfl
 rw[if_pos rfl] at h
 obtain ⟨y,l,rfl,h1,h2⟩:=h
 rcases q with _|_
 ·
  rw[if_neg (by simp)] at k
  rw[if_neg (by simp),k]
  rfl
 rw[if_pos rfl] at k
 obtain ⟨z,m,rfl,k1,k2⟩:=k
 rw[if_pos (by rfl)]
 refine ⟨y++z,l||m,rfl,fun hl=>?_,fun hl=>?_⟩
 · rw[Bool.or_eq_false_iff] at hl
   rw[h1 hl.1,k1 hl.2]
 rw[List.length_append]
 rw[Bool.or_eq_true] at hl
 rcases hl with hl|hl
 · have:=h2 hl;omega
 have:=k2 hl;omega
theorem zaS (d:List UInt8):zg3 (zcR d) true d:=by
 unfold zg3
 rw[if_pos rfl]
 exact ⟨d,false,rfl,fun _=>rfl,fun h=>by cases h⟩
theorem zb1 (b:Bool):zg3 (qB b) b []:=by
 unfold zg3 qB
 rcases b with _|_
 · rfl
 exact ⟨[],false,rfl,fun _=>rfl,fun h=>by cases h⟩
theorem zf0 (t:List UInt8):zg3 (zbT t) true (xK t):=by
 unfold zg3 zbT
 rw[if_pos rfl]
 split
 ·
  refine ⟨[],true,rfl,fun h=>(by cases h),fun _=>?_⟩
  unfold xK
  rw[List.length_append]
  omega
 exact ⟨_,false,rfl,fun _=>rfl,fun h=>by cases h⟩
theorem zjA {o:WO} {ok:Bool} {d:List UInt8} (h:zg3 o ok d):told o=if ok then zhF d else ([],3):=by
 unfold zg3 at h
 rcases ok with _|_
 ·
  rw[if_neg (by simp)] at h
  rw[h]
  rfl
 rw[if_pos rfl] at h
 obtain ⟨y,l,rfl,h1,h2⟩:=h
 unfold told zhF
 simp only[if_true]
 rcases l with _|_
 · rw[h1 rfl]
   simp
 have:=h2 rfl
 rw[if_pos this]
 rfl
theorem zg3.cast {o:WO} {p q:Bool} {d e:List UInt8} (h:zg3 o p d) (hp:p=q) (hd:q=true→d=e):zg3 o q e:=by
 subst hp
 rcases p with _|_
 · exact h
 rw[←hd rfl];exact h
theorem zeW (n:Nat):yV n 0=(n==0):=by
 unfold yV
 have h0:xS 0=0:=by decide +kernel
 rw[h0,Bool.eq_iff_iff,beq_iff_eq,beq_iff_eq]
 unfold xS
 split
 ·
  rename_i h
  constructor
  · intro e;exact absurd e (by decide)
  intro e;subst e;exact absurd h (by decide +kernel)
 rfl
theorem zhG (v:yO):zg3 (jW v) (zh6 v) (zi5 v):=by
 unfold jW
 refine ((zaS (yM v.kind)).seq (q:=zh6 v) (e:=if v.kind=1 then qA v.num else if v.kind=2 then xK (zbC v.text) else []) ?_).cast (by simp) (fun _=>rfl)
 rcases ht:zZ v.text with _|_ <;> rcases hn:(v.num==0) with _|_ <;> rcases hc:(v.num==xS v.num) with _|_
 all_goals
  have hc':(xS v.num==v.num)=(v.num==xS v.num):=by rw[Bool.eq_iff_iff,beq_iff_eq,beq_iff_eq];exact eq_comm
  split
  ·
   rename_i h0
   refine (zb1 _).cast ?_ (fun _=>by first|rfl|rw[if_neg (by omega),if_neg (by omega)])
   unfold zh6
   rw[zeW,ht,hn,h0]
   simp
  split
  ·
   rename_i h0 h1
   refine ((zb1 _).seq (zaS _)).cast ?_ (fun _=>by first|rfl|(rw[if_pos h1];rfl))
   unfold zh6 za4
   rw[hc',hc,ht,h1]
   simp
  split
  ·
   rename_i h0 h1 h2
   refine ((zb1 _).seq (zf0 _)).cast ?_ (fun _=>by first|rfl|(rw[if_neg h1,if_pos h2];rfl))
   unfold zh6
   rw[zeW,hn,ht,h2]
   simp
  rename_i h0 h1 h2
  have hv:zh6 v=false:=by
   unfold zh6
   rcases Int.lt_or_le v.kind 0 with h|h
   · rw[decide_eq_true h];rfl
   have:2<v.kind:=by omega
   rw[decide_eq_true this];simp
  rw[hv]
  rfl
theorem zoH (c:zW):zg3 (zh2 c) (zh6 c.cmd.old&&zh6 c.cmd.val) (encC c):=
 ((((zaS _).seq (zf0 _)).seq (zhG _)).seq (zhG _)).cast (by simp) (fun _=>rfl)
theorem zlO (v:yO):zdU v=zbD v yO.zero:=by
 unfold zdU zbD zg4
 rw[zeW]
 have h0:xZ yO.zero.num=false:=by decide +kernel
 rw[h0,Bool.and_false,Bool.false_or]
 have:zZ v.text=eqT v.text yO.zero.text:=by
  rw[Bool.eq_iff_iff,qF,jD]
  rfl
 rw[this]
 rfl
theorem zjB (c:zW):yW c=zbY c zW.zero:=by
 unfold yW zbY zh1
 rw[zlO,zlO]
 have:zZ c.cmd.key=eqT c.cmd.key zW.zero.cmd.key:=by
  rw[Bool.eq_iff_iff,qF,jD]
  rfl
 rw[this]
 simp only[Bool.and_assoc]
 rfl
theorem zlP (c:jB):zcU c=zdR c jB.zero:=rfl
theorem zhH (x:zO):zg3 (jF x) (zoG x) (zfO x):=by
 unfold jF
 have hlast:zg3 (if x.kind=1 then zh2 x.call else if x.kind=2 then zg5 x.conf else zcR []) (x.kind != 1||zh6 x.call.cmd.old&&zh6 x.call.cmd.val) (if x.kind=1 then encC x.call else if x.kind=2 then encF x.conf else []):=by
  split
  · rename_i h
    exact (zoH _).cast (by rw[h];simp) (fun _=>rfl)
  rename_i h
  have hk:(x.kind != 1)=true:=by simpa using h
  split
  · exact (zaS _).cast (by rw[hk];rfl) (fun _=>rfl)
  exact (zaS _).cast (by rw[hk];rfl) (fun _=>rfl)
 refine (((((zaS _).seq (zb1 _)).seq (zb1 _)).seq (zb1 _)).seq hlast).cast ?_ (fun _=>by unfold zfO;simp)
 unfold zoG
 rw[zjB,zlP]
 have e:decide (0≤x.kind∧x.kind≤2) = !(decide (x.kind<0)||decide (2<x.kind)):=by
  rw[Bool.eq_iff_iff]
  simp <;> omega
 rw[e]
 generalize (x.kind != 1||zh6 x.call.cmd.old&&zh6 x.call.cmd.val)=Z
 have e1:(x.kind==1) = !(x.kind != 1):=(Bool.not_not _).symm
 have e2:(x.kind==2) = !(x.kind != 2):=(Bool.not_not _).symm
 rw[e1,e2]
 generalize (x.kind != 1)=a
 generalize (x.kind != 2)=b
 generalize zbY x.call zW.zero=c
 generalize zdR x.conf jB.zero=d
 generalize decide (x.kind<0)=f
 generalize decide (2<x.kind)=g
 cases a <;> cases b <;> cases c <;> cases d <;> cases f <;> cases g <;> cases Z <;> rfl
theorem zmS (x:zO):told (jF x)=entryP x:=zjA (zhH x)
theorem zjC:∀ l:List zO,zg3 (xL l) (l.all zoG) (l.flatMap zfO):=by
 intro l
 induction l with
 | nil=>exact zaS []
 | cons x l ih=>
  rw[xL,List.all_cons,List.flatMap_cons]
  exact (zhH x).seq ih
theorem zoI (l:List zO):zg3 (zh3 l) (l.all zoG) (encEs l):=((zaS _).seq (zjC l)).cast (by simp) (fun _=>rfl)
theorem zoJ (t v b bt:Int) (c:jB) (snap:List UInt8) (l:List zO):told (wHard t v b bt c snap l)=hardP t v b bt c snap l:=
 zjA (((((zaS _).seq (zaS _)).seq (zf0 _)).seq (zoI l)).cast (by simp) (fun _=>rfl))
structure zX where
 term:Int
 vote:Int
 base:Int
 baseTerm:Int
 conf:jB
 snap:List UInt8
 log:List zO
def zeX (client seq:Int):Bool:=decide (1≤client)&&decide (client≤4)&&decide (1≤seq)&&decide (seq≤1099511627776)
def yX (c:zW):Int:=if zeX c.client c.seq=false then 1 else zcP c.cmd
def zjD (n:Int):Bool:=decide (0≤n)&&decide (n≤127)
def zb2 (c:jB):Bool:=zjD c.full&&zjD c.wit&&zjD c.learn&&zjD c.learnWit&&(c.full.toNat &&& c.wit.toNat==0)&&((c.full.toNat ||| c.wit.toNat) &&& c.learn.toNat==0)&&((c.full.toNat ||| c.wit.toNat ||| c.learn.toNat) &&& c.learnWit.toNat==0)&&c.full != 0
def jQ (x:zO):Bool:=
 if x.kind=0 then yW x.call&&zcU x.conf else if x.kind=1 then yX x.call==0&&zcU x.conf else if x.kind=2 then yW x.call&&zb2 x.conf else false
def zdX (term:Int):Int→List zO→Bool
 | _,[]=>true
 | last,x :: l=>decide (last≤x.term)&&decide (x.term≤term)&&jQ x&&zdX term x.term l
def xX (h:zX):Bool:=
 decide (0≤h.term)&&decide (h.term≤1099511627776)&&decide (-1≤h.vote)&&decide (h.vote≤6)&&decide (0≤h.base)&&decide (h.base≤1099511627776)&&decide (0≤h.baseTerm)&&decide (h.baseTerm≤h.term)&&((h.baseTerm==0)==(h.base==0))&&zb2 h.conf&&decide (h.snap.length≤16384)&&(h.base != 0||decide (h.snap.length=0))&&zdX h.term (max h.baseTerm 1) h.log
structure Right (h:zX):Prop where
 t0:0≤h.term
 t1:h.term≤1099511627776
 v0 : -1≤h.vote
 v1:h.vote≤6
 b0:0≤h.base
 b1:h.base≤1099511627776
 bt0:0≤h.baseTerm
 bt1:h.baseTerm≤h.term
 bb:(h.baseTerm==0)=(h.base==0)
 c:zb2 h.conf=true
 s:h.snap.length≤16384
 bs:h.base≠0∨h.snap.length=0
 r:zdX h.term (max h.baseTerm 1) h.log=true
theorem jM (h:zX):xX h=true↔Right h:=by
 unfold xX
 simp only[Bool.and_eq_true,decide_eq_true_eq,beq_iff_eq,Bool.or_eq_true,bne_iff_ne]
 constructor
 · rintro ⟨⟨⟨⟨⟨⟨⟨⟨⟨⟨⟨⟨h1,h2⟩,h3⟩,h4⟩,h5⟩,h6⟩,h7⟩,h8⟩,h9⟩,h10⟩,h11⟩,h12⟩,h13⟩
   exact ⟨h1,h2,h3,h4,h5,h6,h7,h8,h9,h10,h11,h12,h13⟩
 rintro ⟨h1,h2,h3,h4,h5,h6,h7,h8,h9,h10,h11,h12,h13⟩
 exact ⟨⟨⟨⟨⟨⟨⟨⟨⟨⟨⟨⟨h1,h2⟩,h3⟩,h4⟩,h5⟩,h6⟩,h7⟩,h8⟩,h9⟩,h10⟩,h11⟩,h12⟩,h13⟩
theorem emptyT {t:ByteArray} (h:zZ t=true):t=⟨#[]⟩:=(qF _).1 h
theorem zc1:I64 0:=by unfold I64;omega
def fitE (x:zO):Prop:=x.ok∧zoG x=true∧x.call.cmd.key.size≤16384∧x.call.cmd.old.text.size≤16384∧x.call.cmd.val.text.size≤16384
theorem eqV0 {v:yO} (h:zbD v yO.zero=true):v=yO.zero:=by
 obtain ⟨k,x,t⟩:=v
 unfold zbD zg4 at h
 have h0:xZ yO.zero.num=false:=by decide +kernel
 rw[h0,Bool.and_false,Bool.false_or] at h
 simp only[Bool.and_eq_true,beq_iff_eq,jD] at h
 obtain ⟨⟨rfl,rfl⟩,rfl⟩:=h
 rfl
theorem eqC0 {c:zW} (h:zbY c zW.zero=true):c=zW.zero:=by
 obtain ⟨cl,sq,⟨ck,key,old,val⟩⟩:=c
 unfold zbY zh1 at h
 simp only[Bool.and_eq_true,beq_iff_eq,jD] at h
 obtain ⟨⟨rfl,rfl⟩,⟨⟨rfl,rfl⟩,h1⟩,h2⟩:=h
 have h1:=eqV0 h1
 have h2:=eqV0 h2
 subst h1;subst h2
 rfl
theorem eqF0 {c:jB} (h:zdR c jB.zero=true):c=jB.zero:=by
 obtain ⟨a,b,d,f⟩:=c
 unfold zdR at h
 simp only[Bool.and_eq_true,beq_iff_eq] at h
 obtain ⟨⟨⟨rfl,rfl⟩,rfl⟩,rfl⟩:=h
 rfl
def zX.enc (h:zX):List UInt8:=encH h.term h.vote h.base h.baseTerm h.conf h.snap h.log
set_option linter.unusedVariables false
open Go.RowKit
theorem zI (w:World) (o:Obj):(w.alloc o).heap[w.heap.size]? = some o:=by show (w.heap.push o)[w.heap.size]? = some o;simp
theorem xE (w:World) (o o':Obj):((w.alloc o).alloc o').heap[w.heap.size]? = some o:=by show ((w.heap.push o).push o')[w.heap.size]? = some o;simp[Array.getElem?_push]
theorem xA (w:World) (o o':Obj):((w.alloc o).alloc o').heap[w.heap.size+1]? = some o':=by
 have h:=zI (w.alloc o) o'
 rwa [show (w.alloc o).heap.size=w.heap.size+1 from Array.size_push _] at h
structure A7 where
  x0:Int
  x1:Int
  x2:Int
  x3:Int
  x4:Int
  x5:Int
  x6:Int
abbrev A7.cells (a:A7):List Value:=[.int .i64 a.x0,.int .i64 a.x1,.int .i64 a.x2,.int .i64 a.x3,.int .i64 a.x4,.int .i64 a.x5,.int .i64 a.x6]
abbrev A7.ints (a:A7):List Int:=[a.x0,a.x1,a.x2,a.x3,a.x4,a.x5,a.x6]
def A7.const (n:Int):A7:=⟨n,n,n,n,n,n,n⟩
structure zS where
  id:Int
  hard:zX
  commit:Int
  role:Int
  lead:Int
  wait:Int
  quiet:Int
  votes:Int
  round:Int
  next:A7
  mtch:A7
  silent:A7
abbrev zS.cells (r:zS) (sv lv rv:Value):List Value:=
  [.int .i64 r.id,.int .i64 r.hard.term,.int .i64 r.hard.vote,.int .i64 r.hard.base,.int .i64 r.hard.baseTerm,.int .i64 r.hard.conf.full,.int .i64 r.hard.conf.wit,.int .i64 r.hard.conf.learn,.int .i64 r.hard.conf.learnWit,sv,lv,
   .int .i64 r.commit,.int .i64 r.role,.int .i64 r.lead,.int .i64 r.wait,.int .i64 r.quiet,.int .i64 r.votes,.int .i64 r.round,
   .int .i64 r.next.x0,.int .i64 r.next.x1,.int .i64 r.next.x2,.int .i64 r.next.x3,.int .i64 r.next.x4,.int .i64 r.next.x5,.int .i64 r.next.x6,
   .int .i64 r.mtch.x0,.int .i64 r.mtch.x1,.int .i64 r.mtch.x2,.int .i64 r.mtch.x3,.int .i64 r.mtch.x4,.int .i64 r.mtch.x5,.int .i64 r.mtch.x6,
   .int .i64 r.silent.x0,.int .i64 r.silent.x1,.int .i64 r.silent.x2,.int .i64 r.silent.x3,.int .i64 r.silent.x4,.int .i64 r.silent.x5,.int .i64 r.silent.x6,rv]
structure yL where
  call:zW
  index:Int
  round:Int
  acks:Int
abbrev yL.cells (x:yL):List Value:=[.int .i64 x.call.client,.int .i64 x.call.seq,.int .i64 x.call.cmd.kind,.string x.call.cmd.key,.int .i64 x.call.cmd.old.kind,.float .f64 x.call.cmd.old.num,.string x.call.cmd.old.text,.int .i64 x.call.cmd.val.kind,.float .f64 x.call.cmd.val.num,.string x.call.cmd.val.text,.int .i64 x.index,.int .i64 x.round,.int .i64 x.acks]
def zS.last (r:zS):Int:=r.hard.base+r.hard.log.length
def C1:jB:=⟨1,0,0,0⟩
structure Alone (h:zX):Prop where
  conf:h.conf=C1
  none:∀ x∈h.log,x.kind≠2
structure zbF (r:zS) (reads:List yL):Prop where
  hard:Right r.hard
  few:r.hard.log.length≤100000
  id:0≤r.id∧r.id≤6
  base:r.hard.base≤r.commit
  commit:r.commit≤r.last
  role:0≤r.role∧r.role≤3
  lead : -1≤r.lead∧r.lead<7
  wait:0≤r.wait∧r.wait≤100
  quiet:0≤r.quiet∧r.quiet≤1099511627776
  round:0≤r.round∧r.round≤1099511627776
  votes:0≤r.votes∧r.votes≤127
  next:∀ x∈r.next.ints,0≤x∧x≤1099511627776
  mtch:∀ x∈r.mtch.ints,0≤x∧x≤r.last
  silent:∀ x∈r.silent.ints,0≤x∧x≤1099511627776
  asks:reads.length≤1
  ask:∀ x∈reads,yX x.call=0∧(0≤x.index∧x.index≤r.commit)∧(0≤x.round∧x.round≤1099511627776)∧(0≤x.acks∧x.acks≤127)
  rule:reads≠[]→r.role=3
  own:r.role=3→r.lead=r.id
end Go.Proofs.YtjbkjhhjofeldaaGreat
