/-
 Plain laws of machines and calls. No program is walked here. Conditions: as each theorem names them.
-/
import Derived.Test.YtjbkjhhjofeldaaGreatG36
namespace Go.Proofs.YtjbkjhhjofeldaaGreat
theorem zmH {l:List zJ} {c:jV} (hc:zcP c=0) (hl:xG l=true):0≤(doP l c).2.code∧(doP l c).2.code≤16∧chk (doP l c).2.val=0:=by
 have hg:=chk_get hl c.key
 obtain ⟨_,_,_,hv,_,_⟩:=zlL hc
 by_cases h1:c.kind=1
 ·
  unfold doP
  rw[if_neg (by simpa using hc),hl,if_neg (by simp),if_pos h1]
  exact ⟨by simp,by simp,hg⟩
 rw[do_eq hc hl h1]
 have hs:0≤(za1 (zcD l c.key) c).1∧(za1 (zcD l c.key) c).1≤16∧chk (za1 (zcD l c.key) c).2.2=0:=by
  unfold za1
  split
  · exact ⟨by simp,by simp,hg⟩
  split
  · exact ⟨by simp,by simp,hg⟩
  split
  ·
   split
   · exact ⟨by simp,by simp,hg⟩
   exact ⟨by simp,by simp,hg⟩
  rcases hj:zbU (c.kind==5) (zcD l c.key) c.val with ⟨x,e⟩
  have hb:0≤e∧e≤16:=by
   have:(zbU (c.kind==5) (zcD l c.key) c.val).2=e:=by rw[hj]
   unfold zbU at this
   rw[if_neg (by rw[hg];simp),if_neg (by rw[hv];simp)] at this
   split at this
   · simp only at this;omega
   split at this <;> simp only at this <;> omega
  simp only
  split
  · rename_i he
    subst he
    exact ⟨by simp,by simp,(zoC hv hj).1⟩
  exact ⟨hb.1,hb.2,zfN⟩
 rcases hst:za1 (zcD l c.key) c with ⟨e,x,t⟩
 rw[hst] at hs
 simp only
 split
 · exact hs
 split
 · exact ⟨by simp,by simp,zfN⟩
 exact ⟨by simp,by simp,hs.2.2⟩
theorem zj8 {a b:List zR} {x:zR} {k:Int} (h:k≠x.client):yJ (a++x :: b) k=yJ (a++b) k:=by
 induction a with
 | nil=>rw[List.nil_append,List.nil_append,yJ,if_neg (fun e=>h e.symm)]
 | cons s a ih=>rw[List.cons_append,List.cons_append,yJ,yJ,ih]
theorem lastS_at {a b:List zR} {x:zR} (h:∀ s∈a,s.client<x.client):yJ (a++x :: b) x.client=(x.seq,x.reply):=by
 induction a with
 | nil=>rw[List.nil_append,yJ,if_pos rfl]
 | cons s a ih=>rw[List.cons_append,yJ,if_neg (by have:=h s (by simp);omega),ih (fun t ht=>h t (by simp[ht]))]
theorem zgW {l:List zR} (h:zn6 l) (x:zR):∃ a b,zhQ x false l=a++x :: b∧(∀ s∈a,s.client<x.client)∧(∀ s∈b,x.client<s.client)∧(l=a++b∨∃ y,y.client=x.client∧l=a++y :: b):=by
 obtain ⟨a,b,rfl,h1,h2|⟨y,b',rfl,hy,h2⟩⟩:=splitS h x.client
 · exact ⟨a,b,zmF x a b h1 h2,h1,h2,.inl rfl⟩
 exact ⟨a,b',zmG x y a b' hy h1 h2,h1,h2,.inr ⟨y,hy,rfl⟩⟩
theorem zqG {l:List zR} (h:zn6 l) (x:zR) (k:Int):yJ (zhQ x false l) k=if k=x.client then (x.seq,x.reply) else yJ l k:=by
 obtain ⟨a,b,e,h1,h2,h3⟩:=zgW h x
 rw[e]
 by_cases hk:k=x.client
 · rw[if_pos hk,hk,lastS_at h1]
 rw[if_neg hk,zj8 hk]
 rcases h3 with rfl|⟨y,hy,rfl⟩
 · rfl
 rw[zj8 (by rw[hy];exact hk)]
theorem srt_setS {l:List zR} (h:zn6 l) (x:zR):zn6 (zhQ x false l):=by
 obtain ⟨a,b,e,h1,h2,h3⟩:=zgW h x
 have hab:zn6 (a++b):=by
  rcases h3 with rfl|⟨y,hy,rfl⟩
  · exact h
  exact List.Pairwise.sublist (List.Sublist.append_left (List.sublist_cons_self y b) a) h
 rw[e]
 unfold zn6 at hab ⊢
 rw[List.pairwise_append] at hab ⊢
 refine ⟨hab.1,List.pairwise_cons.2 ⟨h2,hab.2.1⟩,fun s hs t ht=>?_⟩
 rcases List.mem_cons.1 ht with rfl|ht
 · exact h1 s hs
 exact hab.2.2 s hs t ht
theorem mem_setS {l:List zR} (h:zn6 l) {x s:zR} (hs:s∈zhQ x false l):s=x∨s∈l:=by
 obtain ⟨a,b,e,h1,h2,h3⟩:=zgW h x
 rw[e] at hs
 rcases List.mem_append.1 hs with hs|hs
 · right;rcases h3 with rfl|⟨y,hy,rfl⟩ <;> simp[hs]
 rcases List.mem_cons.1 hs with rfl|hs
 · exact .inl rfl
 right;rcases h3 with rfl|⟨y,hy,rfl⟩ <;> simp[hs]
theorem znQ {m:jK} (c:zW) (h:jU m=true):jU (zdB m c).1=true:=by
 obtain ⟨p,l⟩:=m
 have hp:xG p=true:=by unfold jU at h;rw[Bool.and_eq_true] at h;exact h.1
 have hl:zgM l=true:=by unfold jU at h;rw[Bool.and_eq_true] at h;exact h.2
 obtain ⟨h1,h2⟩:=(zaH l).1 hl
 unfold zdB
 by_cases hc:yX c=0
 case neg=>rw[if_pos hc];exact h
 rw[if_neg (by simpa using hc),h,if_neg (by simp)]
 by_cases he:c.seq=(yJ l c.client).1
 · rw[if_pos he];exact h
 rw[if_neg he]
 by_cases hlt:c.seq<(yJ l c.client).1
 · rw[if_pos hlt];exact h
 rw[if_neg hlt]
 have hn:zeX c.client c.seq=true:=by
  rcases hn:zeX c.client c.seq with _|_
  · rw[zaT hn] at hc;cases hc
  rfl
 rw[zb3 hn] at hc
 unfold jU
 rw[Bool.and_eq_true]
 refine ⟨do_right c.cmd hp,(zaH _).2 ⟨fun s hs=>?_,srt_setS h2 _⟩⟩
 rcases mem_setS h2 hs with rfl|hs
 ·
  obtain ⟨q1,q2,q3⟩:=zmH hc hp
  unfold zaE
  simp only
  rw[hn,decide_eq_true q1,decide_eq_true q2,q3]
  rfl
 exact h1 s hs
theorem mach_srt {m:jK} (h:jU m=true):zn6 m.sess:=by
 unfold jU at h
 rw[Bool.and_eq_true] at h
 exact ((zaH _).1 h.2).2
theorem zqH {m:jK} (c:zW) (h:jU m=true):
  ((zdB m c).1=m∧(yX c=0→c.seq≤(yJ m.sess c.client).1∧(c.seq=(yJ m.sess c.client).1→(zdB m c).2=(yJ m.sess c.client).2))) ∨
  (yX c=0∧(yJ m.sess c.client).1<c.seq∧yJ (zdB m c).1.sess c.client=(c.seq,(zdB m c).2) ∧
   zdB m c=(⟨(doP m.pairs c.cmd).1,zhQ ⟨c.client,c.seq,(doP m.pairs c.cmd).2⟩ false m.sess⟩,(doP m.pairs c.cmd).2)):=by
 have hs:=mach_srt h
 unfold zdB
 by_cases hc:yX c=0
 case neg=>rw[if_pos hc];exact .inl ⟨rfl,fun e=>absurd e hc⟩
 rw[if_neg (by simpa using hc),h,if_neg (by simp)]
 by_cases he:c.seq=(yJ m.sess c.client).1
 · rw[if_pos he];exact .inl ⟨rfl,fun _=>⟨by omega,fun _=>rfl⟩⟩
 rw[if_neg he]
 by_cases hlt:c.seq<(yJ m.sess c.client).1
 · rw[if_pos hlt];exact .inl ⟨rfl,fun _=>⟨by omega,fun e=>absurd e he⟩⟩
 rw[if_neg hlt]
 refine .inr ⟨hc,by omega,?_,rfl⟩
 simp only
 rw[zqG hs,if_pos rfl]
theorem split3 {l:List zJ} (hs:Srt l) (k:ByteArray):l=(l.filter fun p=>ltT p.key k)++((l.filter fun p=>eqT p.key k)++l.filter fun p=>ltT k p.key):=by
 induction l with
 | nil=>rfl
 | cons q l ih=>
  have hs':=List.pairwise_cons.1 hs
  rcases h1:ltT q.key k with _|_
  ·
   have hgt:∀ p∈l,ltT k p.key=true:=fun p hp=>by
    rcases h2:eqT q.key k with _|_
    · exact zcV (zi6 h1 h2) (hs'.1 p hp)
    rw[←(jD _ _).1 h2];exact hs'.1 p hp
   have f1:l.filter (fun p=>ltT p.key k)=[]:=List.filter_eq_nil_iff.2 fun p hp=>by simp[zbZ (hgt p hp)]
   have f2:l.filter (fun p=>ltT k p.key)=l:=List.filter_eq_self.2 hgt
   have f3:l.filter (fun p=>eqT p.key k)=[]:=List.filter_eq_nil_iff.2 fun p hp=>by simp[zfB (hgt p hp)]
   rcases h2:eqT q.key k with _|_
   · simp[h1,h2,zi6 h1 h2,f1,f2,f3]
   have e:=(jD _ _).1 h2
   have h3:ltT k q.key=false:=by rw[e];exact za8 k
   simp[h1,h2,h3,f1,f2,f3]
  have h2:=zlK h1
  have h3:=zbZ h1
  have:=ih hs'.2
  simp only[List.filter_cons,h1,h2,h3,if_true,Bool.false_eq_true,if_false,List.cons_append]
  rw[←this]
structure zeN (l:List zJ) (k:ByteArray) (a m b:List zJ):Prop where
 eq:l=a++(m++b)
 lo:∀ p∈a,ltT p.key k=true
 mi:∀ p∈m,eqT p.key k=true
 hi:∀ p∈b,ltT k p.key=true
 one:m.length≤1
theorem parts {l:List zJ} (hs:Srt l) (k:ByteArray):∃ a m b,zeN l k a m b∧(∀ v,zeR k v false l=a++⟨k,v⟩ :: b)∧(∀ v,zeR k v true l=a++b):=by
 refine ⟨_,_,_,⟨split3 hs k,fun p hp=>(List.mem_filter.1 hp).2,fun p hp=>(List.mem_filter.1 hp).2,fun p hp=>(List.mem_filter.1 hp).2,one_key hs k⟩,fun v=>zeS hs k v,fun v=>?_⟩
 rw[zcX]
 conv=>lhs;rw[split3 hs k]
 rw[List.filter_append,List.filter_append]
 have f1:(l.filter fun p=>ltT p.key k).filter (fun p=>!eqT p.key k)=l.filter fun p=>ltT p.key k:=List.filter_eq_self.2 fun p hp=>by simp[zlK (List.mem_filter.1 hp).2]
 have f2:(l.filter fun p=>eqT p.key k).filter (fun p=>!eqT p.key k)=[]:=List.filter_eq_nil_iff.2 fun p hp=>by simp[(List.mem_filter.1 hp).2]
 have f3:(l.filter fun p=>ltT k p.key).filter (fun p=>!eqT p.key k)=l.filter fun p=>ltT k p.key:=List.filter_eq_self.2 fun p hp=>by simp[zfB (List.mem_filter.1 hp).2]
 rw[f1,f2,f3,List.nil_append]
theorem zeN.lt {l:List zJ} {k:ByteArray} {a m b:List zJ} (h:zeN l k a m b):∀ (i:Nat) x,l[i]? = some x→ltT x.key k=decide (i<a.length):=by
 intro i x hx
 rw[h.eq] at hx
 by_cases hi:i<a.length
 ·
  rw[List.getElem?_append_left hi] at hx
  rw[h.lo x (List.mem_of_getElem? hx)]
  simp[hi]
 rw[List.getElem?_append_right (by omega)] at hx
 have:ltT x.key k=false:=by
  rcases List.mem_append.1 (List.mem_of_getElem? hx) with hm|hm
  · rw[(jD _ _).1 (h.mi x hm)];exact za8 k
  exact zbZ (h.hi x hm)
 rw[this]
 simp[hi]
theorem zeN.is_yes {l:List zJ} {k:ByteArray} {a b:List zJ} {y:zJ} (h:zeN l k a [y] b):true=true↔∃ x,l[a.length]? = some x∧eqT x.key k=true:=
 ⟨fun _=>⟨y,by rw[h.eq];simp,h.mi y (by simp)⟩,fun _=>rfl⟩
theorem zeN.is_no {l:List zJ} {k:ByteArray} {a b:List zJ} (h:zeN l k a [] b):false=true↔∃ x,l[a.length]? = some x∧eqT x.key k=true:=by
 refine ⟨(fun h=>by cases h),fun ⟨x,hx,he⟩=>?_⟩
 rw[h.eq,List.getElem?_append_right (by omega)] at hx
 have:=h.hi x (by simpa using List.mem_of_getElem? hx)
 rw[zfB this] at he
 cases he
theorem zeN.two {l:List zJ} {k:ByteArray} {a m b:List zJ} (h:zeN l k a m b):m=[]∨∃ y,m=[y]∧y.key=k:=by
 have h1:=h.one
 have h2:=h.mi
 rcases m with _|⟨y,_|⟨z,m⟩⟩
 · exact .inl rfl
 · exact .inr ⟨y,rfl,(jD _ _).1 (h2 y (by simp))⟩
 simp at h1
set_option maxRecDepth 100000
set_option maxHeartbeats 1000000
set_option linter.unusedSimpArgs false
open Go.RowKit
def zn7 (x:zJ) (key:ByteArray):Int:=if ltT x.key key then -1 else if ltT key x.key then 1 else 0
theorem zqI {x:zJ} {key:ByteArray} (h:ltT x.key key=true):zn7 x key = -1:=by unfold zn7;rw[if_pos h]
theorem cmpP_ge {x:zJ} {key:ByteArray} (h:ltT x.key key=false):0≤zn7 x key∧zn7 x key≤1:=by
 unfold zn7
 rw[h]
 simp only[Bool.false_eq_true,if_false]
 split <;> omega
theorem zqJ {x:zJ} {key:ByteArray} (h:ltT x.key key=false):(zn7 x key==0)=eqT x.key key:=by
 unfold zn7
 rw[h]
 simp only[Bool.false_eq_true,if_false]
 rcases h2:ltT key x.key with _|_
 ·
  rcases h3:eqT x.key key with _|_
  · have:=zi6 h h3;rw[h2] at this;cases this
  rfl
 rw[zfB h2];rfl
theorem kv_cmp (x:zJ) (key:ByteArray) (w:World):
  Calls Tryz.prog 411 #[.agg #[.string x.key,.int .i64 x.val.kind,.float .f64 x.val.num,.string x.val.text],.string key] w fun e w'=>e=.returned (.int .i64 (zn7 x key))∧Ext w w':=by
 obtain ⟨r,hr⟩:∃ r,zn7 x key=r:=⟨_,rfl⟩
 have Hr:=hJ hr
 rw[hr]
 clear hr
 rcases h1:ltT x.key key with _|_
 ·
  have b1:Op.bytesLess x.key.toList key.toList=false:=h1
  rcases h2:ltT key x.key with _|_
  focus
   have h3:eqT x.key key=true:=by
    rcases h3:eqT x.key key with _|_
    · have:=zi6 h1 h3;rw[h2] at this;cases this
    rfl
   have b2:(x.key.toList==key.toList)=true:=h3
   have hr2:Hid (r=0):=hJ (by rw[←Hr.out];unfold zn7;rw[h1,h2];rfl)
  rotate_left
  focus
   have b2:(x.key.toList==key.toList)=false:=zfB h2
   have hr2:Hid (r=1):=hJ (by rw[←Hr.out];unfold zn7;rw[h1,h2];rfl)
  all_goals
   go_enter Tryz.func411,Tryz.ntmps411
   go_wp2
   go_ret
   exact ⟨yG hr2.out.symm,(Mod.refl _ w).alloc _⟩
 have b1:Op.bytesLess x.key.toList key.toList=true:=h1
 have hr2:Hid (r = -1):=hJ (by rw[←Hr.out];exact zqI h1)
 go_enter Tryz.func411,Tryz.ntmps411
 go_wp2
 go_ret
 exact ⟨yG hr2.out.symm,(Mod.refl _ w).alloc _⟩
theorem zgX (w:World) (T:Nat→Prop) (v:Value) (l:List zJ) (key:ByteArray) (h:Prs w T v l) (hl:l.length≤1000000) (p:Nat) (hp:p≤l.length) (hlt:∀ (k:Nat) x,l[k]? = some x→ltT x.key key=decide (k<p))
  (is:Bool) (his:is=true↔∃ x,l[p]? = some x∧eqT x.key key=true):
  Calls Tryz.prog 410 #[v,.string key,.func (Fn.func 411) #[] #[]] w fun e w'=>e=.returned (.tuple #[.int .i64 p,.bool is])∧Ext w w':=by
 obtain ⟨n,hn⟩:∃ n,l.length=n:=⟨_,rfl⟩
 obtain ⟨A,c,rfl⟩:=h.form
 rw[hn] at h hl hp ⊢
 obtain ⟨Hn,Hlt,His⟩:=hJ3 hn hlt his
 clear hn hlt his
 go_enter Tryz.func410,Tryz.ntmps410
 go_wp2
 go_loopw [9,10] (fun iv jv wr=>∃ i j:Nat,i≤p∧p≤j∧j≤n∧iv=.int .i64 i∧jv=.int .i64 j∧Ext w wr) (fun iv jv _=>(intOf jv).toNat-(intOf iv).toNat)
 case atStart=>exact ⟨0,n,by omega,by omega,by omega,rfl,rfl,Mod.refl _ w⟩
 obtain ⟨i,j,hip,hpj,hjn,rfl,rfl,hE⟩:=hrel
 have h2:=h.ext hE
 by_cases hij:i<j
 ·
  have hm2:(i+j) / 2<j:=by omega
  obtain ⟨g,off,x,rfl,hgT,hx,hxok,hcells⟩:=h2.at (show (i+j) / 2<n by omega)
  have x0:=hcells 0 _ rfl
  have x1:=hcells 1 _ rfl
  have x2:=hcells 2 _ rfl
  have x3:=hcells 3 _ rfl
  rw[Nat.add_zero] at x0
  have Hx:=hJ hx
  clear hcells hx h2 hxok
  go_wp2_with fail
  refine (kv_cmp x key _).mono ?_
  rintro e w1 ⟨rfl,hE1⟩
  have hF:=Mod.ext hE hE1
  have hc:=Hlt.out _ _ Hx.out
  clear hE1 hE x0 x1 x2 x3
  by_cases hmp:(i+j) / 2<p
  ·
   have hlt:ltT x.key key=true:=by rw[hc];simpa using hmp
   rw[zqI hlt]
   clear hc hlt
   go_wp2
   exact ⟨⟨(i+j) / 2+1,j,by omega,hpj,hjn,by go_num,rfl,hF⟩,by simp[intOf];omega⟩
  have hlt:ltT x.key key=false:=by rw[hc];simpa using hmp
  obtain ⟨q1,q2⟩:=cmpP_ge hlt
  have q3:decide (zn7 x key<0)=false:=by simp;omega
  clear hc hlt
  go_wp2
  exact ⟨⟨i,(i+j) / 2,hip,by omega,by omega,rfl,by go_num,hF⟩,by simp[intOf];omega⟩
 obtain rfl:i=p:=by omega
 obtain rfl:j=i:=by omega
 by_cases hjn2:j<n
 ·
  obtain ⟨g,off,x,rfl,hgT,hx,hxok,hcells⟩:=h2.at hjn2
  have hi0:(0:Int)≤(j:Int):=by omega
  have hi1:(j:Int)<(n:Int):=by omega
  have x0:=hcells 0 _ rfl
  have x1:=hcells 1 _ rfl
  have x2:=hcells 2 _ rfl
  have x3:=hcells 3 _ rfl
  rw[Nat.add_zero] at x0
  have Hx:=hJ hx
  clear hcells hx h2 hxok
  go_wp2_with fail
  refine (kv_cmp x key _).mono ?_
  rintro e w1 ⟨rfl,hE1⟩
  have hF:=Mod.ext hE hE1
  have hc:=Hlt.out _ _ Hx.out
  have hlt:ltT x.key key=false:=by rw[hc];simp
  have hz:=zqJ hlt
  have hb:eqT x.key key=is:=by
   rw[Bool.eq_iff_iff,His.out]
   exact ⟨fun h=>⟨x,Hx.out,h⟩,fun ⟨y,hy,h⟩=>by rw[Hx.out] at hy;cases hy;exact h⟩
  rw[hb] at hz
  clear hE1 hE x0 x1 x2 x3 hc hlt hb
  go_wp2
  go_ret2
  exact ⟨rfl,hF⟩
 have hb:is=false:=by
  rw[←Bool.not_eq_true,His.out]
  rintro ⟨y,hy,_⟩
  have:=(List.getElem?_eq_some_iff.1 hy).1
  have:=Hn.out
  omega
 subst hb
 go_wp2
 go_ret2
 exact ⟨rfl,hE⟩
set_option maxHeartbeats 4000000
def Own (w:World) (v:Value) (l:List zJ):Prop:=w.ownsRow 0 122 4 v l.length (fl l)∧∀ p∈l,p.ok
theorem Own.prs {w:World} {v:Value} {l:List zJ} (h:Own w v l):Prs w (fun g=>v.ownBlock=some g) v l:=⟨Sl.of_own h.1 (fun _ h=>h),h.2⟩
theorem Own.mod {w w':World} {S:Nat→Prop} {v:Value} {l:List zJ} (h:Own w v l) (hm:Mod S w w') (hS:∀ g,v.ownBlock=some g→¬ S g):Own w' v l:=⟨zN h.1 hm hS,h.2⟩
def zdG (w:World) (v:Value) (l:List zJ) (e:Ending) (w':World):Prop:=
 ∃ v',e=.returned v'∧Own w' v' l∧(∀ g,v'.ownBlock=some g→v.ownBlock=some g∨w.heap.size≤g)∧Mod (fun k=>v.ownBlock=some k) w w'
theorem zqK (w:World) (v:Value) (a b:List zJ) (x:zJ) (vb:Nat) (hn1:(a++b).length≤1000) (hown:w.ownsRow 0 122 4 v (a++b).length (fl (a++b))) (hvb:w.heap[vb]? = some (.cells #[.string x.key,.int .i64 x.val.kind,.float .f64 x.val.num,.string x.val.text] 122 (0,0)))
  (hne:∀ g,v.ownBlock=some g→vb≠g):
  Calls Tryz.prog 413 #[v,.int .i64 a.length,.slice (some ⟨vb,0,none⟩) 1 1] w (zfG w v (a++x :: b)):=by
 rcases b with _|⟨y,b⟩
 · rw[List.append_nil] at hown hn1
   exact ziZ w v a.length a x vb rfl hn1 hown hvb
 have hlen:(a++y :: b).length=a.length+(b.length+1):=by simp
 rcases xJ hown with ⟨_,h⟩|⟨g,cap,cur,rfl,hR,hc,hnc,hcm,ht⟩
 · omega
 have hne':vb≠g:=hne g rfl
 obtain ⟨n,hn⟩:∃ n,(a++y :: b).length=n:=⟨_,rfl⟩
 rw[hn] at hnc ht hn1 hlen ⊢
 have hla:=zdS a
 have hlb:=zdS (y :: b)
 by_cases hroom:n+1≤cap
 · refine zg9 w g n a.length cap cur a (y :: b) x vb (cur.drop (n*4)) rfl (by simp;omega) (by omega) hn1 hR ?_ hc hroom hcm hvb hne'
   rw[←List.append_assoc,←zmC,←ht,List.take_append_drop]
 obtain rfl:cap=n:=by omega
 refine zg8 w g cap a.length cur a (y :: b) x vb rfl (by simp;omega) (by omega) hn1 hR ?_ hvb
 rw[←zmC,←ht,List.take_of_length_le (by omega)]
theorem zcN {w:World} {g j:Nat} {e:TypeId} {cur:List Value} (u:Value) (h:Row w g e cur):Row (w.setCell ⟨g,j,none⟩ u) g e (cur.set j u):=by
 have:=setCell_eq_setRow w g j cur.toArray e (0,0) u h
 rw[this]
 have h2:=Row.set h (cur.set j u)
 simpa using h2
theorem row_set3 {w:World} {g o:Nat} {e:TypeId} {A B:List Value} {k c1 c2 c3:Value} (x1 x2 x3:Value) (h:Row w g e (A++k :: c1 :: c2 :: c3 :: B)) (ho:A.length=o):
  Row (((w.setCell ⟨g,o+1,none⟩ x1).setCell ⟨g,o+2,none⟩ x2).setCell ⟨g,o+3,none⟩ x3) g e (A++k :: x1 :: x2 :: x3 :: B):=by
 have:=zcN (j:=o+3) x3 (zcN (j:=o+2) x2 (zcN (j:=o+1) x1 h))
 subst ho
 simpa [List.set_append] using this
theorem zqL {w:World} {v:Value} {l:List zJ} (h:Own w v l):∃ A c,v=.slice A l.length c∧l.length≤c∧c≤maxLen:=by
 rcases xJ h.1 with ⟨rfl,h0⟩|⟨g,cap,cur,rfl,_,_,h1,h2,_⟩
 · exact ⟨none,0,by rw[h0],by omega,Nat.zero_le _⟩
 exact ⟨_,cap,rfl,h1,h2⟩
theorem zqM {w:World} {v:Value} {l:List zJ} (h:Own w v l) (h0:l≠[]):∃ g cap cur,v=.slice (some ⟨g,0,none⟩) l.length cap∧Row w g 122 cur∧cur.length=cap*4∧l.length≤cap∧cap≤maxLen∧cur=fl l++cur.drop (l.length*4):=by
 rcases xJ h.1 with ⟨_,h1⟩|⟨g,cap,cur,rfl,hR,hc,h1,h2,ht⟩
 · exact absurd (List.eq_nil_of_length_eq_zero h1) h0
 exact ⟨g,cap,cur,rfl,hR,hc,h1,h2,by rw[←ht,List.take_append_drop]⟩
theorem zqN {w w0 w1:World} {v:Value} {l:List zJ} {e:Ending} {w':World} (hE:Ext w w1) (hs:w.heap.size≤w1.heap.size) (hok:∀ p∈l,p.ok) (h:zfG w1 v l e w') (h0:w0=w):zdG w v l e w':=by
 subst h0
 obtain ⟨v',he,ho,hb,hm⟩:=h
 refine ⟨v',he,⟨ho,hok⟩,fun g hg=>?_,(Ext.mod hE _).self hm⟩
 rcases hb g hg with h|h
 · exact .inl h
 exact .inr (by omega)
theorem zk9 (w:World) (v:Value) (l:List zJ) (key:ByteArray) (x:yO) (hO:Own w v l) (a m b:List zJ) (hP:zeN l key a m b) (hl:l.length≤1000) (hk0:(x.kind==0)=true) (hm:m=[]):
  Calls Tryz.prog 355 #[v,.string key,.agg #[.int .i64 x.kind,.float .f64 x.num,.string x.text]] w (zdG w v (a++b)):=by
 subst hm
 have hE:Ext w (w.alloc (.cells #[.int .i64 x.kind,.float .f64 x.num,.string x.text] 25)):=(Mod.refl _ w).alloc _
 have hO2:=hO.mod hE (fun _ _=>id)
 have HP:=hJ hP
 clear hO
 go_enter Tryz.func355,Tryz.ntmps355
 go_wp2_with fail
 refine (zgX _ _ _ l key hO2.prs (by omega) a.length (by rw[hP.eq];simp) hP.lt false hP.is_no).mono ?_
 rintro e w1 ⟨rfl,hE1⟩
 obtain ⟨hc1,hf1⟩:=zaO hE1
 have hz1:=hE1.size
 simp at hz1
 have q1:w.heap.size<w1.heap.size:=by omega
 have hout:Hid (zdG w v (a++b) (.returned v) w1):=hJ ⟨v,rfl,by have:=hO2.mod hE1 (fun _ _=>id);rw[hP.eq] at this;simpa using this,fun g hg=>.inl hg,Ext.mod (hE.ext hE1) _⟩
 clear hE1 hz1 hO2 hP hE
 go_wp2
 go_ret
 exact hout.out
theorem znR (w:World) (v:Value) (l:List zJ) (key:ByteArray) (x:yO) (hO:Own w v l) (a b:List zJ) (y:zJ) (hP:zeN l key a [y] b) (hl:l.length≤1000) (hk0:(x.kind==0)=true):
  Calls Tryz.prog 355 #[v,.string key,.agg #[.int .i64 x.kind,.float .f64 x.num,.string x.text]] w (zdG w v (a++b)):=by
 have hE:Ext w (w.alloc (.cells #[.int .i64 x.kind,.float .f64 x.num,.string x.text] 25)):=(Mod.refl _ w).alloc _
 have hO2:=hO.mod hE (fun _ _=>id)
 have hne:l≠[]:=by rw[hP.eq];simp
 obtain ⟨g,cap,cur,rfl,hR,hc,hnc,hcm,hcur⟩:=zqM hO2 hne
 have HP:=hJ hP
 obtain ⟨mm,hmm⟩:∃ mm,a.length+b.length=mm:=⟨_,rfl⟩
 have hlen:l.length=mm+1:=by rw[hP.eq];simp;omega
 rw[hlen] at hO2 hnc hcur ⊢
 have hcur2:cur=fl a++(y.cells++(fl b++cur.drop ((mm+1)*4))):=by
  conv=>lhs;rw[hcur]
  rw[hP.eq]
  simp[fl]
 have hok:∀ p∈a++b,p.ok:=fun p hp=>hO.2 p (by rw[hP.eq];simp at hp ⊢;rcases hp with h|h;exact .inl h;exact .inr (.inr h))
 clear hO
 go_enter Tryz.func355,Tryz.ntmps355
 go_wp2_with fail
 refine (zgX _ _ _ l key hO2.prs (by omega) a.length (by rw[hP.eq];simp) hP.lt true hP.is_yes).mono ?_
 rintro e w1 ⟨rfl,hE1⟩
 obtain ⟨hc1,hf1⟩:=zaO hE1
 have hz1:=hE1.size
 simp at hz1
 have q1:w.heap.size<w1.heap.size:=by omega
 have hR1:=hR.mod hE1 id
 have HE1:=hJ (hE.ext hE1)
 obtain ⟨HR1,Hcur,Hc,Hok,Hmm⟩:=hJ5 hR1 hcur2 hc hok hmm
 have hal:a.length≤1000:=by omega
 clear hE1 hz1 hO2 hP hE hR hR1 hcur hcur2 hc hok hlen hmm
 go_wp2_with fail
 refine (zqB w1 g a.length mm cap cur a b y _ HR1.out Hc.out hnc hcm rfl (by have:=Hmm.out;omega) (by have:=Hmm.out;omega) Hcur.out).mono ?_
 rintro e w2 ⟨rfl,ho,hm⟩
 have hout:Hid (zdG w (.slice (some ⟨g,0,none⟩) (mm+1) cap) (a++b) (.returned (.slice (some ⟨g,0,none⟩) mm cap)) w2):=Lib.hid
  ⟨_,rfl,⟨by rw[show (a++b).length=mm by rw[List.length_append];exact Hmm.out];exact ho,Hok.out⟩,fun k hk=>.inl hk,(Ext.mod HE1.out _).self (hm.mono (fun k _ e=>by rw[e];rfl))⟩
 clear ho hm
 go_wp2
 go_ret
 exact hout.out
theorem zlA (w:World) (v:Value) (l:List zJ) (key:ByteArray) (x:yO) (hO:Own w v l) (a b:List zJ) (y:zJ) (hP:zeN l key a [y] b) (hl:l.length≤1000) (hk0:(x.kind==0)=false) (hx:x.ok):
  Calls Tryz.prog 355 #[v,.string key,.agg #[.int .i64 x.kind,.float .f64 x.num,.string x.text]] w (zdG w v (a++⟨y.key,x⟩ :: b)):=by
 have hE:Ext w (w.alloc (.cells #[.int .i64 x.kind,.float .f64 x.num,.string x.text] 25)):=(Mod.refl _ w).alloc _
 have hO2:=hO.mod hE (fun _ _=>id)
 have hne:l≠[]:=by rw[hP.eq];simp
 obtain ⟨g,cap,cur,rfl,hR,hc,hnc,hcm,hcur⟩:=zqM hO2 hne
 have hgw:g<w.heap.size:=(hO.1.lt g rfl).2
 have HP:=hJ hP
 have hlen:a.length<l.length:=by rw[hP.eq];simp
 obtain ⟨n,hn⟩:∃ n,l.length=n:=⟨_,rfl⟩
 have hl2:(a++(⟨y.key,x⟩:zJ) :: b).length=n:=by rw[←hn,hP.eq];simp
 have hok:∀ p∈a++(⟨y.key,x⟩:zJ) :: b,p.ok:=fun p hp=>by
  rcases List.mem_append.1 hp with h|h
  · exact hO.2 p (by rw[hP.eq];simp[h])
  rcases List.mem_cons.1 h with rfl|h
  · exact ⟨(hO.2 y (by rw[hP.eq];simp)).1,hx⟩
  exact hO.2 p (by rw[hP.eq];simp[h])
 rw[hn] at hO2 hnc hcur hl hlen ⊢
 obtain ⟨rest,hrest⟩:∃ rest,cur.drop (n*4)=rest:=⟨_,rfl⟩
 rw[hrest] at hcur
 have hcur2:cur=fl a++.string y.key :: .int .i64 y.val.kind :: .float .f64 y.val.num :: .string y.val.text :: (fl b++rest):=by
  rw[hcur,hP.eq]
  simp[fl]
 have hla:=zdS a
 obtain ⟨i,hi⟩:∃ i,a.length=i:=⟨_,rfl⟩
 rw[hi] at hla hlen
 clear hO
 go_enter Tryz.func355,Tryz.ntmps355
 go_wp2_with fail
 refine (zgX _ _ _ l key hO2.prs (by omega) a.length (by rw[hP.eq];simp) hP.lt true hP.is_yes).mono ?_
 rintro e w1 ⟨rfl,hE1⟩
 have bx0:w1.cell? ⟨w.heap.size,0,none⟩=some (.int .i64 x.kind):=hE1.cell (by simp) id
 have bx1:w1.cell? ⟨w.heap.size,1,none⟩=some (.float .f64 x.num):=hE1.cell (by simp) id
 have bx2:w1.cell? ⟨w.heap.size,2,none⟩=some (.string x.text):=hE1.cell (by simp) id
 have hz1:=hE1.size
 simp at hz1
 have q1:w.heap.size<w1.heap.size:=by omega
 rw[hi]
 have hR1:=hR.mod hE1 id
 have hgw1:g<w1.heap.size:=by omega
 have s1:w1.cell? ⟨g,i*4+1,none⟩=some (.int .i64 y.val.kind):=hR1.cell (by rw[hcur2,List.getElem?_append_right (by omega),hla,show i*4+1-i*4=1 by omega];rfl)
 have s2:w1.cell? ⟨g,i*4+1+1,none⟩=some (.float .f64 y.val.num):=hR1.cell (by rw[hcur2,List.getElem?_append_right (by omega),hla,show i*4+1+1-i*4=2 by omega];rfl)
 have s3:w1.cell? ⟨g,i*4+1+2,none⟩=some (.string y.val.text):=hR1.cell (by rw[hcur2,List.getElem?_append_right (by omega),hla,show i*4+1+2-i*4=3 by omega];rfl)
 have f1:w1.frozen? ⟨g,i*4+1,none⟩=false:=hR1.free _
 have f2:w1.frozen? ⟨g,i*4+1+1,none⟩=false:=hR1.free _
 have f3:w1.frozen? ⟨g,i*4+1+2,none⟩=false:=hR1.free _
 have hout:Hid (zdG w (.slice (some ⟨g,0,none⟩) n cap) (a++⟨y.key,x⟩ :: b) (.returned (.slice (some ⟨g,0,none⟩) n cap)) (((w1.setCell ⟨g,i*4+1,none⟩ (.int .i64 x.kind)).setCell ⟨g,i*4+1+1,none⟩ (.float .f64 x.num)).setCell ⟨g,i*4+1+2,none⟩ (.string x.text))):=hJ (by
  rw[hcur2] at hR1
  have hR2:=row_set3 (.int .i64 x.kind) (.float .f64 x.num) (.string x.text) hR1 (show (fl a).length=i*4 by rw[hla])
  refine ⟨_,rfl,⟨?_,hok⟩,fun k hk=>.inl hk,?_⟩
  ·
   rw[hl2]
   refine hR2.own ?_ hnc hcm ?_
   · rw[←hc,hcur2];simp
   have e:fl a++(.string y.key :: .int .i64 x.kind :: .float .f64 x.num :: .string x.text :: (fl b++rest))=fl (a++(⟨y.key,x⟩:zJ) :: b)++rest:=by simp[fl]
   rw[e]
   exact List.take_left' (by rw[zdS,hl2])
  exact zM (zM (zM ((Ext.mod (hE.ext hE1) (fun k=>k=g))) _ _) _ _) _ _ |>.mono (fun k _ e=>by rw[e];rfl))
 have hi0:(0:Int)≤(i:Int):=by omega
 have hi1:(i:Int)<(n:Int):=by omega
 clear hE1 hz1 hO2 hP hE hR hR1 hcur hcur2 hc hok hla hl2 hn hrest hi
 go_wp2
 go_ret
 exact hout.out
theorem zlB (w:World) (v:Value) (l:List zJ) (key:ByteArray) (x:yO) (hO:Own w v l) (a b:List zJ) (hP:zeN l key a [] b) (hl:l.length≤1000) (hk0:(x.kind==0)=false) (h32:32≤l.length):
  Calls Tryz.prog 355 #[v,.string key,.agg #[.int .i64 x.kind,.float .f64 x.num,.string x.text]] w fun e w'=>e=ze5 5 yO.zero∧Ext w w':=by
 have hE:Ext w (w.alloc (.cells #[.int .i64 x.kind,.float .f64 x.num,.string x.text] 25)):=(Mod.refl _ w).alloc _
 have hO2:=hO.mod hE (fun _ _=>id)
 obtain ⟨A,c,rfl,hlc,hcm⟩:=zqL hO2
 clear hO
 go_enter Tryz.func355,Tryz.ntmps355
 go_wp2_with fail
 refine (zgX _ _ _ l key hO2.prs (by omega) a.length (by rw[hP.eq];simp) hP.lt false hP.is_no).mono ?_
 rintro e w1 ⟨rfl,hE1⟩
 obtain ⟨hc1,hf1⟩:=zaO hE1
 have hz1:=hE1.size
 simp at hz1
 have q1:w.heap.size<w1.heap.size:=by omega
 have HE1:=hJ (hE.ext hE1)
 obtain ⟨n,hn⟩:∃ n,l.length=n:=⟨_,rfl⟩
 rw[hn] at h32 ⊢
 have dn:decide ((n:Int) ≥ 32)=true:=by simp;omega
 clear hE1 hz1 hO2 hP hE hn
 go_wp2_with fail
 refine (zfV 5 (by decide) _).mono ?_
 rintro e w2 ⟨rfl,rfl⟩
 exact ⟨rfl,rfl,HE1.out⟩
theorem znS (w:World) (v:Value) (l:List zJ) (key:ByteArray) (x:yO) (hO:Own w v l) (a b:List zJ) (hP:zeN l key a [] b) (hl:l.length≤1000) (hk0:(x.kind==0)=false) (h32:l.length<32) (hk:key.size≤maxLen) (hx:x.ok):
  Calls Tryz.prog 355 #[v,.string key,.agg #[.int .i64 x.kind,.float .f64 x.num,.string x.text]] w (zdG w v (a++⟨key,x⟩ :: b)):=by
 have hE:Ext w (w.alloc (.cells #[.int .i64 x.kind,.float .f64 x.num,.string x.text] 25)):=(Mod.refl _ w).alloc _
 have hO2:=hO.mod hE (fun _ _=>id)
 have hlo:∀ g,v.ownBlock=some g→g<w.heap.size:=fun g hg=>(hO.1.lt g hg).2
 have hok:∀ p∈a++(⟨key,x⟩:zJ) :: b,p.ok:=fun p hp=>by
  rcases List.mem_append.1 hp with h|h
  · exact hO.2 p (by rw[hP.eq];simp[h])
  rcases List.mem_cons.1 h with rfl|h
  · exact ⟨hk,hx⟩
  exact hO.2 p (by rw[hP.eq];simp[h])
 obtain ⟨A,c,rfl,hlc,hcm⟩:=zqL hO2
 have Heq:=hJ hP.eq
 obtain ⟨n,hn⟩:∃ n,l.length=n:=⟨_,rfl⟩
 rw[hn] at hO2 h32 hlo hl hlc ⊢
 clear hO
 go_enter Tryz.func355,Tryz.ntmps355
 go_wp2_with fail
 refine (zgX _ _ _ l key hO2.prs (by omega) a.length (by rw[hP.eq];simp) hP.lt false hP.is_no).mono ?_
 rintro e w1 ⟨rfl,hE1⟩
 obtain ⟨hc1,hf1⟩:=zaO hE1
 have hz1:=hE1.size
 simp at hz1
 have q1:w.heap.size<w1.heap.size:=by omega
 have HE1:=hJ (hE.ext hE1)
 have hO3:=hO2.mod hE1 (fun _ _=>id)
 have hO4:Hid (w1.ownsRow 0 122 4 (.slice A n c) (a++b).length (fl (a++b))):=hJ (by
  have:=hO3.1
  rw[hn] at this
  have e:l=a++b:=Heq.out
  rw[←e,hn]
  exact this)
 have Hlen:Hid ((a++b).length=n):=hJ (by rw[←hn];rw[Heq.out];rfl)
 obtain ⟨Hlo,Hok⟩:=hJ2 hlo hok
 have dn:decide ((n:Int) ≥ 32)=false:=by simp;omega
 clear hE1 hz1 hO2 hO3 hP hE hn hlo hok hk hx
 go_wp2_with fail
 have hEa:Ext w1 (w1.alloc (.cells #[.string key,.int .i64 x.kind,.float .f64 x.num,.string x.text] 122)):=(Mod.refl _ w1).alloc _
 refine (zqK _ _ a b ⟨key,x⟩ w1.heap.size (by have:=Hlen.out;omega) (zN hO4.out hEa (fun _ _=>id)) (heap_alloc_new w1 _) (fun g hg=>by have:=Hlo.out g hg;omega)).mono ?_
 rintro e w2 hI
 have hpo:zdG w (.slice A n c) (a++⟨key,x⟩ :: b) e w2:=zqN (w0:=w) (HE1.out.ext hEa) (by simp;omega) Hok.out hI rfl
 obtain ⟨v',he,rest⟩:=hpo
 subst he
 have hout:Hid (zdG w (.slice A n c) (a++⟨key,x⟩ :: b) (.returned v') w2):=hJ ⟨v',rfl,rest⟩
 clear hI rest hEa
 go_wp2
 go_ret
 exact hout.out
def PutK (w:World) (v:Value) (l:List zJ) (e:Ending) (w':World):Prop:=
 (l.length≤32∧zdG w v l e w')∨(32<l.length∧e=ze5 5 yO.zero∧Ext w w')
theorem zmI (w:World) (v:Value) (l:List zJ) (key:ByteArray) (x:yO) (hO:Own w v l) (hs:Srt l) (hl:l.length≤32) (hk:key.size≤maxLen) (hx:x.ok):
  Calls Tryz.prog 355 #[v,.string key,.agg #[.int .i64 x.kind,.float .f64 x.num,.string x.text]] w (PutK w v (zeR key x (x.kind==0) l)):=by
 obtain ⟨a,m,b,hP,hf,ht⟩:=parts hs key
 have hlen:l.length=a.length+(m.length+b.length):=by conv=>lhs;rw[hP.eq]
                                                     simp
 rcases hk0:(x.kind==0) with _|_
 ·
  rw[hf]
  rcases hP.two with rfl|⟨y,rfl,hy⟩
  ·
   by_cases h32:32≤l.length
   · exact (zlB w v l key x hO a b hP (by omega) hk0 h32).mono fun e w' h=>.inr ⟨by simp at hlen ⊢;omega,h⟩
   exact (znS w v l key x hO a b hP (by omega) hk0 (by omega) hk hx).mono fun e w' h=>.inl ⟨by simp at hlen ⊢;omega,h⟩
  rw[←hy]
  rw[←hy] at hP
  exact (zlA w v l y.key x hO a b y hP (by omega) hk0 hx).mono fun e w' h=>.inl ⟨by simp at hlen ⊢;omega,h⟩
 rw[ht]
 rcases hP.two with rfl|⟨y,rfl,hy⟩
 · exact (zk9 w v l key x hO a [] b hP (by omega) hk0 rfl).mono fun e w' h=>.inl ⟨by simp at hlen ⊢;omega,h⟩
 exact (znR w v l key x hO a b y hP (by omega) hk0).mono fun e w' h=>.inl ⟨by simp at hlen ⊢;omega,h⟩
end Go.Proofs.YtjbkjhhjofeldaaGreat
