/-
 The contract of slices.BinarySearchFunc as sess.Do calls it. Conditions: as each theorem names them.
-/
import Derived.Test.YtjbkjhhjofeldaaGreatG35
set_option maxRecDepth 100000
set_option maxHeartbeats 1000000
namespace Go.Proofs.YtjbkjhhjofeldaaGreat
set_option linter.unusedSimpArgs false
open Go.RowKit
theorem tkK7 {P:Program} {ops:Array Oper} {Q:Exit→Act→World→Prop} {md:Region.Mode} {S:World→Prop} {oi:Oper} {fuel:Nat} {listed:Array Bool} {a:Act} {w:World} (i d:Nat) {v:Value} (hS:S w)
  (h:wpAnyH P md ops Q S fuel (listed.setIfInBounds i true) (a.put (some d) v) w) (hi:ops[i]? = some oi:=by rfl) (hd:oi.dst=some d:=by rfl) (hy:∀ w,S w→(execOp a.eval oi).run P w=.ok (.value v) w:=by rintro W' ⟨_,_,_,_,_,_,_⟩;go_simp;try with_reducible rfl)
  (hs:Region.noSelect ops=true:=by kernel_rfl) (hf:Region.free md ops listed i=true:=by kernel_rfl) (hr:(Region.ready md ops listed).contains i=true:=by kernel_rfl)
  (hw:Region.wanted oi (yielded ops a.tmps)=true:=by kernel_rfl) (hQ:∀ c a w,Q (.panic c) (a.put (some d) v) w→Q (.panic c) a w:=by exact fun _ _ _ h=>h):wpAnyH P md ops Q S (fuel+1) listed a w:=
 tkH i (some d) hi hd v hS hy h hs hf hr hw hQ
theorem tkK9 {P:Program} {ops:Array Oper} {Q:Exit→Act→World→Prop} {md:Region.Mode} {S:World→Prop} {oi:Oper} {fuel:Nat} {listed:Array Bool} {a:Act} {w:World} (i d:Nat) {v:Value} (hS:S w)
  (h:wpAnyH P md ops Q S fuel (listed.setIfInBounds i true) (a.put (some d) v) w) (hi:ops[i]? = some oi:=by rfl) (hd:oi.dst=some d:=by rfl) (hy:∀ w,S w→(execOp a.eval oi).run P w=.ok (.value v) w:=by rintro W' ⟨_,_,_,_,_,_,_,_,_⟩;go_simp;try with_reducible rfl)
  (hs:Region.noSelect ops=true:=by kernel_rfl) (hf:Region.free md ops listed i=true:=by kernel_rfl) (hr:(Region.ready md ops listed).contains i=true:=by kernel_rfl)
  (hw:Region.wanted oi (yielded ops a.tmps)=true:=by kernel_rfl) (hQ:∀ c a w,Q (.panic c) (a.put (some d) v) w→Q (.panic c) a w:=by exact fun _ _ _ h=>h):wpAnyH P md ops Q S (fuel+1) listed a w:=
 tkH i (some d) hi hd v hS hy h hs hf hr hw hQ
theorem tuK {P:Program} {ops:Array Oper} {Q:Exit→Act→World→Prop} {md:Region.Mode} {S:World→Prop} {oi:Oper} {fuel:Nat} {listed:Array Bool} {a:Act} {w:World} (i d:Nat) (hS:S w)
  (h:wpAnyH P md ops Q S fuel (listed.setIfInBounds i true) (a.put (some d) undef) w) (hi:ops[i]? = some oi:=by rfl) (hd:oi.dst=some d:=by rfl)
  (hs:Region.noSelect ops=true:=by kernel_rfl) (hf:Region.free md ops listed i=true:=by kernel_rfl) (hr:(Region.ready md ops listed).contains i=true:=by kernel_rfl)
  (hw:Region.wanted oi (yielded ops a.tmps)=false:=by kernel_rfl) (hQ:∀ c a w,Q (.panic c) (a.put (some d) undef) w→Q (.panic c) a w:=by exact fun _ _ _ h=>h):wpAnyH P md ops Q S (fuel+1) listed a w:=
 tuH i (some d) hi hd hS h hs hf hr hw hQ
theorem s_cmp (x:zR) (key:Int) (hk : -1000≤x.client-key∧x.client-key≤1000) (w:World):
  Calls Tryz.prog 273 #[.agg #[.int .i64 x.client,.int .i64 x.seq,.int .i64 x.reply.code,.int .i64 x.reply.val.kind,.float .f64 x.reply.val.num,.string x.reply.val.text],.int .i64 key] w fun e w'=>e=.returned (.int .i64 (x.client-key))∧Ext w w':=by
 have hz:IntKind.i64.wrap (x.client-key)=x.client-key:=IntWalk.i64_in _ (by omega)
 clear hk
 go_enter Tryz.func273,Tryz.ntmps273
 go_wp2
 go_ret
 exact ⟨rfl,(Mod.refl _ w).alloc _⟩
theorem s_cmp_lt {x:zR} {key:Int} (h:decide (x.client<key)=true):decide (x.client-key<0)=true:=by simp at h ⊢;omega
theorem s_cmp_ge {x:zR} {key:Int} (h:decide (x.client<key)=false):decide (x.client-key<0)=false:=by simp at h ⊢;omega
theorem znO (x:zR) (key:Int):(x.client-key==0)=decide (x.client=key):=by
 rw[Bool.eq_iff_iff];simp;omega
theorem zmE (w:World) (T:Nat→Prop) (v:Value) (l:List zR) (key:Int) (h:Ses w T v l) (hl:l.length≤1000000) (p:Nat) (hp:p≤l.length) (hlt:∀ (k:Nat) x,l[k]? = some x→decide (x.client<key)=decide (k<p))
  (hcl:∀ (k:Nat) x,l[k]? = some x→-1000≤x.client-key∧x.client-key≤1000) (is:Bool) (his:is=true↔∃ x,l[p]? = some x∧x.client=key):
  Calls Tryz.prog 272 #[v,.int .i64 key,.func (Fn.func 273) #[] #[]] w fun e w'=>e=.returned (.tuple #[.int .i64 p,.bool is])∧Ext w w':=by
 obtain ⟨n,hn⟩:∃ n,l.length=n:=⟨_,rfl⟩
 obtain ⟨A,c,rfl⟩:=h.form
 rw[hn] at h hl hp ⊢
 obtain ⟨Hn,Hlt,His⟩:=hJ3 hn hlt his
 clear hn hlt his
 go_enter Tryz.func272,Tryz.ntmps272
 go_wp2
 go_loopw [9,10] (fun iv jv wr=>∃ i j:Nat,i≤p∧p≤j∧j≤n∧iv=.int .i64 i∧jv=.int .i64 j∧Ext w wr) (fun iv jv _=>(intOf jv).toNat-(intOf iv).toNat)
 case atStart=>exact ⟨0,n,by omega,by omega,by omega,rfl,rfl,Mod.refl _ w⟩
 obtain ⟨i,j,hip,hpj,hjn,rfl,rfl,hE⟩:=hrel
 have h2:=h.ext hE
 by_cases hij:i<j
 ·
  have hm2:(i+j) / 2<j:=by omega
  obtain ⟨g,off,x,rfl,hgT,hx,hxok,hcells⟩:=h2.at (show (i+j) / 2<n by omega)
  have x0:=hcells 0 _ rfl
  have x1:=hcells 1 _ rfl
  have x2:=hcells 2 _ rfl
  have x3:=hcells 3 _ rfl
  have x4:=hcells 4 _ rfl
  have x5:=hcells 5 _ rfl
  rw[Nat.add_zero] at x0
  have Hx:=hJ hx
  clear hcells hx h2 hxok
  go_wp2_with fail
  refine (s_cmp x key (hcl _ _ Hx.out) _).mono ?_
  rintro e w1 ⟨rfl,hE1⟩
  have hF:=Mod.ext hE hE1
  have hc:=Hlt.out _ _ Hx.out
  clear hE1 hE x0 x1 x2 x3 x4 x5
  by_cases hmp:(i+j) / 2<p
  ·
   have hlt:decide (x.client<key)=true:=by rw[hc];simpa using hmp
   have q3:=s_cmp_lt hlt
   clear hc hlt
   go_wp2
   exact ⟨⟨(i+j) / 2+1,j,by omega,hpj,hjn,by go_num,rfl,hF⟩,by simp[intOf];omega⟩
  have hlt:decide (x.client<key)=false:=by rw[hc];simpa using hmp
  have q3:=s_cmp_ge hlt
  clear hc hlt
  go_wp2
  exact ⟨⟨i,(i+j) / 2,hip,by omega,by omega,rfl,by go_num,hF⟩,by simp[intOf];omega⟩
 obtain rfl:i=p:=by omega
 obtain rfl:j=i:=by omega
 by_cases hjn2:j<n
 ·
  obtain ⟨g,off,x,rfl,hgT,hx,hxok,hcells⟩:=h2.at hjn2
  have hi0:(0:Int)≤(j:Int):=by omega
  have hi1:(j:Int)<(n:Int):=by omega
  have x0:=hcells 0 _ rfl
  have x1:=hcells 1 _ rfl
  have x2:=hcells 2 _ rfl
  have x3:=hcells 3 _ rfl
  have x4:=hcells 4 _ rfl
  have x5:=hcells 5 _ rfl
  rw[Nat.add_zero] at x0
  have Hx:=hJ hx
  clear hcells hx h2 hxok
  go_wp2_with fail
  refine (s_cmp x key (hcl _ _ Hx.out) _).mono ?_
  rintro e w1 ⟨rfl,hE1⟩
  have hF:=Mod.ext hE hE1
  have hc:=Hlt.out _ _ Hx.out
  have hlt:decide (x.client<key)=false:=by rw[hc];simp
  have hz:=znO x key
  have hb:decide (x.client=key)=is:=by
   rw[Bool.eq_iff_iff,His.out]
   exact ⟨fun h=>⟨x,Hx.out,of_decide_eq_true h⟩,fun ⟨y,hy,h⟩=>by rw[Hx.out] at hy;cases hy;exact decide_eq_true h⟩
  rw[hb] at hz
  clear hE1 hE x0 x1 x2 x3 x4 x5 hc hlt hb
  go_wp2
  go_ret2
  exact ⟨rfl,hF⟩
 have hb:is=false:=by
  rw[←Bool.not_eq_true,His.out]
  rintro ⟨y,hy,_⟩
  have:=(List.getElem?_eq_some_iff.1 hy).1
  have:=Hn.out
  omega
 subst hb
 go_wp2
 go_ret2
 exact ⟨rfl,hE⟩
set_option maxHeartbeats 8000000
def zhC (l:List zR) (i:Nat):Prop:=∀ j x,j<i→l[j]? = some x→zaE x=true∧∀ k p,j=k+1→l[k]? = some p→p.client<x.client
theorem zhC.zero (l:List zR):zhC l 0:=fun j x h=>by omega
theorem zhC.step {l:List zR} {i:Nat} {x:zR} (h:zhC l i) (hx:l[i]? = some x) (h1:zaE x=true) (h2:∀ k p,i=k+1→l[k]? = some p→p.client<x.client):zhC l (i+1):=by
 intro j y hj hy
 by_cases e:j=i
 · subst e;rw[hx] at hy;cases hy;exact ⟨h1,h2⟩
 exact h j y (by omega) hy
theorem zhC.all {l:List zR} (h:zhC l l.length):(∀ p∈l,zaE p=true)∧zdA l=true:=by
 refine ⟨fun p hp=>?_,?_⟩
 · obtain ⟨j,hj⟩:=List.mem_iff_getElem?.1 hp
   exact (h j p (List.getElem?_eq_some_iff.1 hj).1 hj).1
 induction l with
 | nil=>rfl
 | cons a l ih=>
  cases l with
  | nil=>rfl
  | cons b l=>
   rw[zdA,Bool.and_eq_true]
   refine ⟨decide_eq_true ((h 1 b (by simp) rfl).2 0 a rfl rfl),ih fun j x hj hx=>?_⟩
   have:=h (j+1) x (by simp at hj ⊢;omega) (by simpa using hx)
   exact ⟨this.1,fun k p e hp=>this.2 (k+1) p (by omega) (by simpa using hp)⟩
theorem zqD {l:List zR} (h:zhC l l.length):zgM l=true:=by
 unfold zgM
 have:=h.all
 rw[Bool.and_eq_true,List.all_eq_true]
 exact this
theorem zk8 (l:List zR):zdA l=true↔l.Pairwise (fun a b=>a.client<b.client):=by
 induction l with
 | nil=>simp[zdA]
 | cons a l ih=>
  cases l with
  | nil=>simp[zdA]
  | cons b l=>
   rw[zdA,Bool.and_eq_true,ih,List.pairwise_cons (l:=b :: l),decide_eq_true_iff]
   constructor
   ·
    rintro ⟨h1,h2⟩
    refine ⟨fun y hy=>?_,h2⟩
    rcases List.mem_cons.1 hy with rfl|hy
    · exact h1
    exact Int.lt_trans h1 ((List.pairwise_cons.1 h2).1 y hy)
   rintro ⟨h1,h2⟩
   exact ⟨h1 b (by simp),h2⟩
theorem zaH (l:List zR):zgM l=true↔(∀ p∈l,zaE p=true)∧l.Pairwise (fun a b=>a.client<b.client):=by
 unfold zgM
 rw[Bool.and_eq_true,List.all_eq_true,zk8]
theorem zfW {l:List zR} {i:Nat} {x:zR} (hx:l[i]? = some x) (h:zaE x=false):zgM l=false:=by
 rw[←Bool.not_eq_true,zaH]
 rintro ⟨h2,_⟩
 have:=h2 x (List.mem_of_getElem? hx)
 rw[h] at this;cases this
theorem zqE {l:List zR} {k:Nat} {p x:zR} (hp:l[k]? = some p) (hx:l[k+1]? = some x) (h:x.client≤p.client):zgM l=false:=by
 rw[←Bool.not_eq_true,zaH]
 rintro ⟨_,h3⟩
 obtain ⟨h4,rfl⟩:=List.getElem?_eq_some_iff.1 hp
 obtain ⟨h5,rfl⟩:=List.getElem?_eq_some_iff.1 hx
 have:=List.pairwise_iff_getElem.1 h3 k (k+1) h4 h5 (by omega)
 omega
def zfH (m:jK):Int:=if jU m=true then 0 else 6
theorem chkM_yes {p:List zJ} {l:List zR} (hp:xG p=true) (h:zgM l=true):zfH ⟨p,l⟩=0:=by unfold zfH jU;rw[hp,h];rfl
theorem zgV {p:List zJ} {l:List zR} (h:zgM l=false):zfH ⟨p,l⟩=6:=by unfold zfH jU;rw[h];simp
theorem chkM_no1 {p:List zJ} {l:List zR} (h:xG p=false):zfH ⟨p,l⟩=6:=by unfold zfH jU;rw[h];simp
theorem chkP_iff (p:List zJ):(znL p != 0) = !xG p:=by unfold znL;cases xG p <;> rfl
theorem ze6 (w:World) (T U:Nat→Prop) (pv v:Value) (p:List zJ) (l:List zR) (hP:Prs w U pv p) (h:Ses w T v l):
  Calls Tryz.prog 245 #[.agg #[pv,v]] w fun e w'=>e=.returned (.int .i64 (zfH ⟨p,l⟩))∧Ext w w':=by
 obtain ⟨n,hn⟩:∃ n,l.length=n:=⟨_,rfl⟩
 obtain ⟨A,c,rfl⟩:=h.form
 have hl:=h.1.le
 unfold maxLen at hl
 rw[hn] at h hl ⊢
 have Hn:=hJ hn
 clear hn
 obtain ⟨W0,hW0⟩:∃ W0,W0=w.alloc (.cells #[pv,.slice A n c] 41):=⟨_,rfl⟩
 have hE0:Ext w W0:=by rw[hW0];exact (Mod.refl _ w).alloc _
 have m0:W0.cell? ⟨w.heap.size,0,none⟩=some pv:=by rw[hW0,cell_of_row _ _ _ _ _ _ (heap_alloc_new w _)];rfl
 have m1:W0.cell? ⟨w.heap.size,1,none⟩=some (.slice A n c):=by rw[hW0,cell_of_row _ _ _ _ _ _ (heap_alloc_new w _)];rfl
 have HW0:=hJ hW0
 clear hW0
 go_enter Tryz.func245,Tryz.ntmps245
 go_wp2_with fail
 rw[←HW0.out]
 refine (zfU W0 U pv p (hP.ext hE0)).mono ?_
 rintro e w1 ⟨rfl,hE1⟩
 have q0:=hE1.cell m0 id
 have q1:=hE1.cell m1 id
 have hF1:Ext w w1:=Mod.ext hE0 hE1
 clear m0 m1 hE1 hE0
 have hpn:=chkP_iff p
 rcases hp:xG p with _|_
 ·
  have Hf:Hid (zfH ⟨p,l⟩=6):=hJ (chkM_no1 hp)
  rw[hp,Bool.not_false] at hpn
  go_wp2
  go_ret
  exact ⟨yG Hf.out.symm,hF1⟩
 rw[hp,Bool.not_true] at hpn
 have Hpp:=hJ hp
 clear hp
 go_wp2
 go_loopw [12] (fun iv wr=>∃ i:Nat,i≤n∧iv=.int .i64 i∧Ext w1 wr∧zhC l i) (fun iv _=>n-(intOf iv).toNat)
 case atStart=>exact ⟨0,by omega,rfl,Mod.refl _ w1,zhC.zero l⟩
 obtain ⟨i,hin,rfl,hE,hg⟩:=hrel
 have Hg:=hJ hg
 have h2:=h.ext (Mod.ext hF1 hE)
 clear hg
 by_cases hi:i<n
 ·
  obtain ⟨g,off,x,rfl,hgT,hx,hxok,hcells⟩:=h2.at hi
  have hi0:(0:Int)≤(i:Int):=by omega
  have hi1:(i:Int)<(n:Int):=by omega
  have x0:=hcells 0 _ rfl
  have x1:=hcells 1 _ rfl
  have x2:=hcells 2 _ rfl
  have x3:=hcells 3 _ rfl
  have x4:=hcells 4 _ rfl
  have x5:=hcells 5 _ rfl
  rw[Nat.add_zero] at x0
  obtain ⟨Hx,H2⟩:=hJ2 hx h2
  clear hcells hx h2 hxok
  obtain ⟨W,hW⟩:∃ W,W=wr.alloc (.cells #[.int .i64 x.client,.int .i64 x.seq,.int .i64 x.reply.code,.int .i64 x.reply.val.kind,.float .f64 x.reply.val.num,.string x.reply.val.text] 125):=⟨_,rfl⟩
  have hEW:Ext wr W:=by rw[hW];exact (Mod.refl _ wr).alloc _
  have hF:Ext w1 W:=Mod.ext hE hEW
  have hcs:∀ j u,x.cells[j]? = some u→W.cell? ⟨wr.heap.size,j,none⟩=some u:=by
   intro j u hu
   rw[hW,cell_of_row _ _ _ _ _ _ (heap_alloc_new wr _)]
   simpa using hu
  have b0:=hcs 0 _ rfl
  have b1:=hcs 1 _ rfl
  have b2:=hcs 2 _ rfl
  have b3:=hcs 3 _ rfl
  have b4:=hcs 4 _ rfl
  have b5:=hcs 5 _ rfl
  have hq:=hF.cell q1 id
  have HW:=hJ hW
  clear hW hcs
  go_wp2_with fail
  rw[←HW.out]
  clear x0 x1 x2 x3 x4 x5
  rcases hr:zeX x.client x.seq with _|_
  ·
   have Hf:Hid (zfH ⟨p,l⟩=6):=hJ (zgV (zfW Hx.out (by unfold zaE;rw[hr];rfl)))
   refine wp_region_held_drew (S:=(fun W'=>Ext w1 W'∧W'.cell? ⟨wr.heap.size,0,none⟩=some (.int .i64 x.client)∧W'.cell? ⟨wr.heap.size,1,none⟩=some (.int .i64 x.seq)∧W'.cell? ⟨wr.heap.size,2,none⟩=some (.int .i64 x.reply.code)∧W'.cell? ⟨wr.heap.size,3,none⟩=some (.int .i64 x.reply.val.kind)∧W'.cell? ⟨wr.heap.size,4,none⟩=some (.float .f64 x.reply.val.num)∧W'.cell? ⟨wr.heap.size,5,none⟩=some (.string x.reply.val.text))) (by kernel_rfl) ⟨hF.drew,b0,b1,b2,b3,b4,b5⟩ (fun hS=>?_)
   refine tkK7 0 17 hS ?_
   simp only[pL]
   refine tkK7 1 18 hS ?_
   simp only[pL]
   refine tkK7 2 19 hS ?_
   simp only[pL]
   refine tkK7 3 20 hS ?_
   simp only[pL]
   refine zaJ 4 rfl (fun K hK=>?_)
   go_simp
   go_wp2_with fail
   refine (zcG x.client x.seq _).mono ?_
   rintro e w1' ⟨rfl,rfl⟩
   rw[hr]
   have hX:=hS
   go_simp
   refine hK.out _ _ hX (fun hS=>?_)
   clear hK K
   refine tkK7 5 22 hS ?_
   simp only[pL]
   refine tkK7 6 23 hS ?_
   simp only[pL]
   refine tuK 7 24 hS ?_
   simp only[pL]
   refine tuK 8 25 hS ?_
   simp only[pL]
   refine tuK 9 26 hS ?_
   simp only[pL]
   refine tuK 10 27 hS ?_
   simp only[pL]
   refine tkK7 11 28 hS ?_
   simp only[pL]
   refine tkK7 12 29 hS ?_
   simp only[pL]
   refine tuK 13 30 hS ?_
   simp only[pL]
   refine tuK 14 31 hS ?_
   simp only[pL]
   refine tuK 15 32 hS ?_
   simp only[pL]
   refine tuK 16 33 hS ?_
   simp only[pL]
   refine tkK7 17 34 hS ?_
   simp only[pL]
   refine tkK7 18 35 hS ?_
   simp only[pL]
   refine tuK 19 36 hS ?_
   simp only[pL]
   refine tuK 20 37 hS ?_
   simp only[pL]
   refine tuK 21 38 hS ?_
   simp only[pL]
   refine tuK 22 39 hS ?_
   simp only[pL]
   refine tuK 23 40 hS ?_
   simp only[pL]
   refine tkK7 24 41 hS ?_
   simp only[pL]
   refine tkK7 25 42 hS ?_
   simp only[pL]
   refine tuK 26 43 hS ?_
   simp only[pL]
   refine tuK 27 44 hS ?_
   simp only[pL]
   refine tuK 28 45 hS ?_
   simp only[pL]
   refine tuK 29 46 hS ?_
   simp only[pL]
   refine tuK 30 47 hS ?_
   simp only[pL]
   refine tuK 31 48 hS ?_
   simp only[pL]
   refine tuK 32 49 hS ?_
   simp only[pL]
   refine tuK 33 50 hS ?_
   simp only[pL]
   refine tuK 34 51 hS ?_
   simp only[pL]
   refine tuK 35 52 hS ?_
   simp only[pL]
   refine tuK 36 53 hS ?_
   simp only[pL]
   refine tuK 37 54 hS ?_
   simp only[pL]
   refine tuK 38 55 hS ?_
   simp only[pL]
   refine tuK 39 56 hS ?_
   simp only[pL]
   refine tkK7 40 57 hS ?_
   simp only[pL]
   refine wpAnyH_done (by kernel_rfl) ?_ _
   go_wp2
   go_ret
   exact ⟨yG Hf.out.symm,Mod.ext hF1 hS.1⟩
  by_cases hk:x.reply.code<0
  case pos=>
   have hk':decide (x.reply.code<0)=true:=decide_eq_true hk
   have Hf:Hid (zfH ⟨p,l⟩=6):=hJ (zgV (zfW Hx.out (by unfold zaE;rw[show decide (0≤x.reply.code)=false from decide_eq_false (by omega)];simp)))
   clear hk
   refine wp_region_held_drew (S:=(fun W'=>Ext w1 W'∧W'.cell? ⟨wr.heap.size,0,none⟩=some (.int .i64 x.client)∧W'.cell? ⟨wr.heap.size,1,none⟩=some (.int .i64 x.seq)∧W'.cell? ⟨wr.heap.size,2,none⟩=some (.int .i64 x.reply.code)∧W'.cell? ⟨wr.heap.size,3,none⟩=some (.int .i64 x.reply.val.kind)∧W'.cell? ⟨wr.heap.size,4,none⟩=some (.float .f64 x.reply.val.num)∧W'.cell? ⟨wr.heap.size,5,none⟩=some (.string x.reply.val.text))) (by kernel_rfl) ⟨hF.drew,b0,b1,b2,b3,b4,b5⟩ (fun hS=>?_)
   refine tkK7 0 17 hS ?_
   simp only[pL]
   refine tkK7 1 18 hS ?_
   simp only[pL]
   refine tkK7 2 19 hS ?_
   simp only[pL]
   refine tkK7 3 20 hS ?_
   simp only[pL]
   refine zaJ 4 rfl (fun K hK=>?_)
   go_simp
   go_wp2_with fail
   refine (zcG x.client x.seq _).mono ?_
   rintro e w1' ⟨rfl,rfl⟩
   rw[hr]
   have hX:=hS
   go_simp
   refine hK.out _ _ hX (fun hS=>?_)
   clear hK K
   refine tkK7 5 22 hS ?_
   simp only[pL]
   refine tkK7 6 23 hS ?_
   simp only[pL]
   refine tkK7 7 24 hS ?_
   simp only[pL]
   refine tkK7 8 25 hS ?_
   simp only[pL]
   refine tkK7 9 26 hS ?_
   simp only[pL]
   refine tkK7 10 27 hS ?_
   simp only[pL]
   refine tkK7 11 28 hS ?_
   simp only[pL]
   refine tkK7 12 29 hS ?_
   simp only[pL]
   refine tuK 13 30 hS ?_
   simp only[pL]
   refine tuK 14 31 hS ?_
   simp only[pL]
   refine tuK 15 32 hS ?_
   simp only[pL]
   refine tuK 16 33 hS ?_
   simp only[pL]
   refine tkK7 17 34 hS ?_
   simp only[pL]
   refine tkK7 18 35 hS ?_
   simp only[pL]
   refine tuK 19 36 hS ?_
   simp only[pL]
   refine tuK 20 37 hS ?_
   simp only[pL]
   refine tuK 21 38 hS ?_
   simp only[pL]
   refine tuK 22 39 hS ?_
   simp only[pL]
   refine tuK 23 40 hS ?_
   simp only[pL]
   refine tkK7 24 41 hS ?_
   simp only[pL]
   refine tkK7 25 42 hS ?_
   simp only[pL]
   refine tuK 26 43 hS ?_
   simp only[pL]
   refine tuK 27 44 hS ?_
   simp only[pL]
   refine tuK 28 45 hS ?_
   simp only[pL]
   refine tuK 29 46 hS ?_
   simp only[pL]
   refine tuK 30 47 hS ?_
   simp only[pL]
   refine tuK 31 48 hS ?_
   simp only[pL]
   refine tuK 32 49 hS ?_
   simp only[pL]
   refine tuK 33 50 hS ?_
   simp only[pL]
   refine tuK 34 51 hS ?_
   simp only[pL]
   refine tuK 35 52 hS ?_
   simp only[pL]
   refine tuK 36 53 hS ?_
   simp only[pL]
   refine tuK 37 54 hS ?_
   simp only[pL]
   refine tuK 38 55 hS ?_
   simp only[pL]
   refine tuK 39 56 hS ?_
   simp only[pL]
   refine tkK7 40 57 hS ?_
   simp only[pL]
   refine wpAnyH_done (by kernel_rfl) ?_ _
   go_wp2
   go_ret
   exact ⟨yG Hf.out.symm,Mod.ext hF1 hS.1⟩
  have hk':decide (x.reply.code<0)=false:=decide_eq_false hk
  by_cases hm:16<x.reply.code
  case pos=>
   have hm':decide (16<x.reply.code)=true:=decide_eq_true hm
   have Hf:Hid (zfH ⟨p,l⟩=6):=hJ (zgV (zfW Hx.out (by unfold zaE;rw[show decide (x.reply.code≤16)=false from decide_eq_false (by omega)];simp)))
   clear hk hm
   refine wp_region_held_drew (S:=(fun W'=>Ext w1 W'∧W'.cell? ⟨wr.heap.size,0,none⟩=some (.int .i64 x.client)∧W'.cell? ⟨wr.heap.size,1,none⟩=some (.int .i64 x.seq)∧W'.cell? ⟨wr.heap.size,2,none⟩=some (.int .i64 x.reply.code)∧W'.cell? ⟨wr.heap.size,3,none⟩=some (.int .i64 x.reply.val.kind)∧W'.cell? ⟨wr.heap.size,4,none⟩=some (.float .f64 x.reply.val.num)∧W'.cell? ⟨wr.heap.size,5,none⟩=some (.string x.reply.val.text))) (by kernel_rfl) ⟨hF.drew,b0,b1,b2,b3,b4,b5⟩ (fun hS=>?_)
   refine tkK7 0 17 hS ?_
   simp only[pL]
   refine tkK7 1 18 hS ?_
   simp only[pL]
   refine tkK7 2 19 hS ?_
   simp only[pL]
   refine tkK7 3 20 hS ?_
   simp only[pL]
   refine zaJ 4 rfl (fun K hK=>?_)
   go_simp
   go_wp2_with fail
   refine (zcG x.client x.seq _).mono ?_
   rintro e w1' ⟨rfl,rfl⟩
   rw[hr]
   have hX:=hS
   go_simp
   refine hK.out _ _ hX (fun hS=>?_)
   clear hK K
   refine tkK7 5 22 hS ?_
   simp only[pL]
   refine tkK7 6 23 hS ?_
   simp only[pL]
   refine tkK7 7 24 hS ?_
   simp only[pL]
   refine tkK7 8 25 hS ?_
   simp only[pL]
   refine tkK7 9 26 hS ?_
   simp only[pL]
   refine tkK7 10 27 hS ?_
   simp only[pL]
   refine tkK7 11 28 hS ?_
   simp only[pL]
   refine tkK7 12 29 hS ?_
   simp only[pL]
   refine tkK7 13 30 hS ?_
   simp only[pL]
   refine tkK7 14 31 hS ?_
   simp only[pL]
   refine tkK7 15 32 hS ?_
   simp only[pL]
   refine tkK7 16 33 hS ?_
   simp only[pL]
   refine tkK7 17 34 hS ?_
   simp only[pL]
   refine tkK7 18 35 hS ?_
   simp only[pL]
   refine tuK 19 36 hS ?_
   simp only[pL]
   refine tuK 20 37 hS ?_
   simp only[pL]
   refine tuK 21 38 hS ?_
   simp only[pL]
   refine tuK 22 39 hS ?_
   simp only[pL]
   refine tuK 23 40 hS ?_
   simp only[pL]
   refine tkK7 24 41 hS ?_
   simp only[pL]
   refine tkK7 25 42 hS ?_
   simp only[pL]
   refine tuK 26 43 hS ?_
   simp only[pL]
   refine tuK 27 44 hS ?_
   simp only[pL]
   refine tuK 28 45 hS ?_
   simp only[pL]
   refine tuK 29 46 hS ?_
   simp only[pL]
   refine tuK 30 47 hS ?_
   simp only[pL]
   refine tuK 31 48 hS ?_
   simp only[pL]
   refine tuK 32 49 hS ?_
   simp only[pL]
   refine tuK 33 50 hS ?_
   simp only[pL]
   refine tuK 34 51 hS ?_
   simp only[pL]
   refine tuK 35 52 hS ?_
   simp only[pL]
   refine tuK 36 53 hS ?_
   simp only[pL]
   refine tuK 37 54 hS ?_
   simp only[pL]
   refine tuK 38 55 hS ?_
   simp only[pL]
   refine tuK 39 56 hS ?_
   simp only[pL]
   refine tkK7 40 57 hS ?_
   simp only[pL]
   refine wpAnyH_done (by kernel_rfl) ?_ _
   go_wp2
   go_ret
   exact ⟨yG Hf.out.symm,Mod.ext hF1 hS.1⟩
  have hm':decide (16<x.reply.code)=false:=decide_eq_false hm
  by_cases hc:chk x.reply.val=0
  case neg=>
   have hc':(chk x.reply.val != 0)=true:=by simpa using hc
   have Hf:Hid (zfH ⟨p,l⟩=6):=hJ (zgV (zfW Hx.out (by unfold zaE;rw[show (chk x.reply.val==0)=false from by simpa using hc];simp)))
   clear hc hk hm
   refine wp_region_held_drew (S:=(fun W'=>Ext w1 W'∧W'.cell? ⟨wr.heap.size,0,none⟩=some (.int .i64 x.client)∧W'.cell? ⟨wr.heap.size,1,none⟩=some (.int .i64 x.seq)∧W'.cell? ⟨wr.heap.size,2,none⟩=some (.int .i64 x.reply.code)∧W'.cell? ⟨wr.heap.size,3,none⟩=some (.int .i64 x.reply.val.kind)∧W'.cell? ⟨wr.heap.size,4,none⟩=some (.float .f64 x.reply.val.num)∧W'.cell? ⟨wr.heap.size,5,none⟩=some (.string x.reply.val.text))) (by kernel_rfl) ⟨hF.drew,b0,b1,b2,b3,b4,b5⟩ (fun hS=>?_)
   refine tkK7 0 17 hS ?_
   simp only[pL]
   refine tkK7 1 18 hS ?_
   simp only[pL]
   refine tkK7 2 19 hS ?_
   simp only[pL]
   refine tkK7 3 20 hS ?_
   simp only[pL]
   refine zaJ 4 rfl (fun K hK=>?_)
   go_simp
   go_wp2_with fail
   refine (zcG x.client x.seq _).mono ?_
   rintro e w1' ⟨rfl,rfl⟩
   rw[hr]
   have hX:=hS
   go_simp
   refine hK.out _ _ hX (fun hS=>?_)
   clear hK K
   refine tkK7 5 22 hS ?_
   simp only[pL]
   refine tkK7 6 23 hS ?_
   simp only[pL]
   refine tkK7 7 24 hS ?_
   simp only[pL]
   refine tkK7 8 25 hS ?_
   simp only[pL]
   refine tkK7 9 26 hS ?_
   simp only[pL]
   refine tkK7 10 27 hS ?_
   simp only[pL]
   refine tkK7 11 28 hS ?_
   simp only[pL]
   refine tkK7 12 29 hS ?_
   simp only[pL]
   refine tkK7 13 30 hS ?_
   simp only[pL]
   refine tkK7 14 31 hS ?_
   simp only[pL]
   refine tkK7 15 32 hS ?_
   simp only[pL]
   refine tkK7 16 33 hS ?_
   simp only[pL]
   refine tkK7 17 34 hS ?_
   simp only[pL]
   refine tkK7 18 35 hS ?_
   simp only[pL]
   refine tkK7 19 36 hS ?_
   simp only[pL]
   refine tkK7 20 37 hS ?_
   simp only[pL]
   refine tkK7 21 38 hS ?_
   simp only[pL]
   refine zaJ 22 rfl (fun K hK=>?_)
   go_simp
   go_wp2_with fail
   refine (xW x.reply.val _).mono ?_
   rintro e w1' ⟨rfl,hE1⟩
   have hX:=(⟨Mod.ext hS.1 hE1,hE1.cell hS.2.1 id,hE1.cell hS.2.2.1 id,hE1.cell hS.2.2.2.1 id,hE1.cell hS.2.2.2.2.1 id,hE1.cell hS.2.2.2.2.2.1 id,hE1.cell hS.2.2.2.2.2.2 id⟩:Ext w1 w1'∧_∧_∧_∧_∧_∧_)
   go_simp
   refine hK.out _ _ hX (fun hS=>?_)
   clear hK K
   refine tkK7 23 40 hS ?_
   simp only[pL]
   refine tkK7 24 41 hS ?_
   simp only[pL]
   refine tkK7 25 42 hS ?_
   simp only[pL]
   refine tuK 26 43 hS ?_
   simp only[pL]
   refine tuK 27 44 hS ?_
   simp only[pL]
   refine tuK 28 45 hS ?_
   simp only[pL]
   refine tuK 29 46 hS ?_
   simp only[pL]
   refine tuK 30 47 hS ?_
   simp only[pL]
   refine tuK 31 48 hS ?_
   simp only[pL]
   refine tuK 32 49 hS ?_
   simp only[pL]
   refine tuK 33 50 hS ?_
   simp only[pL]
   refine tuK 34 51 hS ?_
   simp only[pL]
   refine tuK 35 52 hS ?_
   simp only[pL]
   refine tuK 36 53 hS ?_
   simp only[pL]
   refine tuK 37 54 hS ?_
   simp only[pL]
   refine tuK 38 55 hS ?_
   simp only[pL]
   refine tuK 39 56 hS ?_
   simp only[pL]
   refine tkK7 40 57 hS ?_
   simp only[pL]
   refine wpAnyH_done (by kernel_rfl) ?_ _
   go_wp2
   go_ret
   exact ⟨yG Hf.out.symm,Mod.ext hF1 hS.1⟩
  have hc':(chk x.reply.val != 0)=false:=by simpa using hc
  have Hok:Hid (zaE x=true):=hJ (by unfold zaE;rw[hr,hc,show decide (0≤x.reply.code)=true from decide_eq_true (by omega),show decide (x.reply.code≤16)=true from decide_eq_true (by omega)];rfl)
  clear hc hk hm
  rcases i with _|k
  ·
   have Hst:=hJ (Hg.out.step Hx.out Hok.out (fun k p e=>by omega))
   have z0:decide ((0:Int)<((0:Nat):Int))=false:=by simp
   refine wp_region_held_drew (S:=(fun W'=>Ext w1 W'∧W'.cell? ⟨wr.heap.size,0,none⟩=some (.int .i64 x.client)∧W'.cell? ⟨wr.heap.size,1,none⟩=some (.int .i64 x.seq)∧W'.cell? ⟨wr.heap.size,2,none⟩=some (.int .i64 x.reply.code)∧W'.cell? ⟨wr.heap.size,3,none⟩=some (.int .i64 x.reply.val.kind)∧W'.cell? ⟨wr.heap.size,4,none⟩=some (.float .f64 x.reply.val.num)∧W'.cell? ⟨wr.heap.size,5,none⟩=some (.string x.reply.val.text))) (by kernel_rfl) ⟨hF.drew,b0,b1,b2,b3,b4,b5⟩ (fun hS=>?_)
   refine tkK7 0 17 hS ?_
   simp only[pL]
   refine tkK7 1 18 hS ?_
   simp only[pL]
   refine tkK7 2 19 hS ?_
   simp only[pL]
   refine tkK7 3 20 hS ?_
   simp only[pL]
   refine zaJ 4 rfl (fun K hK=>?_)
   go_simp
   go_wp2_with fail
   refine (zcG x.client x.seq _).mono ?_
   rintro e w1' ⟨rfl,rfl⟩
   rw[hr]
   have hX:=hS
   go_simp
   refine hK.out _ _ hX (fun hS=>?_)
   clear hK K
   refine tkK7 5 22 hS ?_
   simp only[pL]
   refine tkK7 6 23 hS ?_
   simp only[pL]
   refine tkK7 7 24 hS ?_
   simp only[pL]
   refine tkK7 8 25 hS ?_
   simp only[pL]
   refine tkK7 9 26 hS ?_
   simp only[pL]
   refine tkK7 10 27 hS ?_
   simp only[pL]
   refine tkK7 11 28 hS ?_
   simp only[pL]
   refine tkK7 12 29 hS ?_
   simp only[pL]
   refine tkK7 13 30 hS ?_
   simp only[pL]
   refine tkK7 14 31 hS ?_
   simp only[pL]
   refine tkK7 15 32 hS ?_
   simp only[pL]
   refine tkK7 16 33 hS ?_
   simp only[pL]
   refine tkK7 17 34 hS ?_
   simp only[pL]
   refine tkK7 18 35 hS ?_
   simp only[pL]
   refine tkK7 19 36 hS ?_
   simp only[pL]
   refine tkK7 20 37 hS ?_
   simp only[pL]
   refine tkK7 21 38 hS ?_
   simp only[pL]
   refine zaJ 22 rfl (fun K hK=>?_)
   go_simp
   go_wp2_with fail
   refine (xW x.reply.val _).mono ?_
   rintro e w1' ⟨rfl,hE1⟩
   have hX:=(⟨Mod.ext hS.1 hE1,hE1.cell hS.2.1 id,hE1.cell hS.2.2.1 id,hE1.cell hS.2.2.2.1 id,hE1.cell hS.2.2.2.2.1 id,hE1.cell hS.2.2.2.2.2.1 id,hE1.cell hS.2.2.2.2.2.2 id⟩:Ext w1 w1'∧_∧_∧_∧_∧_∧_)
   go_simp
   refine hK.out _ _ hX (fun hS=>?_)
   clear hK K
   refine tkK7 23 40 hS ?_
   simp only[pL]
   refine tkK7 24 41 hS ?_
   simp only[pL]
   refine tkK7 25 42 hS ?_
   simp only[pL]
   refine tkK7 26 43 hS ?_
   simp only[pL]
   refine tkK7 27 44 hS ?_
   simp only[pL]
   refine tkK7 28 45 hS ?_
   simp only[pL]
   refine tuK 29 46 hS ?_
   simp only[pL]
   refine tuK 30 47 hS ?_
   simp only[pL]
   refine tuK 31 48 hS ?_
   simp only[pL]
   refine tuK 32 49 hS ?_
   simp only[pL]
   refine tuK 33 50 hS ?_
   simp only[pL]
   refine tuK 34 51 hS ?_
   simp only[pL]
   refine tuK 35 52 hS ?_
   simp only[pL]
   refine tuK 36 53 hS ?_
   simp only[pL]
   refine tuK 37 54 hS ?_
   simp only[pL]
   refine tuK 38 55 hS ?_
   simp only[pL]
   refine tkK7 39 56 hS ?_
   simp only[pL]
   refine tkK7 40 57 hS ?_
   simp only[pL]
   refine wpAnyH_done (by kernel_rfl) ?_ _
   go_wp2
   exact ⟨⟨0+1,by omega,by go_num,hS.1,Hst.out⟩,by simp[intOf];omega⟩
  obtain ⟨g',off',p',hA,_,hp,_,hcells⟩:=H2.out.at (i:=k) (by omega)
  injection hA with hA;injection hA with hA1 hA2;subst hA1;subst hA2
  have p0:=hEW.cell (hcells 0 _ rfl) id
  rw[Nat.add_zero] at p0
  have z0:decide ((0:Int)<((k+1:Nat):Int))=true:=by simp
  have z1:((k+1:Nat):Int)-1=(k:Int):=by omega
  have z2:(0:Int)≤(k:Int):=by omega
  have z3:(k:Int)<(n:Int):=by omega
  have z4:IntKind.i64.wrap (k:Int)=(k:Int):=IntWalk.i64_in _ (by omega)
  have Hp:=hJ hp
  have Hrel:Hid (k+1≤n∧k+1<n):=hJ ⟨by omega,by omega⟩
  clear hcells hp
  by_cases hlt:x.client≤p'.client
  ·
   have Hf:Hid (zfH ⟨p,l⟩=6):=hJ (zgV (zqE Hp.out Hx.out hlt))
   have hbl:decide (x.client≤p'.client)=true:=decide_eq_true hlt
   clear hlt
   refine wp_region_held_drew (S:=(fun W'=>Ext w1 W'∧W'.cell? ⟨wr.heap.size,0,none⟩=some (.int .i64 x.client)∧W'.cell? ⟨wr.heap.size,1,none⟩=some (.int .i64 x.seq)∧W'.cell? ⟨wr.heap.size,2,none⟩=some (.int .i64 x.reply.code)∧W'.cell? ⟨wr.heap.size,3,none⟩=some (.int .i64 x.reply.val.kind)∧W'.cell? ⟨wr.heap.size,4,none⟩=some (.float .f64 x.reply.val.num)∧W'.cell? ⟨wr.heap.size,5,none⟩=some (.string x.reply.val.text)∧W'.cell? ⟨w.heap.size,1,none⟩=some (.slice (some ⟨g,off,none⟩) n c)∧W'.cell? ⟨g,off+k*6,none⟩=some (.int .i64 p'.client))) (by kernel_rfl) ⟨hF.drew,b0,b1,b2,b3,b4,b5,hq,p0⟩ (fun hS=>?_)
   refine tkK9 0 17 hS ?_
   simp only[pL]
   refine tkK9 1 18 hS ?_
   simp only[pL]
   refine tkK9 2 19 hS ?_
   simp only[pL]
   refine tkK9 3 20 hS ?_
   simp only[pL]
   refine zaJ 4 rfl (fun K hK=>?_)
   go_simp
   go_wp2_with fail
   refine (zcG x.client x.seq _).mono ?_
   rintro e w1' ⟨rfl,rfl⟩
   rw[hr]
   have hX:=hS
   go_simp
   refine hK.out _ _ hX (fun hS=>?_)
   clear hK K
   refine tkK9 5 22 hS ?_
   simp only[pL]
   refine tkK9 6 23 hS ?_
   simp only[pL]
   refine tkK9 7 24 hS ?_
   simp only[pL]
   refine tkK9 8 25 hS ?_
   simp only[pL]
   refine tkK9 9 26 hS ?_
   simp only[pL]
   refine tkK9 10 27 hS ?_
   simp only[pL]
   refine tkK9 11 28 hS ?_
   simp only[pL]
   refine tkK9 12 29 hS ?_
   simp only[pL]
   refine tkK9 13 30 hS ?_
   simp only[pL]
   refine tkK9 14 31 hS ?_
   simp only[pL]
   refine tkK9 15 32 hS ?_
   simp only[pL]
   refine tkK9 16 33 hS ?_
   simp only[pL]
   refine tkK9 17 34 hS ?_
   simp only[pL]
   refine tkK9 18 35 hS ?_
   simp only[pL]
   refine tkK9 19 36 hS ?_
   simp only[pL]
   refine tkK9 20 37 hS ?_
   simp only[pL]
   refine tkK9 21 38 hS ?_
   simp only[pL]
   refine zaJ 22 rfl (fun K hK=>?_)
   go_simp
   go_wp2_with fail
   refine (xW x.reply.val _).mono ?_
   rintro e w1' ⟨rfl,hE1⟩
   have hX:=(⟨Mod.ext hS.1 hE1,hE1.cell hS.2.1 id,hE1.cell hS.2.2.1 id,hE1.cell hS.2.2.2.1 id,hE1.cell hS.2.2.2.2.1 id,hE1.cell hS.2.2.2.2.2.1 id,hE1.cell hS.2.2.2.2.2.2.1 id,hE1.cell hS.2.2.2.2.2.2.2.1 id,hE1.cell hS.2.2.2.2.2.2.2.2 id⟩:Ext w1 w1'∧_∧_∧_∧_∧_∧_∧_∧_)
   go_simp
   refine hK.out _ _ hX (fun hS=>?_)
   clear hK K
   refine tkK9 23 40 hS ?_
   simp only[pL]
   refine tkK9 24 41 hS ?_
   simp only[pL]
   refine tkK9 25 42 hS ?_
   simp only[pL]
   refine tkK9 26 43 hS ?_
   simp only[pL]
   refine tkK9 27 44 hS ?_
   simp only[pL]
   refine tkK9 28 45 hS ?_
   simp only[pL]
   refine tkK9 29 46 hS ?_
   simp only[pL]
   refine tkK9 30 47 hS ?_
   simp only[pL]
   refine tkK9 31 48 hS ?_
   simp only[pL]
   refine tkK9 32 49 hS ?_
   simp only[pL]
   refine tkK9 33 50 hS ?_
   simp only[pL]
   refine tkK9 34 51 hS ?_
   simp only[pL]
   refine tkK9 35 52 hS ?_
   simp only[pL]
   refine tkK9 36 53 hS ?_
   simp only[pL]
   refine tkK9 37 54 hS ?_
   simp only[pL]
   refine tkK9 38 55 hS ?_
   simp only[pL]
   refine tkK9 39 56 hS ?_
   simp only[pL]
   refine tkK9 40 57 hS ?_
   simp only[pL]
   refine wpAnyH_done (by kernel_rfl) ?_ _
   go_wp2
   go_ret
   exact ⟨yG Hf.out.symm,Mod.ext hF1 hS.1⟩
  have Hst:=hJ (Hg.out.step Hx.out Hok.out (fun k' p'' e hp'=>by
   obtain rfl:k=k':=by omega
   rw[Hp.out] at hp';cases hp';omega))
  have hbl:decide (x.client≤p'.client)=false:=decide_eq_false hlt
  clear hlt
  refine wp_region_held_drew (S:=(fun W'=>Ext w1 W'∧W'.cell? ⟨wr.heap.size,0,none⟩=some (.int .i64 x.client)∧W'.cell? ⟨wr.heap.size,1,none⟩=some (.int .i64 x.seq)∧W'.cell? ⟨wr.heap.size,2,none⟩=some (.int .i64 x.reply.code)∧W'.cell? ⟨wr.heap.size,3,none⟩=some (.int .i64 x.reply.val.kind)∧W'.cell? ⟨wr.heap.size,4,none⟩=some (.float .f64 x.reply.val.num)∧W'.cell? ⟨wr.heap.size,5,none⟩=some (.string x.reply.val.text)∧W'.cell? ⟨w.heap.size,1,none⟩=some (.slice (some ⟨g,off,none⟩) n c)∧W'.cell? ⟨g,off+k*6,none⟩=some (.int .i64 p'.client))) (by kernel_rfl) ⟨hF.drew,b0,b1,b2,b3,b4,b5,hq,p0⟩ (fun hS=>?_)
  refine tkK9 0 17 hS ?_
  simp only[pL]
  refine tkK9 1 18 hS ?_
  simp only[pL]
  refine tkK9 2 19 hS ?_
  simp only[pL]
  refine tkK9 3 20 hS ?_
  simp only[pL]
  refine zaJ 4 rfl (fun K hK=>?_)
  go_simp
  go_wp2_with fail
  refine (zcG x.client x.seq _).mono ?_
  rintro e w1' ⟨rfl,rfl⟩
  rw[hr]
  have hX:=hS
  go_simp
  refine hK.out _ _ hX (fun hS=>?_)
  clear hK K
  refine tkK9 5 22 hS ?_
  simp only[pL]
  refine tkK9 6 23 hS ?_
  simp only[pL]
  refine tkK9 7 24 hS ?_
  simp only[pL]
  refine tkK9 8 25 hS ?_
  simp only[pL]
  refine tkK9 9 26 hS ?_
  simp only[pL]
  refine tkK9 10 27 hS ?_
  simp only[pL]
  refine tkK9 11 28 hS ?_
  simp only[pL]
  refine tkK9 12 29 hS ?_
  simp only[pL]
  refine tkK9 13 30 hS ?_
  simp only[pL]
  refine tkK9 14 31 hS ?_
  simp only[pL]
  refine tkK9 15 32 hS ?_
  simp only[pL]
  refine tkK9 16 33 hS ?_
  simp only[pL]
  refine tkK9 17 34 hS ?_
  simp only[pL]
  refine tkK9 18 35 hS ?_
  simp only[pL]
  refine tkK9 19 36 hS ?_
  simp only[pL]
  refine tkK9 20 37 hS ?_
  simp only[pL]
  refine tkK9 21 38 hS ?_
  simp only[pL]
  refine zaJ 22 rfl (fun K hK=>?_)
  go_simp
  go_wp2_with fail
  refine (xW x.reply.val _).mono ?_
  rintro e w1' ⟨rfl,hE1⟩
  have hX:=(⟨Mod.ext hS.1 hE1,hE1.cell hS.2.1 id,hE1.cell hS.2.2.1 id,hE1.cell hS.2.2.2.1 id,hE1.cell hS.2.2.2.2.1 id,hE1.cell hS.2.2.2.2.2.1 id,hE1.cell hS.2.2.2.2.2.2.1 id,hE1.cell hS.2.2.2.2.2.2.2.1 id,hE1.cell hS.2.2.2.2.2.2.2.2 id⟩:Ext w1 w1'∧_∧_∧_∧_∧_∧_∧_∧_)
  go_simp
  refine hK.out _ _ hX (fun hS=>?_)
  clear hK K
  refine tkK9 23 40 hS ?_
  simp only[pL]
  refine tkK9 24 41 hS ?_
  simp only[pL]
  refine tkK9 25 42 hS ?_
  simp only[pL]
  refine tkK9 26 43 hS ?_
  simp only[pL]
  refine tkK9 27 44 hS ?_
  simp only[pL]
  refine tkK9 28 45 hS ?_
  simp only[pL]
  refine tkK9 29 46 hS ?_
  simp only[pL]
  refine tkK9 30 47 hS ?_
  simp only[pL]
  refine tkK9 31 48 hS ?_
  simp only[pL]
  refine tkK9 32 49 hS ?_
  simp only[pL]
  refine tkK9 33 50 hS ?_
  simp only[pL]
  refine tkK9 34 51 hS ?_
  simp only[pL]
  refine tkK9 35 52 hS ?_
  simp only[pL]
  refine tkK9 36 53 hS ?_
  simp only[pL]
  refine tkK9 37 54 hS ?_
  simp only[pL]
  refine tkK9 38 55 hS ?_
  simp only[pL]
  refine tkK9 39 56 hS ?_
  simp only[pL]
  refine tkK9 40 57 hS ?_
  simp only[pL]
  refine wpAnyH_done (by kernel_rfl) ?_ _
  go_wp2
  clear z4
  exact ⟨⟨k+1+1,by have:=Hrel.out;omega,by go_num,hS.1,Hst.out⟩,by have:=Hrel.out;simp[intOf];omega⟩
 have Hf:Hid (zfH ⟨p,l⟩=0):=hJ (chkM_yes Hpp.out (zqD (by rw[Hn.out,show n=i from by omega];exact Hg.out)))
 go_wp2
 go_ret
 exact ⟨yG Hf.out.symm,Mod.ext hF1 hE⟩
theorem znP (w:World) (v:Value) (a b:List zR) (x:zR) (vb:Nat) (hl:(a++b).length≤1000) (hown:w.ownsRow 0 125 6 v (a++b).length (flS (a++b)))
  (hvb:w.heap[vb]? = some (.cells #[.int .i64 x.client,.int .i64 x.seq,.int .i64 x.reply.code,.int .i64 x.reply.val.kind,.float .f64 x.reply.val.num,.string x.reply.val.text] 125 (0,0))) (hne:v.ownBlock≠some vb):
  Calls Tryz.prog 274 #[v,.int .i64 a.length,.slice (some ⟨vb,0,none⟩) 1 1] w (zd2 w v (a++x :: b)):=by
 rcases hb:b with _|⟨y,b'⟩
 ·
  subst hb
  rw[List.append_nil] at hown hl
  exact zhA w v _ a x vb rfl hl hown hvb
 rw[←hb]
 have hb0:0<b.length:=by rw[hb];simp
 rw[List.length_append] at hl
 rcases xJ hown with ⟨_,h1⟩|⟨g,cap,cur,rfl,hR,hc,h1,h2,ht⟩
 · rw[List.length_append] at h1;omega
 rw[List.length_append] at h1 ht ⊢
 have hgv:vb≠g:=fun e=>hne (by rw[e];rfl)
 rw[zqC] at ht
 by_cases hcap:cap=a.length+b.length
 ·
  subst hcap
  refine zgT w g _ _ cur a b x vb rfl (by omega) (by omega) hl hR ?_ hvb
  rw[←ht,←hc,List.take_length]
 refine zgU w g _ _ cap cur a b x vb (cur.drop ((a.length+b.length)*6)) rfl (by omega) (by omega) hl hR ?_ hc (by omega) h2 hvb hgv
 rw[←List.append_assoc,←ht,List.take_append_drop]
def zn6 (l:List zR):Prop:=l.Pairwise (fun a b=>a.client<b.client)
theorem zqF (x:zR) (l:List zR):zhQ x true l=l.filter (fun s=>decide (s.client≠x.client)):=by
 induction l with
 | nil=>rfl
 | cons s l ih=>
  rw[zhQ,if_neg (by simp),ih,List.filter_cons]
  by_cases h:s.client=x.client
  · rw[if_pos h,if_neg (by simp[h])]
  rw[if_neg h,if_pos (by simp[h])]
theorem zj7 {x:zR} {l:List zR} (h:∀ s∈l,x.client<s.client):zhQ x true l=l:=by
 rw[zqF,List.filter_eq_self]
 intro s hs
 have:=h s hs
 simp;omega
theorem zmF (x:zR) (a b:List zR) (ha:∀ s∈a,s.client<x.client) (hb:∀ s∈b,x.client<s.client):zhQ x false (a++b)=a++x :: b:=by
 induction a with
 | nil=>
  cases b with
  | nil=>rfl
  | cons s b=>
   have h1:=hb s (by simp)
   rw[List.nil_append,zhQ,if_pos ⟨rfl,by omega⟩,if_neg (by omega),zj7 (fun t ht=>hb t (by simp[ht]))]
   rfl
 | cons s a ih=>
  have h1:=ha s (by simp)
  rw[List.cons_append,zhQ,if_neg (by omega),if_neg (by omega),ih (fun t ht=>ha t (by simp[ht]))]
  rfl
theorem zmG (x y:zR) (a b:List zR) (hy:y.client=x.client) (ha:∀ s∈a,s.client<x.client) (hb:∀ s∈b,x.client<s.client):zhQ x false (a++y :: b)=a++x :: b:=by
 induction a with
 | nil=>rw[List.nil_append,zhQ,if_pos ⟨rfl,by omega⟩,if_pos hy,zj7 hb];rfl
 | cons s a ih=>
  have h1:=ha s (by simp)
  rw[List.cons_append,zhQ,if_neg (by omega),if_neg (by omega),ih (fun t ht=>ha t (by simp[ht]))]
  rfl
theorem splitS {l:List zR} (h:zn6 l) (k:Int):∃ a b,l=a++b∧(∀ s∈a,s.client<k)∧((∀ s∈b,k<s.client)∨∃ y b',b=y :: b'∧y.client=k∧∀ s∈b',k<s.client):=by
 induction l with
 | nil=>exact ⟨[],[],rfl,by simp,.inl (by simp)⟩
 | cons s l ih=>
  obtain ⟨h1,h2⟩:=List.pairwise_cons.1 h
  by_cases hs:s.client<k
  ·
   obtain ⟨a,b,rfl,h3,h4⟩:=ih h2
   refine ⟨s :: a,b,rfl,fun t ht=>?_,h4⟩
   rcases List.mem_cons.1 ht with rfl|ht
   · exact hs
   exact h3 t ht
  refine ⟨[],s :: l,rfl,by simp,?_⟩
  by_cases he:s.client=k
  · exact .inr ⟨s,l,rfl,he,fun t ht=>by have:=h1 t ht;omega⟩
  refine .inl fun t ht=>?_
  rcases List.mem_cons.1 ht with rfl|ht
  · omega
  have:=h1 t ht;omega
end Go.Proofs.YtjbkjhhjofeldaaGreat
