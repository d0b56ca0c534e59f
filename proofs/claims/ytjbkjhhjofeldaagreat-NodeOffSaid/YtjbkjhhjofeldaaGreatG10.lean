/-
 Two lists, element by element. No program is named here. Conditions: none.
-/
import Derived.StillTailTactics
import Derived.Test.YtjbkjhhjofeldaaGreatG9
namespace Go.Proofs.YtjbkjhhjofeldaaGreat
def eqL {α:Type} (p:α→α→Bool):List α→List α→Bool
 | [],[]=>true
 | a :: l,b :: m=>p a b&&eqL p l m
 | _,_=>false
theorem zgD {α:Type} (p:α→α→Bool) (l:List α):∀ m:List α,eqL p l m=true↔l.length=m.length∧∀ (i:Nat) (x y:α),l[i]? = some x→m[i]? = some y→p x y=true:=by
 induction l with
 | nil=>intro m;cases m <;> simp[eqL]
 | cons a l ih=>
  intro m
  cases m with
  | nil=>simp[eqL]
  | cons b m=>
   simp only[eqL,Bool.and_eq_true,ih,List.length_cons,Nat.add_right_cancel_iff]
   constructor
   ·
    rintro ⟨h,h1,h2⟩
    refine ⟨h1,fun i x y hx hy=>?_⟩
    cases i with
    | zero=>simp at hx hy;subst hx;subst hy;exact h
    | succ i=>exact h2 i x y (by simpa using hx) (by simpa using hy)
   rintro ⟨h1,h2⟩
   exact ⟨h2 0 a b rfl rfl,h1,fun i x y hx hy=>h2 (i+1) x y (by simpa using hx) (by simpa using hy)⟩
theorem zl2 {α:Type} {p:α→α→Bool} {l m:List α} {i:Nat} {x y:α} (h:∀ j<i,∀ x y,l[j]? = some x→m[j]? = some y→p x y=true) (hx:l[i]? = some x) (hy:m[i]? = some y) (e:p x y=true):
  ∀ j<i+1,∀ x y,l[j]? = some x→m[j]? = some y→p x y=true:=by
 intro j hj a b ha hb
 by_cases hji:j=i
 · subst hji;rw[hx] at ha;rw[hy] at hb;cases ha;cases hb;exact e
 exact h j (by omega) a b ha hb
theorem zjO {α:Type} {p:α→α→Bool} {l m:List α} {i:Nat} {x y:α} (hx:l[i]? = some x) (hy:m[i]? = some y) (e:p x y=false):eqL p l m=false:=by
 rw[←Bool.not_eq_true,zgD];rintro ⟨_,h⟩;have:=h i x y hx hy;rw[e] at this;cases this
theorem zoZ {α:Type} {p:α→α→Bool} {l m:List α} (e:l.length≠m.length):eqL p l m=false:=by
 rw[←Bool.not_eq_true,zgD];exact fun h=>e h.1
theorem zo0 {α:Type} {p:α→α→Bool} {l m:List α} {n:Nat} (h:∀ j<n,∀ x y,l[j]? = some x→m[j]? = some y→p x y=true) (e:l.length=n) (e':m.length=n):eqL p l m=true:=by
 rw[zgD]
 exact ⟨by omega,fun i x y hx hy=>h i (by have:=(List.getElem?_eq_some_iff.1 hx).1;omega) x y hx hy⟩
open Go.RowKit
set_option maxRecDepth 100000
set_option maxHeartbeats 400000
def zdK (c:jV):Bool:=decide (2000<c.key.size)||decide (2000<c.old.text.size)||decide (2000<c.val.text.size)
theorem hv_cmd (c:jV) (w:World):Calls Tryz.prog 8 #[.agg #[.int .i64 c.kind,.string c.key,.int .i64 c.old.kind,.float .f64 c.old.num,.string c.old.text,.int .i64 c.val.kind,.float .f64 c.val.num,.string c.val.text]] w fun e w'=>e=.returned (.bool (zdK c))∧Ext w w':=by
 have e1:decide ((2000:Int)<(c.key.size:Int))=decide (2000<c.key.size):=by rw[decide_eq_decide];omega
 have e2:decide ((2000:Int)<(c.old.text.size:Int))=decide (2000<c.old.text.size):=by rw[decide_eq_decide];omega
 have e3:decide ((2000:Int)<(c.val.text.size:Int))=decide (2000<c.val.text.size):=by rw[decide_eq_decide];omega
 have hE:Ext w (w.alloc (.cells #[.int .i64 c.kind,.string c.key,.int .i64 c.old.kind,.float .f64 c.old.num,.string c.old.text,.int .i64 c.val.kind,.float .f64 c.val.num,.string c.val.text] 27)):=(Mod.refl _ w).alloc _
 rcases h1:decide (2000<c.key.size) with _|_
 ·
  rcases h2:decide (2000<c.old.text.size) with _|_
  ·
   rw[h1] at e1;rw[h2] at e2
   go_enter Tryz.func8,Tryz.ntmps8
   go_wp2
   go_ret
   exact ⟨yC (by simp only[zdK,h1,h2,Bool.false_or]),hE⟩
  rw[h1] at e1;rw[h2] at e2
  go_enter Tryz.func8,Tryz.ntmps8
  go_wp2
  go_ret
  exact ⟨yC (by simp only[zdK,h2,Bool.or_true,Bool.true_or]),hE⟩
 rw[h1] at e1
 go_enter Tryz.func8,Tryz.ntmps8
 go_wp2
 go_ret
 exact ⟨yC (by simp only[zdK,h1,Bool.true_or]),hE⟩
set_option linter.unusedSimpArgs false
set_option maxHeartbeats 2000000
theorem row_cons (term t:Int) (x:zO) (l:List zO):zdX term t (x :: l)=(decide (t≤x.term)&&decide (x.term≤term)&&jQ x&&zdX term x.term l):=rfl
theorem zjP (w:World) (T:Nat→Prop) (v:Value) (l:List zO) (b term:Int) (h:zoU w T v l) (hl:l.length≤1000000):
  Calls Tryz.prog 191 #[v,.int .i64 b,.int .i64 term] w fun e w'=>e=.returned (.bool (zdX term (max b 1) l))∧Ext w w':=by
 obtain ⟨n,hn⟩:∃ n,l.length=n:=⟨_,rfl⟩
 obtain ⟨A,c,rfl⟩:=h.1.form
 rw[hn] at h hl ⊢
 obtain ⟨r,hr⟩:∃ r,zdX term (max b 1) l=r:=⟨_,rfl⟩
 rw[hr]
 obtain ⟨Hn,H,Hr⟩:=hJ3 hn h hr
 clear hn h hr
 by_cases hb:b<1
 focus
  have hm:max b 1=1:=by omega
 rotate_left
 focus
  have hm:max b 1=b:=by omega
 all_goals
  rw[hm] at Hr
  clear hm
  go_enter Tryz.func191,Tryz.ntmps191
  go_wp2_with fail
  go_loopw [7,14] (fun tv iv wr=>∃ (i:Nat) (t:Int),i≤n∧iv=.int .i64 i∧tv=.int .i64 t∧zdX term t (l.drop i)=r∧Ext w wr) (fun _ iv _=>n-(intOf iv).toNat)
  case atStart=>exact ⟨0,_,by omega,rfl,rfl,by simpa using Hr.out,Mod.refl _ _⟩
  obtain ⟨i,t,hin,rfl,rfl,hrow,hX⟩:=hrel
  have HX:=hJ hX
  by_cases hi:i<n
  case neg=>
   have e:i=n:=by omega
   subst e
   have Hf:Hid (r=true):=hJ (by rw[←hrow,List.drop_of_length_le (by rw[Hn.out];exact Nat.le_refl _)];rfl)
   clear hrow hX
   go_wp2
   go_ret
   exact ⟨by rw[Hf.out];rfl,HX.out⟩
  obtain ⟨g,off,x,rfl,hgT,hx,hxok,hcells⟩:=(H.out.mod hX (fun _ _=>id)).at hi
  have hd:l.drop i=x :: l.drop (i+1):=by
   obtain ⟨h1,h2⟩:=List.getElem?_eq_some_iff.1 hx
   rw[List.drop_eq_getElem_cons h1,h2]
  rw[hd,row_cons] at hrow
  have hld:=jE (P:=Tryz.prog) (o:=off+i*16) (cs:=x.cells) yR rfl hcells
  have i0:(0:Int)≤(i:Int):=by omega
  have i1:(i:Int)<(n:Int):=by omega
  have hz:(wr.alloc (.cells zE.toArray 100)).heap[wr.heap.size]? = some (.cells zE.toArray 100 (0,0)):=heap_alloc_new wr _
  have Hrow:=hJ hrow
  clear hx hxok hcells hgT hd hrow hX
  go_wp2_with (first|(refine yT rfl 100 _ rfl _ _ rfl hld ?_)|(refine qH rfl 100 _ _ rfl 16 wr.heap.size 0 x.cells rfl rfl yR _ zE x.cells hz rfl (by simp) (by simpa using zeA [x]) rfl ?_))
  intro w2 hb2 hm2 hs2
  have hE2:Ext wr w2:=((Mod.refl _ wr).alloc _).trans hm2 (fun k hk e=>by omega)
  have HX2:=hJ (HX.out.ext hE2)
  have hcs:∀ j u,x.cells[j]? = some u→w2.cell? ⟨wr.heap.size,j,none⟩=some u:=fun j u hu=>zA hb2 hu
  have hld2:=ld0 (P:=Tryz.prog) (cs:=x.cells) yR hb2
  have x0:=hcs 0 _ rfl
  have Hcs:=hJ hcs
  clear hz hld hm2 hs2 hb2 hE2 hcs
  by_cases h1:x.term<t
  ·
   have Hf:Hid (r=false):=hJ (by rw[←Hrow.out,decide_eq_false (by omega)];rfl)
   go_wp2
   go_ret
   exact ⟨by rw[Hf.out];rfl,HX2.out⟩
  by_cases h2:term<x.term
  ·
   have Hf:Hid (r=false):=hJ (by rw[←Hrow.out,decide_eq_false (show ¬ x.term≤term by omega),Bool.and_false];rfl)
   go_wp2
   go_ret
   exact ⟨by rw[Hf.out];rfl,HX2.out⟩
  go_wp2_with (refine xR (by rfl) 100 _ rfl _ _ rfl hld2 ?_)
  refine (l_entry x w2).mono ?_
  rintro e w3 ⟨rfl,hE3⟩
  have y0:w3.cell? ⟨wr.heap.size,0,none⟩=some (.int .i64 x.term):=hE3.cell (Hcs.out 0 _ rfl) id
  have HX3:=hJ (HX2.out.ext hE3)
  clear hE3 hld2 x0
  rcases hb:jQ x with _|_
  ·
   have Hf:Hid (r=false):=hJ (by rw[←Hrow.out,hb,Bool.and_false];rfl)
   go_wp2
   go_ret
   exact ⟨by rw[Hf.out];rfl,HX3.out⟩
  have Hs:Hid (zdX term x.term (l.drop (i+1))=r):=hJ (by rw[←Hrow.out,hb,decide_eq_true (show t≤x.term by omega),decide_eq_true (show x.term≤term by omega)];rfl)
  go_wp2
  exact ⟨⟨i+1,_,by omega,by go_num,rfl,Hs.out,HX3.out⟩,by simp[intOf];omega⟩
set_option maxHeartbeats 4000000
theorem xI {h:zX} (p:¬ Right h):xX h=false:=by
 rcases hc:xX h with _|_
 · rfl
 exact absurd ((jM h).1 hc) p
theorem xP.forms {w:World} {T:Nat→Prop} {sv lv:Value} {h:zX} (hv:xP w T sv lv h):∃ As cs Al cl,sv=.slice As h.snap.length cs∧lv=.slice Al h.log.length cl:=by
 obtain ⟨As,cs,h1⟩:=hv.1.form
 obtain ⟨Al,cl,h2⟩:=hv.2.1.form
 exact ⟨As,cs,Al,cl,h1,h2⟩
theorem zdY (w:World) (T:Nat→Prop) (h:zX) (sv lv:Value) (hv:xP w T sv lv h) (hl:h.log.length≤1000000):
  Calls Tryz.prog 118 #[.agg #[.int .i64 h.term,.int .i64 h.vote,.int .i64 h.base,.int .i64 h.baseTerm,.int .i64 h.conf.full,.int .i64 h.conf.wit,.int .i64 h.conf.learn,.int .i64 h.conf.learnWit,sv,lv]] w fun e w'=>e=.returned (.int .i64 (if xX h then 0 else 6))∧Ext w w':=by
 obtain ⟨As,cs,Al,cl,rfl,rfl⟩:=hv.forms
 obtain ⟨n,hn⟩:∃ n,h.snap.length=n:=⟨_,rfl⟩
 obtain ⟨m,hm⟩:∃ m,h.log.length=m:=⟨_,rfl⟩
 have hnl:=hv.1.le
 unfold maxLen at hnl
 rw[hn] at hnl
 have Hv:=hJ hv
 clear hv
 rw[hn,hm] at Hv ⊢
 rw[hm] at hl
 obtain ⟨Hn,Hm⟩:=hJ2 hn hm
 clear hn hm
 obtain ⟨wb,hwb⟩:∃ wb,w.alloc (.cells (h.cells (.slice As n cs) (.slice Al m cl)).toArray 61)=wb:=⟨_,rfl⟩
 have hE:Ext w wb:=by rw[←hwb];exact (Mod.refl _ w).alloc _
 have hcs:∀ w1,Ext wb w1→∀ j u,(h.cells (.slice As n cs) (.slice Al m cl))[j]? = some u→w1.cell? ⟨w.heap.size,j,none⟩=some u:=by
  intro w1 hm j u hu
  refine hm.cell ?_ id
  rw[←hwb,cell_of_row _ _ _ _ _ _ (heap_alloc_new w _)]
  simpa using hu
 have HE0:Hid (Ext w (w.alloc (.cells (h.cells (.slice As n cs) (.slice Al m cl)).toArray 61))):=hJ ((Mod.refl _ w).alloc _)
 obtain ⟨Hwb,Hcs,HE⟩:=hJ3 hwb hcs hE
 clear hwb hcs hE
 obtain ⟨q,hq⟩:∃ q:Int,(if xX h=true then 0 else 6)=q:=⟨_,rfl⟩
 rw[hq]
 have HQ:=hJ hq
 clear hq
 by_cases h1:h.term<0
 ·
  have Hf:Hid (xX h=false):=hJ (xI (fun r=>by have:=r.t0;omega))
  go_enter Tryz.func118,Tryz.ntmps118
  go_wp2
  go_ret
  exact ⟨by rw[←HQ.out,Hf.out];rfl,HE0.out⟩
 by_cases h2:1099511627776<h.term
 ·
  have Hf:Hid (xX h=false):=hJ (xI (fun r=>by have:=r.t1;omega))
  go_enter Tryz.func118,Tryz.ntmps118
  go_wp2
  go_ret
  exact ⟨by rw[←HQ.out,Hf.out];rfl,HE0.out⟩
 by_cases h3:h.vote < -1
 ·
  have Hf:Hid (xX h=false):=hJ (xI (fun r=>by have:=r.v0;omega))
  go_enter Tryz.func118,Tryz.ntmps118
  go_wp2
  go_ret
  exact ⟨by rw[←HQ.out,Hf.out];rfl,HE0.out⟩
 by_cases h4:7≤h.vote
 ·
  have Hf:Hid (xX h=false):=hJ (xI (fun r=>by have:=r.v1;omega))
  go_enter Tryz.func118,Tryz.ntmps118
  go_wp2
  go_ret
  exact ⟨by rw[←HQ.out,Hf.out];rfl,HE0.out⟩
 by_cases h5:h.base<0
 ·
  have Hf:Hid (xX h=false):=hJ (xI (fun r=>by have:=r.b0;omega))
  go_enter Tryz.func118,Tryz.ntmps118
  go_wp2
  go_ret
  exact ⟨by rw[←HQ.out,Hf.out];rfl,HE0.out⟩
 by_cases h6:1099511627776<h.base
 ·
  have Hf:Hid (xX h=false):=hJ (xI (fun r=>by have:=r.b1;omega))
  go_enter Tryz.func118,Tryz.ntmps118
  go_wp2
  go_ret
  exact ⟨by rw[←HQ.out,Hf.out];rfl,HE0.out⟩
 by_cases h7:h.baseTerm<0
 ·
  have Hf:Hid (xX h=false):=hJ (xI (fun r=>by have:=r.bt0;omega))
  go_enter Tryz.func118,Tryz.ntmps118
  go_wp2
  go_ret
  exact ⟨by rw[←HQ.out,Hf.out];rfl,HE0.out⟩
 by_cases h8:h.term<h.baseTerm
 ·
  have Hf:Hid (xX h=false):=hJ (xI (fun r=>by have:=r.bt1;omega))
  go_enter Tryz.func118,Tryz.ntmps118
  go_wp2
  go_ret
  exact ⟨by rw[←HQ.out,Hf.out];rfl,HE0.out⟩
 rcases e1:(h.baseTerm==0) with _|_ <;> rcases e2:(h.base==0) with _|_
 ·
  go_enter Tryz.func118,Tryz.ntmps118
  go_wp2_with fail
  rw[Hwb.out]
  refine (zkQ h.conf _).mono ?_
  rintro e w1 ⟨rfl,hE1⟩
  have y0:=(Hcs.out w1 hE1) 0 _ rfl
  have y1:=(Hcs.out w1 hE1) 1 _ rfl
  have y2:=(Hcs.out w1 hE1) 2 _ rfl
  have y3:=(Hcs.out w1 hE1) 3 _ rfl
  have y4:=(Hcs.out w1 hE1) 4 _ rfl
  have y5:=(Hcs.out w1 hE1) 5 _ rfl
  have y6:=(Hcs.out w1 hE1) 6 _ rfl
  have y7:=(Hcs.out w1 hE1) 7 _ rfl
  have y8:=(Hcs.out w1 hE1) 8 _ rfl
  have y9:=(Hcs.out w1 hE1) 9 _ rfl
  have Hv1:=hJ (Hv.out.mod (HE.out.ext hE1) (fun _ _=>id))
  have HE1:=hJ (HE.out.ext hE1)
  clear hE1
  rcases hc:zb2 h.conf with _|_
  ·
   rw[if_neg (by simp)]
   have Hf:Hid (xX h=false):=hJ (xI (fun r=>by have:=r.c;rw[hc] at this;cases this))
   go_wp2
   go_ret
   exact ⟨by rw[←HQ.out,Hf.out];rfl,HE1.out⟩
  rw[if_pos rfl]
  by_cases h9:16384<n
  ·
   have d9:decide ((16384:Int)<(n:Int))=true:=decide_eq_true (by omega)
   have Hf:Hid (xX h=false):=hJ (xI (fun r=>by have:=r.s;rw[Hn.out] at this;omega))
   clear h9
   go_wp2
   go_ret
   exact ⟨by rw[←HQ.out,Hf.out];rfl,HE1.out⟩
  have d9:decide ((16384:Int)<(n:Int))=false:=decide_eq_false (by omega)
  go_wp2_with fail
  refine (zjP w1 T _ h.log h.baseTerm h.term Hv1.out.2 (by rw[Hm.out];omega)).mono ?_
  rintro e w2 ⟨rfl,hE2⟩
  have HE2:=hJ (HE1.out.ext hE2)
  clear hE2
  rcases hr:zdX h.term (max h.baseTerm 1) h.log with _|_
  ·
   have Hf:Hid (xX h=false):=hJ (xI (fun r=>by have:=r.r;rw[hr] at this;cases this))
   go_wp2
   go_ret
   exact ⟨by rw[←HQ.out,Hf.out];rfl,HE2.out⟩
  have Hf:Hid (xX h=true):=hJ ((jM h).2 ⟨by omega,by omega,by omega,by omega,by omega,by omega,by omega,by omega,by rw[e1,e2],hc,by rw[Hn.out];omega,.inl (by simpa using e2),hr⟩)
  go_wp2
  go_ret
  exact ⟨by rw[←HQ.out,Hf.out];rfl,HE2.out⟩
 ·
  have Hf:Hid (xX h=false):=hJ (xI (fun r=>by have:=r.bb;rw[e1,e2] at this;cases this))
  go_enter Tryz.func118,Tryz.ntmps118
  go_wp2
  go_ret
  exact ⟨by rw[←HQ.out,Hf.out];rfl,HE0.out⟩
 ·
  have Hf:Hid (xX h=false):=hJ (xI (fun r=>by have:=r.bb;rw[e1,e2] at this;cases this))
  go_enter Tryz.func118,Tryz.ntmps118
  go_wp2
  go_ret
  exact ⟨by rw[←HQ.out,Hf.out];rfl,HE0.out⟩
 go_enter Tryz.func118,Tryz.ntmps118
 go_wp2_with fail
 rw[Hwb.out]
 refine (zkQ h.conf _).mono ?_
 rintro e w1 ⟨rfl,hE1⟩
 have y0:=(Hcs.out w1 hE1) 0 _ rfl
 have y1:=(Hcs.out w1 hE1) 1 _ rfl
 have y2:=(Hcs.out w1 hE1) 2 _ rfl
 have y3:=(Hcs.out w1 hE1) 3 _ rfl
 have y4:=(Hcs.out w1 hE1) 4 _ rfl
 have y5:=(Hcs.out w1 hE1) 5 _ rfl
 have y6:=(Hcs.out w1 hE1) 6 _ rfl
 have y7:=(Hcs.out w1 hE1) 7 _ rfl
 have y8:=(Hcs.out w1 hE1) 8 _ rfl
 have y9:=(Hcs.out w1 hE1) 9 _ rfl
 have Hv1:=hJ (Hv.out.mod (HE.out.ext hE1) (fun _ _=>id))
 have HE1:=hJ (HE.out.ext hE1)
 clear hE1
 rcases hc:zb2 h.conf with _|_
 ·
  rw[if_neg (by simp)]
  have Hf:Hid (xX h=false):=hJ (xI (fun r=>by have:=r.c;rw[hc] at this;cases this))
  go_wp2
  go_ret
  exact ⟨by rw[←HQ.out,Hf.out];rfl,HE1.out⟩
 rw[if_pos rfl]
 by_cases h9:16384<n
 ·
  have d9:decide ((16384:Int)<(n:Int))=true:=decide_eq_true (by omega)
  have Hf:Hid (xX h=false):=hJ (xI (fun r=>by have:=r.s;rw[Hn.out] at this;omega))
  clear h9
  go_wp2
  go_ret
  exact ⟨by rw[←HQ.out,Hf.out];rfl,HE1.out⟩
 have d9:decide ((16384:Int)<(n:Int))=false:=decide_eq_false (by omega)
 by_cases h10:0<n
 ·
  have d10:decide ((0:Int)<(n:Int))=true:=decide_eq_true (by omega)
  have d11:decide (0<n)=true:=decide_eq_true h10
  have Hf:Hid (xX h=false):=hJ (xI (fun r=>by have:=r.bs;rw[Hn.out] at this;rcases this with h|h;exact h (by simpa using e2);omega))
  clear h10
  go_wp2
  go_ret
  exact ⟨by rw[←HQ.out,Hf.out];rfl,HE1.out⟩
 have d10:decide ((0:Int)<(n:Int))=false:=decide_eq_false (by omega)
 have d11:decide (0<n)=false:=decide_eq_false (by omega)
 go_wp2_with fail
 refine (zjP w1 T _ h.log h.baseTerm h.term Hv1.out.2 (by rw[Hm.out];omega)).mono ?_
 rintro e w2 ⟨rfl,hE2⟩
 have HE2:=hJ (HE1.out.ext hE2)
 clear hE2
 rcases hr:zdX h.term (max h.baseTerm 1) h.log with _|_
 ·
  have Hf:Hid (xX h=false):=hJ (xI (fun r=>by have:=r.r;rw[hr] at this;cases this))
  go_wp2
  go_ret
  exact ⟨by rw[←HQ.out,Hf.out];rfl,HE2.out⟩
 have Hf:Hid (xX h=true):=hJ ((jM h).2 ⟨by omega,by omega,by omega,by omega,by omega,by omega,by omega,by omega,by rw[e1,e2],hc,by rw[Hn.out];omega,.inr (by rw[Hn.out];omega),hr⟩)
 go_wp2
 go_ret
 exact ⟨by rw[←HQ.out,Hf.out];rfl,HE2.out⟩
def zjQ (h:zX):Int:=h.base+h.log.length
def zm2 (h:zX):Int:=match h.log[h.log.length-1]? with
 | none=>h.baseTerm
 | some x=>x.term
theorem zo1 {h:zX} (e:h.log.length=0):zm2 h=h.baseTerm:=by
 unfold zm2
 rw[List.getElem?_eq_none (by omega)]
theorem zm3 {h:zX} {x:zO} (e:h.log[h.log.length-1]? = some x):zm2 h=x.term:=by
 unfold zm2
 rw[e]
theorem zjR (w:World) (T:Nat→Prop) (h:zX) (sv lv:Value) (hv:xP w T sv lv h) (hl:h.log.length≤1000000) (hb0:0≤h.base) (hb1:h.base≤1099511627776):
  Calls Tryz.prog 162 #[.agg #[.int .i64 h.term,.int .i64 h.vote,.int .i64 h.base,.int .i64 h.baseTerm,.int .i64 h.conf.full,.int .i64 h.conf.wit,.int .i64 h.conf.learn,.int .i64 h.conf.learnWit,sv,lv]] w fun e w'=>e=.returned (.tuple #[.int .i64 (zjQ h),.int .i64 (zm2 h)])∧Ext w w':=by
 obtain ⟨As,cs,Al,cl,rfl,rfl⟩:=hv.forms
 obtain ⟨n,hn⟩:∃ n,h.snap.length=n:=⟨_,rfl⟩
 obtain ⟨m,hm⟩:∃ m,h.log.length=m:=⟨_,rfl⟩
 have hnl:=hv.1.le
 unfold maxLen at hnl
 rw[hn] at hnl
 have Hv:=hJ hv
 clear hv
 rw[hn,hm] at Hv ⊢
 rw[hm] at hl
 obtain ⟨Hn,Hm⟩:=hJ2 hn hm
 clear hn hm
 obtain ⟨wb,hwb⟩:∃ wb,w.alloc (.cells (h.cells (.slice As n cs) (.slice Al m cl)).toArray 61)=wb:=⟨_,rfl⟩
 have hE:Ext w wb:=by rw[←hwb];exact (Mod.refl _ w).alloc _
 have hcs:∀ w1,Ext wb w1→∀ j u,(h.cells (.slice As n cs) (.slice Al m cl))[j]? = some u→w1.cell? ⟨w.heap.size,j,none⟩=some u:=by
  intro w1 hm j u hu
  refine hm.cell ?_ id
  rw[←hwb,cell_of_row _ _ _ _ _ _ (heap_alloc_new w _)]
  simpa using hu
 have HE0:Hid (Ext w (w.alloc (.cells (h.cells (.slice As n cs) (.slice Al m cl)).toArray 61))):=hJ ((Mod.refl _ w).alloc _)
 obtain ⟨Hwb,Hcs,HE⟩:=hJ3 hwb hcs hE
 clear hwb hcs hE
 obtain ⟨li,hli⟩:∃ i,zjQ h=i:=⟨_,rfl⟩
 obtain ⟨lt,hlt⟩:∃ i,zm2 h=i:=⟨_,rfl⟩
 rw[hli,hlt]
 have Hli:Hid (h.base+m=li):=hJ (by rw[←hli,←Hm.out];rfl)
 clear hli
 by_cases h0:m=0
 ·
  subst h0
  have ht:h.baseTerm=lt:=by rw[←hlt];exact (zo1 Hm.out).symm
  have hi:h.base=li:=by rw[←Hli.out];simp
  obtain ⟨Ht,Hi⟩:=hJ2 ht hi
  clear ht hi hlt Hli
  go_enter Tryz.func162,Tryz.ntmps162
  go_wp2_with fail
  go_quiet (fail)
  go_wp2
  go_ret2
  exact ⟨by rw[←Ht.out,←Hi.out];rfl,HE0.out.drewN _⟩
 obtain ⟨g,off,x,rfl,hgT,hx,hxok,hcells⟩:=Hv.out.2.at (i:=m-1) (by omega)
 have x0:=(HE.out.cell (hcells 0 _ rfl) id)
 rw[Nat.add_zero] at x0
 have ht:x.term=lt:=by rw[←hlt];exact (zm3 (by rw[Hm.out];exact hx)).symm
 have Ht:=hJ ht
 have hm0:(m==0)=false:=by simpa using h0
 have hmi:((m:Int)==0)=false:=by simpa using h0
 have q1:IntKind.i64.wrap ((m:Int)-1)=((m-1:Nat):Int):=by rw[IntWalk.i64_in _ (by omega)];omega
 have q2:IntKind.i64.wrap (h.base+(m:Int))=li:=by rw[IntWalk.i64_in _ (by omega)];exact Hli.out
 have q3:(0:Int)≤((m-1:Nat):Int):=by omega
 have q4:((m-1:Nat):Int)<(m:Int):=by omega
 clear ht hlt hx hxok hcells hgT
 rw[←Hwb.out] at x0
 go_enter Tryz.func162,Tryz.ntmps162
 go_wp2_with fail
 go_quiet (fail)
 go_wp2
 go_ret2
 exact ⟨by rw[←Ht.out];rfl,HE0.out.drewN _⟩
end Go.Proofs.YtjbkjhhjofeldaaGreat
