/-
 Plain steps of setP, for the page's set. No program is walked here. Conditions: as each theorem names them.
-/
import Derived.Test.YtjbkjhhjofeldaaGreatH0
import Derived.Test.YtjbkjhhjofeldaaGreatG10
namespace Go.Proofs.YtjbkjhhjofeldaaGreat
set_option maxRecDepth 100000
set_option maxHeartbeats 4000000
set_option linter.unusedSimpArgs false
open Go.RowKit
def ziW (l m:List zJ):Bool:=eqL zgL l m
theorem k_pairs (w:World) (T U:Nat→Prop) (va vb:Value) (la lb:List zJ) (ha:Prs w T va la) (hb:Prs w U vb lb):
  Calls Tryz.prog 55 #[va,vb] w fun e w'=>e=.returned (.bool (ziW la lb))∧Ext w w':=by
 obtain ⟨n,hn⟩:∃ n,la.length=n:=⟨_,rfl⟩
 obtain ⟨m,hm⟩:∃ m,lb.length=m:=⟨_,rfl⟩
 obtain ⟨A,c,rfl⟩:=ha.form
 obtain ⟨A',c',rfl⟩:=hb.form
 have hla:=ha.1.le
 have hlb:=hb.1.le
 unfold maxLen at hla hlb
 rw[hn] at ha hla ⊢
 rw[hm] at hb hlb ⊢
 by_cases hnm:n=m
 case neg=>
  have hnb:((n:Int) != (m:Int))=true:=by simp;omega
  have Hf:Hid (ziW la lb=false):=hJ (zoZ (by omega))
  clear hn hm
  go_enter Tryz.func55,Tryz.ntmps55
  go_wp2
  go_ret
  exact ⟨yC Hf.out.symm,Mod.refl _ w⟩
 subst hnm
 have hnb:((n:Int) != (n:Int))=false:=by simp
 obtain ⟨Hn,Hm⟩:=hJ2 hn hm
 clear hn hm
 go_enter Tryz.func55,Tryz.ntmps55
 go_wp2
 go_loopw [5] (fun iv wr=>∃ i:Nat,i≤n∧iv=.int .i64 i∧Ext w wr∧∀ j<i,∀ x y,la[j]? = some x→lb[j]? = some y→zgL x y=true) (fun iv _=>n-(intOf iv).toNat)
 case atStart=>exact ⟨0,by omega,rfl,Mod.refl _ w,fun j hj=>by omega⟩
 obtain ⟨i,hin,rfl,hE,hs⟩:=hrel
 have Hs:=hJ hs
 have ha2:=ha.ext hE
 have hb2:=hb.ext hE
 clear hs
 by_cases hi:i<n
 ·
  obtain ⟨g,off,x,rfl,hgT,hx,hxok,hcells⟩:=ha2.at hi
  obtain ⟨g',off',y,rfl,hgT',hy,hyok,hcells'⟩:=hb2.at hi
  have hi0:(0:Int)≤(i:Int):=by omega
  have hi1:(i:Int)<(n:Int):=by omega
  have x0:=hcells 0 _ rfl
  have x1:=hcells 1 _ rfl
  have x2:=hcells 2 _ rfl
  have x3:=hcells 3 _ rfl
  have y0:=hcells' 0 _ rfl
  have y1:=hcells' 1 _ rfl
  have y2:=hcells' 2 _ rfl
  have y3:=hcells' 3 _ rfl
  rw[Nat.add_zero] at x0 y0
  obtain ⟨Hx,Hy⟩:=hJ2 hx hy
  clear hcells hcells' hx hy ha2 hb2 hxok hyok
  have hT:(x.key.toList==y.key.toList)=eqT x.key y.key:=rfl
  go_wp2_with fail
  rcases hk:eqT x.key y.key with _|_
  ·
   have Hf:Hid (ziW la lb=false):=hJ (zjO Hx.out Hy.out (by unfold zgL;rw[hk];rfl))
   rw[hk] at hT
   refine wp_region_held_drew (S:=(fun W'=>Ext w W'∧W'.cell? ⟨g,off+i*4,none⟩=some (.string x.key)∧W'.cell? ⟨g,off+i*4+1,none⟩=some (.int .i64 x.val.kind)∧W'.cell? ⟨g,off+i*4+2,none⟩=some (.float .f64 x.val.num)∧W'.cell? ⟨g,off+i*4+3,none⟩=some (.string x.val.text)∧W'.cell? ⟨g',off'+i*4,none⟩=some (.string y.key)∧W'.cell? ⟨g',off'+i*4+1,none⟩=some (.int .i64 y.val.kind)∧W'.cell? ⟨g',off'+i*4+2,none⟩=some (.float .f64 y.val.num)∧W'.cell? ⟨g',off'+i*4+3,none⟩=some (.string y.val.text))) (by kernel_rfl) ⟨hE.drew,x0,x1,x2,x3,y0,y1,y2,y3⟩ (fun hS=>?_)
   iterate 25
    first|refine tkI 0 (some 17) rfl rfl ?_ hS ?_ ?_|refine tkI 1 (some 18) rfl rfl ?_ hS ?_ ?_|refine tkI 2 (some 19) rfl rfl ?_ hS ?_ ?_|refine tkI 3 (some 20) rfl rfl ?_ hS ?_ ?_|refine tkI 4 (some 21) rfl rfl ?_ hS ?_ ?_|refine tkI 5 (some 22) rfl rfl ?_ hS ?_ ?_|refine tkI 6 (some 23) rfl rfl ?_ hS ?_ ?_|refine tkI 7 (some 24) rfl rfl ?_ hS ?_ ?_|refine tkI 8 (some 25) rfl rfl ?_ hS ?_ ?_|refine tkI 9 (some 26) rfl rfl ?_ hS ?_ ?_|refine tkI 10 (some 27) rfl rfl ?_ hS ?_ ?_|refine tkI 11 (some 28) rfl rfl ?_ hS ?_ ?_|refine tuI 12 (some 29) rfl rfl hS ?_|refine tuI 13 (some 30) rfl rfl hS ?_|refine tuI 14 (some 31) rfl rfl hS ?_|refine tuI 15 (some 32) rfl rfl hS ?_|refine tuI 16 (some 33) rfl rfl hS ?_|refine tuI 17 (some 34) rfl rfl hS ?_|refine tuI 18 (some 35) rfl rfl hS ?_|refine tuI 19 (some 36) rfl rfl hS ?_|refine tuI 20 (some 37) rfl rfl hS ?_|refine tuI 21 (some 38) rfl rfl hS ?_|refine tuI 22 (some 39) rfl rfl hS ?_|refine tuI 23 (some 40) rfl rfl hS ?_|refine tkI 24 (some 41) rfl rfl ?_ hS ?_ ?_
    try
     rotate_left
     · rintro W' ⟨_,_,_,_,_,_,_,_,_⟩;go_simp;try rfl
    try simp only[pL]
   refine wpAnyH_done (by kernel_rfl) ?_ _
   go_wp2
   go_ret
   exact ⟨yC Hf.out.symm,hS.1⟩
  rw[hk] at hT
  rcases hq:zbD x.val y.val with _|_
  ·
   have Hf:Hid (ziW la lb=false):=hJ (zjO Hx.out Hy.out (by unfold zgL;rw[hk,hq];rfl))
   refine wp_region_held_drew (S:=(fun W'=>Ext w W'∧W'.cell? ⟨g,off+i*4,none⟩=some (.string x.key)∧W'.cell? ⟨g,off+i*4+1,none⟩=some (.int .i64 x.val.kind)∧W'.cell? ⟨g,off+i*4+2,none⟩=some (.float .f64 x.val.num)∧W'.cell? ⟨g,off+i*4+3,none⟩=some (.string x.val.text)∧W'.cell? ⟨g',off'+i*4,none⟩=some (.string y.key)∧W'.cell? ⟨g',off'+i*4+1,none⟩=some (.int .i64 y.val.kind)∧W'.cell? ⟨g',off'+i*4+2,none⟩=some (.float .f64 y.val.num)∧W'.cell? ⟨g',off'+i*4+3,none⟩=some (.string y.val.text))) (by kernel_rfl) ⟨hE.drew,x0,x1,x2,x3,y0,y1,y2,y3⟩ (fun hS=>?_)
   iterate 22
    (first|refine tkI 0 (some 17) rfl rfl ?_ hS ?_ ?_|refine tkI 1 (some 18) rfl rfl ?_ hS ?_ ?_|refine tkI 2 (some 19) rfl rfl ?_ hS ?_ ?_|refine tkI 3 (some 20) rfl rfl ?_ hS ?_ ?_|refine tkI 4 (some 21) rfl rfl ?_ hS ?_ ?_|refine tkI 5 (some 22) rfl rfl ?_ hS ?_ ?_|refine tkI 6 (some 23) rfl rfl ?_ hS ?_ ?_|refine tkI 7 (some 24) rfl rfl ?_ hS ?_ ?_|refine tkI 8 (some 25) rfl rfl ?_ hS ?_ ?_|refine tkI 9 (some 26) rfl rfl ?_ hS ?_ ?_|refine tkI 10 (some 27) rfl rfl ?_ hS ?_ ?_|refine tkI 11 (some 28) rfl rfl ?_ hS ?_ ?_|refine tkI 12 (some 29) rfl rfl ?_ hS ?_ ?_|refine tkI 13 (some 30) rfl rfl ?_ hS ?_ ?_|refine tkI 14 (some 31) rfl rfl ?_ hS ?_ ?_|refine tkI 15 (some 32) rfl rfl ?_ hS ?_ ?_|refine tkI 16 (some 33) rfl rfl ?_ hS ?_ ?_|refine tkI 17 (some 34) rfl rfl ?_ hS ?_ ?_|refine tkI 18 (some 35) rfl rfl ?_ hS ?_ ?_|refine tkI 19 (some 36) rfl rfl ?_ hS ?_ ?_|refine tkI 20 (some 37) rfl rfl ?_ hS ?_ ?_|refine tkI 21 (some 38) rfl rfl ?_ hS ?_ ?_);rotate_left;· rintro W' ⟨_,_,_,_,_,_,_,_,_⟩;go_simp;try rfl
    try simp only[pL]
   refine zaJ 22 rfl (fun K hK=>?_)
   go_simp
   go_wp2_with fail
   refine (zf1 x.val y.val _).mono ?_
   rintro e w1 ⟨rfl,hE1⟩
   rw[hq]
   have hX:=(⟨Mod.ext hS.1 hE1,hE1.cell hS.2.1 id,hE1.cell hS.2.2.1 id,hE1.cell hS.2.2.2.1 id,hE1.cell hS.2.2.2.2.1 id,hE1.cell hS.2.2.2.2.2.1 id,hE1.cell hS.2.2.2.2.2.2.1 id,hE1.cell hS.2.2.2.2.2.2.2.1 id,hE1.cell hS.2.2.2.2.2.2.2.2 id⟩:Ext w w1∧_∧_∧_∧_∧_∧_∧_∧_)
   go_simp
   refine hK.out _ _ hX (fun hS=>?_)
   clear hK K
   iterate 2
    (first|refine tkI 23 (some 40) rfl rfl ?_ hS ?_ ?_|refine tkI 24 (some 41) rfl rfl ?_ hS ?_ ?_);rotate_left;· rintro W' ⟨_,_,_,_,_,_,_,_,_⟩;go_simp;try rfl
    try simp only[pL]
   refine wpAnyH_done (by kernel_rfl) ?_ _
   go_wp2
   go_ret
   exact ⟨yC Hf.out.symm,hS.1⟩
  have Hq:Hid (zgL x y=true):=hJ (by unfold zgL;rw[hk,hq];rfl)
  refine wp_region_held_drew (S:=(fun W'=>Ext w W'∧W'.cell? ⟨g,off+i*4,none⟩=some (.string x.key)∧W'.cell? ⟨g,off+i*4+1,none⟩=some (.int .i64 x.val.kind)∧W'.cell? ⟨g,off+i*4+2,none⟩=some (.float .f64 x.val.num)∧W'.cell? ⟨g,off+i*4+3,none⟩=some (.string x.val.text)∧W'.cell? ⟨g',off'+i*4,none⟩=some (.string y.key)∧W'.cell? ⟨g',off'+i*4+1,none⟩=some (.int .i64 y.val.kind)∧W'.cell? ⟨g',off'+i*4+2,none⟩=some (.float .f64 y.val.num)∧W'.cell? ⟨g',off'+i*4+3,none⟩=some (.string y.val.text))) (by kernel_rfl) ⟨hE.drew,x0,x1,x2,x3,y0,y1,y2,y3⟩ (fun hS=>?_)
  iterate 22
   (first|refine tkI 0 (some 17) rfl rfl ?_ hS ?_ ?_|refine tkI 1 (some 18) rfl rfl ?_ hS ?_ ?_|refine tkI 2 (some 19) rfl rfl ?_ hS ?_ ?_|refine tkI 3 (some 20) rfl rfl ?_ hS ?_ ?_|refine tkI 4 (some 21) rfl rfl ?_ hS ?_ ?_|refine tkI 5 (some 22) rfl rfl ?_ hS ?_ ?_|refine tkI 6 (some 23) rfl rfl ?_ hS ?_ ?_|refine tkI 7 (some 24) rfl rfl ?_ hS ?_ ?_|refine tkI 8 (some 25) rfl rfl ?_ hS ?_ ?_|refine tkI 9 (some 26) rfl rfl ?_ hS ?_ ?_|refine tkI 10 (some 27) rfl rfl ?_ hS ?_ ?_|refine tkI 11 (some 28) rfl rfl ?_ hS ?_ ?_|refine tkI 12 (some 29) rfl rfl ?_ hS ?_ ?_|refine tkI 13 (some 30) rfl rfl ?_ hS ?_ ?_|refine tkI 14 (some 31) rfl rfl ?_ hS ?_ ?_|refine tkI 15 (some 32) rfl rfl ?_ hS ?_ ?_|refine tkI 16 (some 33) rfl rfl ?_ hS ?_ ?_|refine tkI 17 (some 34) rfl rfl ?_ hS ?_ ?_|refine tkI 18 (some 35) rfl rfl ?_ hS ?_ ?_|refine tkI 19 (some 36) rfl rfl ?_ hS ?_ ?_|refine tkI 20 (some 37) rfl rfl ?_ hS ?_ ?_|refine tkI 21 (some 38) rfl rfl ?_ hS ?_ ?_);rotate_left;· rintro W' ⟨_,_,_,_,_,_,_,_,_⟩;go_simp;try rfl
   try simp only[pL]
  refine zaJ 22 rfl (fun K hK=>?_)
  go_simp
  go_wp2_with fail
  refine (zf1 x.val y.val _).mono ?_
  rintro e w1 ⟨rfl,hE1⟩
  rw[hq]
  have hX:=(⟨Mod.ext hS.1 hE1,hE1.cell hS.2.1 id,hE1.cell hS.2.2.1 id,hE1.cell hS.2.2.2.1 id,hE1.cell hS.2.2.2.2.1 id,hE1.cell hS.2.2.2.2.2.1 id,hE1.cell hS.2.2.2.2.2.2.1 id,hE1.cell hS.2.2.2.2.2.2.2.1 id,hE1.cell hS.2.2.2.2.2.2.2.2 id⟩:Ext w w1∧_∧_∧_∧_∧_∧_∧_∧_)
  go_simp
  refine hK.out _ _ hX (fun hS=>?_)
  clear hK K
  iterate 2
   (first|refine tkI 23 (some 40) rfl rfl ?_ hS ?_ ?_|refine tkI 24 (some 41) rfl rfl ?_ hS ?_ ?_);rotate_left;· rintro W' ⟨_,_,_,_,_,_,_,_,_⟩;go_simp;try rfl
   try simp only[pL]
  refine wpAnyH_done (by kernel_rfl) ?_ _
  go_wp2
  exact ⟨⟨i+1,by omega,by go_num,hS.1,zl2 Hs.out Hx.out Hy.out Hq.out⟩,by simp[intOf];omega⟩
 have Hf:Hid (ziW la lb=true):=hJ (zo0 (n:=n) (fun j hj=>Hs.out j (by omega)) Hn.out Hm.out)
 go_wp2
 go_ret
 exact ⟨yC Hf.out.symm,hE⟩
def Good (l:List zJ) (i:Nat):Prop:=∀ j x,j<i→l[j]? = some x→zaM x=true∧∀ k p,j=k+1→l[k]? = some p→ltT p.key x.key=true
theorem Good.zero (l:List zJ):Good l 0:=fun j x h=>by omega
theorem Good.step {l:List zJ} {i:Nat} {x:zJ} (h:Good l i) (hx:l[i]? = some x) (h1:zaM x=true) (h2:∀ k p,i=k+1→l[k]? = some p→ltT p.key x.key=true):Good l (i+1):=by
 intro j y hj hy
 by_cases e:j=i
 · subst e;rw[hx] at hy;cases hy;exact ⟨h1,h2⟩
 exact h j y (by omega) hy
theorem Good.all {l:List zJ} (h:Good l l.length):(∀ p∈l,zaM p=true)∧zcW l=true:=by
 refine ⟨fun p hp=>?_,?_⟩
 · obtain ⟨j,hj⟩:=List.mem_iff_getElem?.1 hp
   exact (h j p (List.getElem?_eq_some_iff.1 hj).1 hj).1
 induction l with
 | nil=>rfl
 | cons a l ih=>
  cases l with
  | nil=>rfl
  | cons b l=>
   rw[zcW,Bool.and_eq_true]
   refine ⟨(h 1 b (by simp) rfl).2 0 a rfl rfl,ih fun j x hj hx=>?_⟩
   have:=h (j+1) x (by simp at hj ⊢;omega) (by simpa using hx)
   exact ⟨this.1,fun k p e hp=>this.2 (k+1) p (by omega) (by simpa using hp)⟩
theorem znI {l:List zJ} (h:Good l l.length) (hl:l.length≤32):xG l=true:=by
 unfold xG
 have:=h.all
 rw[Bool.and_eq_true,Bool.and_eq_true,decide_eq_true_iff,List.all_eq_true]
 exact ⟨⟨hl,this.1⟩,this.2⟩
theorem zgS {l:List zJ} {i:Nat} {x:zJ} (hx:l[i]? = some x) (h:zaM x=false):xG l=false:=by
 rw[←Bool.not_eq_true,xO]
 rintro ⟨_,h2,_⟩
 have:=h2 x (List.mem_of_getElem? hx)
 rw[h] at this;cases this
theorem znJ {l:List zJ} {k:Nat} {p x:zJ} (hp:l[k]? = some p) (hx:l[k+1]? = some x) (h:ltT p.key x.key=false):xG l=false:=by
 rw[←Bool.not_eq_true,xO]
 rintro ⟨_,_,h3⟩
 obtain ⟨h4,rfl⟩:=List.getElem?_eq_some_iff.1 hp
 obtain ⟨h5,rfl⟩:=List.getElem?_eq_some_iff.1 hx
 have:=List.pairwise_iff_getElem.1 h3 k (k+1) h4 h5 (by omega)
 rw[h] at this;cases this
theorem znK {l:List zJ} (h:32<l.length):xG l=false:=by
 rw[←Bool.not_eq_true,xO]
 rintro ⟨h1,_⟩
 omega
def znL (l:List zJ):Int:=if xG l=true then 0 else 6
theorem ziX {l:List zJ} (h:xG l=true):znL l=0:=by unfold znL;rw[if_pos h]
theorem ze3 {l:List zJ} (h:xG l=false):znL l=6:=by unfold znL;rw[h];rfl
theorem zfU (w:World) (T:Nat→Prop) (v:Value) (l:List zJ) (h:Prs w T v l):
  Calls Tryz.prog 278 #[v] w fun e w'=>e=.returned (.int .i64 (znL l))∧Ext w w':=by
 obtain ⟨n,hn⟩:∃ n,l.length=n:=⟨_,rfl⟩
 obtain ⟨A,c,rfl⟩:=h.form
 have hl:=h.1.le
 unfold maxLen at hl
 rw[hn] at h hl ⊢
 by_cases h32:32<n
 ·
  have d:decide ((32:Int)<(n:Int))=true:=by simp;omega
  have Hf:Hid (znL l=6):=hJ (ze3 (znK (by omega)))
  clear hn
  go_enter Tryz.func278,Tryz.ntmps278
  go_wp2
  go_ret
  exact ⟨yG Hf.out.symm,Mod.refl _ w⟩
 have d:decide ((32:Int)<(n:Int))=false:=by simp;omega
 have Hn:=hJ hn
 clear hn
 go_enter Tryz.func278,Tryz.ntmps278
 go_wp2
 go_loopw [10] (fun iv wr=>∃ i:Nat,i≤n∧iv=.int .i64 i∧Ext w wr∧Good l i) (fun iv _=>n-(intOf iv).toNat)
 case atStart=>exact ⟨0,by omega,rfl,Mod.refl _ w,Good.zero l⟩
 obtain ⟨i,hin,rfl,hE,hg⟩:=hrel
 have Hg:=hJ hg
 have h2:=h.ext hE
 clear hg
 by_cases hi:i<n
 ·
  obtain ⟨g,off,x,rfl,hgT,hx,hxok,hcells⟩:=h2.at hi
  have hi0:(0:Int)≤(i:Int):=by omega
  have hi1:(i:Int)<(n:Int):=by omega
  have x0:=hcells 0 _ rfl
  have x1:=hcells 1 _ rfl
  have x2:=hcells 2 _ rfl
  have x3:=hcells 3 _ rfl
  rw[Nat.add_zero] at x0
  obtain ⟨Hx,H2⟩:=hJ2 hx h2
  clear hcells hx h2 hxok
  obtain ⟨W,hW⟩:∃ W,W=wr.alloc (.cells #[.string x.key,.int .i64 x.val.kind,.float .f64 x.val.num,.string x.val.text] 122):=⟨_,rfl⟩
  have hEW:Ext wr W:=by rw[hW];exact (Mod.refl _ wr).alloc _
  have hF:Ext w W:=Mod.ext hE hEW
  have hcs:∀ j u,x.cells[j]? = some u→W.cell? ⟨wr.heap.size,j,none⟩=some u:=by
   intro j u hu
   rw[hW,cell_of_row _ _ _ _ _ _ (heap_alloc_new wr _)]
   simpa using hu
  have b0:=hcs 0 _ rfl
  have b1:=hcs 1 _ rfl
  have b2:=hcs 2 _ rfl
  have b3:=hcs 3 _ rfl
  have HW:=hJ hW
  clear hW hcs
  go_wp2_with fail
  rw[←HW.out]
  clear x0 x1 x2 x3
  rcases hr:jX x.key with _|_
  ·
   have Hf:Hid (znL l=6):=hJ (ze3 (zgS Hx.out (by unfold zaM;rw[hr];rfl)))
   refine wp_region_held_drew (S:=(fun W'=>Ext w W'∧W'.cell? ⟨wr.heap.size,0,none⟩=some (.string x.key)∧W'.cell? ⟨wr.heap.size,1,none⟩=some (.int .i64 x.val.kind)∧W'.cell? ⟨wr.heap.size,2,none⟩=some (.float .f64 x.val.num)∧W'.cell? ⟨wr.heap.size,3,none⟩=some (.string x.val.text))) (by kernel_rfl) ⟨hF.drew,b0,b1,b2,b3⟩ (fun hS=>?_)
   iterate 2
    (first|refine tkI 0 (some 15) rfl rfl ?_ hS ?_ ?_|refine tkI 1 (some 16) rfl rfl ?_ hS ?_ ?_);rotate_left;· rintro W' ⟨_,_,_,_,_⟩;go_simp;try rfl
    try simp only[pL]
   refine zaJ 2 rfl (fun K hK=>?_)
   go_simp
   go_wp2_with fail
   refine (jG x.key _).mono ?_
   rintro e w1 ⟨rfl,rfl⟩
   rw[hr]
   have hX:=hS
   go_simp
   refine hK.out _ _ hX (fun hS=>?_)
   clear hK K
   iterate 28
    first|refine tkI 3 (some 18) rfl rfl ?_ hS ?_ ?_|refine tkI 4 (some 19) rfl rfl ?_ hS ?_ ?_|refine tuI 5 (some 20) rfl rfl hS ?_|refine tuI 6 (some 21) rfl rfl hS ?_|refine tuI 7 (some 22) rfl rfl hS ?_|refine tuI 8 (some 23) rfl rfl hS ?_|refine tkI 9 (some 24) rfl rfl ?_ hS ?_ ?_|refine tkI 10 (some 25) rfl rfl ?_ hS ?_ ?_|refine tuI 11 (some 26) rfl rfl hS ?_|refine tuI 12 (some 27) rfl rfl hS ?_|refine tuI 13 (some 28) rfl rfl hS ?_|refine tuI 14 (some 29) rfl rfl hS ?_|refine tkI 15 (some 30) rfl rfl ?_ hS ?_ ?_|refine tkI 16 (some 31) rfl rfl ?_ hS ?_ ?_|refine tuI 17 (some 32) rfl rfl hS ?_|refine tuI 18 (some 33) rfl rfl hS ?_|refine tuI 19 (some 34) rfl rfl hS ?_|refine tuI 20 (some 35) rfl rfl hS ?_|refine tuI 21 (some 36) rfl rfl hS ?_|refine tuI 22 (some 37) rfl rfl hS ?_|refine tuI 23 (some 38) rfl rfl hS ?_|refine tuI 24 (some 39) rfl rfl hS ?_|refine tuI 25 (some 40) rfl rfl hS ?_|refine tuI 26 (some 41) rfl rfl hS ?_|refine tuI 27 (some 42) rfl rfl hS ?_|refine tuI 28 (some 43) rfl rfl hS ?_|refine tuI 29 (some 44) rfl rfl hS ?_|refine tkI 30 (some 45) rfl rfl ?_ hS ?_ ?_
    try
     rotate_left
     · rintro W' ⟨_,_,_,_,_⟩;go_simp;try rfl
    try simp only[pL]
   refine wpAnyH_done (by kernel_rfl) ?_ _
   go_wp2
   go_ret
   exact ⟨yG Hf.out.symm,hS.1⟩
  rcases hk:(x.val.kind==0) with _|_
  case true=>
   have Hf:Hid (znL l=6):=hJ (ze3 (zgS Hx.out (by unfold zaM;rw[show (x.val.kind != 0)=false from by simpa using hk];simp)))
   refine wp_region_held_drew (S:=(fun W'=>Ext w W'∧W'.cell? ⟨wr.heap.size,0,none⟩=some (.string x.key)∧W'.cell? ⟨wr.heap.size,1,none⟩=some (.int .i64 x.val.kind)∧W'.cell? ⟨wr.heap.size,2,none⟩=some (.float .f64 x.val.num)∧W'.cell? ⟨wr.heap.size,3,none⟩=some (.string x.val.text))) (by kernel_rfl) ⟨hF.drew,b0,b1,b2,b3⟩ (fun hS=>?_)
   iterate 2
    (first|refine tkI 0 (some 15) rfl rfl ?_ hS ?_ ?_|refine tkI 1 (some 16) rfl rfl ?_ hS ?_ ?_);rotate_left;· rintro W' ⟨_,_,_,_,_⟩;go_simp;try rfl
    try simp only[pL]
   refine zaJ 2 rfl (fun K hK=>?_)
   go_simp
   go_wp2_with fail
   refine (jG x.key _).mono ?_
   rintro e w1 ⟨rfl,rfl⟩
   rw[hr]
   have hX:=hS
   go_simp
   refine hK.out _ _ hX (fun hS=>?_)
   clear hK K
   iterate 28
    first|refine tkI 3 (some 18) rfl rfl ?_ hS ?_ ?_|refine tkI 4 (some 19) rfl rfl ?_ hS ?_ ?_|refine tkI 5 (some 20) rfl rfl ?_ hS ?_ ?_|refine tkI 6 (some 21) rfl rfl ?_ hS ?_ ?_|refine tkI 7 (some 22) rfl rfl ?_ hS ?_ ?_|refine tkI 8 (some 23) rfl rfl ?_ hS ?_ ?_|refine tkI 9 (some 24) rfl rfl ?_ hS ?_ ?_|refine tkI 10 (some 25) rfl rfl ?_ hS ?_ ?_|refine tuI 11 (some 26) rfl rfl hS ?_|refine tuI 12 (some 27) rfl rfl hS ?_|refine tuI 13 (some 28) rfl rfl hS ?_|refine tuI 14 (some 29) rfl rfl hS ?_|refine tkI 15 (some 30) rfl rfl ?_ hS ?_ ?_|refine tkI 16 (some 31) rfl rfl ?_ hS ?_ ?_|refine tuI 17 (some 32) rfl rfl hS ?_|refine tuI 18 (some 33) rfl rfl hS ?_|refine tuI 19 (some 34) rfl rfl hS ?_|refine tuI 20 (some 35) rfl rfl hS ?_|refine tuI 21 (some 36) rfl rfl hS ?_|refine tuI 22 (some 37) rfl rfl hS ?_|refine tuI 23 (some 38) rfl rfl hS ?_|refine tuI 24 (some 39) rfl rfl hS ?_|refine tuI 25 (some 40) rfl rfl hS ?_|refine tuI 26 (some 41) rfl rfl hS ?_|refine tuI 27 (some 42) rfl rfl hS ?_|refine tuI 28 (some 43) rfl rfl hS ?_|refine tuI 29 (some 44) rfl rfl hS ?_|refine tkI 30 (some 45) rfl rfl ?_ hS ?_ ?_
    try
     rotate_left
     · rintro W' ⟨_,_,_,_,_⟩;go_simp;try rfl
    try simp only[pL]
   refine wpAnyH_done (by kernel_rfl) ?_ _
   go_wp2
   go_ret
   exact ⟨yG Hf.out.symm,hS.1⟩
  by_cases hc:chk x.val=0
  case neg=>
   have hc':(chk x.val != 0)=true:=by simpa using hc
   have Hf:Hid (znL l=6):=hJ (ze3 (zgS Hx.out (by unfold zaM;rw[show (chk x.val==0)=false from by simpa using hc];simp)))
   clear hc
   refine wp_region_held_drew (S:=(fun W'=>Ext w W'∧W'.cell? ⟨wr.heap.size,0,none⟩=some (.string x.key)∧W'.cell? ⟨wr.heap.size,1,none⟩=some (.int .i64 x.val.kind)∧W'.cell? ⟨wr.heap.size,2,none⟩=some (.float .f64 x.val.num)∧W'.cell? ⟨wr.heap.size,3,none⟩=some (.string x.val.text))) (by kernel_rfl) ⟨hF.drew,b0,b1,b2,b3⟩ (fun hS=>?_)
   iterate 2
    (first|refine tkI 0 (some 15) rfl rfl ?_ hS ?_ ?_|refine tkI 1 (some 16) rfl rfl ?_ hS ?_ ?_);rotate_left;· rintro W' ⟨_,_,_,_,_⟩;go_simp;try rfl
    try simp only[pL]
   refine zaJ 2 rfl (fun K hK=>?_)
   go_simp
   go_wp2_with fail
   refine (jG x.key _).mono ?_
   rintro e w1 ⟨rfl,rfl⟩
   rw[hr]
   have hX:=hS
   go_simp
   refine hK.out _ _ hX (fun hS=>?_)
   clear hK K
   iterate 10
    (first|refine tkI 3 (some 18) rfl rfl ?_ hS ?_ ?_|refine tkI 4 (some 19) rfl rfl ?_ hS ?_ ?_|refine tkI 5 (some 20) rfl rfl ?_ hS ?_ ?_|refine tkI 6 (some 21) rfl rfl ?_ hS ?_ ?_|refine tkI 7 (some 22) rfl rfl ?_ hS ?_ ?_|refine tkI 8 (some 23) rfl rfl ?_ hS ?_ ?_|refine tkI 9 (some 24) rfl rfl ?_ hS ?_ ?_|refine tkI 10 (some 25) rfl rfl ?_ hS ?_ ?_|refine tkI 11 (some 26) rfl rfl ?_ hS ?_ ?_|refine tkI 12 (some 27) rfl rfl ?_ hS ?_ ?_);rotate_left;· rintro W' ⟨_,_,_,_,_⟩;go_simp;try rfl
    try simp only[pL]
   refine zaJ 13 rfl (fun K hK=>?_)
   go_simp
   go_wp2_with fail
   refine (xW x.val _).mono ?_
   rintro e w1 ⟨rfl,hE1⟩
   have hX:=(⟨Mod.ext hS.1 hE1,hE1.cell hS.2.1 id,hE1.cell hS.2.2.1 id,hE1.cell hS.2.2.2.1 id,hE1.cell hS.2.2.2.2 id⟩:Ext w w1∧_∧_∧_∧_)
   go_simp
   refine hK.out _ _ hX (fun hS=>?_)
   clear hK K
   iterate 17
    first|refine tkI 14 (some 29) rfl rfl ?_ hS ?_ ?_|refine tkI 15 (some 30) rfl rfl ?_ hS ?_ ?_|refine tkI 16 (some 31) rfl rfl ?_ hS ?_ ?_|refine tuI 17 (some 32) rfl rfl hS ?_|refine tuI 18 (some 33) rfl rfl hS ?_|refine tuI 19 (some 34) rfl rfl hS ?_|refine tuI 20 (some 35) rfl rfl hS ?_|refine tuI 21 (some 36) rfl rfl hS ?_|refine tuI 22 (some 37) rfl rfl hS ?_|refine tuI 23 (some 38) rfl rfl hS ?_|refine tuI 24 (some 39) rfl rfl hS ?_|refine tuI 25 (some 40) rfl rfl hS ?_|refine tuI 26 (some 41) rfl rfl hS ?_|refine tuI 27 (some 42) rfl rfl hS ?_|refine tuI 28 (some 43) rfl rfl hS ?_|refine tuI 29 (some 44) rfl rfl hS ?_|refine tkI 30 (some 45) rfl rfl ?_ hS ?_ ?_
    try
     rotate_left
     · rintro W' ⟨_,_,_,_,_⟩;go_simp;try rfl
    try simp only[pL]
   refine wpAnyH_done (by kernel_rfl) ?_ _
   go_wp2
   go_ret
   exact ⟨yG Hf.out.symm,hS.1⟩
  have hc':(chk x.val != 0)=false:=by simpa using hc
  have Hok:Hid (zaM x=true):=hJ (by unfold zaM;rw[hr,show (x.val.kind != 0)=true from by simpa using hk,hc];rfl)
  clear hc
  rcases i with _|k
  ·
   have Hst:=hJ (Hg.out.step Hx.out Hok.out (fun k p e=>by omega))
   have z0:decide ((0:Int)<((0:Nat):Int))=false:=by simp
   refine wp_region_held_drew (S:=(fun W'=>Ext w W'∧W'.cell? ⟨wr.heap.size,0,none⟩=some (.string x.key)∧W'.cell? ⟨wr.heap.size,1,none⟩=some (.int .i64 x.val.kind)∧W'.cell? ⟨wr.heap.size,2,none⟩=some (.float .f64 x.val.num)∧W'.cell? ⟨wr.heap.size,3,none⟩=some (.string x.val.text))) (by kernel_rfl) ⟨hF.drew,b0,b1,b2,b3⟩ (fun hS=>?_)
   iterate 2
    (first|refine tkI 0 (some 15) rfl rfl ?_ hS ?_ ?_|refine tkI 1 (some 16) rfl rfl ?_ hS ?_ ?_);rotate_left;· rintro W' ⟨_,_,_,_,_⟩;go_simp;try rfl
    try simp only[pL]
   refine zaJ 2 rfl (fun K hK=>?_)
   go_simp
   go_wp2_with fail
   refine (jG x.key _).mono ?_
   rintro e w1 ⟨rfl,rfl⟩
   rw[hr]
   have hX:=hS
   go_simp
   refine hK.out _ _ hX (fun hS=>?_)
   clear hK K
   iterate 10
    (first|refine tkI 3 (some 18) rfl rfl ?_ hS ?_ ?_|refine tkI 4 (some 19) rfl rfl ?_ hS ?_ ?_|refine tkI 5 (some 20) rfl rfl ?_ hS ?_ ?_|refine tkI 6 (some 21) rfl rfl ?_ hS ?_ ?_|refine tkI 7 (some 22) rfl rfl ?_ hS ?_ ?_|refine tkI 8 (some 23) rfl rfl ?_ hS ?_ ?_|refine tkI 9 (some 24) rfl rfl ?_ hS ?_ ?_|refine tkI 10 (some 25) rfl rfl ?_ hS ?_ ?_|refine tkI 11 (some 26) rfl rfl ?_ hS ?_ ?_|refine tkI 12 (some 27) rfl rfl ?_ hS ?_ ?_);rotate_left;· rintro W' ⟨_,_,_,_,_⟩;go_simp;try rfl
    try simp only[pL]
   refine zaJ 13 rfl (fun K hK=>?_)
   go_simp
   go_wp2_with fail
   refine (xW x.val _).mono ?_
   rintro e w1 ⟨rfl,hE1⟩
   have hX:=(⟨Mod.ext hS.1 hE1,hE1.cell hS.2.1 id,hE1.cell hS.2.2.1 id,hE1.cell hS.2.2.2.1 id,hE1.cell hS.2.2.2.2 id⟩:Ext w w1∧_∧_∧_∧_)
   go_simp
   refine hK.out _ _ hX (fun hS=>?_)
   clear hK K
   iterate 17
    first|refine tkI 14 (some 29) rfl rfl ?_ hS ?_ ?_|refine tkI 15 (some 30) rfl rfl ?_ hS ?_ ?_|refine tkI 16 (some 31) rfl rfl ?_ hS ?_ ?_|refine tkI 17 (some 32) rfl rfl ?_ hS ?_ ?_|refine tkI 18 (some 33) rfl rfl ?_ hS ?_ ?_|refine tkI 19 (some 34) rfl rfl ?_ hS ?_ ?_|refine tuI 20 (some 35) rfl rfl hS ?_|refine tuI 21 (some 36) rfl rfl hS ?_|refine tuI 22 (some 37) rfl rfl hS ?_|refine tuI 23 (some 38) rfl rfl hS ?_|refine tuI 24 (some 39) rfl rfl hS ?_|refine tuI 25 (some 40) rfl rfl hS ?_|refine tuI 26 (some 41) rfl rfl hS ?_|refine tuI 27 (some 42) rfl rfl hS ?_|refine tuI 28 (some 43) rfl rfl hS ?_|refine tkI 29 (some 44) rfl rfl ?_ hS ?_ ?_|refine tkI 30 (some 45) rfl rfl ?_ hS ?_ ?_
    try
     rotate_left
     · rintro W' ⟨_,_,_,_,_⟩;go_simp;try rfl
    try simp only[pL]
   refine wpAnyH_done (by kernel_rfl) ?_ _
   go_wp2
   exact ⟨⟨0+1,by omega,by go_num,hS.1,Hst.out⟩,by simp[intOf];omega⟩
  obtain ⟨g',off',p,hA,_,hp,_,hcells⟩:=H2.out.at (i:=k) (by omega)
  injection hA with hA;injection hA with hA1 hA2;subst hA1;subst hA2
  have p0:=hEW.cell (hcells 0 _ rfl) id
  rw[Nat.add_zero] at p0
  have z0:decide ((0:Int)<((k+1:Nat):Int))=true:=by simp
  have z1:((k+1:Nat):Int)-1=(k:Int):=by omega
  have z2:(0:Int)≤(k:Int):=by omega
  have z3:(k:Int)<(n:Int):=by omega
  have z4:IntKind.i64.wrap (k:Int)=(k:Int):=IntWalk.i64_in _ (by omega)
  have Hp:=hJ hp
  have Hrel:Hid (k+1≤n∧k+1<n):=hJ ⟨by omega,by omega⟩
  clear hcells hp
  rcases hlt:ltT p.key x.key with _|_
  ·
   have Hf:Hid (znL l=6):=hJ (ze3 (znJ Hp.out Hx.out hlt))
   have hbl:Op.bytesLess p.key.toList x.key.toList=false:=hlt
   refine wp_region_held_drew (S:=(fun W'=>Ext w W'∧W'.cell? ⟨wr.heap.size,0,none⟩=some (.string x.key)∧W'.cell? ⟨wr.heap.size,1,none⟩=some (.int .i64 x.val.kind)∧W'.cell? ⟨wr.heap.size,2,none⟩=some (.float .f64 x.val.num)∧W'.cell? ⟨wr.heap.size,3,none⟩=some (.string x.val.text)∧W'.cell? ⟨g,off+k*4,none⟩=some (.string p.key))) (by kernel_rfl) ⟨hF.drew,b0,b1,b2,b3,p0⟩ (fun hS=>?_)
   iterate 2
    (first|refine tkI 0 (some 15) rfl rfl ?_ hS ?_ ?_|refine tkI 1 (some 16) rfl rfl ?_ hS ?_ ?_);rotate_left;· rintro W' ⟨_,_,_,_,_,_⟩;go_simp;try rfl
    try simp only[pL]
   refine zaJ 2 rfl (fun K hK=>?_)
   go_simp
   go_wp2_with fail
   refine (jG x.key _).mono ?_
   rintro e w1 ⟨rfl,rfl⟩
   rw[hr]
   have hX:=hS
   go_simp
   refine hK.out _ _ hX (fun hS=>?_)
   clear hK K
   iterate 10
    (first|refine tkI 3 (some 18) rfl rfl ?_ hS ?_ ?_|refine tkI 4 (some 19) rfl rfl ?_ hS ?_ ?_|refine tkI 5 (some 20) rfl rfl ?_ hS ?_ ?_|refine tkI 6 (some 21) rfl rfl ?_ hS ?_ ?_|refine tkI 7 (some 22) rfl rfl ?_ hS ?_ ?_|refine tkI 8 (some 23) rfl rfl ?_ hS ?_ ?_|refine tkI 9 (some 24) rfl rfl ?_ hS ?_ ?_|refine tkI 10 (some 25) rfl rfl ?_ hS ?_ ?_|refine tkI 11 (some 26) rfl rfl ?_ hS ?_ ?_|refine tkI 12 (some 27) rfl rfl ?_ hS ?_ ?_);rotate_left;· rintro W' ⟨_,_,_,_,_,_⟩;go_simp;try rfl
    try simp only[pL]
   refine zaJ 13 rfl (fun K hK=>?_)
   go_simp
   go_wp2_with fail
   refine (xW x.val _).mono ?_
   rintro e w1 ⟨rfl,hE1⟩
   have hX:=(⟨Mod.ext hS.1 hE1,hE1.cell hS.2.1 id,hE1.cell hS.2.2.1 id,hE1.cell hS.2.2.2.1 id,hE1.cell hS.2.2.2.2.1 id,hE1.cell hS.2.2.2.2.2 id⟩:Ext w w1∧_∧_∧_∧_∧_)
   go_simp
   refine hK.out _ _ hX (fun hS=>?_)
   clear hK K
   iterate 17
    (first|refine tkI 14 (some 29) rfl rfl ?_ hS ?_ ?_|refine tkI 15 (some 30) rfl rfl ?_ hS ?_ ?_|refine tkI 16 (some 31) rfl rfl ?_ hS ?_ ?_|refine tkI 17 (some 32) rfl rfl ?_ hS ?_ ?_|refine tkI 18 (some 33) rfl rfl ?_ hS ?_ ?_|refine tkI 19 (some 34) rfl rfl ?_ hS ?_ ?_|refine tkI 20 (some 35) rfl rfl ?_ hS ?_ ?_|refine tkI 21 (some 36) rfl rfl ?_ hS ?_ ?_|refine tkI 22 (some 37) rfl rfl ?_ hS ?_ ?_|refine tkI 23 (some 38) rfl rfl ?_ hS ?_ ?_|refine tkI 24 (some 39) rfl rfl ?_ hS ?_ ?_|refine tkI 25 (some 40) rfl rfl ?_ hS ?_ ?_|refine tkI 26 (some 41) rfl rfl ?_ hS ?_ ?_|refine tkI 27 (some 42) rfl rfl ?_ hS ?_ ?_|refine tkI 28 (some 43) rfl rfl ?_ hS ?_ ?_|refine tkI 29 (some 44) rfl rfl ?_ hS ?_ ?_|refine tkI 30 (some 45) rfl rfl ?_ hS ?_ ?_);rotate_left;· rintro W' ⟨_,_,_,_,_,_⟩;go_simp;try rfl
    try simp only[pL]
   refine wpAnyH_done (by kernel_rfl) ?_ _
   go_wp2
   go_ret
   exact ⟨yG Hf.out.symm,hS.1⟩
  have Hst:=hJ (Hg.out.step Hx.out Hok.out (fun k' p' e hp'=>by
   obtain rfl:k=k':=by omega
   rw[Hp.out] at hp';cases hp';exact hlt))
  have hbl:Op.bytesLess p.key.toList x.key.toList=true:=hlt
  refine wp_region_held_drew (S:=(fun W'=>Ext w W'∧W'.cell? ⟨wr.heap.size,0,none⟩=some (.string x.key)∧W'.cell? ⟨wr.heap.size,1,none⟩=some (.int .i64 x.val.kind)∧W'.cell? ⟨wr.heap.size,2,none⟩=some (.float .f64 x.val.num)∧W'.cell? ⟨wr.heap.size,3,none⟩=some (.string x.val.text)∧W'.cell? ⟨g,off+k*4,none⟩=some (.string p.key))) (by kernel_rfl) ⟨hF.drew,b0,b1,b2,b3,p0⟩ (fun hS=>?_)
  iterate 2
   (first|refine tkI 0 (some 15) rfl rfl ?_ hS ?_ ?_|refine tkI 1 (some 16) rfl rfl ?_ hS ?_ ?_);rotate_left;· rintro W' ⟨_,_,_,_,_,_⟩;go_simp;try rfl
   try simp only[pL]
  refine zaJ 2 rfl (fun K hK=>?_)
  go_simp
  go_wp2_with fail
  refine (jG x.key _).mono ?_
  rintro e w1 ⟨rfl,rfl⟩
  rw[hr]
  have hX:=hS
  go_simp
  refine hK.out _ _ hX (fun hS=>?_)
  clear hK K
  iterate 10
   (first|refine tkI 3 (some 18) rfl rfl ?_ hS ?_ ?_|refine tkI 4 (some 19) rfl rfl ?_ hS ?_ ?_|refine tkI 5 (some 20) rfl rfl ?_ hS ?_ ?_|refine tkI 6 (some 21) rfl rfl ?_ hS ?_ ?_|refine tkI 7 (some 22) rfl rfl ?_ hS ?_ ?_|refine tkI 8 (some 23) rfl rfl ?_ hS ?_ ?_|refine tkI 9 (some 24) rfl rfl ?_ hS ?_ ?_|refine tkI 10 (some 25) rfl rfl ?_ hS ?_ ?_|refine tkI 11 (some 26) rfl rfl ?_ hS ?_ ?_|refine tkI 12 (some 27) rfl rfl ?_ hS ?_ ?_);rotate_left;· rintro W' ⟨_,_,_,_,_,_⟩;go_simp;try rfl
   try simp only[pL]
  refine zaJ 13 rfl (fun K hK=>?_)
  go_simp
  go_wp2_with fail
  refine (xW x.val _).mono ?_
  rintro e w1 ⟨rfl,hE1⟩
  have hX:=(⟨Mod.ext hS.1 hE1,hE1.cell hS.2.1 id,hE1.cell hS.2.2.1 id,hE1.cell hS.2.2.2.1 id,hE1.cell hS.2.2.2.2.1 id,hE1.cell hS.2.2.2.2.2 id⟩:Ext w w1∧_∧_∧_∧_∧_)
  go_simp
  refine hK.out _ _ hX (fun hS=>?_)
  clear hK K
  iterate 17
   (first|refine tkI 14 (some 29) rfl rfl ?_ hS ?_ ?_|refine tkI 15 (some 30) rfl rfl ?_ hS ?_ ?_|refine tkI 16 (some 31) rfl rfl ?_ hS ?_ ?_|refine tkI 17 (some 32) rfl rfl ?_ hS ?_ ?_|refine tkI 18 (some 33) rfl rfl ?_ hS ?_ ?_|refine tkI 19 (some 34) rfl rfl ?_ hS ?_ ?_|refine tkI 20 (some 35) rfl rfl ?_ hS ?_ ?_|refine tkI 21 (some 36) rfl rfl ?_ hS ?_ ?_|refine tkI 22 (some 37) rfl rfl ?_ hS ?_ ?_|refine tkI 23 (some 38) rfl rfl ?_ hS ?_ ?_|refine tkI 24 (some 39) rfl rfl ?_ hS ?_ ?_|refine tkI 25 (some 40) rfl rfl ?_ hS ?_ ?_|refine tkI 26 (some 41) rfl rfl ?_ hS ?_ ?_|refine tkI 27 (some 42) rfl rfl ?_ hS ?_ ?_|refine tkI 28 (some 43) rfl rfl ?_ hS ?_ ?_|refine tkI 29 (some 44) rfl rfl ?_ hS ?_ ?_|refine tkI 30 (some 45) rfl rfl ?_ hS ?_ ?_);rotate_left;· rintro W' ⟨_,_,_,_,_,_⟩;go_simp;try rfl
   try simp only[pL]
  refine wpAnyH_done (by kernel_rfl) ?_ _
  go_wp2
  clear z4
  exact ⟨⟨k+1+1,by have:=Hrel.out;omega,by go_num,hS.1,Hst.out⟩,by have:=Hrel.out;simp[intOf];omega⟩
 have Hf:Hid (znL l=0):=hJ (ziX (znI (by rw[Hn.out,show n=i from by omega];exact Hg.out) (by rw[Hn.out];omega)))
 go_wp2
 go_ret
 exact ⟨yG Hf.out.symm,hE⟩
set_option maxHeartbeats 1000000
def jR:List zJ→ByteArray→Int
 | [],_ => -1
 | p :: l,k=>if eqT p.key k then 0 else (let r:=jR l k;if r<0 then -1 else r+1)
theorem zp8 (l:List zJ) (k:ByteArray) : -1≤jR l k∧jR l k<l.length:=by
 induction l with
 | nil=>simp[jR]
 | cons p l ih=>
  rw[jR]
  split
  · simp <;> omega
  simp only
  split
  · simp <;> omega
  simp <;> omega
theorem znM (l:List zJ) (k:ByteArray):(jR l k<0→zcD l k=yO.zero)∧(∀ j:Nat,jR l k=j→∃ x,l[j]? = some x∧zcD l k=x.val):=by
 induction l with
 | nil=>exact ⟨fun _=>rfl,fun j h=>by simp[jR] at h <;> omega⟩
 | cons p l ih=>
  rw[jR,zcY]
  by_cases h:eqT p.key k=true
  ·
   rw[if_pos h,if_pos h]
   refine ⟨fun h=>by omega,fun j hj=>?_⟩
   obtain rfl:j=0:=by omega
   exact ⟨p,rfl,rfl⟩
  rw[if_neg h,if_neg h]
  simp only
  by_cases h2:jR l k<0
  · rw[if_pos h2]
    exact ⟨fun _=>ih.1 h2,fun j hj=>by omega⟩
  rw[if_neg h2]
  refine ⟨fun h3=>by omega,fun j hj=>?_⟩
  obtain ⟨j',rfl⟩:∃ j',j=j'+1:=⟨j-1,by omega⟩
  obtain ⟨x,h4,h5⟩:=ih.2 j' (by omega)
  exact ⟨x,by simpa using h4,h5⟩
theorem zj3 {l:List zJ} {i:Nat} {x:zJ} {k:ByteArray} (h:l[i]? = some x) (hx:eqT x.key k=true) (hb:∀ j y,j<i→l[j]? = some y→eqT y.key k=false):jR l k=i:=by
 induction l generalizing i with
 | nil=>simp at h
 | cons p l ih=>
  rw[jR]
  cases i with
  | zero=>simp at h;subst h;rw[if_pos hx];rfl
  | succ i=>
   rw[if_neg (by rw[hb 0 p (by omega) rfl];simp)]
   have:=ih (i:=i) (by simpa using h) (fun j y hj hy=>hb (j+1) y (by omega) (by simpa using hy))
   simp only[this]
   rw[if_neg (by omega)]
   omega
theorem zk6 {l:List zJ} {k:ByteArray} (hb:∀ (j:Nat) y,l[j]? = some y→eqT y.key k=false):jR l k = -1:=by
 induction l with
 | nil=>rfl
 | cons p l ih=>
  rw[jR,if_neg (by rw[hb 0 p rfl];simp)]
  have:=ih (fun j y hy=>hb (j+1) y (by simpa using hy))
  simp only[this]
  rfl
theorem zp9 (x:zJ) (key:ByteArray) (b:Nat) (w:World) (hb:w.cell? ⟨b,0,none⟩=some (.string key)):
  Calls Tryz.prog 444 #[.agg #[.string x.key,.int .i64 x.val.kind,.float .f64 x.val.num,.string x.val.text],.pointer (some ⟨b,0,none⟩)] w fun e w'=>e=.returned (.bool (eqT x.key key))∧Ext w w':=by
 have hT:(x.key.toList==key.toList)=eqT x.key key:=rfl
 have hlt:b<w.heap.size:=World.block_lt_of_cell? _ _ hb
 go_enter Tryz.func444,Tryz.ntmps444
 go_wp2
 go_ret
 exact ⟨rfl,(Mod.refl _ w).alloc _⟩
theorem sl_index (w:World) (T:Nat→Prop) (v:Value) (l:List zJ) (key:ByteArray) (b:Nat) (h:Prs w T v l) (hb:w.cell? ⟨b,0,none⟩=some (.string key)):
  Calls Tryz.prog 443 #[v,.func (Fn.func 444) #[] #[.pointer (some ⟨b,0,none⟩)]] w fun e w'=>e=.returned (.int .i64 (jR l key))∧Ext w w':=by
 obtain ⟨n,hn⟩:∃ n,l.length=n:=⟨_,rfl⟩
 obtain ⟨A,c,rfl⟩:=h.form
 have hl:=h.1.le
 unfold maxLen at hl
 rw[hn] at h hl ⊢
 have Hn:=hJ hn
 clear hn
 go_enter Tryz.func443,Tryz.ntmps443
 go_wp2
 go_loopw [8] (fun iv wr=>∃ i:Nat,i≤n∧iv=.int .i64 i∧Ext w wr∧∀ j y,j<i→l[j]? = some y→eqT y.key key=false) (fun iv _=>n-(intOf iv).toNat)
 case atStart=>exact ⟨0,by omega,rfl,Mod.refl _ w,fun j y hj=>by omega⟩
 obtain ⟨i,hin,rfl,hE,hg⟩:=hrel
 have Hg:=hJ hg
 have h2:=h.ext hE
 clear hg
 by_cases hi:i<n
 ·
  obtain ⟨g,off,x,rfl,hgT,hx,hxok,hcells⟩:=h2.at hi
  have hi0:(0:Int)≤(i:Int):=by omega
  have hi1:(i:Int)<(n:Int):=by omega
  have x0:=hcells 0 _ rfl
  have x1:=hcells 1 _ rfl
  have x2:=hcells 2 _ rfl
  have x3:=hcells 3 _ rfl
  rw[Nat.add_zero] at x0
  have Hx:=hJ hx
  clear hcells hx h2 hxok
  go_wp2_with fail
  refine (zp9 x key b _ (hE.cell hb id)).mono ?_
  rintro e w1 ⟨rfl,hE1⟩
  have hF:=Mod.ext hE hE1
  clear hE1 x0 x1 x2 x3
  rcases hk:eqT x.key key with _|_
  ·
   have Hst:Hid (∀ j y,j<i+1→l[j]? = some y→eqT y.key key=false):=hJ (fun j y hj hy=>by
    by_cases e:j=i
    · subst e;rw[Hx.out] at hy;cases hy;exact hk
    exact Hg.out j y (by omega) hy)
   go_wp2
   exact ⟨⟨i+1,by omega,by go_num,hF,Hst.out⟩,by simp[intOf];omega⟩
  have Hf:Hid (jR l key=i):=hJ (zj3 Hx.out hk Hg.out)
  go_wp2
  go_ret
  exact ⟨yG Hf.out.symm,hF⟩
 have Hf:Hid (jR l key = -1):=hJ (zk6 (fun j y hy=>Hg.out j y (by have:=(List.getElem?_eq_some_iff.1 hy).1;have:=Hn.out;omega) hy))
 go_wp2
 go_ret
 exact ⟨yG Hf.out.symm,hE⟩
theorem kv_place (w:World) (T:Nat→Prop) (v:Value) (l:List zJ) (key:ByteArray) (h:Prs w T v l):
  Calls Tryz.prog 409 #[v,.string key] w fun e w'=>e=.returned (.int .i64 (jR l key))∧Ext w w':=by
 have hmf:∀ (fn:Fn) (first cap:Array Value) (w:World),(Instr.makeFunc fn first cap).run Tryz.prog w=.ok (.func fn first cap) w:=fun _ _ _ _=>rfl
 have hE:Ext w (w.alloc (.cells #[.string key] 9)):=(Mod.refl _ w).alloc _
 go_enter Tryz.func409,Tryz.ntmps409
 go_wp2_with fail
 refine (sl_index _ T v l key w.heap.size (h.ext hE) (by simp)).mono ?_
 rintro e w1 ⟨rfl,hE1⟩
 have HE:=hJ (Mod.ext hE hE1)
 clear hE1 hE
 go_wp2
 go_ret
 exact ⟨rfl,HE.out⟩
theorem zj4 (w:World) (T:Nat→Prop) (v:Value) (l:List zJ) (key:ByteArray) (h:Prs w T v l):
  Calls Tryz.prog 354 #[v,.string key] w fun e w'=>e=.returned (.agg #[.int .i64 (zcD l key).kind,.float .f64 (zcD l key).num,.string (zcD l key).text])∧Ext w w':=by
 have hE:Ext w (w.alloc (.cells #[.int .i64 0,.float .f64 0,.string ⟨#[]⟩] 25)):=(Mod.refl _ w).alloc _
 have hp:=znM l key
 have hlo:=zp8 l key
 obtain ⟨n,hn⟩:∃ n,l.length=n:=⟨_,rfl⟩
 obtain ⟨A,c,rfl⟩:=h.form
 rw[hn] at h hlo ⊢
 have hl:=h.len.2
 unfold maxLen at hl
 go_enter Tryz.func354,Tryz.ntmps354
 go_wp2_with fail
 refine (kv_place _ T _ l key (h.ext hE)).mono ?_
 rintro e w1 ⟨rfl,hE1⟩
 have h2:=h.ext (Mod.ext hE hE1)
 obtain ⟨hc1,hf1⟩:=zaO hE1
 have hz1:=hE1.size
 simp at hz1
 have q:w.heap.size<w1.heap.size:=by omega
 have HM:Hid (Mod (zD w.heap.size) w w1):=hJ (((Mod.refl (zD w.heap.size) w).alloc _).ext hE1)
 clear hE1 hE h
 by_cases hneg:jR l key<0
 focus
  have d:decide (jR l key<0)=true:=by simpa using hneg
  have Hv:=hJ (hp.1 hneg)
  clear hp hlo hn h2 hneg
  go_wp2
  refine bodyPost_ret (v:=.agg #[.int .i64 0,.float .f64 0,.string ⟨#[]⟩]) (by simp[results,Tryz.results354,go_sem,hc1,q]) rfl ⟨by rw[Hv.out];rfl,?_⟩
 rotate_left
 focus
  obtain ⟨j,hj⟩:∃ j:Nat,jR l key=j:=⟨(jR l key).toNat,by omega⟩
  obtain ⟨x,hx,hv⟩:=hp.2 j hj
  have hjn:j<n:=by rw[hj] at hlo;omega
  obtain ⟨g,off,y,rfl,hgT,hy,_,hcells⟩:=h2.at hjn
  rw[hx] at hy
  cases hy
  have hi0:(0:Int)≤(j:Int):=by omega
  have hi1:(j:Int)<(n:Int):=by omega
  have d:decide ((j:Int)<0)=false:=by simp
  have x0:=hcells 0 _ rfl
  have x1:=hcells 1 _ rfl
  have x2:=hcells 2 _ rfl
  have x3:=hcells 3 _ rfl
  have Hv:=hJ hv
  rw[hj]
  clear hcells hp hlo hn h2 hneg hj hx hv
  go_wp2
  refine bodyPost_ret (v:=.agg #[.int .i64 x.val.kind,.float .f64 x.val.num,.string x.val.text]) (by simp[results,Tryz.results354,go_sem,hc1,q]) rfl ⟨by rw[Hv.out],?_⟩
 all_goals
  refine Mod.toExt ?_
  repeat (first|exact HM.out|(refine Mod.setCell ?_ (.inl (by first|omega|(simp <;> omega))) _)|refine Mod.alloc ?_ _)
end Go.Proofs.YtjbkjhhjofeldaaGreat
