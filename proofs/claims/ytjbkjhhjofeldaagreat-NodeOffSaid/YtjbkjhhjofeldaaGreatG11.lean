/-
 Contracts of the page's writing functions (skerryref02). Conditions: as each theorem names them.
-/
import Derived.Test.YtjbkjhhjofeldaaGreatG10
import Derived.Laws.Rows
namespace Go.Proofs.YtjbkjhhjofeldaaGreat
set_option linter.unusedSimpArgs false
open Go.RowKit
theorem newB_app {w0 w w1:World} {xs ys:List UInt8} {v v':Value} {n:Nat} (h:zaN w0 w v xs) (hE:Ext w0 w) (ho:w1.ownsRow 0 5 1 v' n (xs.map B++ys.map B)) (hn:n=(xs++ys).length) (hgr:w.grownBy w1 v.ownBlock)
  (hat:v'.ownBlock=v.ownBlock∨v'.ownBlock=some w.heap.size):zaN w0 w1 v' (xs++ys)∧Ext w0 w1:=by
 refine ⟨⟨by rw[←hn];simpa using ho,fun g hg=>?_⟩,hE.grown hgr (fun k hk=>.inl (h.2 k hk))⟩
 have:=hE.size
 rcases hat with e|e
 · exact h.2 g (by rw[←e];exact hg)
 rw[e] at hg
 injection hg with hg
 omega
end Go.Proofs.YtjbkjhhjofeldaaGreat
namespace Go.Proofs.YtjbkjhhjofeldaaGreat
set_option linter.unusedSimpArgs false
open Go.RowKit
attribute [local go_sem] yN xT
attribute [local go_sem high] zh9
end Go.Proofs.YtjbkjhhjofeldaaGreat
namespace Go.Proofs.YtjbkjhhjofeldaaGreat
set_option linter.unusedSimpArgs false
open Go.RowKit
theorem zaN.up {w0 w1 w':World} {v:Value} {xs:List UInt8} (h:zaN w1 w' v xs) (hE:Ext w0 w1):zaN w0 w' v xs:=⟨h.1,fun g hg=>Nat.le_trans hE.size (h.2 g hg)⟩
theorem zaN.ext {w0 w w':World} {v:Value} {xs:List UInt8} (h:zaN w0 w v xs) (hE:Ext w w'):zaN w0 w' v xs:=⟨zN h.1 hE (fun _ _=>id),h.2⟩
section
variable {ops:Array Oper} {rest:List Oper} {o:Oper} {a:Act} {w0 w:World} {Q:Exit→Act→World→Prop} {xs ys:List UInt8} {v xv:Value}
theorem appB (hN:zaN w0 w v xs) (hE:Ext w0 w) {n:Nat} {w':World} {v':Value} (ho:w'.ownsRow 0 5 1 v' (xs.length+ys.length) (xs.map B++ys.map B)) (hgr:w.grownBy w' v.ownBlock) (hat:v'.ownBlock=v.ownBlock∨v'.ownBlock=some w.heap.size) (hn:n=(xs++ys).length):
  ∃ A c,v'=.slice A n c∧zaN w0 w' (.slice A n c) (xs++ys)∧Ext w0 w'∧Mod (fun k=>v.ownBlock=some k) w w'∧(∀ g,(Value.slice A n c).ownBlock=some g→v.ownBlock=some g∨w.heap.size≤g):=by
 have hF:=newB_app hN hE ho (by rw[List.length_append]) hgr hat
 obtain ⟨A,c,rfl⟩:=zC hF.1.1
 subst hn
 refine ⟨A,c,rfl,hF.1,hF.2,(Mod.refl _ w).grown hgr (fun k_ e=>.inr e),fun g hg=>?_⟩
 rcases hat with e|e
 · exact .inl (by rw[←e];exact hg)
 rw[e] at hg
 injection hg with hg
 exact .inr (by omega)
theorem jI (hgd:o.guard=none) (s x:Operand) (ho:o.op=.call { callee:=.builtin .append,args:=#[s,x],argTypes:=#[58,58] })
  (v:Value) (xs:List UInt8) (w0:World) (hs:a.eval s=v) (hN:zaN w0 w v xs) (hE:Ext w0 w) (T:Nat→Prop) (xv:Value) (ys:List UInt8) (hx:a.eval x=xv) (hb:Byt w T xv ys) (hl:xs.length+ys.length≤1000000000)
  (h:∀ A n c w',n=(xs++ys).length→zaN w0 w' (.slice A n c) (xs++ys)→Ext w0 w'→Mod (fun k=>v.ownBlock=some k) w w'→(∀ g,(Value.slice A n c).ownBlock=some g→v.ownBlock=some g∨w.heap.size≤g)→wpList Tryz.prog ops Q rest (a.put o.dst (.slice A n c)) w'):wpList Tryz.prog ops Q (o :: rest) a w:=by
 obtain ⟨i0,hi,hz0,hz1,hz2⟩:=info_parts zdV
 refine xB _ hgd s x 58 ho 5 i0 _ 1 1 Tryz.underlying58 hi hz0 hz1 hz2 rfl (by omega) v xs.length (xs.map B) hs hN.1 T xv ys.length (ys.map B) hx hb (zn8 ys) (by simp only[maxLen];omega) (by omega) ?_
 intro v' w' ho' hgr hat
 obtain ⟨A,c,rfl,h1,h2,h3,h4⟩:=appB hN hE ho' hgr hat rfl
 exact h A _ c w' rfl h1 h2 h3 h4
end
end Go.Proofs.YtjbkjhhjofeldaaGreat
set_option maxRecDepth 100000
set_option maxHeartbeats 2000000
namespace Go.Proofs.YtjbkjhhjofeldaaGreat
set_option linter.unusedSimpArgs false
open Go.RowKit
theorem zo2 (w:World) (o p:Obj):((w.alloc o).alloc p).heap[w.heap.size]? = some o∧((w.alloc o).alloc p).heap[w.heap.size+1]? = some p∧((w.alloc o).alloc p).heap.size=w.heap.size+2:=by
 refine ⟨?_,?_,by simp⟩
 · rw[Below.heap_alloc _ _ _ (by simp)];exact heap_alloc_new w _
 have:=heap_alloc_new (w.alloc o) p;simpa using this
theorem zo3 (w:World) (T U:Nat→Prop) (a b:Value) (xs ys:List UInt8) (ha:Byt w T a xs) (hb:Byt w U b ys):
  Calls Tryz.prog 157 #[a,b] w fun e w'=>e=.returned (.bool (xs==ys))∧w=w':=by
 have ca:=zoQ ha
 have cb:=zoQ hb
 obtain ⟨A,c,rfl⟩:=ha.form
 obtain ⟨A',c',rfl⟩:=hb.form
 clear ha hb
 go_enter Tryz.func157,Tryz.ntmps157
 go_wp2
 go_ret
 exact ⟨rfl,rfl⟩
theorem zdZ (w:World) (T:Nat→Prop) (v:Value) (l:List UInt8) (h:Byt w T v l) (hl:l.length≤1000000):
  Calls Tryz.prog 59 #[v] w fun e w'=>∃ v',e=.returned v'∧zaN w w' v' l∧Ext w w':=by
 obtain ⟨i0,hi,hz0,hz1,hz2⟩:=info_parts zdV
 obtain ⟨n,hn⟩:∃ n,l.length=n:=⟨_,rfl⟩
 obtain ⟨A,c,rfl⟩:=h.form
 have h1:=h
 unfold Byt at h1
 rw[hn] at hl h1 ⊢
 have Hn:=hJ hn
 clear hn h
 have heq:=fun (w:World) (a:Option Addr) (n c n' c':Nat)=>Lib.run_eql_slice_nil (P:=Tryz.prog) w 58 5 a n c n' c' Tryz.underlying58
 rcases A with _|A
 ·
  have hn0:n=0:=by
   rcases Nat.eq_zero_or_pos n with h0|h0
   · exact h0
   obtain ⟨_,A',c',e,_,_,hx⟩:=h1
   injection e with e1 _ _
   obtain ⟨g,off,hA,_⟩:=hx h0
   rw[←e1] at hA;cases hA
  have hl0:l=[]:=List.eq_nil_of_length_eq_zero (by rw[Hn.out];exact hn0)
  subst hl0
  clear h1
  go_enter Tryz.func59,Tryz.ntmps59
  go_wp2
  go_ret
  exact ⟨_,rfl,⟨World.ownsRow_nil _ _ _ _,by simp[Value.ownBlock]⟩,Mod.refl _ w⟩
 have hEa:Ext w (w.alloc (.cells #[] 5)):=(Mod.refl _ w).alloc _
 have h3:=h1.ext hEa
 have hown:(w.alloc (.cells #[] 5)).ownsRow 0 5 1 (.slice (some ⟨w.heap.size,0,none⟩) 0 0) 0 []:=World.ownsRow_made w #[] 0 (Nat.zero_le _) (by simp[maxLen]) rfl
 go_enter Tryz.func59,Tryz.ntmps59
 go_wp2_with (at_builtin;refine xB _ rfl _ _ 58 rfl 5 i0 _ 1 1 Tryz.underlying58 hi hz0 hz1 hz2 rfl (by omega) _ 0 [] rfl hown T _ n (l.map B) rfl h3 (zn8 l) (by simp only[maxLen];omega) (by omega) ?_)
 intro v' w1 ho hgr hat
 have hM:Mod (zD w.heap.size) w w1:=(((Mod.refl (zD w.heap.size) w).alloc _).grown hgr (fun k hk=>by
  simp[Value.ownBlock] at hk;subst hk;exact .inl (Nat.le_refl _)))
 have hN:zaN w w1 v' l:=by
  refine ⟨by rw[Hn.out];simpa using ho,fun g hgg=>?_⟩
  rcases hat with e|e <;> rw[e] at hgg <;> simp[Value.ownBlock] at hgg <;> omega
 go_wp2
 go_ret
 exact ⟨v',rfl,hN,hM.toExt⟩
theorem zeZ (w:World) (T:Nat→Prop) (v:Value) (l:List zO) (h:zoU w T v l) (hl:l.length≤1000000):
  Calls Tryz.prog 60 #[v] w fun e w'=>∃ v',e=.returned v'∧ziF w w' v' l∧Ext w w':=by
 obtain ⟨i0,hi,hz0,hz1,hz2⟩:=info_parts zhO
 obtain ⟨n,hn⟩:∃ n,l.length=n:=⟨_,rfl⟩
 obtain ⟨A,c,rfl⟩:=h.1.form
 obtain ⟨h1,h2⟩:=h
 skip
 rw[hn] at hl h1 ⊢
 obtain ⟨Hn,H2⟩:=hJ2 hn h2
 clear hn h2
 have heq:=fun (w:World) (a:Option Addr) (n c n' c':Nat)=>Lib.run_eql_slice_nil (P:=Tryz.prog) w 59 100 a n c n' c' Tryz.underlying59
 rcases A with _|A
 ·
  have hn0:n=0:=by
   rcases Nat.eq_zero_or_pos n with h0|h0
   · exact h0
   obtain ⟨_,A',c',e,_,_,hx⟩:=h1
   injection e with e1 _ _
   obtain ⟨g,off,hA,_⟩:=hx h0
   rw[←e1] at hA;cases hA
  have hl0:l=[]:=List.eq_nil_of_length_eq_zero (by rw[Hn.out];exact hn0)
  subst hl0
  clear h1
  go_enter Tryz.func60,Tryz.ntmps60
  go_wp2
  go_ret
  exact ⟨_,rfl,newE_nil w w,Mod.refl _ w⟩
 have hEa:Ext w (w.alloc (.cells #[] 100)):=(Mod.refl _ w).alloc _
 have h3:=h1.ext hEa
 have hown:(w.alloc (.cells #[] 100)).ownsRow 0 100 16 (.slice (some ⟨w.heap.size,0,none⟩) 0 0) 0 []:=World.ownsRow_made w #[] 0 (Nat.zero_le _) (by simp[maxLen]) rfl
 go_enter Tryz.func60,Tryz.ntmps60
 go_wp2_with (at_builtin;refine xB _ rfl _ _ 59 rfl 100 i0 _ 16 152 Tryz.underlying59 hi hz0 hz1 hz2 rfl (by omega) _ 0 [] rfl hown T _ n (l.flatMap zO.cells) rfl h3 (zeA l) (by simp only[maxLen];omega) (by omega) ?_)
 intro v' w1 ho hgr hat
 have hM:Mod (zD w.heap.size) w w1:=(((Mod.refl (zD w.heap.size) w).alloc _).grown hgr (fun k hk=>by
  simp[Value.ownBlock] at hk;subst hk;exact .inl (Nat.le_refl _)))
 have hN:ziF w w1 v' l:=by
  refine ⟨by rw[Hn.out];simpa using ho,H2.out,fun g hgg=>?_⟩
  rcases hat with e|e <;> rw[e] at hgg <;> simp[Value.ownBlock] at hgg <;> omega
 go_wp2
 go_ret
 exact ⟨v',rfl,hN,hM.toExt⟩
def zcS (w w':World) (sv lv:Value) (h:zX):Prop:=zaN w w' sv h.snap∧ziF w w' lv h.log
theorem zcS.mod {W w1 w2:World} {S:Nat→Prop} {sv lv:Value} {h:zX} (hh:zcS W w1 sv lv h) (hm:Mod S w1 w2) (h1:∀ g,sv.ownBlock=some g→¬ S g) (h2:∀ g,lv.ownBlock=some g→¬ S g):zcS W w2 sv lv h:=
 ⟨⟨zN hh.1.1 hm h1,hh.1.2⟩,zeB hh.2 hm h2⟩
theorem zcS.ext {W w1 w2:World} {sv lv:Value} {h:zX} (hh:zcS W w1 sv lv h) (hE:Ext w1 w2):zcS W w2 sv lv h:=hh.mod hE (fun _ _=>id) (fun _ _=>id)
theorem zcS.up {W w0 w1:World} {sv lv:Value} {h:zX} (hh:zcS w0 w1 sv lv h) (hE:Ext W w0):zcS W w1 sv lv h:=⟨hh.1.up hE,jH hh.2 hE.size⟩
theorem zcS.box {W w w':World} {sv lv:Value} {h:zX} {b:Nat} {t:TypeId} {cs:Array Value} {q:Nat×Nat} (hh:zcS W w sv lv h) (hb:w.heap[b]? = some (.cells cs t q)) (hM:Mod (fun k=>k=b) w w') (h1:5≠t) (h2:100≠t):zcS W w' sv lv h:=
 hh.mod hM (fun _ hg=>zG hh.1.1 hg hb h1) (fun _ hg=>zG hh.2.1 hg hb h2)
theorem zcS.forms {W w:World} {sv lv:Value} {h:zX} (hh:zcS W w sv lv h):∃ As cs Al cl,sv=.slice As h.snap.length cs∧lv=.slice Al h.log.length cl:=by
 obtain ⟨As,cs,h1⟩:=zC hh.1.1
 obtain ⟨Al,cl,h2⟩:=zC hh.2.1
 exact ⟨As,cs,Al,cl,h1,h2⟩
def hOwn (sv lv:Value) (g:Nat):Prop:=sv.ownBlock=some g∨lv.ownBlock=some g
theorem zcS.mem {W w:World} {sv lv:Value} {h:zX} (hh:zcS W w sv lv h):xP w (hOwn sv lv) sv lv h:=⟨Sl.of_own hh.1.1 (fun _ hg=>.inl hg),Sl.of_own hh.2.1 (fun _ hg=>.inr hg),hh.2.2.1⟩
theorem zkS (w:World) (T:Nat→Prop) (h:zX) (sv lv:Value) (hv:xP w T sv lv h) (hl:h.log.length≤1000000) (hs:h.snap.length≤1000000):
  Calls Tryz.prog 119 #[.agg #[.int .i64 h.term,.int .i64 h.vote,.int .i64 h.base,.int .i64 h.baseTerm,.int .i64 h.conf.full,.int .i64 h.conf.wit,.int .i64 h.conf.learn,.int .i64 h.conf.learnWit,sv,lv]] w fun e w'=>∃ sv' lv',e=.returned (.agg #[.int .i64 h.term,.int .i64 h.vote,.int .i64 h.base,.int .i64 h.baseTerm,.int .i64 h.conf.full,.int .i64 h.conf.wit,.int .i64 h.conf.learn,.int .i64 h.conf.learnWit,sv',lv'])∧zcS w w' sv' lv' h∧Ext w w':=by
 obtain ⟨As,cs,Al,cl,rfl,rfl⟩:=hv.forms
 obtain ⟨b,hb⟩:∃ b,w.heap.size=b:=⟨_,rfl⟩
 obtain ⟨n,hn⟩:∃ n,h.snap.length=n:=⟨_,rfl⟩
 obtain ⟨m,hm⟩:∃ m,h.log.length=m:=⟨_,rfl⟩
 have Hv:=hJ hv
 rw[hn,hm] at Hv ⊢
 obtain ⟨W,hW⟩:∃ W,W=(w.alloc (.cells (h.cells (.slice As n cs) (.slice Al m cl)).toArray 61)).alloc (.cells zH.toArray 61):=⟨_,rfl⟩
 obtain ⟨hA,hB,hsz⟩:=zo2 w (.cells (h.cells (.slice As n cs) (.slice Al m cl)).toArray 61) (.cells zH.toArray 61)
 rw[←hW,hb] at hA hB hsz
 have hE:Ext w W:=by rw[hW];exact ((Mod.refl _ w).alloc _).alloc _
 obtain ⟨Hn,Hm,HW,HA,HB,Hb,HE⟩:=hJ7 hn hm hW hA hB hb hE
 clear hA hB hW hb hE hn hm hv hsz
 go_enter Tryz.func119,Tryz.ntmps119
 go_wp2_with fail
 rw[←HW.out,Hb.out]
 refine wp_region_held_drew (S:=fun _=>True) (by kernel_rfl) trivial (fun hS=>?_)
 iterate 2
  (first|refine tkI 0 (some 3) rfl rfl ?_ hS ?_ ?_|refine tkI 3 (some 6) rfl rfl ?_ hS ?_ ?_);rotate_left;· rintro W' _;go_simp;try rfl
  try simp only[pL]
 obtain ⟨w0,hw0⟩:∃ w0,w0=W.drew:=⟨_,rfl⟩
 have HX:Hid (Ext W w0):=hJ (by rw[hw0];exact (Mod.refl _ W).drew)
 rw[←hw0]
 clear hw0
 have hR:=HX.out.blk HA.out id
 have q8:w0.cell? ⟨b,8,none⟩=some (.slice As n cs):=zA (cs:=(h.cells (.slice As n cs) (.slice Al m cl))) hR rfl
 have q9:w0.cell? ⟨b,9,none⟩=some (.slice Al m cl):=zA (cs:=(h.cells (.slice As n cs) (.slice Al m cl))) hR rfl
 have HR:=hJ hR
 clear hR
 refine rdy2 1 4 rfl rfl (fun K hK=>?_) (fun K hK=>?_)
 ·
  go_simp
  refine hK.out _ _ trivial (fun hS=>?_)
  clear hK K hS
  have hS:True:=trivial
  try simp only[pL]
  refine rdy2 2 4 rfl rfl (fun K hK=>?_) (fun K hK=>?_)
  focus
   go_simp
   go_wp2_with fail
   refine (zdZ w0 T _ h.snap (by have h1:=(Hv.out.1.ext HE.out).ext HX.out;exact h1) hs).mono ?_
   rintro e w1 ⟨v1,rfl,hN1,hE1⟩
   obtain ⟨A1,c1,rfl⟩:=zC hN1.1
   rw[Hn.out]
   have HN1:Hid (zaN w w1 (.slice A1 n c1) h.snap):=hJ (by have h1:=hN1.up (HE.out.ext HX.out);rw[Hn.out] at h1;exact h1)
   replace HX:=hJ (HX.out.ext hE1)
   replace HR:=hJ (hE1.blk HR.out id)
   replace q8:=hE1.cell q8 id
   replace q9:=hE1.cell q9 id
   clear hN1 hE1
   go_simp
   refine hK.out _ _ trivial (fun hS=>?_)
   clear hK K hS
   have hS:True:=trivial
   try simp only[pL]
   refine zaJ 4 rfl (fun K hK=>?_)
  rotate_left
  focus
   go_simp
   refine hK.out _ _ trivial (fun hS=>?_)
   clear hK K hS
   have hS:True:=trivial
   try simp only[pL]
   refine zaJ 2 rfl (fun K hK=>?_)
   go_simp
   go_wp2_with fail
   refine (zdZ w0 T _ h.snap (by have h1:=(Hv.out.1.ext HE.out).ext HX.out;exact h1) hs).mono ?_
   rintro e w1 ⟨v1,rfl,hN1,hE1⟩
   obtain ⟨A1,c1,rfl⟩:=zC hN1.1
   rw[Hn.out]
   have HN1:Hid (zaN w w1 (.slice A1 n c1) h.snap):=hJ (by have h1:=hN1.up (HE.out.ext HX.out);rw[Hn.out] at h1;exact h1)
   replace HX:=hJ (HX.out.ext hE1)
   replace HR:=hJ (hE1.blk HR.out id)
   replace q8:=hE1.cell q8 id
   replace q9:=hE1.cell q9 id
   clear hN1 hE1
  all_goals
   go_simp
   refine hK.out _ _ trivial (fun hS=>?_)
   clear hK K hS
   have hS:True:=trivial
   try simp only[pL]
   refine tkH 6 (some 9) rfl rfl ?_ hS ?_ ?_;rotate_left;· rintro W' _;go_simp;try rfl
   try simp only[pL]
   refine zaJ 5 rfl (fun K hK=>?_)
   go_simp
   go_wp2_with fail
   refine (zeZ w1 T _ h.log (by have h1:=(Hv.out.2.mod HE.out (fun _ _=>id)).mod HX.out (fun _ _=>id);exact h1) hl).mono ?_
   rintro e w2 ⟨v2,rfl,hN2,hE2⟩
   obtain ⟨A2,c2,rfl⟩:=zC hN2.1
   rw[Hm.out]
   have HN2:Hid (ziF w w2 (.slice A2 m c2) h.log):=hJ (by have h1:=jH hN2 (HE.out.ext HX.out).size;rw[Hm.out] at h1;exact h1)
   replace HN1:=hJ (HN1.out.ext hE2)
   replace HX:=hJ (HX.out.ext hE2)
   replace HR:=hJ (hE2.blk HR.out id)
   clear hN2 hE2 q8 q9
   go_simp
   refine hK.out _ _ trivial (fun hS=>?_)
   clear hK K hS
   have hS:True:=trivial
   try simp only[pL]
   refine zaJ 7 rfl (fun K hK=>?_)
   have hR:=HR.out
   have f8:w2.frozen? ⟨b,8,none⟩=false:=zB 8 hR
   have d8:w2.cell? ⟨b,8,none⟩=some _:=zA (cs:=(h.cells (.slice As n cs) (.slice Al m cl))) hR rfl
   obtain ⟨w3,hw3⟩:∃ w3,w2.setCell ⟨b,8,none⟩ (.slice A1 n c1)=w3:=⟨_,rfl⟩
   have HR3:Hid (w3.heap[b]? = some (.cells (h.cells (.slice A1 n c1) (.slice Al m cl)).toArray 61 (0,0))):=hJ (by rw[←hw3];simp[World.setCell,Array.getElem?_modify,hR])
   have HM3:Hid (Mod (fun k=>k=b) w2 w3):=hJ (by rw[←hw3];exact zM (Mod.refl _ w2) _ _)
   have Hw3:=hJ hw3
   clear hR hw3
   go_simp
   rw[Hw3.out]
   refine hK.out _ _ trivial (fun hS=>?_)
   clear hK K hS f8 d8 Hw3
   have hS:True:=trivial
   try simp only[pL]
   refine tkH 8 (some 10) rfl rfl ?_ hS ?_ ?_;rotate_left;· rintro W' _;go_simp;try rfl
   try simp only[pL]
   refine zaJ 9 rfl (fun K hK=>?_)
   have hR:=HR3.out
   have f9:w3.frozen? ⟨b,9,none⟩=false:=zB 9 hR
   have d9:w3.cell? ⟨b,9,none⟩=some _:=zA (cs:=(h.cells (.slice A1 n c1) (.slice Al m cl))) hR rfl
   obtain ⟨w4,hw4⟩:∃ w4,w3.setCell ⟨b,9,none⟩ (.slice A2 m c2)=w4:=⟨_,rfl⟩
   have HR4:Hid (w4.heap[b]? = some (.cells (h.cells (.slice A1 n c1) (.slice A2 m c2)).toArray 61 (0,0))):=hJ (by rw[←hw4];simp[World.setCell,Array.getElem?_modify,hR])
   have HM4:Hid (Mod (fun k=>k=b) w2 w4):=hJ (by rw[←hw4];exact zM HM3.out _ _)
   have Hw4:=hJ hw4
   clear hR hw4
   go_simp
   rw[Hw4.out]
   refine hK.out _ _ trivial (fun hS=>?_)
   clear hK K hS f9 d9 Hw4 HM3 HR3
   try simp only[pL]
   refine wpAnyH_done (by kernel_rfl) ?_ _
   have hld:=ld0 (P:=Tryz.prog) (cs:=(h.cells (.slice A1 n c1) (.slice A2 m c2))) yF HR4.out
   have hB4:w4.heap[b+1]? = some (.cells zH.toArray 61 (0,0)):=HM4.out.blk (HX.out.blk HB.out id) (by omega)
   go_wp2_with (first|(refine yT rfl 61 _ rfl _ _ rfl hld ?_)|(refine qH rfl 61 _ _ rfl 10 (b+1) 0 (h.cells (.slice A1 n c1) (.slice A2 m c2)) rfl rfl yF _ zH (h.cells (.slice A1 n c1) (.slice A2 m c2)) hB4 rfl (by simp) (by intro u hu;simp only[List.mem_cons,List.not_mem_nil,or_false] at hu;rcases hu with rfl|rfl|rfl|rfl|rfl|rfl|rfl|rfl|rfl|rfl <;> rfl) rfl ?_))
   intro w5 hb5 hm5 hs5
   have hNH2:zcS w w2 (.slice A1 n c1) (.slice A2 m c2) h:=⟨HN1.out,HN2.out⟩
   have hNH4:=hNH2.box HR.out HM4.out (by decide) (by decide)
   have hNH5:=hNH4.box hB4 hm5 (by decide) (by decide)
   have hsz:w.heap.size=b:=Hb.out
   have hE5:Ext w w5:=Mod.toExt ((((Ext.mod (HE.out.ext HX.out) (zD w.heap.size)).trans HM4.out (fun k _ e=>by unfold zD;omega))).trans hm5 (fun k _ e=>by unfold zD;omega))
   obtain ⟨HF,HE5⟩:=hJ2 hNH5 hE5
   clear hld hB4 hm5 hs5 hNH2 hNH4 hNH5 hE5 hsz
   go_wp2_with fail
   exact bodyPost_ret (v:=.agg #[.int .i64 h.term,.int .i64 h.vote,.int .i64 h.base,.int .i64 h.baseTerm,.int .i64 h.conf.full,.int .i64 h.conf.wit,.int .i64 h.conf.learn,.int .i64 h.conf.learnWit,.slice A1 n c1,.slice A2 m c2]) (results_cell_row rfl _ _ _ _ _ (0,0) _ rfl hb5 Tryz.underlying61 rfl (by kernel_rfl)) rfl ⟨_,_,rfl,HF.out,HE5.out⟩
 go_simp
 refine hK.out _ _ trivial (fun hS=>?_)
 clear hK K hS
 have hS:True:=trivial
 try simp only[pL]
 refine zaJ 1 rfl (fun K hK=>?_)
 go_simp
 refine hK.out _ _ trivial (fun hS=>?_)
 clear hK K hS
 have hS:True:=trivial
 try simp only[pL]
 refine zaJ 2 rfl (fun K hK=>?_)
 go_simp
 go_wp2_with fail
 refine (zdZ w0 T _ h.snap (by have h1:=(Hv.out.1.ext HE.out).ext HX.out;exact h1) hs).mono ?_
 rintro e w1 ⟨v1,rfl,hN1,hE1⟩
 obtain ⟨A1,c1,rfl⟩:=zC hN1.1
 rw[Hn.out]
 have HN1:Hid (zaN w w1 (.slice A1 n c1) h.snap):=hJ (by have h1:=hN1.up (HE.out.ext HX.out);rw[Hn.out] at h1;exact h1)
 replace HX:=hJ (HX.out.ext hE1)
 replace HR:=hJ (hE1.blk HR.out id)
 replace q8:=hE1.cell q8 id
 replace q9:=hE1.cell q9 id
 clear hN1 hE1
 go_simp
 refine hK.out _ _ trivial (fun hS=>?_)
 clear hK K hS
 have hS:True:=trivial
 try simp only[pL]
 refine tkH 6 (some 9) rfl rfl ?_ hS ?_ ?_;rotate_left;· rintro W' _;go_simp;try rfl
 try simp only[pL]
 refine zaJ 5 rfl (fun K hK=>?_)
 go_simp
 go_wp2_with fail
 refine (zeZ w1 T _ h.log (by have h1:=(Hv.out.2.mod HE.out (fun _ _=>id)).mod HX.out (fun _ _=>id);exact h1) hl).mono ?_
 rintro e w2 ⟨v2,rfl,hN2,hE2⟩
 obtain ⟨A2,c2,rfl⟩:=zC hN2.1
 rw[Hm.out]
 have HN2:Hid (ziF w w2 (.slice A2 m c2) h.log):=hJ (by have h1:=jH hN2 (HE.out.ext HX.out).size;rw[Hm.out] at h1;exact h1)
 replace HN1:=hJ (HN1.out.ext hE2)
 replace HX:=hJ (HX.out.ext hE2)
 replace HR:=hJ (hE2.blk HR.out id)
 clear hN2 hE2 q8 q9
 go_simp
 refine hK.out _ _ trivial (fun hS=>?_)
 clear hK K hS
 have hS:True:=trivial
 try simp only[pL]
 refine zaJ 7 rfl (fun K hK=>?_)
 have hR:=HR.out
 have f8:w2.frozen? ⟨b,8,none⟩=false:=zB 8 hR
 have d8:w2.cell? ⟨b,8,none⟩=some _:=zA (cs:=(h.cells (.slice As n cs) (.slice Al m cl))) hR rfl
 obtain ⟨w3,hw3⟩:∃ w3,w2.setCell ⟨b,8,none⟩ (.slice A1 n c1)=w3:=⟨_,rfl⟩
 have HR3:Hid (w3.heap[b]? = some (.cells (h.cells (.slice A1 n c1) (.slice Al m cl)).toArray 61 (0,0))):=hJ (by rw[←hw3];simp[World.setCell,Array.getElem?_modify,hR])
 have HM3:Hid (Mod (fun k=>k=b) w2 w3):=hJ (by rw[←hw3];exact zM (Mod.refl _ w2) _ _)
 have Hw3:=hJ hw3
 clear hR hw3
 go_simp
 rw[Hw3.out]
 refine hK.out _ _ trivial (fun hS=>?_)
 clear hK K hS f8 d8 Hw3
 have hS:True:=trivial
 try simp only[pL]
 refine tkH 8 (some 10) rfl rfl ?_ hS ?_ ?_;rotate_left;· rintro W' _;go_simp;try rfl
 try simp only[pL]
 refine zaJ 9 rfl (fun K hK=>?_)
 have hR:=HR3.out
 have f9:w3.frozen? ⟨b,9,none⟩=false:=zB 9 hR
 have d9:w3.cell? ⟨b,9,none⟩=some _:=zA (cs:=(h.cells (.slice A1 n c1) (.slice Al m cl))) hR rfl
 obtain ⟨w4,hw4⟩:∃ w4,w3.setCell ⟨b,9,none⟩ (.slice A2 m c2)=w4:=⟨_,rfl⟩
 have HR4:Hid (w4.heap[b]? = some (.cells (h.cells (.slice A1 n c1) (.slice A2 m c2)).toArray 61 (0,0))):=hJ (by rw[←hw4];simp[World.setCell,Array.getElem?_modify,hR])
 have HM4:Hid (Mod (fun k=>k=b) w2 w4):=hJ (by rw[←hw4];exact zM HM3.out _ _)
 have Hw4:=hJ hw4
 clear hR hw4
 go_simp
 rw[Hw4.out]
 refine hK.out _ _ trivial (fun hS=>?_)
 clear hK K hS f9 d9 Hw4 HM3 HR3
 try simp only[pL]
 refine wpAnyH_done (by kernel_rfl) ?_ _
 have hld:=ld0 (P:=Tryz.prog) (cs:=(h.cells (.slice A1 n c1) (.slice A2 m c2))) yF HR4.out
 have hB4:w4.heap[b+1]? = some (.cells zH.toArray 61 (0,0)):=HM4.out.blk (HX.out.blk HB.out id) (by omega)
 go_wp2_with (first|(refine yT rfl 61 _ rfl _ _ rfl hld ?_)|(refine qH rfl 61 _ _ rfl 10 (b+1) 0 (h.cells (.slice A1 n c1) (.slice A2 m c2)) rfl rfl yF _ zH (h.cells (.slice A1 n c1) (.slice A2 m c2)) hB4 rfl (by simp) (by intro u hu;simp only[List.mem_cons,List.not_mem_nil,or_false] at hu;rcases hu with rfl|rfl|rfl|rfl|rfl|rfl|rfl|rfl|rfl|rfl <;> rfl) rfl ?_))
 intro w5 hb5 hm5 hs5
 have hNH2:zcS w w2 (.slice A1 n c1) (.slice A2 m c2) h:=⟨HN1.out,HN2.out⟩
 have hNH4:=hNH2.box HR.out HM4.out (by decide) (by decide)
 have hNH5:=hNH4.box hB4 hm5 (by decide) (by decide)
 have hsz:w.heap.size=b:=Hb.out
 have hE5:Ext w w5:=Mod.toExt ((((Ext.mod (HE.out.ext HX.out) (zD w.heap.size)).trans HM4.out (fun k _ e=>by unfold zD;omega))).trans hm5 (fun k _ e=>by unfold zD;omega))
 obtain ⟨HF,HE5⟩:=hJ2 hNH5 hE5
 clear hld hB4 hm5 hs5 hNH2 hNH4 hNH5 hE5 hsz
 go_wp2_with fail
 exact bodyPost_ret (v:=.agg #[.int .i64 h.term,.int .i64 h.vote,.int .i64 h.base,.int .i64 h.baseTerm,.int .i64 h.conf.full,.int .i64 h.conf.wit,.int .i64 h.conf.learn,.int .i64 h.conf.learnWit,.slice A1 n c1,.slice A2 m c2]) (results_cell_row rfl _ _ _ _ _ (0,0) _ rfl hb5 Tryz.underlying61 rfl (by kernel_rfl)) rfl ⟨_,_,rfl,HF.out,HE5.out⟩
end Go.Proofs.YtjbkjhhjofeldaaGreat
