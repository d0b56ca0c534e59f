/-
 Small words on memory. No program is named here. Conditions: as each theorem names them.
-/
import Derived.Test.YtjbkjhhjofeldaaGreatG4
import Derived.Test.YtjbkjhhjofeldaaGreatG3
import Derived.Deep.QuietTactic
import Derived.BigQuiet
import Derived.Deep.RegionHeld3
import Derived.Deep.MidRow
namespace Go.Proofs.YtjbkjhhjofeldaaGreat
theorem zaO {W w1:World} (hb:Ext W w1):(∀ b o,b<W.heap.size→w1.cell? ⟨b,o,none⟩=W.cell? ⟨b,o,none⟩)∧(∀ b o,b<W.heap.size→w1.frozen? ⟨b,o,none⟩=W.frozen? ⟨b,o,none⟩):=
 ⟨fun b o h=>hb.below.cell (p:=⟨b,o,none⟩) h,fun b o h=>hb.below.frozen (p:=⟨b,o,none⟩) h⟩
end Go.Proofs.YtjbkjhhjofeldaaGreat
set_option maxRecDepth 100000
set_option maxHeartbeats 4000000
namespace Go.Proofs.YtjbkjhhjofeldaaGreat
set_option linter.unusedSimpArgs false
open Go.RowKit
attribute [local go_sem] yN xT
theorem zbO (x:Nat) (w:World):Calls Tryz.prog 185 #[.float .f64 x] w fun e w'=>e=.returned (.bool (decide (x=0)))∧w=w':=by
 have h:((x:Int)==0)=decide (x=0):=by rw[Bool.eq_iff_iff];simp
 go_enter Tryz.func185,Tryz.ntmps185
 go_wp2
 go_ret
 exact ⟨rfl,rfl⟩
theorem zbG (v:yO) (w:World):Calls Tryz.prog 110 #[.agg #[.int .i64 v.kind,.float .f64 v.num,.string v.text]] w fun e w'=>e=.returned (.int .i64 (chk v))∧Ext w w':=by
 obtain ⟨k,x,t⟩:=v
 have hT:t.toList.isEmpty=zZ t:=rfl
 have hE:Ext w (w.alloc (.cells #[.int .i64 k,.float .f64 x,.string t] 25)):=(Mod.refl _ w).alloc _
 have e1:(FloatKind.f64.format.order x x != some Ordering.eq)=xZ x:=rfl
 simp only
 by_cases h0:k=0
 ·
  subst h0
  rw[chk0,zd5]
  rcases he:zZ t with _|_
  ·
   rw[he] at hT
   rw[Bool.and_false]
   go_enter Tryz.func110,Tryz.ntmps110
   go_wp2_with (first|(go_at_call 185;refine (zbO _ _).mono ?_;rintro e w' ⟨rfl,rfl⟩)|(go_at_call 187;refine (qG _).mono ?_;rintro e w' ⟨rfl,rfl⟩))
   go_ret
   exact ⟨rfl,hE⟩
  rw[he] at hT
  by_cases hx:x=0
  focus
   subst hx
   have e2:(FloatKind.f64.format.order 0 0 != some Ordering.eq)=false:=by kernel_rfl
   clear e1
  rotate_left
  focus
   have d:decide (x=0)=false:=by simpa using hx
   rw[d]
   clear hx
  all_goals
   go_enter Tryz.func110,Tryz.ntmps110
   go_wp2_with (first|(go_at_call 185;refine (zbO _ _).mono ?_;rintro e w' ⟨rfl,rfl⟩)|(go_at_call 187;refine (qG _).mono ?_;rintro e w' ⟨rfl,rfl⟩))
   go_ret
   exact ⟨rfl,hE⟩
 by_cases h1:k=1
 ·
  subst h1
  rw[chk1,zhJ]
  rcases he:zZ t with _|_
  ·
   rw[he] at hT
   rw[Bool.and_false]
   go_enter Tryz.func110,Tryz.ntmps110
   go_wp2_with (first|(go_at_call 185;refine (zbO _ _).mono ?_;rintro e w' ⟨rfl,rfl⟩)|(go_at_call 187;refine (qG _).mono ?_;rintro e w' ⟨rfl,rfl⟩))
   go_ret
   exact ⟨rfl,hE⟩
  rw[he] at hT
  rcases hn:xZ x with _|_
  ·
   rw[hn] at e1
   go_enter Tryz.func110,Tryz.ntmps110
   go_wp2_with (first|(go_at_call 185;refine (zbO _ _).mono ?_;rintro e w' ⟨rfl,rfl⟩)|(go_at_call 187;refine (qG _).mono ?_;rintro e w' ⟨rfl,rfl⟩))
   go_ret
   exact ⟨rfl,hE⟩
  rw[hn] at e1
  by_cases hx:x=zaL
  focus
   subst hx
  rotate_left
  focus
   have d:((x:Int) != (zaL:Int))=true:=by rw[bne_iff_ne];omega
   have d2:decide (true=true∧x≠zaL)=true:=by simpa using hx
   rw[d2]
   clear d2 hx
  all_goals
   go_enter Tryz.func110,Tryz.ntmps110
   go_wp2_with (first|(go_at_call 185;refine (zbO _ _).mono ?_;rintro e w' ⟨rfl,rfl⟩)|(go_at_call 187;refine (qG _).mono ?_;rintro e w' ⟨rfl,rfl⟩))
   go_ret
   exact ⟨rfl,hE⟩
 by_cases h2:k=2
 ·
  subst h2
  rw[chk2,zd5]
  by_cases hl:32<t.size
  ·
   rw[if_pos hl]
   have d:decide ((32:Int)<(t.size:Int))=true:=by simp;omega
   go_enter Tryz.func110,Tryz.ntmps110
   go_wp2_with (first|(go_at_call 185;refine (zbO _ _).mono ?_;rintro e w' ⟨rfl,rfl⟩)|(go_at_call 187;refine (qG _).mono ?_;rintro e w' ⟨rfl,rfl⟩))
   go_ret
   exact ⟨rfl,hE⟩
  rw[if_neg hl]
  have d:decide ((32:Int)<(t.size:Int))=false:=by simp;omega
  by_cases hx:x=0
  focus
   subst hx
   have e2:(FloatKind.f64.format.order 0 0 != some Ordering.eq)=false:=by kernel_rfl
   clear e1
  rotate_left
  focus
   have d:decide (x=0)=false:=by simpa using hx
   rw[d]
   clear hx
  all_goals
   go_enter Tryz.func110,Tryz.ntmps110
   go_wp2_with (first|(go_at_call 185;refine (zbO _ _).mono ?_;rintro e w' ⟨rfl,rfl⟩)|(go_at_call 187;refine (qG _).mono ?_;rintro e w' ⟨rfl,rfl⟩))
   go_ret
   exact ⟨rfl,hE⟩
 rw[chk3 x t h0 h1 h2]
 by_cases hk:k<0
 focus
  have d:decide (k<0)=true:=by simpa using hk
 rotate_left
 focus
  have d:decide (k<0)=false:=by simpa using hk
  have d2:decide (2<k)=true:=by rw[decide_eq_true_iff];omega
 all_goals
  clear h0 h1 h2
  go_enter Tryz.func110,Tryz.ntmps110
  go_wp2_with (first|(go_at_call 185;refine (zbO _ _).mono ?_;rintro e w' ⟨rfl,rfl⟩)|(go_at_call 187;refine (qG _).mono ?_;rintro e w' ⟨rfl,rfl⟩))
  go_ret
  exact ⟨rfl,hE⟩
theorem zhL (v:yO) (w:World):Calls Tryz.prog 109 #[.agg #[.int .i64 v.kind,.float .f64 v.num,.string v.text]] w fun e w'=>e=.returned (.bool (zaC v))∧Ext w w':=by
 have hE:Ext w (w.alloc (.cells #[.int .i64 v.kind,.float .f64 v.num,.string v.text] 25)):=(Mod.refl _ w).alloc _
 unfold zaC
 rcases h:(v.kind==0) with _|_
 ·
  go_enter Tryz.func109,Tryz.ntmps109
  go_wp2
  go_ret
  exact ⟨rfl,hE⟩
 go_enter Tryz.func109,Tryz.ntmps109
 go_wp2_with fail
 refine (zbG v _).mono ?_
 rintro e w1 ⟨rfl,hE1⟩
 have HE:=hJ (Mod.ext hE hE1)
 clear hE hE1
 go_wp2
 go_ret
 exact ⟨rfl,HE.out⟩
theorem jG (k:ByteArray) (w:World):Calls Tryz.prog 167 #[.string k] w fun e w'=>e=.returned (.bool (jX k))∧w=w':=by
 unfold jX
 have e1:decide ((1:Int)≤(k.size:Int))=decide (1≤k.size):=by rw[decide_eq_decide];omega
 have e2:decide ((k.size:Int)≤8)=decide (k.size≤8):=by rw[decide_eq_decide];omega
 rcases h:decide (1≤k.size) with _|_
 all_goals
  rw[h] at e1
  go_enter Tryz.func167,Tryz.ntmps167
  go_wp2
  go_ret
  exact ⟨rfl,rfl⟩
theorem zmT (v:yO):zdU v=zaC v:=by
 unfold zdU zaC
 rcases h:(v.kind==0) with _|_
 · rfl
 obtain ⟨k,x,t⟩:=v
 have:k=0:=by simpa using h
 subst this
 rw[chk0]
 simp only[Bool.true_and]
 rcases (yV x 0&&zZ t) with _|_ <;> rfl
theorem zoM (v:yO) (w:World):Calls Tryz.prog 169 #[.agg #[.int .i64 v.kind,.float .f64 v.num,.string v.text]] w fun e w'=>e=.returned (.bool (zaC v))∧Ext w w':=by
 rw[←zmT]
 unfold zdU
 have hT:v.text.toList.isEmpty=zZ v.text:=rfl
 have hE:Ext w (w.alloc (.cells #[.int .i64 v.kind,.float .f64 v.num,.string v.text] 25)):=(Mod.refl _ w).alloc _
 rcases h1:(v.kind==0) with _|_
 ·
  go_enter Tryz.func169,Tryz.ntmps169
  go_wp2
  go_ret
  exact ⟨rfl,hE⟩
 rcases h2:yV v.num 0 with _|_
 all_goals
  go_enter Tryz.func169,Tryz.ntmps169
  go_wp2_with (go_at_call 267;refine (zjH _ _ _).mono ?_;rintro e w' ⟨rfl,rfl⟩)
  go_ret
  exact ⟨rfl,hE⟩
theorem zd6 {W w1:World} {b o:Nat} {cs:List Value} (h:W.rangeAt b o cs) (hE:Ext W w1):w1.rangeAt b o cs:=fun j v hv=>hE.cell (h j v hv) id
theorem zd7 {c:jV} (h:c.kind<1∨6<c.kind):zcP c=15:=by unfold zcP;rw[if_pos h]
theorem zjI {c:jV} (h:¬ (c.kind<1∨6<c.kind)) (h2:8<c.key.size):zcP c=2:=by unfold zcP;rw[if_neg h,if_pos h2]
theorem zd8 {c:jV} (h:¬ (c.kind<1∨6<c.kind)) (h2:¬ 8<c.key.size) (h3:c.key.size<1∨(c.kind≠4∧zaC c.old=false)∨chk c.old≠0∨chk c.val≠0):zcP c=8:=by unfold zcP;rw[if_neg h,if_neg h2,if_pos h3]
def zf3 (c:jV):Bool:=(c.kind==4||zaC c.old)&&okV c
theorem zjJ {c:jV} (h:¬ (c.kind<1∨6<c.kind)) (h2:¬ 8<c.key.size) (h3:¬ c.key.size<1) (h4:chk c.old=0) (h5:chk c.val=0):zcP c=if zf3 c=true then 0 else 8:=by
 unfold zcP zf3
 rw[if_neg h,if_neg h2]
 by_cases hk:c.kind=4
 ·
  rw[if_neg (by simp[h3,h4,h5,hk])]
  have:(c.kind==4)=true:=by simpa using hk
  rw[this];simp
 have:(c.kind==4)=false:=by simpa using hk
 rw[this]
 rcases hz:zaC c.old with _|_
 · rw[if_pos (.inr (.inl ⟨hk,rfl⟩))];simp
 rw[if_neg (by simp[h3,h4,h5])];simp
theorem zf4 (c:jV):(c.kind=1→zf3 c=(zaC c.old&&zaC c.val))∧(c.kind=2→zf3 c=(zaC c.old&&(c.val.kind != 0)))∧(c.kind=3→zf3 c=(zaC c.old&&zaC c.val)) ∧
  (c.kind=4→zf3 c=true)∧(c.kind=5→zf3 c=(zaC c.old&&(c.val.kind==1)))∧(c.kind=6→zf3 c=(zaC c.old&&(c.val.kind==1))):=by
 refine ⟨fun h=>?_,fun h=>?_,fun h=>?_,fun h=>?_,fun h=>?_,fun h=>?_⟩ <;> simp[zf3,okV,h]
theorem zd9 (c:jV) (w:World):Calls Tryz.prog 92 #[.agg #[.int .i64 c.kind,.string c.key,.int .i64 c.old.kind,.float .f64 c.old.num,.string c.old.text,.int .i64 c.val.kind,.float .f64 c.val.num,.string c.val.text]] w fun e w'=>e=.returned (.int .i64 (zcP c))∧Ext w w':=by
 have hE:Ext w (w.alloc (.cells #[.int .i64 c.kind,.string c.key,.int .i64 c.old.kind,.float .f64 c.old.num,.string c.old.text,.int .i64 c.val.kind,.float .f64 c.val.num,.string c.val.text] 27)):=(Mod.refl _ w).alloc _
 have d0:decide (c.kind<1)=decide (c.kind<1):=rfl
 by_cases hk1:c.kind<1
 ·
  rw[zd7 (.inl hk1)]
  have d:decide (c.kind<1)=true:=by simpa using hk1
  go_enter Tryz.func92,Tryz.ntmps92
  go_wp2
  go_ret
  exact ⟨rfl,hE⟩
 have d1:decide (c.kind<1)=false:=by simpa using hk1
 by_cases hk2:6<c.kind
 ·
  rw[zd7 (.inr hk2)]
  have d:decide (6<c.kind)=true:=by simpa using hk2
  go_enter Tryz.func92,Tryz.ntmps92
  go_wp2
  go_ret
  exact ⟨rfl,hE⟩
 have d2:decide (6<c.kind)=false:=by simpa using hk2
 have hk:¬ (c.kind<1∨6<c.kind):=by omega
 by_cases hl:8<c.key.size
 ·
  rw[zjI hk hl]
  have d:decide ((8:Int)<(c.key.size:Int))=true:=by simp;omega
  go_enter Tryz.func92,Tryz.ntmps92
  go_wp2
  go_ret
  exact ⟨rfl,hE⟩
 have d3:decide ((8:Int)<(c.key.size:Int))=false:=by simp;omega
 by_cases hs:c.key.size<1
 ·
  rw[zd8 hk hl (.inl hs)]
  have r:jX c.key=false:=by unfold jX;have:¬ 1≤c.key.size:=by omega
                            simp[this]
  go_enter Tryz.func92,Tryz.ntmps92
  go_wp2_with (go_at_call 167;refine (jG _ _).mono ?_;rintro e w' ⟨rfl,rfl⟩)
  go_ret
  exact ⟨rfl,hE⟩
 have r:jX c.key=true:=by unfold jX;have h1:1≤c.key.size:=by omega
                          have h2:c.key.size≤8:=by omega
                          simp[h1,h2]
 obtain ⟨W,hW⟩:∃ W,W=w.alloc (.cells #[.int .i64 c.kind,.string c.key,.int .i64 c.old.kind,.float .f64 c.old.num,.string c.old.text,.int .i64 c.val.kind,.float .f64 c.val.num,.string c.val.text] 27):=⟨_,rfl⟩
 have hcs:∀ j u,c.cells[j]? = some u→W.cell? ⟨w.heap.size,j,none⟩=some u:=by
  intro j u hu
  rw[hW,cell_of_row _ _ _ _ _ _ (heap_alloc_new w _)]
  simpa using hu
 rw[←hW] at hE
 obtain ⟨HW,Hcs⟩:=hJ2 hW hcs
 have Hrest:Hid (chk c.old=0→chk c.val=0→zcP c=if zf3 c=true then 0 else 8):=hJ (zjJ hk hl hs)
 have Htype:Hid (chk c.old≠0∨chk c.val≠0→zcP c=8):=hJ (fun h=>zd8 hk hl (.inr (.inr h)))
 clear hW hcs hl hs hk d0
 have hk3:1≤c.kind∧c.kind≤6:=by omega
 clear hk1 hk2
 go_enter Tryz.func92,Tryz.ntmps92
 go_wp2_with (go_at_call 167;refine (jG _ _).mono ?_;rintro e w' ⟨rfl,rfl⟩)
 rw[←HW.out]
 refine (xW c.old _).mono ?_
 rintro e w1 ⟨rfl,hE1⟩
 have hF1:=Mod.ext hE hE1
 have x5:=hE1.cell (Hcs.out 5 _ rfl) id
 have x6:=hE1.cell (Hcs.out 6 _ rfl) id
 have x7:=hE1.cell (Hcs.out 7 _ rfl) id
 have HE1:=hJ hE1
 clear hE1
 by_cases ho:chk c.old=0
 case neg=>
  have n:(chk c.old != 0)=true:=by simpa using ho
  have Hc:=hJ (Htype.out (.inl ho))
  clear ho
  go_wp2
  go_ret
  exact ⟨yG Hc.out.symm,hF1⟩
 have n1:(chk c.old != 0)=false:=by simpa using ho
 go_wp2_with fail
 refine (xW c.val _).mono ?_
 rintro e w2 ⟨rfl,hE2⟩
 have hF2:=Mod.ext hF1 hE2
 have hG2:=Mod.ext HE1.out hE2
 clear x5 x6 x7 hF1 hE2
 by_cases hv:chk c.val=0
 case neg=>
  have n:(chk c.val != 0)=true:=by simpa using hv
  have Hc:=hJ (Htype.out (.inr hv))
  clear hv ho
  go_wp2
  go_ret
  exact ⟨yG Hc.out.symm,hF2⟩
 have n2:(chk c.val != 0)=false:=by simpa using hv
 have Hc:=hJ (Hrest.out ho hv)
 clear ho hv
 have ro:w2.rangeAt w.heap.size 2 [.int .i64 c.old.kind,.float .f64 c.old.num,.string c.old.text]:=by
  intro j u hu
  have hj:j<3:=(List.getElem?_eq_some_iff.1 hu).1
  refine hG2.cell (Hcs.out (2+j) u ?_) id
  rw[←hu]
  match j,hj with
  | 0,_=>rfl
  | 1,_=>rfl
  | 2,_=>rfl
 have rv:w2.rangeAt w.heap.size 5 [.int .i64 c.val.kind,.float .f64 c.val.num,.string c.val.text]:=by
  intro j u hu
  have hj:j<3:=(List.getElem?_eq_some_iff.1 hu).1
  refine hG2.cell (Hcs.out (5+j) u ?_) id
  rw[←hu]
  match j,hj with
  | 0,_=>rfl
  | 1,_=>rfl
  | 2,_=>rfl
 have hu25:=Tryz.underlying25
 have hio:(Tryz.prog.info? 25).map (·.size)=some ([.int .i64 c.old.kind,.float .f64 c.old.num,.string c.old.text]:List Value).length:=by kernel_rfl
 have hiv:(Tryz.prog.info? 25).map (·.size)=some ([.int .i64 c.val.kind,.float .f64 c.val.num,.string c.val.text]:List Value).length:=by kernel_rfl
 go_wp2_with fail
 refine wp_region_held_drew (S:=(fun W'=>Ext w W'∧Ext W W'∧W'.rangeAt w.heap.size 2 [.int .i64 c.old.kind,.float .f64 c.old.num,.string c.old.text]∧W'.rangeAt w.heap.size 5 [.int .i64 c.val.kind,.float .f64 c.val.num,.string c.val.text])) (by kernel_rfl) ⟨hF2.drew,hG2.drew,ro,rv⟩ (fun hS=>?_)
 refine wpAnyH_take (i:=0) (v:=.pointer (some ⟨w.heap.size,2,none⟩)) rfl (by kernel_rfl) (by kernel_rfl) (by kernel_rfl) (fun _ _ _ h=>h) (Or.inl ⟨by kernel_rfl,fun _ _=>by kernel_rfl⟩) hS ?_
 refine wpAnyH_take (i:=3) (v:=.pointer (some ⟨w.heap.size,5,none⟩)) rfl (by kernel_rfl) (by kernel_rfl) (by kernel_rfl) (fun _ _ _ h=>h) (Or.inl ⟨by kernel_rfl,fun _ _=>by kernel_rfl⟩) hS ?_
 refine wpAnyH_take (i:=1) (v:=.agg #[.int .i64 c.old.kind,.float .f64 c.old.num,.string c.old.text]) rfl (by kernel_rfl) (by kernel_rfl) (by kernel_rfl) (fun _ _ _ h=>h) (yieldsIf_load_mid (by kernel_rfl) 25 _ rfl (w.heap.size) 2 (by kernel_rfl) [.int .i64 c.old.kind,.float .f64 c.old.num,.string c.old.text] _ (fun _ h=>h.2.2.1) hu25 rfl hio) hS ?_
 refine wpAnyH_take (i:=4) (v:=.agg #[.int .i64 c.val.kind,.float .f64 c.val.num,.string c.val.text]) rfl (by kernel_rfl) (by kernel_rfl) (by kernel_rfl) (fun _ _ _ h=>h) (yieldsIf_load_mid (by kernel_rfl) 25 _ rfl (w.heap.size) 5 (by kernel_rfl) [.int .i64 c.val.kind,.float .f64 c.val.num,.string c.val.text] _ (fun _ h=>h.2.2.2) hu25 rfl hiv) hS ?_
 refine zaJ 2 rfl (fun K hK=>?_)
 go_simp
 go_wp2_with fail
 refine (zoM c.old _).mono ?_
 rintro e w3 ⟨rfl,hE3⟩
 have hX:=(⟨Mod.ext hS.1 hE3,Mod.ext hS.2.1 hE3,zd6 hS.2.2.1 hE3,zd6 hS.2.2.2 hE3⟩:Ext w w3∧Ext W w3∧w3.rangeAt w.heap.size 2 [.int .i64 c.old.kind,.float .f64 c.old.num,.string c.old.text]∧w3.rangeAt w.heap.size 5 [.int .i64 c.val.kind,.float .f64 c.val.num,.string c.val.text])
 go_simp
 refine hK.out _ _ hX (fun hS=>?_)
 clear hK K
 refine zaJ 5 rfl (fun K hK=>?_)
 go_simp
 go_wp2_with fail
 refine (zoM c.val _).mono ?_
 rintro e w4 ⟨rfl,hE4⟩
 have hX:=(⟨Mod.ext hS.1 hE4,Mod.ext hS.2.1 hE4,zd6 hS.2.2.1 hE4,zd6 hS.2.2.2 hE4⟩:Ext w w4∧Ext W w4∧w4.rangeAt w.heap.size 2 [.int .i64 c.old.kind,.float .f64 c.old.num,.string c.old.text]∧w4.rangeAt w.heap.size 5 [.int .i64 c.val.kind,.float .f64 c.val.num,.string c.val.text])
 go_simp
 refine hK.out _ _ hX (fun hS=>?_)
 clear hK K
 refine wpAnyH_take (i:=6) (v:=.bool (zaC c.old)) rfl (by kernel_rfl) (by kernel_rfl) (by kernel_rfl) (fun _ _ _ h=>h) (Or.inl ⟨by kernel_rfl,fun _ _=>by kernel_rfl⟩) hS ?_
 refine wpAnyH_take (i:=7) (v:=.bool (zaC c.val)) rfl (by kernel_rfl) (by kernel_rfl) (by kernel_rfl) (fun _ _ _ h=>h) (Or.inl ⟨by kernel_rfl,fun _ _=>by kernel_rfl⟩) hS ?_
 refine wpAnyH_done (by kernel_rfl) ?_ _
 have hF4:=hX.1
 have y0:=hX.2.1.cell (Hcs.out 0 _ rfl) id
 have y5:=hX.2.1.cell (Hcs.out 5 _ rfl) id
 clear hX hS hE3 hE4 hF2 hG2 ro rv hu25 hio hiv
 have hkk:c.kind=1∨c.kind=2∨c.kind=3∨c.kind=4∨c.kind=5∨c.kind=6:=by omega
 clear hk3 d1 d2 d3 r n1 n2
 obtain ⟨zo,hzo⟩:∃ b,zaC c.old=b:=⟨_,rfl⟩
 obtain ⟨zv,hzv⟩:∃ b,zaC c.val=b:=⟨_,rfl⟩
 rw[hzo,hzv]
 have hrest:=zf4 c
 rw[hzo,hzv] at hrest
 have HR:=hJ hrest
 clear hrest hzo hzv
 rcases hkk with h|h|h|h|h|h
 ·
  have H:Hid _:=hJ (HR.out.1 h)
  have t1:(c.kind==1)=true:=by rw[h];rfl
  have t2:(c.kind==2)=false:=by rw[h];rfl
  have t3:(c.kind==3)=false:=by rw[h];rfl
  have t4:(c.kind==4)=false:=by rw[h];rfl
  have t5:(c.kind==5)=false:=by rw[h];rfl
  have t6:(c.kind==6)=false:=by rw[h];rfl
  clear h
  rcases zo with _|_ <;> rcases zv with _|_
  all_goals
   go_wp2
   go_ret
   exact ⟨yG (by rw[Hc.out,H.out];rfl),hF4⟩
 ·
  have H:Hid _:=hJ (HR.out.2.1 h)
  have t1:(c.kind==1)=false:=by rw[h];rfl
  have t2:(c.kind==2)=true:=by rw[h];rfl
  have t3:(c.kind==3)=false:=by rw[h];rfl
  have t4:(c.kind==4)=false:=by rw[h];rfl
  have t5:(c.kind==5)=false:=by rw[h];rfl
  have t6:(c.kind==6)=false:=by rw[h];rfl
  clear h
  rcases hq:(c.val.kind != 0) with _|_ <;> rcases zo with _|_
  all_goals
   rw[hq] at H
   go_wp2
   go_ret
   exact ⟨yG (by rw[Hc.out,H.out];rfl),hF4⟩
 ·
  have H:Hid _:=hJ (HR.out.2.2.1 h)
  have t1:(c.kind==1)=false:=by rw[h];rfl
  have t2:(c.kind==2)=false:=by rw[h];rfl
  have t3:(c.kind==3)=true:=by rw[h];rfl
  have t4:(c.kind==4)=false:=by rw[h];rfl
  have t5:(c.kind==5)=false:=by rw[h];rfl
  have t6:(c.kind==6)=false:=by rw[h];rfl
  clear h
  rcases zo with _|_ <;> rcases zv with _|_
  all_goals
   go_wp2
   go_ret
   exact ⟨yG (by rw[Hc.out,H.out];rfl),hF4⟩
 ·
  have H:Hid _:=hJ (HR.out.2.2.2.1 h)
  have t1:(c.kind==1)=false:=by rw[h];rfl
  have t2:(c.kind==2)=false:=by rw[h];rfl
  have t3:(c.kind==3)=false:=by rw[h];rfl
  have t4:(c.kind==4)=true:=by rw[h];rfl
  have t5:(c.kind==5)=false:=by rw[h];rfl
  have t6:(c.kind==6)=false:=by rw[h];rfl
  clear h
  go_wp2
  go_ret
  exact ⟨yG (by rw[Hc.out,H.out];rfl),hF4⟩
 focus
  have H:Hid _:=hJ (HR.out.2.2.2.2.1 h)
  have t1:(c.kind==1)=false:=by rw[h];rfl
  have t2:(c.kind==2)=false:=by rw[h];rfl
  have t3:(c.kind==3)=false:=by rw[h];rfl
  have t4:(c.kind==4)=false:=by rw[h];rfl
  have t5:(c.kind==5)=true:=by rw[h];rfl
  have t6:(c.kind==6)=false:=by rw[h];rfl
 rotate_left
 focus
  have H:Hid _:=hJ (HR.out.2.2.2.2.2 h)
  have t1:(c.kind==1)=false:=by rw[h];rfl
  have t2:(c.kind==2)=false:=by rw[h];rfl
  have t3:(c.kind==3)=false:=by rw[h];rfl
  have t4:(c.kind==4)=false:=by rw[h];rfl
  have t5:(c.kind==5)=false:=by rw[h];rfl
  have t6:(c.kind==6)=true:=by rw[h];rfl
 all_goals
  clear h
  rcases hq:(c.val.kind==1) with _|_ <;> rcases zo with _|_
  all_goals
   rw[hq] at H
   go_wp2
   go_ret
   exact ⟨yG (by rw[Hc.out,H.out];rfl),hF4⟩
theorem r_cmd (c:jV) (w:World):Calls Tryz.prog 52 #[.agg #[.int .i64 c.kind,.string c.key,.int .i64 c.old.kind,.float .f64 c.old.num,.string c.old.text,.int .i64 c.val.kind,.float .f64 c.val.num,.string c.val.text]] w fun e w'=>e=.returned (.int .i64 (zcP c))∧Ext w w':=by
 have hE:Ext w (w.alloc (.cells #[.int .i64 c.kind,.string c.key,.int .i64 c.old.kind,.float .f64 c.old.num,.string c.old.text,.int .i64 c.val.kind,.float .f64 c.val.num,.string c.val.text] 27)):=(Mod.refl _ w).alloc _
 by_cases hk1:c.kind<1
 ·
  rw[zd7 (.inl hk1)]
  have d:decide (c.kind<1)=true:=by simpa using hk1
  go_enter Tryz.func52,Tryz.ntmps52
  go_wp2
  go_ret
  exact ⟨rfl,hE⟩
 have d1:decide (c.kind<1)=false:=by simpa using hk1
 by_cases hk2:6<c.kind
 ·
  rw[zd7 (.inr hk2)]
  have d:decide (6<c.kind)=true:=by simpa using hk2
  go_enter Tryz.func52,Tryz.ntmps52
  go_wp2
  go_ret
  exact ⟨rfl,hE⟩
 have d2:decide (6<c.kind)=false:=by simpa using hk2
 have hk:¬ (c.kind<1∨6<c.kind):=by omega
 by_cases hl:8<c.key.size
 ·
  rw[zjI hk hl]
  have d:decide ((8:Int)<(c.key.size:Int))=true:=by simp;omega
  go_enter Tryz.func52,Tryz.ntmps52
  go_wp2
  go_ret
  exact ⟨rfl,hE⟩
 have d3:decide ((8:Int)<(c.key.size:Int))=false:=by simp;omega
 by_cases hs:c.key.size<1
 ·
  rw[zd8 hk hl (.inl hs)]
  have d:decide ((c.key.size:Int)<1)=true:=by simp;omega
  go_enter Tryz.func52,Tryz.ntmps52
  go_wp2
  go_ret
  exact ⟨rfl,hE⟩
 have d4:decide ((c.key.size:Int)<1)=false:=by simp;omega
 obtain ⟨W,hW⟩:∃ W,W=w.alloc (.cells #[.int .i64 c.kind,.string c.key,.int .i64 c.old.kind,.float .f64 c.old.num,.string c.old.text,.int .i64 c.val.kind,.float .f64 c.val.num,.string c.val.text] 27):=⟨_,rfl⟩
 have hcs:∀ j u,c.cells[j]? = some u→W.cell? ⟨w.heap.size,j,none⟩=some u:=by
  intro j u hu
  rw[hW,cell_of_row _ _ _ _ _ _ (heap_alloc_new w _)]
  simpa using hu
 rw[←hW] at hE
 obtain ⟨HW,Hcs⟩:=hJ2 hW hcs
 have Hrest:Hid (chk c.old=0→chk c.val=0→zcP c=if zf3 c=true then 0 else 8):=hJ (zjJ hk hl hs)
 have Htype:Hid ((c.kind≠4∧zaC c.old=false)∨chk c.old≠0∨chk c.val≠0→zcP c=8):=hJ (fun h=>zd8 hk hl (.inr h))
 clear hW hcs hl hs hk
 have hkk:c.kind=1∨c.kind=2∨c.kind=3∨c.kind=4∨c.kind=5∨c.kind=6:=by omega
 clear hk1 hk2
 have HR:=hJ (zf4 c)
 rcases hkk with h|h|h|h|h|h
 ·
  have H:Hid _:=hJ (HR.out.1 h)
  have h4:(c.kind != 4)=true:=by rw[h];rfl
  have Hn:Hid (c.kind=1):=hJ h
  have t1:(c.kind==1)=true:=by rw[h];rfl
  have t2:(c.kind==2)=false:=by rw[h];rfl
  have t3:(c.kind==3)=false:=by rw[h];rfl
  have t4:(c.kind==4)=false:=by rw[h];rfl
  have t5:(c.kind==5)=false:=by rw[h];rfl
  have t6:(c.kind==6)=false:=by rw[h];rfl
  clear h
  go_enter Tryz.func52,Tryz.ntmps52
  go_wp2_with fail
  rw[←HW.out]
  refine (zhL c.old _).mono ?_
  rintro e w0 ⟨rfl,hE0⟩
  have hF0:=Mod.ext hE hE0
  rcases hz:zaC c.old with _|_
  ·
   have Hc:=hJ (Htype.out (.inl ⟨by rw[Hn.out];decide,hz⟩))
   go_wp2
   go_ret
   exact ⟨yG Hc.out.symm,hF0⟩
  have x2:=hE0.cell (Hcs.out 2 _ rfl) id
  have x3:=hE0.cell (Hcs.out 3 _ rfl) id
  have x4:=hE0.cell (Hcs.out 4 _ rfl) id
  rw[hz] at H
  have HE0:=hJ hE0
  clear hE0 hz
  go_wp2_with fail
  refine (zbG c.old _).mono ?_
  rintro e w1 ⟨rfl,hE1⟩
  have hF1:=Mod.ext hF0 hE1
  have hG1:=Mod.ext HE0.out hE1
  by_cases ho:chk c.old=0
  case neg=>
   have n:(chk c.old != 0)=true:=by simpa using ho
   have Hc:=hJ (Htype.out (.inr (.inl ho)))
   clear ho
   go_wp2
   go_ret
   exact ⟨yG Hc.out.symm,hF1⟩
  have n1:(chk c.old != 0)=false:=by simpa using ho
  have x5:=hG1.cell (Hcs.out 5 _ rfl) id
  have x6:=hG1.cell (Hcs.out 6 _ rfl) id
  have x7:=hG1.cell (Hcs.out 7 _ rfl) id
  have HG1:=hJ hG1
  clear hE1 hG1
  go_wp2_with fail
  refine (zbG c.val _).mono ?_
  rintro e w2 ⟨rfl,hE2⟩
  have hF2:=Mod.ext hF1 hE2
  have hG2:=Mod.ext HG1.out hE2
  by_cases hv:chk c.val=0
  case neg=>
   have n:(chk c.val != 0)=true:=by simpa using hv
   have Hc:=hJ (Htype.out (.inr (.inr hv)))
   clear hv ho
   go_wp2
   go_ret
   exact ⟨yG Hc.out.symm,hF2⟩
  have n2:(chk c.val != 0)=false:=by simpa using hv
  have Hc:=hJ (Hrest.out ho hv)
  have y0:=hG2.cell (Hcs.out 0 _ rfl) id
  have y5:=hG2.cell (Hcs.out 5 _ rfl) id
  have y6:=hG2.cell (Hcs.out 6 _ rfl) id
  have y7:=hG2.cell (Hcs.out 7 _ rfl) id
  clear ho hv x5 x6 x7 hE2 hG2
  go_wp2_with fail
  refine (zhL c.val _).mono ?_
  rintro e w3 ⟨rfl,hE3⟩
  have hF3:=Mod.ext hF2 hE3
  clear hE3
  rcases hz2:zaC c.val with _|_
  all_goals
   rw[hz2] at H
   go_wp2
   go_ret
   exact ⟨yG (by rw[Hc.out,H.out];rfl),hF3⟩
 ·
  have H:Hid _:=hJ (HR.out.2.1 h)
  have h4:(c.kind != 4)=true:=by rw[h];rfl
  have Hn:Hid (c.kind=2):=hJ h
  have t1:(c.kind==1)=false:=by rw[h];rfl
  have t2:(c.kind==2)=true:=by rw[h];rfl
  have t3:(c.kind==3)=false:=by rw[h];rfl
  have t4:(c.kind==4)=false:=by rw[h];rfl
  have t5:(c.kind==5)=false:=by rw[h];rfl
  have t6:(c.kind==6)=false:=by rw[h];rfl
  clear h
  go_enter Tryz.func52,Tryz.ntmps52
  go_wp2_with fail
  rw[←HW.out]
  refine (zhL c.old _).mono ?_
  rintro e w0 ⟨rfl,hE0⟩
  have hF0:=Mod.ext hE hE0
  rcases hz:zaC c.old with _|_
  ·
   have Hc:=hJ (Htype.out (.inl ⟨by rw[Hn.out];decide,hz⟩))
   go_wp2
   go_ret
   exact ⟨yG Hc.out.symm,hF0⟩
  have x2:=hE0.cell (Hcs.out 2 _ rfl) id
  have x3:=hE0.cell (Hcs.out 3 _ rfl) id
  have x4:=hE0.cell (Hcs.out 4 _ rfl) id
  rw[hz] at H
  have HE0:=hJ hE0
  clear hE0 hz
  go_wp2_with fail
  refine (zbG c.old _).mono ?_
  rintro e w1 ⟨rfl,hE1⟩
  have hF1:=Mod.ext hF0 hE1
  have hG1:=Mod.ext HE0.out hE1
  by_cases ho:chk c.old=0
  case neg=>
   have n:(chk c.old != 0)=true:=by simpa using ho
   have Hc:=hJ (Htype.out (.inr (.inl ho)))
   clear ho
   go_wp2
   go_ret
   exact ⟨yG Hc.out.symm,hF1⟩
  have n1:(chk c.old != 0)=false:=by simpa using ho
  have x5:=hG1.cell (Hcs.out 5 _ rfl) id
  have x6:=hG1.cell (Hcs.out 6 _ rfl) id
  have x7:=hG1.cell (Hcs.out 7 _ rfl) id
  have HG1:=hJ hG1
  clear hE1 hG1
  go_wp2_with fail
  refine (zbG c.val _).mono ?_
  rintro e w2 ⟨rfl,hE2⟩
  have hF2:=Mod.ext hF1 hE2
  have hG2:=Mod.ext HG1.out hE2
  by_cases hv:chk c.val=0
  case neg=>
   have n:(chk c.val != 0)=true:=by simpa using hv
   have Hc:=hJ (Htype.out (.inr (.inr hv)))
   clear hv ho
   go_wp2
   go_ret
   exact ⟨yG Hc.out.symm,hF2⟩
  have n2:(chk c.val != 0)=false:=by simpa using hv
  have Hc:=hJ (Hrest.out ho hv)
  have y0:=hG2.cell (Hcs.out 0 _ rfl) id
  have y5:=hG2.cell (Hcs.out 5 _ rfl) id
  have y6:=hG2.cell (Hcs.out 6 _ rfl) id
  have y7:=hG2.cell (Hcs.out 7 _ rfl) id
  clear ho hv x5 x6 x7 hE2 hG2
  rcases hq:(c.val.kind != 0) with _|_
  all_goals
   rw[hq] at H
   go_wp2
   go_ret
   exact ⟨yG (by rw[Hc.out,H.out];rfl),hF2⟩
 ·
  have H:Hid _:=hJ (HR.out.2.2.1 h)
  have h4:(c.kind != 4)=true:=by rw[h];rfl
  have Hn:Hid (c.kind=3):=hJ h
  have t1:(c.kind==1)=false:=by rw[h];rfl
  have t2:(c.kind==2)=false:=by rw[h];rfl
  have t3:(c.kind==3)=true:=by rw[h];rfl
  have t4:(c.kind==4)=false:=by rw[h];rfl
  have t5:(c.kind==5)=false:=by rw[h];rfl
  have t6:(c.kind==6)=false:=by rw[h];rfl
  clear h
  go_enter Tryz.func52,Tryz.ntmps52
  go_wp2_with fail
  rw[←HW.out]
  refine (zhL c.old _).mono ?_
  rintro e w0 ⟨rfl,hE0⟩
  have hF0:=Mod.ext hE hE0
  rcases hz:zaC c.old with _|_
  ·
   have Hc:=hJ (Htype.out (.inl ⟨by rw[Hn.out];decide,hz⟩))
   go_wp2
   go_ret
   exact ⟨yG Hc.out.symm,hF0⟩
  have x2:=hE0.cell (Hcs.out 2 _ rfl) id
  have x3:=hE0.cell (Hcs.out 3 _ rfl) id
  have x4:=hE0.cell (Hcs.out 4 _ rfl) id
  rw[hz] at H
  have HE0:=hJ hE0
  clear hE0 hz
  go_wp2_with fail
  refine (zbG c.old _).mono ?_
  rintro e w1 ⟨rfl,hE1⟩
  have hF1:=Mod.ext hF0 hE1
  have hG1:=Mod.ext HE0.out hE1
  by_cases ho:chk c.old=0
  case neg=>
   have n:(chk c.old != 0)=true:=by simpa using ho
   have Hc:=hJ (Htype.out (.inr (.inl ho)))
   clear ho
   go_wp2
   go_ret
   exact ⟨yG Hc.out.symm,hF1⟩
  have n1:(chk c.old != 0)=false:=by simpa using ho
  have x5:=hG1.cell (Hcs.out 5 _ rfl) id
  have x6:=hG1.cell (Hcs.out 6 _ rfl) id
  have x7:=hG1.cell (Hcs.out 7 _ rfl) id
  have HG1:=hJ hG1
  clear hE1 hG1
  go_wp2_with fail
  refine (zbG c.val _).mono ?_
  rintro e w2 ⟨rfl,hE2⟩
  have hF2:=Mod.ext hF1 hE2
  have hG2:=Mod.ext HG1.out hE2
  by_cases hv:chk c.val=0
  case neg=>
   have n:(chk c.val != 0)=true:=by simpa using hv
   have Hc:=hJ (Htype.out (.inr (.inr hv)))
   clear hv ho
   go_wp2
   go_ret
   exact ⟨yG Hc.out.symm,hF2⟩
  have n2:(chk c.val != 0)=false:=by simpa using hv
  have Hc:=hJ (Hrest.out ho hv)
  have y0:=hG2.cell (Hcs.out 0 _ rfl) id
  have y5:=hG2.cell (Hcs.out 5 _ rfl) id
  have y6:=hG2.cell (Hcs.out 6 _ rfl) id
  have y7:=hG2.cell (Hcs.out 7 _ rfl) id
  clear ho hv x5 x6 x7 hE2 hG2
  go_wp2_with fail
  refine (zhL c.val _).mono ?_
  rintro e w3 ⟨rfl,hE3⟩
  have hF3:=Mod.ext hF2 hE3
  clear hE3
  rcases hz2:zaC c.val with _|_
  all_goals
   rw[hz2] at H
   go_wp2
   go_ret
   exact ⟨yG (by rw[Hc.out,H.out];rfl),hF3⟩
 ·
  have H:Hid _:=hJ (HR.out.2.2.2.1 h)
  have h4:(c.kind != 4)=false:=by rw[h];rfl
  have Hn:Hid (c.kind=4):=hJ h
  have t1:(c.kind==1)=false:=by rw[h];rfl
  have t2:(c.kind==2)=false:=by rw[h];rfl
  have t3:(c.kind==3)=false:=by rw[h];rfl
  have t4:(c.kind==4)=true:=by rw[h];rfl
  have t5:(c.kind==5)=false:=by rw[h];rfl
  have t6:(c.kind==6)=false:=by rw[h];rfl
  clear h
  go_enter Tryz.func52,Tryz.ntmps52
  go_wp2_with fail
  rw[←HW.out]
  refine (zbG c.old _).mono ?_
  rintro e w1 ⟨rfl,hE1⟩
  have hF1:=Mod.ext hE hE1
  have hG1:=Mod.ext (Mod.refl (fun _=>False) W) hE1
  by_cases ho:chk c.old=0
  case neg=>
   have n:(chk c.old != 0)=true:=by simpa using ho
   have Hc:=hJ (Htype.out (.inr (.inl ho)))
   clear ho
   go_wp2
   go_ret
   exact ⟨yG Hc.out.symm,hF1⟩
  have n1:(chk c.old != 0)=false:=by simpa using ho
  have x5:=hG1.cell (Hcs.out 5 _ rfl) id
  have x6:=hG1.cell (Hcs.out 6 _ rfl) id
  have x7:=hG1.cell (Hcs.out 7 _ rfl) id
  have HG1:=hJ hG1
  clear hE1 hG1
  go_wp2_with fail
  refine (zbG c.val _).mono ?_
  rintro e w2 ⟨rfl,hE2⟩
  have hF2:=Mod.ext hF1 hE2
  have hG2:=Mod.ext HG1.out hE2
  by_cases hv:chk c.val=0
  case neg=>
   have n:(chk c.val != 0)=true:=by simpa using hv
   have Hc:=hJ (Htype.out (.inr (.inr hv)))
   clear hv ho
   go_wp2
   go_ret
   exact ⟨yG Hc.out.symm,hF2⟩
  have n2:(chk c.val != 0)=false:=by simpa using hv
  have Hc:=hJ (Hrest.out ho hv)
  have y0:=hG2.cell (Hcs.out 0 _ rfl) id
  have y5:=hG2.cell (Hcs.out 5 _ rfl) id
  have y6:=hG2.cell (Hcs.out 6 _ rfl) id
  have y7:=hG2.cell (Hcs.out 7 _ rfl) id
  clear ho hv x5 x6 x7 hE2 hG2
  go_wp2
  go_ret
  exact ⟨yG (by rw[Hc.out,H.out];rfl),hF2⟩
 focus
  have H:Hid _:=hJ (HR.out.2.2.2.2.1 h)
  have h4:(c.kind != 4)=true:=by rw[h];rfl
  have Hn:Hid (c.kind=5):=hJ h
  have t1:(c.kind==1)=false:=by rw[h];rfl
  have t2:(c.kind==2)=false:=by rw[h];rfl
  have t3:(c.kind==3)=false:=by rw[h];rfl
  have t4:(c.kind==4)=false:=by rw[h];rfl
  have t5:(c.kind==5)=true:=by rw[h];rfl
  have t6:(c.kind==6)=false:=by rw[h];rfl
 rotate_left
 focus
  have H:Hid _:=hJ (HR.out.2.2.2.2.2 h)
  have h4:(c.kind != 4)=true:=by rw[h];rfl
  have Hn:Hid (c.kind=6):=hJ h
  have t1:(c.kind==1)=false:=by rw[h];rfl
  have t2:(c.kind==2)=false:=by rw[h];rfl
  have t3:(c.kind==3)=false:=by rw[h];rfl
  have t4:(c.kind==4)=false:=by rw[h];rfl
  have t5:(c.kind==5)=false:=by rw[h];rfl
  have t6:(c.kind==6)=true:=by rw[h];rfl
 all_goals
  clear h
  go_enter Tryz.func52,Tryz.ntmps52
  go_wp2_with fail
  rw[←HW.out]
  refine (zhL c.old _).mono ?_
  rintro e w0 ⟨rfl,hE0⟩
  have hF0:=Mod.ext hE hE0
  rcases hz:zaC c.old with _|_
  ·
   have Hc:=hJ (Htype.out (.inl ⟨by rw[Hn.out];decide,hz⟩))
   go_wp2
   go_ret
   exact ⟨yG Hc.out.symm,hF0⟩
  have x2:=hE0.cell (Hcs.out 2 _ rfl) id
  have x3:=hE0.cell (Hcs.out 3 _ rfl) id
  have x4:=hE0.cell (Hcs.out 4 _ rfl) id
  rw[hz] at H
  have HE0:=hJ hE0
  clear hE0 hz
  go_wp2_with fail
  refine (zbG c.old _).mono ?_
  rintro e w1 ⟨rfl,hE1⟩
  have hF1:=Mod.ext hF0 hE1
  have hG1:=Mod.ext HE0.out hE1
  by_cases ho:chk c.old=0
  case neg=>
   have n:(chk c.old != 0)=true:=by simpa using ho
   have Hc:=hJ (Htype.out (.inr (.inl ho)))
   clear ho
   go_wp2
   go_ret
   exact ⟨yG Hc.out.symm,hF1⟩
  have n1:(chk c.old != 0)=false:=by simpa using ho
  have x5:=hG1.cell (Hcs.out 5 _ rfl) id
  have x6:=hG1.cell (Hcs.out 6 _ rfl) id
  have x7:=hG1.cell (Hcs.out 7 _ rfl) id
  have HG1:=hJ hG1
  clear hE1 hG1
  go_wp2_with fail
  refine (zbG c.val _).mono ?_
  rintro e w2 ⟨rfl,hE2⟩
  have hF2:=Mod.ext hF1 hE2
  have hG2:=Mod.ext HG1.out hE2
  by_cases hv:chk c.val=0
  case neg=>
   have n:(chk c.val != 0)=true:=by simpa using hv
   have Hc:=hJ (Htype.out (.inr (.inr hv)))
   clear hv ho
   go_wp2
   go_ret
   exact ⟨yG Hc.out.symm,hF2⟩
  have n2:(chk c.val != 0)=false:=by simpa using hv
  have Hc:=hJ (Hrest.out ho hv)
  have y0:=hG2.cell (Hcs.out 0 _ rfl) id
  have y5:=hG2.cell (Hcs.out 5 _ rfl) id
  have y6:=hG2.cell (Hcs.out 6 _ rfl) id
  have y7:=hG2.cell (Hcs.out 7 _ rfl) id
  clear ho hv x5 x6 x7 hE2 hG2
  rcases hq:(c.val.kind==1) with _|_
  all_goals
   rw[hq] at H
   go_wp2
   go_ret
   exact ⟨yG (by rw[Hc.out,H.out];rfl),hF2⟩
theorem zcG (c s:Int) (w:World):Calls Tryz.prog 91 #[.int .i64 c,.int .i64 s] w fun e w'=>e=.returned (.bool (zeX c s))∧w'=w:=by
 unfold zeX
 by_cases h1:1≤c
 case neg=>
  have d1:decide (c ≥ 1)=false:=decide_eq_false h1
  have d1':decide (1≤c)=false:=decide_eq_false h1
  clear h1
  go_enter Tryz.func91,Tryz.ntmps91
  go_wp2
  go_ret
  exact ⟨by rw[d1'];rfl,rfl⟩
 have d1:decide (c ≥ 1)=true:=decide_eq_true h1
 have d1':decide (1≤c)=true:=decide_eq_true h1
 clear h1
 by_cases h2:c≤4
 case neg=>
  have d2:decide (c≤4)=false:=decide_eq_false h2
  clear h2
  go_enter Tryz.func91,Tryz.ntmps91
  go_wp2
  go_ret
  exact ⟨by rw[d1',d2];rfl,rfl⟩
 have d2:decide (c≤4)=true:=decide_eq_true h2
 clear h2
 by_cases h3:1≤s
 case neg=>
  have d3:decide (s ≥ 1)=false:=decide_eq_false h3
  have d3':decide (1≤s)=false:=decide_eq_false h3
  clear h3
  go_enter Tryz.func91,Tryz.ntmps91
  go_wp2
  go_ret
  exact ⟨by rw[d1',d2,d3'];rfl,rfl⟩
 have d3:decide (s ≥ 1)=true:=decide_eq_true h3
 have d3':decide (1≤s)=true:=decide_eq_true h3
 clear h3
 by_cases h4:s≤1099511627776
 case neg=>
  have d4:decide (s≤1099511627776)=false:=decide_eq_false h4
  clear h4
  go_enter Tryz.func91,Tryz.ntmps91
  go_wp2
  go_ret
  exact ⟨by rw[d1',d2,d3',d4];rfl,rfl⟩
 have d4:decide (s≤1099511627776)=true:=decide_eq_true h4
 clear h4
 go_enter Tryz.func91,Tryz.ntmps91
 go_wp2
 go_ret
 exact ⟨by rw[d1',d2,d3',d4];rfl,rfl⟩
theorem zaT {c:zW} (h:zeX c.client c.seq=false):yX c=1:=by unfold yX;rw[if_pos h]
theorem zb3 {c:zW} (h:zeX c.client c.seq=true):yX c=zcP c.cmd:=by unfold yX;rw[if_neg (by rw[h];simp)]
theorem jS (c:zW) (w:World):Calls Tryz.prog 41 #[.agg #[.int .i64 c.client,.int .i64 c.seq,.int .i64 c.cmd.kind,.string c.cmd.key,.int .i64 c.cmd.old.kind,.float .f64 c.cmd.old.num,.string c.cmd.old.text,.int .i64 c.cmd.val.kind,.float .f64 c.cmd.val.num,.string c.cmd.val.text]] w fun e w'=>e=.returned (.int .i64 (yX c))∧Ext w w':=by
 have hE:Ext w (w.alloc (.cells #[.int .i64 c.client,.int .i64 c.seq,.int .i64 c.cmd.kind,.string c.cmd.key,.int .i64 c.cmd.old.kind,.float .f64 c.cmd.old.num,.string c.cmd.old.text,.int .i64 c.cmd.val.kind,.float .f64 c.cmd.val.num,.string c.cmd.val.text] 29)):=(Mod.refl _ w).alloc _
 rcases hr:zeX c.client c.seq with _|_
 ·
  rw[zaT hr]
  go_enter Tryz.func41,Tryz.ntmps41
  go_wp2_with fail
  refine (zcG c.client c.seq _).mono ?_
  rintro e w' ⟨rfl,rfl⟩
  rw[hr]
  go_wp2
  go_ret
  exact ⟨rfl,hE⟩
 rw[zb3 hr]
 go_enter Tryz.func41,Tryz.ntmps41
 go_wp2_with fail
 refine (zcG c.client c.seq _).mono ?_
 rintro e w' ⟨rfl,rfl⟩
 rw[hr]
 go_wp2_with fail
 refine (zd9 c.cmd _).mono ?_
 rintro e w' ⟨rfl,hE1⟩
 have HE:=hJ (Mod.ext hE hE1)
 clear hE hE1
 go_wp2
 go_ret
 exact ⟨rfl,HE.out⟩
theorem r_call (c:zW) (w:World):Calls Tryz.prog 13 #[.agg #[.int .i64 c.client,.int .i64 c.seq,.int .i64 c.cmd.kind,.string c.cmd.key,.int .i64 c.cmd.old.kind,.float .f64 c.cmd.old.num,.string c.cmd.old.text,.int .i64 c.cmd.val.kind,.float .f64 c.cmd.val.num,.string c.cmd.val.text]] w fun e w'=>e=.returned (.int .i64 (yX c))∧Ext w w':=by
 have hE:Ext w (w.alloc (.cells #[.int .i64 c.client,.int .i64 c.seq,.int .i64 c.cmd.kind,.string c.cmd.key,.int .i64 c.cmd.old.kind,.float .f64 c.cmd.old.num,.string c.cmd.old.text,.int .i64 c.cmd.val.kind,.float .f64 c.cmd.val.num,.string c.cmd.val.text] 29)):=(Mod.refl _ w).alloc _
 by_cases h1:c.client<1
 ·
  rw[zaT (by unfold zeX;rw[decide_eq_false (show ¬ 1≤c.client by omega)];rfl)]
  have d1:decide (c.client<1)=true:=decide_eq_true h1
  clear h1
  go_enter Tryz.func13,Tryz.ntmps13
  go_wp2
  go_ret
  exact ⟨rfl,hE⟩
 have d1:decide (c.client<1)=false:=decide_eq_false h1
 by_cases h2:4<c.client
 ·
  rw[zaT (by unfold zeX;rw[decide_eq_false (show ¬ c.client≤4 by omega)];simp)]
  have d2:decide (4<c.client)=true:=decide_eq_true h2
  clear h1 h2
  go_enter Tryz.func13,Tryz.ntmps13
  go_wp2
  go_ret
  exact ⟨rfl,hE⟩
 have d2:decide (4<c.client)=false:=decide_eq_false h2
 by_cases h3:c.seq<1
 ·
  rw[zaT (by unfold zeX;rw[decide_eq_false (show ¬ 1≤c.seq by omega)];simp)]
  have d3:decide (c.seq<1)=true:=decide_eq_true h3
  clear h1 h2 h3
  go_enter Tryz.func13,Tryz.ntmps13
  go_wp2
  go_ret
  exact ⟨rfl,hE⟩
 have d3:decide (c.seq<1)=false:=decide_eq_false h3
 by_cases h4:1099511627776<c.seq
 ·
  rw[zaT (by unfold zeX;rw[decide_eq_false (show ¬ c.seq≤1099511627776 by omega)];simp)]
  have d4:decide (1099511627776<c.seq)=true:=decide_eq_true h4
  clear h1 h2 h3 h4
  go_enter Tryz.func13,Tryz.ntmps13
  go_wp2
  go_ret
  exact ⟨rfl,hE⟩
 have d4:decide (1099511627776<c.seq)=false:=decide_eq_false h4
 rw[zb3 (by unfold zeX;rw[decide_eq_true (show 1≤c.client by omega),decide_eq_true (show c.client≤4 by omega),decide_eq_true (show 1≤c.seq by omega),decide_eq_true (show c.seq≤1099511627776 by omega)];rfl)]
 clear h1 h2 h3 h4
 go_enter Tryz.func13,Tryz.ntmps13
 go_wp2_with fail
 refine (r_cmd c.cmd _).mono ?_
 rintro e w' ⟨rfl,hE1⟩
 have HE:=hJ (Mod.ext hE hE1)
 clear hE hE1
 go_wp2
 go_ret
 exact ⟨rfl,HE.out⟩
end Go.Proofs.YtjbkjhhjofeldaaGreat
