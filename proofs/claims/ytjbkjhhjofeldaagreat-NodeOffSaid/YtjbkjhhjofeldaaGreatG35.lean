/-
 Contracts of slices.Delete and slices.Insert on pairs of one's own. Conditions: as each theorem names them.
-/
import Derived.Test.YtjbkjhhjofeldaaGreatG9
import Derived.Test.YtjbkjhhjofeldaaGreatG34
import Derived.Deep.RegionLaw
import Derived.Laws.Externs
set_option maxRecDepth 100000
set_option maxHeartbeats 4000000
namespace Go.Proofs.YtjbkjhhjofeldaaGreat
set_option linter.unusedSimpArgs false
open Go.RowKit
abbrev fl (l:List zJ):List Value:=l.flatMap zJ.cells
theorem zdS (l:List zJ):(fl l).length=l.length*4:=by
 induction l with
 | nil=>rfl
 | cons p l ih=>simp[fl,List.flatMap_cons] at ih ⊢;omega
theorem zmC (a b:List zJ):fl (a++b)=fl a++fl b:=by simp[fl]
theorem zaG (g m cap k:Nat) (h:m<cap):cutA (some ⟨g,0,none⟩) m cap k=some ⟨g,m*k,none⟩:=by
 unfold cutA
 rw[if_neg (by omega)]
 simp[zcQ]
theorem sl_row {w:World} {g n cap:Nat} {e:TypeId} {cur:List Value} {size:Nat} {xs:List Value} (h:Row w g e cur) (hc:cur.length=cap*size) (hn:n≤cap) (hm:cap≤maxLen) (ht:cur.take (n*size)=xs):
  Sl w (fun k=>k=g) size (.slice (some ⟨g,0,none⟩) n cap) n xs:=
 Sl.of_own (h.own hc hn hm ht) (fun k hk=>by simp[Value.ownBlock] at hk;exact hk.symm)
theorem zqB (w:World) (g i m cap:Nat) (cur:List Value) (a b:List zJ) (x:zJ) (rest:List Value) (hR:Row w g 122 cur) (hc:cur.length=cap*4) (hm:m+1≤cap) (hcm:cap≤maxLen) (hi:a.length=i) (hb:b.length=m-i) (him:i≤m)
  (hcur:cur=fl a++(x.cells++(fl b++rest))):
  Calls Tryz.prog 412 #[.slice (some ⟨g,0,none⟩) (m+1) cap,.int .i64 i,.int .i64 ((i:Int)+1)] w fun e w'=>
   e=.returned (.slice (some ⟨g,0,none⟩) m cap)∧w'.ownsRow 0 122 4 (.slice (some ⟨g,0,none⟩) m cap) m (fl (a++b))∧Mod (fun k=>k=g) w w':=by
 obtain ⟨i0,hi0,hz0,hz1,hz2⟩:=info_parts zdE
 have hla:=zdS a
 have hlb:=zdS b
 have hcm':=hcm
 unfold maxLen at hcm'
 -- the append
 have hsl:Sl w (fun k=>k=g) 4 (.slice (cutA (some ⟨g,0,none⟩) (i+1) cap 4) (m-i) (cap-(i+1))) (m-i) (fl b):=by
  have h0:Sl w (fun k=>k=g) 4 (.slice (some ⟨g,0,none⟩) (m+1) cap) (m+1) (fl a++(x.cells++fl b)):=
   sl_row hR hc hm hcm (by
    rw[hcur,←List.append_assoc (fl a),←List.append_assoc (fl a++x.cells),List.take_left' (by simp[hla,hlb];omega)]
    simp)
  have h1:=h0.cutA (m:=i+1) (by omega)
  rw[show m+1-(i+1)=m-i by omega] at h1
  have e:(fl a++(x.cells++fl b)).drop ((i+1)*4)=fl b:=by
   rw[←List.append_assoc,List.drop_left' (by simp[hla];omega)]
  rw[e] at h1
  exact h1
 have happ:∀ ty,(Builtin.append_ #[38,38] ty #[.slice (some ⟨g,0,none⟩) i cap,.slice (cutA (some ⟨g,0,none⟩) (i+1) cap 4) (m-i) (cap-(i+1))]).run Tryz.prog w.drew =
   .ok (.slice (some ⟨g,0,none⟩) m cap) (w.drew.setRow g (splice cur (i*4) (fl b)).toArray):=fun ty=>by
  have:=run_appK (P:=Tryz.prog) w.drew 38 ty 122 i0 4 g i cap _ (m-i) 122 cur (fl b) _ Tryz.underlying38 hi0 hz1 hR (hsl.drew) (by omega) hc (zeJ b)
  rw[show i+(m-i)=m by omega] at this
  exact this
 obtain ⟨cur1,hcur1⟩:∃ cur1,splice cur (i*4) (fl b)=cur1:=⟨_,rfl⟩
 rw[hcur1] at happ
 have hlen1:cur1.length=cap*4:=by
  rw[←hcur1,length_splice _ _ _ (by rw[hlb,hc];omega),hc]
 have htk1:cur1.take (m*4)=fl (a++b):=by
  rw[←hcur1]
  unfold splice
  have e1:(fl a++(x.cells++(fl b++rest))).take (i*4)=fl a:=List.take_left' (by rw[hla,hi])
  rw[hcur,e1,←List.append_assoc,zmC]
  exact List.take_left' (by rw[List.length_append,hla,hlb];omega)
 have hR1:Row (w.drew.setRow g cur1.toArray) g 122 cur1:=Row.set (w:=w.drew) hR cur1
 obtain ⟨W1,hW1⟩:∃ W1,w.drew.setRow g cur1.toArray=W1:=⟨_,rfl⟩
 rw[hW1] at happ hR1
 have hM1:Mod (fun k=>k=g) w W1:=by rw[←hW1];exact Mod.setRow (S:=fun k=>k=g) ((Mod.refl _ w).drew) (.inr rfl) _
 have hclr:∀ ty c,(Builtin.clear_ #[38] ty #[.slice (some ⟨g,m*4,none⟩) 1 c]).run Tryz.prog W1=.ok (.tuple #[]) (W1.setRow g (splice cur1 (m*4) [.string ⟨#[]⟩,.int .i64 0,.float .f64 0,.string ⟨#[]⟩]).toArray):=fun ty c=>
  zm1 (P:=Tryz.prog) W1 38 122 ty (.agg #[.string ⟨#[]⟩,.int .i64 0,.float .f64 0,.string ⟨#[]⟩]) 4 g (m*4) c 122 cur1 Tryz.underlying38 (by kernel_rfl) rfl (by
   intro u hu;simp[Value.cells] at hu;rcases hu with rfl|rfl|rfl|rfl <;> rfl) hR1 (by omega)
 have hfin:Hid ((W1.setRow g (splice cur1 (m*4) [.string ⟨#[]⟩,.int .i64 0,.float .f64 0,.string ⟨#[]⟩]).toArray).ownsRow 0 122 4 (.slice (some ⟨g,0,none⟩) m cap) m (fl (a++b)) ∧
   Mod (fun k=>k=g) w (W1.setRow g (splice cur1 (m*4) [.string ⟨#[]⟩,.int .i64 0,.float .f64 0,.string ⟨#[]⟩]).toArray)):=hJ (by
  have hR2:Row (W1.setRow g (splice cur1 (m*4) [.string ⟨#[]⟩,.int .i64 0,.float .f64 0,.string ⟨#[]⟩]).toArray) g 122 (splice cur1 (m*4) [.string ⟨#[]⟩,.int .i64 0,.float .f64 0,.string ⟨#[]⟩]):=Row.set hR1 _
  refine ⟨hR2.own ?_ (by omega) hcm ?_,hM1.setRow (.inr rfl) _⟩
  · rw[length_splice _ _ _ (by simp;omega),hlen1]
  unfold splice
  rw[List.take_left' (by rw[List.length_take];omega)]
  exact htk1)
 obtain ⟨W2,hW2⟩:∃ W2,W1.setRow g (splice cur1 (m*4) [.string ⟨#[]⟩,.int .i64 0,.float .f64 0,.string ⟨#[]⟩]).toArray=W2:=⟨_,rfl⟩
 rw[hW2] at hclr hfin
 have hcut:=zaG g m cap 4 (by omega)
 have hneq:¬ ((i:Int)=(i:Int)+1):=by omega
 obtain ⟨Happ,Hclr⟩:=hJ2 happ hclr
 clear happ hclr hsl hR hR1 hM1 htk1 hcur hcur1 hW1 hW2 hla hlb hi hb hlen1 hc
 have hic:(i:Int)≤(cap:Int):=by omega
 have hi1c:(i:Int)+1≤(cap:Int):=by omega
 have hm1:(i:Int)+1≤(m:Int)+1:=by omega
 have hi1:(0:Int)≤(i:Int)+1:=by omega
 go_enter Tryz.func412,Tryz.ntmps412
 go_wp2_with fail
 go_region_law (refine zkR rfl (.tmp 22) (.tmp 25) 38 38 rfl _ _ (by simp[Act.eval,Act.put]) (by simp[Act.eval,Act.put]) (Happ.out _) ?_)
 go_wp2_with (refine zgC _ rfl _ 38 rfl _ rfl (Hclr.out _ _) ?_)
 go_ret
 exact ⟨rfl,hfin.out⟩
theorem zeL:(Tryz.prog.info? 122).map (·.size)=some 4:=by kernel_rfl
def zfG (w:World) (v:Value) (l:List zJ) (e:Ending) (w':World):Prop:=
 ∃ v',e=.returned v'∧w'.ownsRow 0 122 4 v' l.length (fl l)∧(∀ g,v'.ownBlock=some g→v.ownBlock=some g∨w.heap.size≤g)∧Mod (fun k=>v.ownBlock=some k) w w'
theorem sl_blk {w:World} {vb:Nat} {x:zJ} (h:w.heap[vb]? = some (.cells #[.string x.key,.int .i64 x.val.kind,.float .f64 x.val.num,.string x.val.text] 122 (0,0))):Sl w (fun k=>k=vb) 4 (.slice (some ⟨vb,0,none⟩) 1 1) 1 x.cells:=by
 refine ⟨rfl,_,_,rfl,Nat.le_refl _,by simp[maxLen],fun _=>⟨_,0,rfl,rfl,fun j u hu=>?_⟩⟩
 rw[Nat.zero_add]
 exact zA (cs:=x.cells) h hu
theorem ziZ (w:World) (v:Value) (n:Nat) (a:List zJ) (x:zJ) (vb:Nat) (hn:a.length=n) (hn1:n≤1000) (hown:w.ownsRow 0 122 4 v n (fl a)) (hvb:w.heap[vb]? = some (.cells #[.string x.key,.int .i64 x.val.kind,.float .f64 x.val.num,.string x.val.text] 122 (0,0))):
  Calls Tryz.prog 413 #[v,.int .i64 n,.slice (some ⟨vb,0,none⟩) 1 1] w (zfG w v (a++[x])):=by
 obtain ⟨i0,hi0,hz0,hz1,hz2⟩:=info_parts zdE
 obtain ⟨A,c,rfl⟩:=zC hown
 have hsl:=sl_blk hvb
 have hnc:n≤c:=by
  rcases xJ hown with ⟨_,h⟩|⟨g,cap,cur,e,_,_,h,_⟩
  · omega
  injection e with _ _ e;omega
 have hcm:c≤9223372036854775807:=by
  rcases xJ hown with ⟨e,_⟩|⟨g,cap,cur,e,_,_,_,h,_⟩
  · injection e with _ _ e;omega
  injection e with _ _ e;unfold maxLen at h;omega
 obtain ⟨Hn,Hvb⟩:=hJ2 hn hvb
 clear hn hvb
 go_enter Tryz.func413,Tryz.ntmps413
 go_wp2_with (at_builtin;refine xB _ rfl _ _ 38 rfl 122 i0 _ 4 48 Tryz.underlying38 hi0 hz0 hz1 hz2 rfl (by omega) _ n _ rfl hown _ _ 1 x.cells rfl hsl (pair1 x) (by simp only[maxLen];omega) (by omega) ?_)
 intro v' w1 ho hgr hat
 have hout:Hid (zfG w (.slice A n c) (a++[x]) (.returned v') w1):=hJ (by
  refine ⟨v',rfl,?_,fun g hg=>?_,(Mod.refl _ w).grown hgr (fun k hk=>.inr hk)⟩
  · rw[zmC,List.length_append,Hn.out];simpa using ho
  rcases hat with e|e
  · rw[←e];exact .inl hg
  rw[e] at hg;injection hg with hg;omega)
 clear ho hgr hat
 go_wp2
 go_ret
 exact hout.out
theorem zmD (z:Value) (n:Nat):(Builtin.zeroCells z.cells n).toList.length=n*z.cells.size:=by simp[Builtin.zeroCells]
theorem zg8 (w:World) (g n i:Nat) (cur:List Value) (a b:List zJ) (x:zJ) (vb:Nat) (hi:a.length=i) (hb:b.length=n-i) (hin:i<n) (hn1:n≤1000) (hR:Row w g 122 cur) (hcur:cur=fl a++fl b)
  (hvb:w.heap[vb]? = some (.cells #[.string x.key,.int .i64 x.val.kind,.float .f64 x.val.num,.string x.val.text] 122 (0,0))):
  Calls Tryz.prog 413 #[.slice (some ⟨g,0,none⟩) n n,.int .i64 i,.slice (some ⟨vb,0,none⟩) 1 1] w (zfG w (.slice (some ⟨g,0,none⟩) n n) (a++x :: b)):=by
 obtain ⟨i0,hi0,hz0,hz1,hz2⟩:=info_parts zdE
 have hlx:x.cells.length=4:=rfl
 have hla:=zdS a
 have hlb:=zdS b
 have hgw:=hR.lt
 have hvw:vb<w.heap.size:=(Array.getElem?_eq_some_iff.1 hvb).1
 have hold:(Builtin.firstCells i0.size i (.slice (some ⟨g,0,none⟩) i n)).run Tryz.prog w.drew=.ok (fl a).toArray w.drew:=by
  rw[hz1]
  refine run_firstCells_some w.drew 4 i ⟨g,0,none⟩ i n (fl a) (by rw[hla,hi]) (fun j u hu=>?_)
  rw[zcQ,Nat.zero_add]
  refine Row.cell (w:=w) hR ?_
  rw[hcur,List.getElem?_append_left (List.getElem?_eq_some_iff.1 hu).1]
  exact hu
 obtain ⟨G,hG⟩:∃ G,grownCap w (n+1) n 122=G:=⟨_,rfl⟩
 have hGn:n+1≤G:=by rw[←hG];exact grownCap_ge w _ _ _
 have hGm:G≤maxLen:=by rw[←hG];exact grownCap_le_maxLen w _ _ _ (by unfold maxLen;omega)
 obtain ⟨z,hz⟩:∃ z:Value,z=.agg #[.string ⟨#[]⟩,.int .i64 0,.float .f64 0,.string ⟨#[]⟩]:=⟨_,rfl⟩
 have hzs:z.cells.size=4:=by rw[hz];rfl
 rw[←hz] at hz0
 obtain ⟨Z1,hZ1⟩:∃ Z1,(Builtin.zeroCells z.cells (n+1-i)).toList=Z1:=⟨_,rfl⟩
 obtain ⟨Z2,hZ2⟩:∃ Z2,(Builtin.zeroCells z.cells (G-(n+1))).toList=Z2:=⟨_,rfl⟩
 have hlz1:Z1.length=(n+1-i)*4:=by rw[←hZ1,zmD,hzs]
 have hlz2:Z2.length=(G-(n+1))*4:=by rw[←hZ2,zmD,hzs]
 obtain ⟨h,hh⟩:∃ h,w.heap.size=h:=⟨_,rfl⟩
 obtain ⟨W1,hW1⟩:∃ W1,w.drew.alloc (.cells (fl a++(Z1++Z2)).toArray 122)=W1:=⟨_,rfl⟩
 have hrz:∀ ty,(Builtin.append_ #[38,3] ty #[.slice (some ⟨g,0,none⟩) i n,.int .i64 ((n:Int)+1-(i:Int))]).run Tryz.prog w=.ok (.slice (some ⟨h,0,none⟩) (n+1) G) W1:=fun ty=>by
  have hh2:=Lib.run_append_grow_zeros w 38 3 ty 122 i0 z .i64 .i64 Tryz.underlying38 Tryz.underlying3 hi0 hz0 (some ⟨g,0,none⟩) i n (fl a) hold (n+1-i) (by omega) (by omega) (by omega) (by omega) (by rw[hz2];omega)
   (by rw[hz2,show i+(n+1-i)=n+1 by omega];exact growslice_fits (by omega) (by omega))
  rw[show i+(n+1-i)=n+1 by omega,hG,hh] at hh2
  rw[show (n:Int)+1-(i:Int)=((n+1-i:Nat):Int) by omega,hh2,←hW1,←hZ1,←hZ2]
  congr 3
  simp
 have hR1:Row W1 h 122 (fl a++(Z1++Z2)):=by
  rw[←hW1,←hh]
  exact heap_alloc_new w.drew _
 have hE1:Ext w W1:=by rw[←hW1];exact ((Mod.refl _ w).drew).alloc _
 have hcp1:∀ ty dc,(Builtin.copy_ #[38,38] ty #[.slice (some ⟨h,i*4,none⟩) (n+1-i) dc,.slice (some ⟨vb,0,none⟩) 1 1]).run Tryz.prog W1=.ok (goInt 1) (W1.setRow h (splice (fl a++(Z1++Z2)) (i*4) x.cells).toArray):=fun ty dc=>
  zaY (P:=Tryz.prog) W1 38 38 ty 122 4 h (i*4) (n+1-i) dc ⟨vb,0,none⟩ 1 1 1 122 _ x.cells Tryz.underlying38 zeL hR1 (by simp only[Nat.min_def];split <;> omega) rfl (fun j u hu=>by
   rw[zcQ,Nat.zero_add]
   exact hE1.cell (zA (cs:=x.cells) hvb hu) id) (by simp only[List.length_append,hla,hlx,hi,hlz1,hlz2];omega) (pair1 x)
 obtain ⟨c2,hc2⟩:∃ c2,splice (fl a++(Z1++Z2)) (i*4) x.cells=c2:=⟨_,rfl⟩
 have hlc2:c2.length=G*4:=by rw[←hc2,length_splice _ _ _ (by simp only[List.length_append,hla,hlx,hi,hlz1,hlz2];omega)];simp only[List.length_append,hla,hi,hlz1,hlz2];omega
 have hR2:Row (W1.setRow h c2.toArray) h 122 c2:=hR1.set c2
 have hE2:Ext w (W1.setRow h c2.toArray):=Mod.toExt (Mod.setRow (S:=zD w.heap.size) (hE1.mod _) (.inl (by omega)) _)
 rw[hc2] at hcp1
 obtain ⟨W2,hW2⟩:∃ W2,W1.setRow h c2.toArray=W2:=⟨_,rfl⟩
 rw[hW2] at hcp1 hR2 hE2
 have hcp2:∀ ty dc sc,(Builtin.copy_ #[38,38] ty #[.slice (some ⟨h,(i+1)*4,none⟩) (n-i) dc,.slice (some ⟨g,i*4,none⟩) (n-i) sc]).run Tryz.prog W2.drew=.ok (goInt ((n-i:Nat):Int)) (W2.drew.setRow h (splice c2 ((i+1)*4) (fl b)).toArray):=fun ty dc sc=>
  zaY (P:=Tryz.prog) W2.drew 38 38 ty 122 4 h ((i+1)*4) (n-i) dc ⟨g,i*4,none⟩ (n-i) sc (n-i) 122 c2 (fl b) Tryz.underlying38 zeL hR2 (by simp) (by rw[hlb,hb]) (fun j u hu=>by
   rw[zcQ]
   refine hE2.cell (Row.cell hR ?_) id
   rw[hcur,List.getElem?_append_right (by omega),hla,hi,Nat.add_sub_cancel_left]
   exact hu) (by omega) (zeJ b)
 obtain ⟨c3,hc3⟩:∃ c3,splice c2 ((i+1)*4) (fl b)=c3:=⟨_,rfl⟩
 rw[hc3] at hcp2
 have hlc3:c3.length=G*4:=by rw[←hc3,length_splice _ _ _ (by omega),hlc2]
 have htk:c3.take ((n+1)*4)=fl (a++x :: b):=by
  have e1:c2.take ((i+1)*4)=fl a++x.cells:=by
   rw[←hc2]
   unfold splice
   have e0:(fl a++(Z1++Z2)).take (i*4)=fl a:=List.take_left' (by rw[hla,hi])
   rw[e0,←List.append_assoc]
   exact List.take_left' (by simp only[List.length_append,hla,hlx,hi];omega)
  rw[←hc3]
  unfold splice
  rw[e1,←List.append_assoc,List.take_left' (by simp only[List.length_append,hla,hlb,hlx,hi,hb];omega)]
  simp[fl]
 have hout:Hid (zfG w (.slice (some ⟨g,0,none⟩) n n) (a++x :: b) (.returned (.slice (some ⟨h,0,none⟩) (n+1) G)) (W2.drew.setRow h c3.toArray)):=hJ (by
  refine ⟨_,rfl,?_,fun k hk=>?_,?_⟩
  · have:=Row.own (Row.set (w:=W2.drew) hR2 c3) hlc3 hGn hGm htk
    rw[show (a++x :: b).length=n+1 by simp;omega]
    exact this
  · simp[Value.ownBlock] at hk;right;omega
  exact Mod.setRow ((Ext.mod hE2 (fun k=>(Value.slice (some ⟨g,0,none⟩) n n).ownBlock=some k)).drew) (.inl (by omega)) _)
 obtain ⟨W3,hW3⟩:∃ W3,W2.drew.setRow h c3.toArray=W3:=⟨_,rfl⟩
 rw[hW3] at hcp2 hout
 have q1:=zaG h i G 4 (by omega)
 have q2:=zaG h (i+1) G 4 (by omega)
 have q3:=zaG g i n 4 (by omega)
 obtain ⟨Hrz,Hcp1,Hcp2⟩:=hJ3 hrz hcp1 hcp2
 unfold maxLen at hGm
 have hneq:¬ ((i:Int)=(n:Int)):=by omega
 have hgt:decide ((n:Int)+1 > (n:Int))=true:=by simp;omega
 have hi1:(0:Int)≤(i:Int)+1:=by omega
 have hin':(i:Int)<(n:Int):=by omega
 have hGi:(n:Int)+1≤(G:Int):=by omega
 clear hlx hrz hcp1 hcp2 hold hG hz hzs hz0 hZ1 hZ2 hlz1 hlz2 hh hW1 hR1 hE1 hc2 hlc2 hR2 hE2 hW2 hc3 hlc3 htk hW3 hla hlb hi hb hcur hR hvb
 go_enter Tryz.func413,Tryz.ntmps413
 go_wp2_with (first
  | (at_builtin;refine Lib.wpList_append_run _ rfl _ _ _ _ rfl _ _ rfl rfl _ _ (Hrz.out _) ?_)
  | (refine zaW _ rfl _ _ 38 38 rfl _ _ rfl rfl (Hcp1.out _ _) ?_))
 have htn:((i:Int)+1).toNat=i+1:=by omega
 have hin2:(i:Int)+1≤(n:Int)+1:=by omega
 have hin3:(i:Int)≤(n:Int):=by omega
 have hw1:IntKind.i64.wrap ((i:Int)+1)=(i:Int)+1:=IntWalk.i64_in _ (by omega)
 go_region_law (refine zbP rfl _ _ 38 38 rfl (.slice (some ⟨h,(i+1)*4,none⟩) (n-i) (G-(i+1))) (.slice (some ⟨g,i*4,none⟩) (n-i) (n-i)) (by simp[Act.eval,Act.put]) (by simp[Act.eval,Act.put]) (Hcp2.out _ _ _) ?_)
 go_wp2
 go_ret
 exact hout.out
theorem zi0 (w:World) (vb g o lb cb:Nat) (cs ds:Array Value) (tA tB:TypeId) (hA:w.heap[vb]? = some (.cells cs tA (0,0))) (hB:w.heap[g]? = some (.cells ds tB (0,0))) (hd:ds.size≠0) (hne:vb≠g):
  (callFunc 445 #[.slice (some ⟨vb,0,none⟩) 1 1,.slice (some ⟨g,o,none⟩) lb cb]).run Tryz.prog w=.ok (.value (.bool false)) w:=by
 rw[run_callFunc_extern (fn:=Tryz.f445) (by kernel_rfl) (by kernel_rfl) (by kernel_rfl) (by kernel_rfl) (e:=Extern.SlicesOverlaps.overlaps #[38,38] #[4]) (by kernel_rfl),
  Lib.run_overlaps_apart w 38 4 122 Tryz.underlying38 4 (fun w=>by kernel_rfl) ⟨vb,0,none⟩ ⟨g,o,none⟩ 1 1 lb cb hne tA tB cs.size ds.size (by simp[World.shape?,hA]) (by simp[World.shape?,hB]) hd (by simp[World.frozen?,hA]) (by simp[World.frozen?,hA])]
 rfl
theorem zg9 (w:World) (g n i cap:Nat) (cur:List Value) (a b:List zJ) (x:zJ) (vb:Nat) (rest:List Value) (hi:a.length=i) (hb:b.length=n-i) (hin:i<n) (hn1:n≤1000) (hR:Row w g 122 cur) (hcur:cur=fl a++(fl b++rest))
  (hc:cur.length=cap*4) (hroom:n+1≤cap) (hcm:cap≤maxLen) (hvb:w.heap[vb]? = some (.cells #[.string x.key,.int .i64 x.val.kind,.float .f64 x.val.num,.string x.val.text] 122 (0,0))) (hne:vb≠g):
  Calls Tryz.prog 413 #[.slice (some ⟨g,0,none⟩) n cap,.int .i64 i,.slice (some ⟨vb,0,none⟩) 1 1] w (zfG w (.slice (some ⟨g,0,none⟩) n cap) (a++x :: b)):=by
 have hlx:x.cells.length=4:=rfl
 have hla:=zdS a
 have hlb:=zdS b
 have hov:=fun lb cb=>zi0 w vb g ((i+1)*4) lb cb _ _ _ _ hvb hR (by rw[List.size_toArray];omega) hne
 have hcp1:∀ ty dc sc,(Builtin.copy_ #[38,38] ty #[.slice (some ⟨g,(i+1)*4,none⟩) (n-i) dc,.slice (some ⟨g,i*4,none⟩) (n+1-i) sc]).run Tryz.prog w.drew=.ok (goInt ((n-i:Nat):Int)) (w.drew.setRow g (splice cur ((i+1)*4) (fl b)).toArray):=fun ty dc sc=>
  zaY (P:=Tryz.prog) w.drew 38 38 ty 122 4 g ((i+1)*4) (n-i) dc ⟨g,i*4,none⟩ (n+1-i) sc (n-i) 122 cur (fl b) Tryz.underlying38 zeL hR (by simp only[Nat.min_def];split <;> omega) (by rw[hlb,hb]) (fun j u hu=>by
   rw[zcQ]
   refine Row.cell (w:=w) hR ?_
   rw[hcur,List.getElem?_append_right (by omega),hla,hi,Nat.add_sub_cancel_left,List.getElem?_append_left (List.getElem?_eq_some_iff.1 hu).1]
   exact hu) (by omega) (zeJ b)
 obtain ⟨c1,hc1⟩:∃ c1,splice cur ((i+1)*4) (fl b)=c1:=⟨_,rfl⟩
 have hlc1:c1.length=cap*4:=by rw[←hc1,length_splice _ _ _ (by omega),hc]
 have hR1:Row (w.drew.setRow g c1.toArray) g 122 c1:=Row.set (w:=w.drew) hR c1
 have hM1:Mod (fun k=>k=g) w (w.drew.setRow g c1.toArray):=Mod.setRow (S:=fun k=>k=g) ((Mod.refl _ w).drew) (.inr rfl) _
 rw[hc1] at hcp1
 obtain ⟨W1,hW1⟩:∃ W1,w.drew.setRow g c1.toArray=W1:=⟨_,rfl⟩
 rw[hW1] at hcp1 hR1 hM1
 have hcp2:∀ ty dc,(Builtin.copy_ #[38,38] ty #[.slice (some ⟨g,i*4,none⟩) (n+1-i) dc,.slice (some ⟨vb,0,none⟩) 1 1]).run Tryz.prog W1=.ok (goInt 1) (W1.setRow g (splice c1 (i*4) x.cells).toArray):=fun ty dc=>
  zaY (P:=Tryz.prog) W1 38 38 ty 122 4 g (i*4) (n+1-i) dc ⟨vb,0,none⟩ 1 1 1 122 c1 x.cells Tryz.underlying38 zeL hR1 (by simp only[Nat.min_def];split <;> omega) rfl (fun j u hu=>by
   rw[zcQ,Nat.zero_add]
   exact hM1.cell (zA (cs:=x.cells) hvb hu) hne) (by omega) (pair1 x)
 obtain ⟨c2,hc2⟩:∃ c2,splice c1 (i*4) x.cells=c2:=⟨_,rfl⟩
 rw[hc2] at hcp2
 have hlc2:c2.length=cap*4:=by rw[←hc2,length_splice _ _ _ (by omega),hlc1]
 have htk:c2.take ((n+1)*4)=fl (a++x :: b):=by
  have e0:cur.take (i*4)=fl a:=by rw[hcur];exact List.take_left' (by rw[hla,hi])
  have e1:c1.take (i*4)=fl a:=by
   rw[←hc1]
   unfold splice
   rw[List.take_append_of_le_length (by rw[List.length_take];omega),List.take_take,show min (i*4) ((i+1)*4)=i*4 by omega,e0]
  have e2:c1.drop (i*4+4)=fl b++cur.drop ((i+1)*4+(fl b).length):=by
   rw[←hc1]
   unfold splice
   exact List.drop_left' (by rw[List.length_take];omega)
  rw[←hc2]
  unfold splice
  rw[e1,hlx,e2,←List.append_assoc,←List.append_assoc,List.take_left' (by simp only[List.length_append,hla,hlb,hlx,hi,hb];omega)]
  simp[fl]
 have hout:Hid (zfG w (.slice (some ⟨g,0,none⟩) n cap) (a++x :: b) (.returned (.slice (some ⟨g,0,none⟩) (n+1) cap)) (W1.setRow g c2.toArray)):=hJ (by
  refine ⟨_,rfl,?_,fun k hk=>.inl hk,?_⟩
  · have:=Row.own (Row.set (w:=W1) hR1 c2) hlc2 hroom hcm htk
    rw[show (a++x :: b).length=n+1 by simp;omega]
    exact this
  exact (Mod.setRow (S:=fun k=>k=g) hM1 (.inr rfl) _).mono (fun k _ e=>by rw[e];rfl))
 obtain ⟨W2,hW2⟩:∃ W2,W1.setRow g c2.toArray=W2:=⟨_,rfl⟩
 rw[hW2] at hcp2 hout
 have q1:=zaG g i cap 4 (by omega)
 have q2:=zaG g (i+1) cap 4 (by omega)
 obtain ⟨Hov,Hcp1,Hcp2⟩:=hJ3 hov hcp1 hcp2
 unfold maxLen at hcm
 have hneq:¬ ((i:Int)=(n:Int)):=by omega
 have hgt:decide ((n:Int)+1 > (cap:Int))=false:=by simp;omega
 have hin':(i:Int)<(n:Int):=by omega
 have hi1:(0:Int)≤(i:Int)+1:=by omega
 have hcn:(n:Int)+1≤(cap:Int):=by omega
 clear hlx hov hcp1 hcp2 hlc1 hlc2 hR1 hM1 hc1 hc2 hW1 hW2 htk hla hlb hi hb hcur hR hvb hc
 go_enter Tryz.func413,Tryz.ntmps413
 go_wp2_with (simp only[Hov.out])
 have htn:((i:Int)+1).toNat=i+1:=by omega
 have hin2:(i:Int)+1≤(n:Int)+1:=by omega
 have hin3:(i:Int)≤(n:Int)+1:=by omega
 have hw1:IntKind.i64.wrap ((i:Int)+1)=(i:Int)+1:=IntWalk.i64_in _ (by omega)
 go_region_law (refine zbP rfl _ _ 38 38 rfl (.slice (some ⟨g,(i+1)*4,none⟩) (n-i) (cap-(i+1))) (.slice (some ⟨g,i*4,none⟩) (n+1-i) (cap-i)) (by simp[Act.eval,Act.put]) (by simp[Act.eval,Act.put]) (Hcp1.out _ _ _) ?_)
 go_wp2_with (refine zaW _ rfl _ _ 38 38 rfl _ _ rfl rfl (Hcp2.out _ _) ?_)
 go_ret
 exact hout.out
theorem ses1 (p:zR):∀ u∈p.cells,u.oneCell'=true:=by
 intro u hu
 simp only[zR.cells,List.mem_cons,List.not_mem_nil,or_false] at hu
 rcases hu with rfl|rfl|rfl|rfl|rfl|rfl <;> rfl
abbrev flS (l:List zR):List Value:=l.flatMap zR.cells
theorem zdF (l:List zR):(flS l).length=l.length*6:=by
 induction l with
 | nil=>rfl
 | cons p l ih=>simp[flS,List.flatMap_cons] at ih ⊢;omega
theorem zqC (a b:List zR):flS (a++b)=flS a++flS b:=by simp[flS]
theorem zeM:(Tryz.prog.info? 125).map (·.size)=some 6:=by kernel_rfl
def zd2 (w:World) (v:Value) (l:List zR) (e:Ending) (w':World):Prop:=
 ∃ v',e=.returned v'∧w'.ownsRow 0 125 6 v' l.length (flS l)∧(∀ g,v'.ownBlock=some g→v.ownBlock=some g∨w.heap.size≤g)∧Mod (fun k=>v.ownBlock=some k) w w'
theorem sl_blkS {w:World} {vb:Nat} {x:zR} (h:w.heap[vb]? = some (.cells #[.int .i64 x.client,.int .i64 x.seq,.int .i64 x.reply.code,.int .i64 x.reply.val.kind,.float .f64 x.reply.val.num,.string x.reply.val.text] 125 (0,0))):Sl w (fun k=>k=vb) 6 (.slice (some ⟨vb,0,none⟩) 1 1) 1 x.cells:=by
 refine ⟨rfl,_,_,rfl,Nat.le_refl _,by simp[maxLen],fun _=>⟨_,0,rfl,rfl,fun j u hu=>?_⟩⟩
 rw[Nat.zero_add]
 exact zA (cs:=x.cells) h hu
theorem zhA (w:World) (v:Value) (n:Nat) (a:List zR) (x:zR) (vb:Nat) (hn:a.length=n) (hn1:n≤1000) (hown:w.ownsRow 0 125 6 v n (flS a)) (hvb:w.heap[vb]? = some (.cells #[.int .i64 x.client,.int .i64 x.seq,.int .i64 x.reply.code,.int .i64 x.reply.val.kind,.float .f64 x.reply.val.num,.string x.reply.val.text] 125 (0,0))):
  Calls Tryz.prog 274 #[v,.int .i64 n,.slice (some ⟨vb,0,none⟩) 1 1] w (zd2 w v (a++[x])):=by
 obtain ⟨i0,hi0,hz0,hz1,hz2⟩:=info_parts zgN
 obtain ⟨A,c,rfl⟩:=zC hown
 have hsl:=sl_blkS hvb
 have hnc:n≤c:=by
  rcases xJ hown with ⟨_,h⟩|⟨g,cap,cur,e,_,_,h,_⟩
  · omega
  injection e with _ _ e;omega
 have hcm:c≤9223372036854775807:=by
  rcases xJ hown with ⟨e,_⟩|⟨g,cap,cur,e,_,_,_,h,_⟩
  · injection e with _ _ e;omega
  injection e with _ _ e;unfold maxLen at h;omega
 obtain ⟨Hn,Hvb⟩:=hJ2 hn hvb
 clear hn hvb
 go_enter Tryz.func274,Tryz.ntmps274
 go_wp2_with (at_builtin;refine xB _ rfl _ _ 39 rfl 125 i0 _ 6 56 Tryz.underlying39 hi0 hz0 hz1 hz2 rfl (by omega) _ n _ rfl hown _ _ 1 x.cells rfl hsl (ses1 x) (by simp only[maxLen];omega) (by omega) ?_)
 intro v' w1 ho hgr hat
 have hout:Hid (zd2 w (.slice A n c) (a++[x]) (.returned v') w1):=hJ (by
  refine ⟨v',rfl,?_,fun g hg=>?_,(Mod.refl _ w).grown hgr (fun k hk=>.inr hk)⟩
  · rw[zqC,List.length_append,Hn.out];simpa using ho
  rcases hat with e|e
  · rw[←e];exact .inl hg
  rw[e] at hg;injection hg with hg;omega)
 clear ho hgr hat
 go_wp2
 go_ret
 exact hout.out
theorem zgT (w:World) (g n i:Nat) (cur:List Value) (a b:List zR) (x:zR) (vb:Nat) (hi:a.length=i) (hb:b.length=n-i) (hin:i<n) (hn1:n≤1000) (hR:Row w g 125 cur) (hcur:cur=flS a++flS b)
  (hvb:w.heap[vb]? = some (.cells #[.int .i64 x.client,.int .i64 x.seq,.int .i64 x.reply.code,.int .i64 x.reply.val.kind,.float .f64 x.reply.val.num,.string x.reply.val.text] 125 (0,0))):
  Calls Tryz.prog 274 #[.slice (some ⟨g,0,none⟩) n n,.int .i64 i,.slice (some ⟨vb,0,none⟩) 1 1] w (zd2 w (.slice (some ⟨g,0,none⟩) n n) (a++x :: b)):=by
 obtain ⟨i0,hi0,hz0,hz1,hz2⟩:=info_parts zgN
 have hlx:x.cells.length=6:=rfl
 have hla:=zdF a
 have hlb:=zdF b
 have hgw:=hR.lt
 have hvw:vb<w.heap.size:=(Array.getElem?_eq_some_iff.1 hvb).1
 have hold:(Builtin.firstCells i0.size i (.slice (some ⟨g,0,none⟩) i n)).run Tryz.prog w.drew=.ok (flS a).toArray w.drew:=by
  rw[hz1]
  refine run_firstCells_some w.drew 6 i ⟨g,0,none⟩ i n (flS a) (by rw[hla,hi]) (fun j u hu=>?_)
  rw[zcQ,Nat.zero_add]
  refine Row.cell (w:=w) hR ?_
  rw[hcur,List.getElem?_append_left (List.getElem?_eq_some_iff.1 hu).1]
  exact hu
 obtain ⟨G,hG⟩:∃ G,grownCap w (n+1) n 125=G:=⟨_,rfl⟩
 have hGn:n+1≤G:=by rw[←hG];exact grownCap_ge w _ _ _
 have hGm:G≤maxLen:=by rw[←hG];exact grownCap_le_maxLen w _ _ _ (by unfold maxLen;omega)
 obtain ⟨z,hz⟩:∃ z:Value,z=.agg #[.int .i64 0,.int .i64 0,.int .i64 0,.int .i64 0,.float .f64 0,.string ⟨#[]⟩]:=⟨_,rfl⟩
 have hzs:z.cells.size=6:=by rw[hz];rfl
 rw[←hz] at hz0
 obtain ⟨Z1,hZ1⟩:∃ Z1,(Builtin.zeroCells z.cells (n+1-i)).toList=Z1:=⟨_,rfl⟩
 obtain ⟨Z2,hZ2⟩:∃ Z2,(Builtin.zeroCells z.cells (G-(n+1))).toList=Z2:=⟨_,rfl⟩
 have hlz1:Z1.length=(n+1-i)*6:=by rw[←hZ1,zmD,hzs]
 have hlz2:Z2.length=(G-(n+1))*6:=by rw[←hZ2,zmD,hzs]
 obtain ⟨h,hh⟩:∃ h,w.heap.size=h:=⟨_,rfl⟩
 obtain ⟨W1,hW1⟩:∃ W1,w.drew.alloc (.cells (flS a++(Z1++Z2)).toArray 125)=W1:=⟨_,rfl⟩
 have hrz:∀ ty,(Builtin.append_ #[39,3] ty #[.slice (some ⟨g,0,none⟩) i n,.int .i64 ((n:Int)+1-(i:Int))]).run Tryz.prog w=.ok (.slice (some ⟨h,0,none⟩) (n+1) G) W1:=fun ty=>by
  have hh2:=Lib.run_append_grow_zeros w 39 3 ty 125 i0 z .i64 .i64 Tryz.underlying39 Tryz.underlying3 hi0 hz0 (some ⟨g,0,none⟩) i n (flS a) hold (n+1-i) (by omega) (by omega) (by omega) (by omega) (by rw[hz2];omega)
   (by rw[hz2,show i+(n+1-i)=n+1 by omega];exact growslice_fits (by omega) (by omega))
  rw[show i+(n+1-i)=n+1 by omega,hG,hh] at hh2
  rw[show (n:Int)+1-(i:Int)=((n+1-i:Nat):Int) by omega,hh2,←hW1,←hZ1,←hZ2]
  congr 3
  simp
 have hR1:Row W1 h 125 (flS a++(Z1++Z2)):=by
  rw[←hW1,←hh]
  exact heap_alloc_new w.drew _
 have hE1:Ext w W1:=by rw[←hW1];exact ((Mod.refl _ w).drew).alloc _
 have hcp1:∀ ty dc,(Builtin.copy_ #[39,39] ty #[.slice (some ⟨h,i*6,none⟩) (n+1-i) dc,.slice (some ⟨vb,0,none⟩) 1 1]).run Tryz.prog W1=.ok (goInt 1) (W1.setRow h (splice (flS a++(Z1++Z2)) (i*6) x.cells).toArray):=fun ty dc=>
  zaY (P:=Tryz.prog) W1 39 39 ty 125 6 h (i*6) (n+1-i) dc ⟨vb,0,none⟩ 1 1 1 125 _ x.cells Tryz.underlying39 zeM hR1 (by simp only[Nat.min_def];split <;> omega) rfl (fun j u hu=>by
   rw[zcQ,Nat.zero_add]
   exact hE1.cell (zA (cs:=x.cells) hvb hu) id) (by simp only[List.length_append,hla,hlx,hi,hlz1,hlz2];omega) (ses1 x)
 obtain ⟨c2,hc2⟩:∃ c2,splice (flS a++(Z1++Z2)) (i*6) x.cells=c2:=⟨_,rfl⟩
 have hlc2:c2.length=G*6:=by rw[←hc2,length_splice _ _ _ (by simp only[List.length_append,hla,hlx,hi,hlz1,hlz2];omega)];simp only[List.length_append,hla,hi,hlz1,hlz2];omega
 have hR2:Row (W1.setRow h c2.toArray) h 125 c2:=hR1.set c2
 have hE2:Ext w (W1.setRow h c2.toArray):=Mod.toExt (Mod.setRow (S:=zD w.heap.size) (hE1.mod _) (.inl (by omega)) _)
 rw[hc2] at hcp1
 obtain ⟨W2,hW2⟩:∃ W2,W1.setRow h c2.toArray=W2:=⟨_,rfl⟩
 rw[hW2] at hcp1 hR2 hE2
 have hcp2:∀ ty dc sc,(Builtin.copy_ #[39,39] ty #[.slice (some ⟨h,(i+1)*6,none⟩) (n-i) dc,.slice (some ⟨g,i*6,none⟩) (n-i) sc]).run Tryz.prog W2.drew=.ok (goInt ((n-i:Nat):Int)) (W2.drew.setRow h (splice c2 ((i+1)*6) (flS b)).toArray):=fun ty dc sc=>
  zaY (P:=Tryz.prog) W2.drew 39 39 ty 125 6 h ((i+1)*6) (n-i) dc ⟨g,i*6,none⟩ (n-i) sc (n-i) 125 c2 (flS b) Tryz.underlying39 zeM hR2 (by simp) (by rw[hlb,hb]) (fun j u hu=>by
   rw[zcQ]
   refine hE2.cell (Row.cell hR ?_) id
   rw[hcur,List.getElem?_append_right (by omega),hla,hi,Nat.add_sub_cancel_left]
   exact hu) (by omega) (zk1 b)
 obtain ⟨c3,hc3⟩:∃ c3,splice c2 ((i+1)*6) (flS b)=c3:=⟨_,rfl⟩
 rw[hc3] at hcp2
 have hlc3:c3.length=G*6:=by rw[←hc3,length_splice _ _ _ (by omega),hlc2]
 have htk:c3.take ((n+1)*6)=flS (a++x :: b):=by
  have e1:c2.take ((i+1)*6)=flS a++x.cells:=by
   rw[←hc2]
   unfold splice
   have e0:(flS a++(Z1++Z2)).take (i*6)=flS a:=List.take_left' (by rw[hla,hi])
   rw[e0,←List.append_assoc]
   exact List.take_left' (by simp only[List.length_append,hla,hlx,hi];omega)
  rw[←hc3]
  unfold splice
  rw[e1,←List.append_assoc,List.take_left' (by simp only[List.length_append,hla,hlb,hlx,hi,hb];omega)]
  simp[flS]
 have hout:Hid (zd2 w (.slice (some ⟨g,0,none⟩) n n) (a++x :: b) (.returned (.slice (some ⟨h,0,none⟩) (n+1) G)) (W2.drew.setRow h c3.toArray)):=hJ (by
  refine ⟨_,rfl,?_,fun k hk=>?_,?_⟩
  · have:=Row.own (Row.set (w:=W2.drew) hR2 c3) hlc3 hGn hGm htk
    rw[show (a++x :: b).length=n+1 by simp;omega]
    exact this
  · simp[Value.ownBlock] at hk;right;omega
  exact Mod.setRow ((Ext.mod hE2 (fun k=>(Value.slice (some ⟨g,0,none⟩) n n).ownBlock=some k)).drew) (.inl (by omega)) _)
 obtain ⟨W3,hW3⟩:∃ W3,W2.drew.setRow h c3.toArray=W3:=⟨_,rfl⟩
 rw[hW3] at hcp2 hout
 have q1:=zaG h i G 6 (by omega)
 have q2:=zaG h (i+1) G 6 (by omega)
 have q3:=zaG g i n 6 (by omega)
 obtain ⟨Hrz,Hcp1,Hcp2⟩:=hJ3 hrz hcp1 hcp2
 unfold maxLen at hGm
 have hneq:¬ ((i:Int)=(n:Int)):=by omega
 have hgt:decide ((n:Int)+1 > (n:Int))=true:=by simp;omega
 have hi1:(0:Int)≤(i:Int)+1:=by omega
 have hin':(i:Int)<(n:Int):=by omega
 have hGi:(n:Int)+1≤(G:Int):=by omega
 clear hlx hrz hcp1 hcp2 hold hG hz hzs hz0 hZ1 hZ2 hlz1 hlz2 hh hW1 hR1 hE1 hc2 hlc2 hR2 hE2 hW2 hc3 hlc3 htk hW3 hla hlb hi hb hcur hR hvb
 go_enter Tryz.func274,Tryz.ntmps274
 go_wp2_with (first
  | (at_builtin;refine Lib.wpList_append_run _ rfl _ _ _ _ rfl _ _ rfl rfl _ _ (Hrz.out _) ?_)
  | (refine zaW _ rfl _ _ 39 39 rfl _ _ rfl rfl (Hcp1.out _ _) ?_))
 have htn:((i:Int)+1).toNat=i+1:=by omega
 have hin2:(i:Int)+1≤(n:Int)+1:=by omega
 have hin3:(i:Int)≤(n:Int):=by omega
 have hw1:IntKind.i64.wrap ((i:Int)+1)=(i:Int)+1:=IntWalk.i64_in _ (by omega)
 go_region_law (refine zbP rfl _ _ 39 39 rfl (.slice (some ⟨h,(i+1)*6,none⟩) (n-i) (G-(i+1))) (.slice (some ⟨g,i*6,none⟩) (n-i) (n-i)) (by simp[Act.eval,Act.put]) (by simp[Act.eval,Act.put]) (Hcp2.out _ _ _) ?_)
 go_wp2
 go_ret
 exact hout.out
theorem zhB (w:World) (vb g o lb cb:Nat) (cs ds:Array Value) (tA tB:TypeId) (hA:w.heap[vb]? = some (.cells cs tA (0,0))) (hB:w.heap[g]? = some (.cells ds tB (0,0))) (hd:ds.size≠0) (hne:vb≠g):
  (callFunc 352 #[.slice (some ⟨vb,0,none⟩) 1 1,.slice (some ⟨g,o,none⟩) lb cb]).run Tryz.prog w=.ok (.value (.bool false)) w:=by
 rw[run_callFunc_extern (fn:=Tryz.f352) (by kernel_rfl) (by kernel_rfl) (by kernel_rfl) (by kernel_rfl) (e:=Extern.SlicesOverlaps.overlaps #[39,39] #[4]) (by kernel_rfl),
  Lib.run_overlaps_apart w 39 4 125 Tryz.underlying39 6 (fun w=>by kernel_rfl) ⟨vb,0,none⟩ ⟨g,o,none⟩ 1 1 lb cb hne tA tB cs.size ds.size (by simp[World.shape?,hA]) (by simp[World.shape?,hB]) hd (by simp[World.frozen?,hA]) (by simp[World.frozen?,hA])]
 rfl
theorem zgU (w:World) (g n i cap:Nat) (cur:List Value) (a b:List zR) (x:zR) (vb:Nat) (rest:List Value) (hi:a.length=i) (hb:b.length=n-i) (hin:i<n) (hn1:n≤1000) (hR:Row w g 125 cur) (hcur:cur=flS a++(flS b++rest))
  (hc:cur.length=cap*6) (hroom:n+1≤cap) (hcm:cap≤maxLen) (hvb:w.heap[vb]? = some (.cells #[.int .i64 x.client,.int .i64 x.seq,.int .i64 x.reply.code,.int .i64 x.reply.val.kind,.float .f64 x.reply.val.num,.string x.reply.val.text] 125 (0,0))) (hne:vb≠g):
  Calls Tryz.prog 274 #[.slice (some ⟨g,0,none⟩) n cap,.int .i64 i,.slice (some ⟨vb,0,none⟩) 1 1] w (zd2 w (.slice (some ⟨g,0,none⟩) n cap) (a++x :: b)):=by
 have hlx:x.cells.length=6:=rfl
 have hla:=zdF a
 have hlb:=zdF b
 have hov:=fun lb cb=>zhB w vb g ((i+1)*6) lb cb _ _ _ _ hvb hR (by rw[List.size_toArray];omega) hne
 have hcp1:∀ ty dc sc,(Builtin.copy_ #[39,39] ty #[.slice (some ⟨g,(i+1)*6,none⟩) (n-i) dc,.slice (some ⟨g,i*6,none⟩) (n+1-i) sc]).run Tryz.prog w.drew=.ok (goInt ((n-i:Nat):Int)) (w.drew.setRow g (splice cur ((i+1)*6) (flS b)).toArray):=fun ty dc sc=>
  zaY (P:=Tryz.prog) w.drew 39 39 ty 125 6 g ((i+1)*6) (n-i) dc ⟨g,i*6,none⟩ (n+1-i) sc (n-i) 125 cur (flS b) Tryz.underlying39 zeM hR (by simp only[Nat.min_def];split <;> omega) (by rw[hlb,hb]) (fun j u hu=>by
   rw[zcQ]
   refine Row.cell (w:=w) hR ?_
   rw[hcur,List.getElem?_append_right (by omega),hla,hi,Nat.add_sub_cancel_left,List.getElem?_append_left (List.getElem?_eq_some_iff.1 hu).1]
   exact hu) (by omega) (zk1 b)
 obtain ⟨c1,hc1⟩:∃ c1,splice cur ((i+1)*6) (flS b)=c1:=⟨_,rfl⟩
 have hlc1:c1.length=cap*6:=by rw[←hc1,length_splice _ _ _ (by omega),hc]
 have hR1:Row (w.drew.setRow g c1.toArray) g 125 c1:=Row.set (w:=w.drew) hR c1
 have hM1:Mod (fun k=>k=g) w (w.drew.setRow g c1.toArray):=Mod.setRow (S:=fun k=>k=g) ((Mod.refl _ w).drew) (.inr rfl) _
 rw[hc1] at hcp1
 obtain ⟨W1,hW1⟩:∃ W1,w.drew.setRow g c1.toArray=W1:=⟨_,rfl⟩
 rw[hW1] at hcp1 hR1 hM1
 have hcp2:∀ ty dc,(Builtin.copy_ #[39,39] ty #[.slice (some ⟨g,i*6,none⟩) (n+1-i) dc,.slice (some ⟨vb,0,none⟩) 1 1]).run Tryz.prog W1=.ok (goInt 1) (W1.setRow g (splice c1 (i*6) x.cells).toArray):=fun ty dc=>
  zaY (P:=Tryz.prog) W1 39 39 ty 125 6 g (i*6) (n+1-i) dc ⟨vb,0,none⟩ 1 1 1 125 c1 x.cells Tryz.underlying39 zeM hR1 (by simp only[Nat.min_def];split <;> omega) rfl (fun j u hu=>by
   rw[zcQ,Nat.zero_add]
   exact hM1.cell (zA (cs:=x.cells) hvb hu) hne) (by omega) (ses1 x)
 obtain ⟨c2,hc2⟩:∃ c2,splice c1 (i*6) x.cells=c2:=⟨_,rfl⟩
 rw[hc2] at hcp2
 have hlc2:c2.length=cap*6:=by rw[←hc2,length_splice _ _ _ (by omega),hlc1]
 have htk:c2.take ((n+1)*6)=flS (a++x :: b):=by
  have e0:cur.take (i*6)=flS a:=by rw[hcur];exact List.take_left' (by rw[hla,hi])
  have e1:c1.take (i*6)=flS a:=by
   rw[←hc1]
   unfold splice
   rw[List.take_append_of_le_length (by rw[List.length_take];omega),List.take_take,show min (i*6) ((i+1)*6)=i*6 by omega,e0]
  have e2:c1.drop (i*6+6)=flS b++cur.drop ((i+1)*6+(flS b).length):=by
   rw[←hc1]
   unfold splice
   exact List.drop_left' (by rw[List.length_take];omega)
  rw[←hc2]
  unfold splice
  rw[e1,hlx,e2,←List.append_assoc,←List.append_assoc,List.take_left' (by simp only[List.length_append,hla,hlb,hlx,hi,hb];omega)]
  simp[flS]
 have hout:Hid (zd2 w (.slice (some ⟨g,0,none⟩) n cap) (a++x :: b) (.returned (.slice (some ⟨g,0,none⟩) (n+1) cap)) (W1.setRow g c2.toArray)):=hJ (by
  refine ⟨_,rfl,?_,fun k hk=>.inl hk,?_⟩
  · have:=Row.own (Row.set (w:=W1) hR1 c2) hlc2 hroom hcm htk
    rw[show (a++x :: b).length=n+1 by simp;omega]
    exact this
  exact (Mod.setRow (S:=fun k=>k=g) hM1 (.inr rfl) _).mono (fun k _ e=>by rw[e];rfl))
 obtain ⟨W2,hW2⟩:∃ W2,W1.setRow g c2.toArray=W2:=⟨_,rfl⟩
 rw[hW2] at hcp2 hout
 have q1:=zaG g i cap 6 (by omega)
 have q2:=zaG g (i+1) cap 6 (by omega)
 obtain ⟨Hov,Hcp1,Hcp2⟩:=hJ3 hov hcp1 hcp2
 unfold maxLen at hcm
 have hneq:¬ ((i:Int)=(n:Int)):=by omega
 have hgt:decide ((n:Int)+1 > (cap:Int))=false:=by simp;omega
 have hin':(i:Int)<(n:Int):=by omega
 have hi1:(0:Int)≤(i:Int)+1:=by omega
 have hcn:(n:Int)+1≤(cap:Int):=by omega
 clear hlx hov hcp1 hcp2 hlc1 hlc2 hR1 hM1 hc1 hc2 hW1 hW2 htk hla hlb hi hb hcur hR hvb hc
 go_enter Tryz.func274,Tryz.ntmps274
 go_wp2_with (simp only[Hov.out])
 have htn:((i:Int)+1).toNat=i+1:=by omega
 have hin2:(i:Int)+1≤(n:Int)+1:=by omega
 have hin3:(i:Int)≤(n:Int)+1:=by omega
 have hw1:IntKind.i64.wrap ((i:Int)+1)=(i:Int)+1:=IntWalk.i64_in _ (by omega)
 go_region_law (refine zbP rfl _ _ 39 39 rfl (.slice (some ⟨g,(i+1)*6,none⟩) (n-i) (cap-(i+1))) (.slice (some ⟨g,i*6,none⟩) (n+1-i) (cap-i)) (by simp[Act.eval,Act.put]) (by simp[Act.eval,Act.put]) (Hcp1.out _ _ _) ?_)
 go_wp2_with (refine zaW _ rfl _ _ 39 39 rfl _ _ rfl rfl (Hcp2.out _ _) ?_)
 go_ret
 exact hout.out
end Go.Proofs.YtjbkjhhjofeldaaGreat
