/-
 Contracts of skerrykeep.TwinPairs and slices.Clone. Conditions: as each theorem names them.
-/
import Derived.Test.YtjbkjhhjofeldaaGreatG32
import Derived.Laws.FloatArith
import Derived.Deep.QuietTactic
import Derived.BigQuiet
import Derived.Deep.RegionHeld3
import Derived.Deep.MidRow
set_option maxRecDepth 100000
set_option maxHeartbeats 400000
namespace Go.Proofs.YtjbkjhhjofeldaaGreat
set_option linter.unusedSimpArgs false
open Go.RowKit
theorem zdE:(Tryz.prog.info? 122).map (fun i=>(i.zero,i.size,i.bytes))=some (some (.agg #[.string ⟨#[]⟩,.int .i64 0,.float .f64 0,.string ⟨#[]⟩]),4,48):=by kernel_rfl
theorem zeJ (l:List zJ):∀ u∈l.flatMap zJ.cells,u.oneCell'=true:=by
 intro u hu
 obtain ⟨p,_,hp⟩:=List.mem_flatMap.1 hu
 simp only[zJ.cells,List.mem_cons,List.not_mem_nil,or_false] at hp
 rcases hp with rfl|rfl|rfl|rfl <;> rfl
theorem k_twinPairs (w:World) (T:Nat→Prop) (v:Value) (l:List zJ) (h:Prs w T v l) (hl:l.length≤1000000):
  Calls Tryz.prog 113 #[v] w fun e w'=>∃ v',e=.returned v'∧zg7 w w' v' l∧Ext w w':=by
 obtain ⟨i0,hi,hz0,hz1,hz2⟩:=info_parts zdE
 obtain ⟨n,hn⟩:∃ n,l.length=n:=⟨_,rfl⟩
 obtain ⟨A,c,rfl⟩:=h.form
 obtain ⟨h1,h2⟩:=h
 rw[hn] at hl h1 ⊢
 obtain ⟨Hn,H2⟩:=hJ2 hn h2
 clear hn h2
 go_enter Tryz.func113,Tryz.ntmps113
 go_wp2_with (at_builtin;refine xB _ rfl _ _ 38 rfl 122 i0 _ 4 48 Tryz.underlying38 hi hz0 hz1 hz2 rfl (by omega) _ 0 [] rfl (World.ownsRow_nil _ _ _ _) T _ n (l.flatMap zJ.cells) rfl h1 (zeJ l) (by simp only[maxLen];omega) (by omega) ?_)
 intro v' w1 ho hgr hat
 have hE:Ext w w1:=(Mod.refl _ w).grown hgr (by simp[Value.ownBlock])
 have hN:zg7 w w1 v' l:=by
  refine ⟨by rw[Hn.out];simpa using ho,H2.out,fun g hgg=>?_⟩
  rcases hat with e|e <;> rw[e] at hgg <;> simp[Value.ownBlock] at hgg <;> omega
 go_wp2
 go_ret
 exact ⟨v',rfl,hN,hE⟩
theorem zeK (w:World) (T:Nat→Prop) (v:Value) (l:List zJ) (h:Prs w T v l) (hl:l.length≤1000000):
  Calls Tryz.prog 50 #[v] w fun e w'=>∃ v',e=.returned v'∧zg7 w w' v' l∧Ext w w':=by
 obtain ⟨i0,hi,hz0,hz1,hz2⟩:=info_parts zdE
 obtain ⟨n,hn⟩:∃ n,l.length=n:=⟨_,rfl⟩
 obtain ⟨A,c,rfl⟩:=h.form
 obtain ⟨h1,h2⟩:=h
 rw[hn] at hl h1 ⊢
 obtain ⟨Hn,H2⟩:=hJ2 hn h2
 clear hn h2
 have heq:=fun (w:World) (a:Option Addr) (n c n' c':Nat)=>Lib.run_eql_slice_nil (P:=Tryz.prog) w 38 122 a n c n' c' Tryz.underlying38
 rcases A with _|A
 ·
  have hn0:n=0:=by
   rcases Nat.eq_zero_or_pos n with h0|h0
   · exact h0
   obtain ⟨_,A',c',e,_,_,hx⟩:=h1
   injection e with e1 _ _
   obtain ⟨g,off,hA,_⟩:=hx h0
   rw[←e1] at hA;cases hA
  have hl0:l=[]:=List.eq_nil_of_length_eq_zero (by rw[Hn.out];exact hn0)
  subst hl0
  clear h1
  go_enter Tryz.func50,Tryz.ntmps50
  go_wp2
  go_ret
  exact ⟨_,rfl,⟨World.ownsRow_nil _ _ _ _,by simp,by simp[Value.ownBlock]⟩,Mod.refl _ w⟩
 have hEa:Ext w (w.alloc (.cells #[] 122)):=(Mod.refl _ w).alloc _
 have h3:=h1.ext hEa
 have hown:(w.alloc (.cells #[] 122)).ownsRow 0 122 4 (.slice (some ⟨w.heap.size,0,none⟩) 0 0) 0 []:=World.ownsRow_made w #[] 0 (Nat.zero_le _) (by simp[maxLen]) rfl
 go_enter Tryz.func50,Tryz.ntmps50
 go_wp2_with (at_builtin;refine xB _ rfl _ _ 38 rfl 122 i0 _ 4 48 Tryz.underlying38 hi hz0 hz1 hz2 rfl (by omega) _ 0 [] rfl hown T _ n (l.flatMap zJ.cells) rfl h3 (zeJ l) (by simp only[maxLen];omega) (by omega) ?_)
 intro v' w1 ho hgr hat
 have hM:Mod (zD w.heap.size) w w1:=(((Mod.refl (zD w.heap.size) w).alloc _).grown hgr (fun k hk=>by
  simp[Value.ownBlock] at hk;subst hk;exact .inl (Nat.le_refl _)))
 have hN:zg7 w w1 v' l:=by
  refine ⟨by rw[Hn.out];simpa using ho,H2.out,fun g hgg=>?_⟩
  rcases hat with e|e <;> rw[e] at hgg <;> simp[Value.ownBlock] at hgg <;> omega
 go_wp2
 go_ret
 exact ⟨v',rfl,hN,hM.toExt⟩
end Go.Proofs.YtjbkjhhjofeldaaGreat
namespace Go.Proofs.YtjbkjhhjofeldaaGreat
set_option linter.unusedSimpArgs false
open Go.RowKit
theorem pair1 (p:zJ):∀ u∈p.cells,u.oneCell'=true:=by
 intro u hu
 simp only[zJ.cells,List.mem_cons,List.not_mem_nil,or_false] at hu
 rcases hu with rfl|rfl|rfl|rfl <;> rfl
end Go.Proofs.YtjbkjhhjofeldaaGreat
set_option maxRecDepth 100000
set_option maxHeartbeats 400000
namespace Go.Proofs.YtjbkjhhjofeldaaGreat
open Go.RowKit
attribute [local go_sem] yN xT
theorem zqA {k:FloatKind} {a b:Nat} (h:a=b):Ending.returned (.float k a)=.returned (.float k b):=by rw[h]
theorem run_addF (a b:Nat) (t:TypeId) (w:World):∃ r q,(binOp .add t (.float .f64 a) (.float .f64 b)).run Tryz.prog w=.ok (.float .f64 r) (w.drewN q)∧xS r=zlJ a b:=by
 rcases h:FloatKind.f64.format.add a b with _|r
 ·
  refine ⟨Question.cut (.nanBits .f64 a b) (w.tape w.drawn (.nanBits .f64 a b)),1,?_,?_⟩
  · simp[binOp,Op.floatArith,h,Question.forced]
    rfl
  unfold zlJ
  rw[h]
  exact zi8 (nan_bits _)
 refine ⟨r,0,run_float_arith (P:=Tryz.prog) w .add t .f64 a b r h,?_⟩
 unfold zlJ
 rw[h]
theorem n_add (a b:Nat) (w:World):Calls Tryz.prog 415 #[.float .f64 a,.float .f64 b] w fun e w'=>e=.returned (.float .f64 (zlJ a b))∧Ext w w':=by
 obtain ⟨r,q,hr,hc⟩:=run_addF a b 23 w
 have HC:=hJ hc
 clear hc
 go_enter Tryz.func415,Tryz.ntmps415
 go_wp2_with (go_at_call 338;refine (zb0 _ _).mono ?_;rintro e w' ⟨rfl,rfl⟩)
 go_ret
 exact ⟨zqA HC.out,(Mod.refl _ w).drewN q⟩
theorem sgn_conv {a:Nat} (h:a<18446744073709551616):decide (wrap64 (a:Int)<0)=zf2 a:=by
 unfold zf2 wrap64
 rw[decide_eq_decide]
 omega
theorem m_sign (a:Nat) (h:a<18446744073709551616) (w:World):Calls Tryz.prog 456 #[.float .f64 a] w fun e w'=>e=.returned (.bool (zf2 a))∧w=w':=by
 have hs:=sgn_conv h
 go_enter Tryz.func456,Tryz.ntmps456
 go_wp2
 go_ret
 exact ⟨rfl,rfl⟩
theorem n_less (a b:Nat) (ha:a<18446744073709551616) (hb:b<18446744073709551616) (na:xZ a=false) (nb:xZ b=false) (w:World):Calls Tryz.prog 447 #[.float .f64 a,.float .f64 b] w fun e w'=>e=.returned (.bool (zn9 a b))∧w=w':=by
 rw[←lessG_eq ha hb na nb]
 unfold lessG
 rcases ho:(FloatKind.f64.format.order a b==some Ordering.eq) with _|_
 ·
  go_enter Tryz.func447,Tryz.ntmps447
  go_wp2_with (go_at_call 400;refine (zbE _ _).mono ?_;rintro e w' ⟨rfl,rfl⟩)
  go_ret
  exact ⟨rfl,rfl⟩
 rcases hs:zf2 a with _|_
 all_goals
  go_enter Tryz.func447,Tryz.ntmps447
  go_wp2_with (first|(go_at_call 400;refine (zbE _ _).mono ?_;rintro e w' ⟨rfl,rfl⟩)|(go_at_call 456;refine (m_sign _ (by assumption) _).mono ?_;rintro e w' ⟨rfl,rfl⟩))
  go_ret
  exact ⟨rfl,rfl⟩
theorem n_max (a b:Nat) (ha:a<18446744073709551616) (hb:b<18446744073709551616) (w:World):Calls Tryz.prog 416 #[.float .f64 a,.float .f64 b] w fun e w'=>e=.returned (.float .f64 (zn1 a b))∧Ext w w':=by
 unfold zn1
 rcases na:xZ a with _|_
 ·
  rcases nb:xZ b with _|_
  ·
   rcases hl:zn9 a b with _|_
   all_goals
    go_enter Tryz.func416,Tryz.ntmps416
    go_wp2_with (first|(go_at_call 400;refine (zbE _ _).mono ?_;rintro e w' ⟨rfl,rfl⟩)|(go_at_call 447;refine (n_less _ _ ha hb na nb _).mono ?_;rintro e w' ⟨rfl,rfl⟩))
    go_ret
    exact ⟨rfl,Mod.refl _ _⟩
  go_enter Tryz.func416,Tryz.ntmps416
  go_wp2_with (first|(go_at_call 400;refine (zbE _ _).mono ?_;rintro e w' ⟨rfl,rfl⟩)|(go_at_call 401;refine (zkI _).mono ?_;rintro e w' ⟨rfl,rfl⟩))
  go_ret
  exact ⟨rfl,Mod.refl _ _⟩
 go_enter Tryz.func416,Tryz.ntmps416
 go_wp2_with (first|(go_at_call 400;refine (zbE _ _).mono ?_;rintro e w' ⟨rfl,rfl⟩)|(go_at_call 401;refine (zkI _).mono ?_;rintro e w' ⟨rfl,rfl⟩))
 go_ret
 exact ⟨rfl,Mod.refl _ _⟩
end Go.Proofs.YtjbkjhhjofeldaaGreat
set_option maxRecDepth 100000
set_option maxHeartbeats 2000000
namespace Go.Proofs.YtjbkjhhjofeldaaGreat
set_option linter.unusedSimpArgs false
open Go.RowKit
theorem znN (a b:Nat):yV a b=zg4 a b:=by
 unfold yV zg4 xS
 rw[Bool.eq_iff_iff]
 by_cases ha:xZ a=true <;> by_cases hb:xZ b=true
 · simp[ha,hb]
 ·
  simp[ha,hb]
  constructor
  · intro h;rw[←h] at hb;exact absurd (by decide +kernel) hb
  rintro rfl;exact absurd ha hb
 ·
  simp[ha,hb]
  constructor
  · intro h;rw[h] at ha;exact absurd (by decide +kernel) ha
  rintro rfl;exact absurd hb ha
 simp[ha,hb]
theorem v_same (a b:yO) (w:World):Calls Tryz.prog 356 #[.agg #[.int .i64 a.kind,.float .f64 a.num,.string a.text],.agg #[.int .i64 b.kind,.float .f64 b.num,.string b.text]] w fun e w'=>e=.returned (.bool (zbD a b))∧Ext w w':=by
 have hT:(a.text.toList==b.text.toList)=eqT a.text b.text:=rfl
 have hE:Ext w ((w.alloc (.cells #[.int .i64 a.kind,.float .f64 a.num,.string a.text] 25)).alloc (.cells #[.int .i64 b.kind,.float .f64 b.num,.string b.text] 25)):=((Mod.refl _ w).alloc _).alloc _
 unfold zbD
 rw[←znN]
 rcases h1:(a.kind==b.kind) with _|_
 ·
  go_enter Tryz.func356,Tryz.ntmps356
  go_wp2
  go_ret
  exact ⟨rfl,hE⟩
 rcases h2:yV a.num b.num with _|_
 all_goals
  go_enter Tryz.func356,Tryz.ntmps356
  go_wp2_with (go_at_call 267;refine (zjH _ _ _).mono ?_;rintro e w' ⟨rfl,rfl⟩)
  go_ret
  exact ⟨rfl,hE⟩
def za2 (r:Nat) (a b:yO):yO×Int:=
 if chk a≠0 then (yO.zero,chk a) else if chk b≠0 then (yO.zero,chk b)
 else if a.kind=0 then (b,0) else if a.kind≠1∨b.kind≠1 then (yO.zero,8)
 else (⟨1,r,⟨#[]⟩⟩,0)
theorem zhU (add:Bool) (a b:yO):zbU add a b=za2 (if add then zlJ a.num b.num else zn1 a.num b.num) a b:=rfl
theorem v_both (f:FuncId) (r:Nat) (a b:yO) (w:World) (hcall:∀ args W,(callFunc f args).run Tryz.prog W=.ok (.enter f args) W)
  (hf:∀ W,Calls Tryz.prog f #[.float .f64 a.num,.float .f64 b.num] W fun e w'=>e=.returned (.float .f64 r)∧Ext W w'):
  Calls Tryz.prog 414 #[.agg #[.int .i64 a.kind,.float .f64 a.num,.string a.text],.agg #[.int .i64 b.kind,.float .f64 b.num,.string b.text],.func (Fn.func f) #[] #[]] w fun e w'=>
   e=.returned (.tuple #[.agg #[.int .i64 (za2 r a b).1.kind,.float .f64 (za2 r a b).1.num,.string (za2 r a b).1.text],.int .i64 (za2 r a b).2])∧Ext w w':=by
 have Hf:=hJ hf
 clear hf
 by_cases ca:chk a=0
 case neg=>
  have Hr:Hid (za2 r a b=(yO.zero,chk a)):=hJ (by unfold za2;rw[if_pos ca])
  have na:(chk a != 0)=true:=by simpa using ca
  rw[Hr.out]
  clear ca
  go_enter Tryz.func414,Tryz.ntmps414
  go_wp2
  refine wp_loop_rounds 3 ?_
  rw[rounds_succ]
  go_wp2_with fail
  refine (xW a _).mono ?_
  rintro e w1 ⟨rfl,hE1⟩
  obtain ⟨hc1,hf1⟩:=zaO hE1
  have hz1:=hE1.size
  simp at hz1
  have q10:w.heap.size<w1.heap.size:=by omega
  have q11:w.heap.size+1<w1.heap.size:=by omega
  have q12:w.heap.size+1+1<w1.heap.size:=by omega
  have q13:w.heap.size+1+1+1<w1.heap.size:=by omega
  have HM:Hid (Mod (zD w.heap.size) w w1):=hJ ((((((Mod.refl (zD w.heap.size) w).alloc _).alloc _).alloc _).alloc _).alloc _ |>.ext hE1)
  clear hE1 hz1
  go_wp2
  refine bodyPost_ret (v:=.tuple #[.agg #[.int .i64 0,.float .f64 0,.string ⟨#[]⟩],.int .i64 (chk a)]) (by simp[results,Tryz.results414,go_sem,hc1,q10,q11,q12,q13]) rfl ⟨rfl,?_⟩
  refine Mod.toExt ?_
  repeat (first|exact HM.out|(refine Mod.setCell ?_ (.inl (by first|omega|(simp <;> omega))) _)|refine Mod.alloc ?_ _)
 by_cases cb:chk b=0
 case neg=>
  have Hr:Hid (za2 r a b=(yO.zero,chk b)):=hJ (by unfold za2;rw[if_neg (by simpa using ca),if_pos cb])
  have nb:(chk b != 0)=true:=by simpa using cb
  rw[Hr.out]
  clear cb
  go_enter Tryz.func414,Tryz.ntmps414
  go_wp2
  refine wp_loop_rounds 3 ?_
  rw[rounds_succ]
  go_wp2_with fail
  refine (xW a _).mono ?_
  rintro e w1 ⟨rfl,hE1⟩
  obtain ⟨hc1,hf1⟩:=zaO hE1
  have hz1:=hE1.size
  simp at hz1
  have q10:w.heap.size<w1.heap.size:=by omega
  have q11:w.heap.size+1<w1.heap.size:=by omega
  have q12:w.heap.size+1+1<w1.heap.size:=by omega
  have q13:w.heap.size+1+1+1<w1.heap.size:=by omega
  have HM:Hid (Mod (zD w.heap.size) w w1):=hJ ((((((Mod.refl (zD w.heap.size) w).alloc _).alloc _).alloc _).alloc _).alloc _ |>.ext hE1)
  clear hE1
  rw[ca]
  go_wp2_with fail
  rw[rounds_succ]
  go_wp2_with fail
  refine (xW b _).mono ?_
  rintro e w2 ⟨rfl,hE2⟩
  obtain ⟨hc2,hf2⟩:=zaO hE2
  have hz2:=hE2.size
  simp at hz2
  have q20:w.heap.size<w2.heap.size:=by omega
  have q21:w.heap.size+1<w2.heap.size:=by omega
  have q22:w.heap.size+1+1<w2.heap.size:=by omega
  have q23:w.heap.size+1+1+1<w2.heap.size:=by omega
  have HM:Hid (Mod (zD w.heap.size) w w2):=hJ ((HM.out.alloc _).ext hE2)
  clear hE2
  go_wp2
  refine bodyPost_ret (v:=.tuple #[.agg #[.int .i64 0,.float .f64 0,.string ⟨#[]⟩],.int .i64 (chk b)]) (by simp[results,Tryz.results414,go_sem,hc1,hc2,q10,q11,q12,q13,q20,q21,q22,q23]) rfl ⟨rfl,?_⟩
  refine Mod.toExt ?_
  repeat (first|exact HM.out|(refine Mod.setCell ?_ (.inl (by first|omega|(simp <;> omega))) _)|refine Mod.alloc ?_ _)
 by_cases k0:a.kind=0
 ·
  have Hr:Hid (za2 r a b=(b,0)):=hJ (by unfold za2;rw[if_neg (by simpa using ca),if_neg (by simpa using cb),if_pos k0])
  have e0:(a.kind==0)=true:=by simpa using k0
  rw[Hr.out]
  clear k0
  go_enter Tryz.func414,Tryz.ntmps414
  go_wp2
  refine wp_loop_rounds 3 ?_
  rw[rounds_succ]
  go_wp2_with fail
  refine (xW a _).mono ?_
  rintro e w1 ⟨rfl,hE1⟩
  obtain ⟨hc1,hf1⟩:=zaO hE1
  have hz1:=hE1.size
  simp at hz1
  have q10:w.heap.size<w1.heap.size:=by omega
  have q11:w.heap.size+1<w1.heap.size:=by omega
  have q12:w.heap.size+1+1<w1.heap.size:=by omega
  have q13:w.heap.size+1+1+1<w1.heap.size:=by omega
  have HM:Hid (Mod (zD w.heap.size) w w1):=hJ ((((((Mod.refl (zD w.heap.size) w).alloc _).alloc _).alloc _).alloc _).alloc _ |>.ext hE1)
  clear hE1
  rw[ca]
  go_wp2_with fail
  rw[rounds_succ]
  go_wp2_with fail
  refine (xW b _).mono ?_
  rintro e w2 ⟨rfl,hE2⟩
  obtain ⟨hc2,hf2⟩:=zaO hE2
  have hz2:=hE2.size
  simp at hz2
  have q20:w.heap.size<w2.heap.size:=by omega
  have q21:w.heap.size+1<w2.heap.size:=by omega
  have q22:w.heap.size+1+1<w2.heap.size:=by omega
  have q23:w.heap.size+1+1+1<w2.heap.size:=by omega
  have HM:Hid (Mod (zD w.heap.size) w w2):=hJ ((HM.out.alloc _).ext hE2)
  clear hE2
  rw[cb]
  go_wp2_with fail
  rw[rounds_succ]
  go_wp2
  refine bodyPost_ret (v:=.tuple #[.agg #[.int .i64 b.kind,.float .f64 b.num,.string b.text],.int .i64 0]) (by simp[results,Tryz.results414,go_sem,hc1,hc2,q10,q11,q12,q13,q20,q21,q22,q23]) rfl ⟨rfl,?_⟩
  refine Mod.toExt ?_
  repeat (first|exact HM.out|(refine Mod.setCell ?_ (.inl (by first|omega|(simp <;> omega))) _)|refine Mod.alloc ?_ _)
 have e0:(a.kind==0)=false:=by simpa using k0
 by_cases k1:a.kind=1
 case neg=>
  have Hr:Hid (za2 r a b=(yO.zero,8)):=hJ (by unfold za2;rw[if_neg (by simpa using ca),if_neg (by simpa using cb),if_neg k0,if_pos (.inl k1)])
  have e1:(a.kind != 1)=true:=by simpa using k1
  rw[Hr.out]
  clear k0 k1
  go_enter Tryz.func414,Tryz.ntmps414
  go_wp2
  refine wp_loop_rounds 3 ?_
  rw[rounds_succ]
  go_wp2_with fail
  refine (xW a _).mono ?_
  rintro e w1 ⟨rfl,hE1⟩
  obtain ⟨hc1,hf1⟩:=zaO hE1
  have hz1:=hE1.size
  simp at hz1
  have q10:w.heap.size<w1.heap.size:=by omega
  have q11:w.heap.size+1<w1.heap.size:=by omega
  have q12:w.heap.size+1+1<w1.heap.size:=by omega
  have q13:w.heap.size+1+1+1<w1.heap.size:=by omega
  have HM:Hid (Mod (zD w.heap.size) w w1):=hJ ((((((Mod.refl (zD w.heap.size) w).alloc _).alloc _).alloc _).alloc _).alloc _ |>.ext hE1)
  clear hE1
  rw[ca]
  go_wp2_with fail
  rw[rounds_succ]
  go_wp2_with fail
  refine (xW b _).mono ?_
  rintro e w2 ⟨rfl,hE2⟩
  obtain ⟨hc2,hf2⟩:=zaO hE2
  have hz2:=hE2.size
  simp at hz2
  have q20:w.heap.size<w2.heap.size:=by omega
  have q21:w.heap.size+1<w2.heap.size:=by omega
  have q22:w.heap.size+1+1<w2.heap.size:=by omega
  have q23:w.heap.size+1+1+1<w2.heap.size:=by omega
  have HM:Hid (Mod (zD w.heap.size) w w2):=hJ ((HM.out.alloc _).ext hE2)
  clear hE2
  rw[cb]
  go_wp2_with fail
  rw[rounds_succ]
  go_wp2
  refine bodyPost_ret (v:=.tuple #[.agg #[.int .i64 0,.float .f64 0,.string ⟨#[]⟩],.int .i64 8]) (by simp[results,Tryz.results414,go_sem,hc1,hc2,q10,q11,q12,q13,q20,q21,q22,q23]) rfl ⟨rfl,?_⟩
  refine Mod.toExt ?_
  repeat (first|exact HM.out|(refine Mod.setCell ?_ (.inl (by first|omega|(simp <;> omega))) _)|refine Mod.alloc ?_ _)
 have e1:(a.kind != 1)=false:=by simpa using k1
 by_cases k2:b.kind=1
 case neg=>
  have Hr:Hid (za2 r a b=(yO.zero,8)):=hJ (by unfold za2;rw[if_neg (by simpa using ca),if_neg (by simpa using cb),if_neg k0,if_pos (.inr k2)])
  have e2:(b.kind != 1)=true:=by simpa using k2
  rw[Hr.out]
  clear k0 k1 k2
  go_enter Tryz.func414,Tryz.ntmps414
  go_wp2
  refine wp_loop_rounds 3 ?_
  rw[rounds_succ]
  go_wp2_with fail
  refine (xW a _).mono ?_
  rintro e w1 ⟨rfl,hE1⟩
  obtain ⟨hc1,hf1⟩:=zaO hE1
  have hz1:=hE1.size
  simp at hz1
  have q10:w.heap.size<w1.heap.size:=by omega
  have q11:w.heap.size+1<w1.heap.size:=by omega
  have q12:w.heap.size+1+1<w1.heap.size:=by omega
  have q13:w.heap.size+1+1+1<w1.heap.size:=by omega
  have HM:Hid (Mod (zD w.heap.size) w w1):=hJ ((((((Mod.refl (zD w.heap.size) w).alloc _).alloc _).alloc _).alloc _).alloc _ |>.ext hE1)
  clear hE1
  rw[ca]
  go_wp2_with fail
  rw[rounds_succ]
  go_wp2_with fail
  refine (xW b _).mono ?_
  rintro e w2 ⟨rfl,hE2⟩
  obtain ⟨hc2,hf2⟩:=zaO hE2
  have hz2:=hE2.size
  simp at hz2
  have q20:w.heap.size<w2.heap.size:=by omega
  have q21:w.heap.size+1<w2.heap.size:=by omega
  have q22:w.heap.size+1+1<w2.heap.size:=by omega
  have q23:w.heap.size+1+1+1<w2.heap.size:=by omega
  have HM:Hid (Mod (zD w.heap.size) w w2):=hJ ((HM.out.alloc _).ext hE2)
  clear hE2
  rw[cb]
  go_wp2_with fail
  rw[rounds_succ]
  go_wp2
  refine bodyPost_ret (v:=.tuple #[.agg #[.int .i64 0,.float .f64 0,.string ⟨#[]⟩],.int .i64 8]) (by simp[results,Tryz.results414,go_sem,hc1,hc2,q10,q11,q12,q13,q20,q21,q22,q23]) rfl ⟨rfl,?_⟩
  refine Mod.toExt ?_
  repeat (first|exact HM.out|(refine Mod.setCell ?_ (.inl (by first|omega|(simp <;> omega))) _)|refine Mod.alloc ?_ _)
 have Hr:Hid (za2 r a b=(⟨1,r,⟨#[]⟩⟩,0)):=hJ (by unfold za2;rw[if_neg (by simpa using ca),if_neg (by simpa using cb),if_neg k0,if_neg (by simp[k1,k2])])
 have e2:(b.kind != 1)=false:=by simpa using k2
 rw[Hr.out]
 clear k0 k1 k2
 go_enter Tryz.func414,Tryz.ntmps414
 go_wp2
 refine wp_loop_rounds 3 ?_
 rw[rounds_succ]
 go_wp2_with fail
 refine (xW a _).mono ?_
 rintro e w1 ⟨rfl,hE1⟩
 obtain ⟨hc1,hf1⟩:=zaO hE1
 have hz1:=hE1.size
 simp at hz1
 have q10:w.heap.size<w1.heap.size:=by omega
 have q11:w.heap.size+1<w1.heap.size:=by omega
 have q12:w.heap.size+1+1<w1.heap.size:=by omega
 have q13:w.heap.size+1+1+1<w1.heap.size:=by omega
 have HM:Hid (Mod (zD w.heap.size) w w1):=hJ ((((((Mod.refl (zD w.heap.size) w).alloc _).alloc _).alloc _).alloc _).alloc _ |>.ext hE1)
 clear hE1
 rw[ca]
 go_wp2_with fail
 rw[rounds_succ]
 go_wp2_with fail
 refine (xW b _).mono ?_
 rintro e w2 ⟨rfl,hE2⟩
 obtain ⟨hc2,hf2⟩:=zaO hE2
 have hz2:=hE2.size
 simp at hz2
 have q20:w.heap.size<w2.heap.size:=by omega
 have q21:w.heap.size+1<w2.heap.size:=by omega
 have q22:w.heap.size+1+1<w2.heap.size:=by omega
 have q23:w.heap.size+1+1+1<w2.heap.size:=by omega
 have HM:Hid (Mod (zD w.heap.size) w w2):=hJ ((HM.out.alloc _).ext hE2)
 clear hE2
 rw[cb]
 go_wp2_with fail
 rw[rounds_succ]
 go_wp2_with fail
 refine (Hf.out _).mono ?_
 rintro e w3 ⟨rfl,hE3⟩
 obtain ⟨hc3,hf3⟩:=zaO hE3
 have hz3:=hE3.size
 have q30:w.heap.size<w3.heap.size:=by omega
 have q31:w.heap.size+1<w3.heap.size:=by omega
 have q32:w.heap.size+1+1<w3.heap.size:=by omega
 have q33:w.heap.size+1+1+1<w3.heap.size:=by omega
 have HM:Hid (Mod (zD w.heap.size) w w3):=hJ (HM.out.ext hE3)
 clear hE3
 go_wp2
 refine bodyPost_ret (v:=.tuple #[.agg #[.int .i64 1,.float .f64 r,.string ⟨#[]⟩],.int .i64 0]) (by simp[results,Tryz.results414,go_sem,hc1,hc2,hc3,q10,q11,q12,q13,q20,q21,q22,q23,q30,q31,q32,q33]) rfl ⟨rfl,?_⟩
 refine Mod.toExt ?_
 repeat (first|exact HM.out|(refine Mod.setCell ?_ (.inl (by first|omega|(simp <;> omega))) _)|refine Mod.alloc ?_ _)
end Go.Proofs.YtjbkjhhjofeldaaGreat
set_option maxRecDepth 100000
set_option maxHeartbeats 1000000
namespace Go.Proofs.YtjbkjhhjofeldaaGreat
set_option linter.unusedSimpArgs false
open Go.RowKit
attribute [local go_sem] yN xT
theorem v_add (a b:yO) (w:World):Calls Tryz.prog 357 #[.agg #[.int .i64 a.kind,.float .f64 a.num,.string a.text],.agg #[.int .i64 b.kind,.float .f64 b.num,.string b.text]] w fun e w'=>
  e=.returned (.tuple #[.agg #[.int .i64 (zbU true a b).1.kind,.float .f64 (zbU true a b).1.num,.string (zbU true a b).1.text],.int .i64 (zbU true a b).2])∧Ext w w':=by
 rw[zhU]
 obtain ⟨r,hr⟩:∃ r,(if true=true then zlJ a.num b.num else zn1 a.num b.num)=r:=⟨_,rfl⟩
 have hr':zlJ a.num b.num=r:=hr
 rw[hr]
 have Hr:=hJ hr'
 clear hr hr'
 go_enter Tryz.func357,Tryz.ntmps357
 go_wp2_with fail
 refine (v_both 415 r a b _ (fun _ _=>by kernel_rfl) (fun W=>by rw[←Hr.out];exact (n_add _ _ _))).mono ?_
 rintro e w1 ⟨rfl,hE1⟩
 obtain ⟨hc1,hf1⟩:=zaO hE1
 have hz1:=hE1.size
 simp at hz1
 have q10:w.heap.size<w1.heap.size:=by omega
 have q11:w.heap.size+1<w1.heap.size:=by omega
 have q12:w.heap.size+1+1<w1.heap.size:=by omega
 have HM:Hid (Mod (zD w.heap.size) w w1):=hJ ((((Mod.refl (zD w.heap.size) w).alloc _).alloc _).alloc _ |>.ext hE1)
 clear hE1
 go_wp2
 refine bodyPost_ret (v:=.tuple #[.agg #[.int .i64 (za2 r a b).1.kind,.float .f64 (za2 r a b).1.num,.string (za2 r a b).1.text],.int .i64 (za2 r a b).2]) (by simp[results,Tryz.results357,go_sem,hc1,q10,q11,q12]) rfl ⟨rfl,?_⟩
 refine Mod.toExt ?_
 repeat (first|exact HM.out|(refine Mod.setCell ?_ (.inl (by first|omega|(simp <;> omega))) _)|refine Mod.alloc ?_ _)
theorem v_max (a b:yO) (ha:a.num<18446744073709551616) (hb:b.num<18446744073709551616) (w:World):Calls Tryz.prog 358 #[.agg #[.int .i64 a.kind,.float .f64 a.num,.string a.text],.agg #[.int .i64 b.kind,.float .f64 b.num,.string b.text]] w fun e w'=>
  e=.returned (.tuple #[.agg #[.int .i64 (zbU false a b).1.kind,.float .f64 (zbU false a b).1.num,.string (zbU false a b).1.text],.int .i64 (zbU false a b).2])∧Ext w w':=by
 rw[zhU]
 obtain ⟨r,hr⟩:∃ r,(if false=true then zlJ a.num b.num else zn1 a.num b.num)=r:=⟨_,rfl⟩
 have hr':zn1 a.num b.num=r:=hr
 rw[hr]
 have Hr:=hJ hr'
 clear hr hr'
 go_enter Tryz.func358,Tryz.ntmps358
 go_wp2_with fail
 refine (v_both 416 r a b _ (fun _ _=>by kernel_rfl) (fun W=>by rw[←Hr.out];exact (n_max _ _ ha hb _))).mono ?_
 rintro e w1 ⟨rfl,hE1⟩
 obtain ⟨hc1,hf1⟩:=zaO hE1
 have hz1:=hE1.size
 simp at hz1
 have q10:w.heap.size<w1.heap.size:=by omega
 have q11:w.heap.size+1<w1.heap.size:=by omega
 have q12:w.heap.size+1+1<w1.heap.size:=by omega
 have HM:Hid (Mod (zD w.heap.size) w w1):=hJ ((((Mod.refl (zD w.heap.size) w).alloc _).alloc _).alloc _ |>.ext hE1)
 clear hE1
 go_wp2
 refine bodyPost_ret (v:=.tuple #[.agg #[.int .i64 (za2 r a b).1.kind,.float .f64 (za2 r a b).1.num,.string (za2 r a b).1.text],.int .i64 (za2 r a b).2]) (by simp[results,Tryz.results358,go_sem,hc1,q10,q11,q12]) rfl ⟨rfl,?_⟩
 refine Mod.toExt ?_
 repeat (first|exact HM.out|(refine Mod.setCell ?_ (.inl (by first|omega|(simp <;> omega))) _)|refine Mod.alloc ?_ _)
end Go.Proofs.YtjbkjhhjofeldaaGreat
namespace Go.Proofs.YtjbkjhhjofeldaaGreat
set_option linter.unusedSimpArgs false
open Go.RowKit
end Go.Proofs.YtjbkjhhjofeldaaGreat
set_option maxRecDepth 100000
set_option maxHeartbeats 400000
namespace Go.Proofs.YtjbkjhhjofeldaaGreat
set_option linter.unusedSimpArgs false
open Go.RowKit
def ze4 (a b:yH):Bool:=a.code==b.code&&zbD a.val b.val
theorem zk7 (a b:yH) (w:World):Calls Tryz.prog 16 #[.agg #[.int .i64 a.code,.int .i64 a.val.kind,.float .f64 a.val.num,.string a.val.text],.agg #[.int .i64 b.code,.int .i64 b.val.kind,.float .f64 b.val.num,.string b.val.text]] w fun e w'=>e=.returned (.bool (ze4 a b))∧Ext w w':=by
 have hE:Ext w ((w.alloc (.cells #[.int .i64 a.code,.int .i64 a.val.kind,.float .f64 a.val.num,.string a.val.text] 48)).alloc (.cells #[.int .i64 b.code,.int .i64 b.val.kind,.float .f64 b.val.num,.string b.val.text] 48)):=((Mod.refl _ w).alloc _).alloc _
 unfold ze4
 rcases h:(a.code==b.code) with _|_
 ·
  go_enter Tryz.func16,Tryz.ntmps16
  go_wp2
  go_ret
  exact ⟨rfl,hE⟩
 go_enter Tryz.func16,Tryz.ntmps16
 go_wp2_with fail
 refine (zf1 a.val b.val _).mono ?_
 rintro e w1 ⟨rfl,hE1⟩
 have HE:=hJ (Mod.ext hE hE1)
 clear hE hE1
 go_wp2
 go_ret
 exact ⟨rfl,HE.out⟩
def ze5 (e:Int) (v:yO):Ending:=.panicked [{ v:=.iface 305 (.agg #[.int .i64 e,.int .i64 v.kind,.float .f64 v.num,.string v.text]),recovered:=false }]
theorem zaP (w:World):Calls Tryz.prog 277 #[.int .i64 0] w fun e w'=>e=.returned (.tuple #[])∧w=w':=by
 go_enter Tryz.func277,Tryz.ntmps277
 go_wp2
 go_end0
 exact ⟨rfl,rfl⟩
theorem zfV (n:Int) (hn:n≠0) (w:World):Calls Tryz.prog 277 #[.int .i64 n] w fun e w'=>e=ze5 n yO.zero∧w=w':=by
 have d:(n != 0)=true:=by simpa using hn
 clear hn
 go_enter Tryz.func277,Tryz.ntmps277
 go_wp2
 exact ⟨rfl,rfl,rfl⟩
end Go.Proofs.YtjbkjhhjofeldaaGreat
