/-
 Contracts of the verifier's small helpers on bytes and floats (skerrykeep). Conditions: xs each theorem names them.
-/
import Derived.Deep.QuietTactic
import Derived.BigQuiet
import Derived.Test.YtjbkjhhjofeldaaGreatG5
import Derived.Laws.BitsAllLaws
namespace Go.Proofs.YtjbkjhhjofeldaaGreat
open Go.RowKit
attribute [local go_sem] yN xT
end Go.Proofs.YtjbkjhhjofeldaaGreat
set_option maxRecDepth 100000
set_option maxHeartbeats 1000000
namespace Go.Proofs.YtjbkjhhjofeldaaGreat
open Go.RowKit
-- GEN
theorem k_cmd (a b:jV) (w:World):Calls Tryz.prog 54 #[.agg #[.int .i64 a.kind,.string a.key,.int .i64 a.old.kind,.float .f64 a.old.num,.string a.old.text,.int .i64 a.val.kind,.float .f64 a.val.num,.string a.val.text],.agg #[.int .i64 b.kind,.string b.key,.int .i64 b.old.kind,.float .f64 b.old.num,.string b.old.text,.int .i64 b.val.kind,.float .f64 b.val.num,.string b.val.text]] w fun e w'=>e=.returned (.bool (zh1 a b))∧Ext w w':=by
 have hE:Ext w ((w.alloc (.cells #[.int .i64 a.kind,.string a.key,.int .i64 a.old.kind,.float .f64 a.old.num,.string a.old.text,.int .i64 a.val.kind,.float .f64 a.val.num,.string a.val.text] 27)).alloc (.cells #[.int .i64 b.kind,.string b.key,.int .i64 b.old.kind,.float .f64 b.old.num,.string b.old.text,.int .i64 b.val.kind,.float .f64 b.val.num,.string b.val.text] 27)):=((Mod.refl _ w).alloc _).alloc _
 have hT:(a.key.toList==b.key.toList)=eqT a.key b.key:=rfl
 rcases h0:(a.kind==b.kind) with _|_
 ·
  go_enter Tryz.func54,Tryz.ntmps54
  go_wp2
  go_ret
  exact ⟨yC (by simp[zh1,h0]),hE⟩
 rcases h1:eqT a.key b.key with _|_
 ·
  go_enter Tryz.func54,Tryz.ntmps54
  go_wp2
  go_ret
  exact ⟨yC (by simp[zh1,h1]),hE⟩
 go_enter Tryz.func54,Tryz.ntmps54
 go_wp2_with fail
 refine (zf1 a.old b.old _).mono ?_
 rintro e w0 ⟨rfl,hE0⟩
 have hF0:Ext w w0:=Mod.ext hE hE0
 have HF0:=hJ hF0
 have ca5:=hE0.cell (p:=⟨w.heap.size,5,none⟩) (v:=.int .i64 a.val.kind) (by simp) id
 have ca6:=hE0.cell (p:=⟨w.heap.size,6,none⟩) (v:=.float .f64 a.val.num) (by simp) id
 have ca7:=hE0.cell (p:=⟨w.heap.size,7,none⟩) (v:=.string a.val.text) (by simp) id
 have cb5:=hE0.cell (p:=⟨w.heap.size+1,5,none⟩) (v:=.int .i64 b.val.kind) (by simp) id
 have cb6:=hE0.cell (p:=⟨w.heap.size+1,6,none⟩) (v:=.float .f64 b.val.num) (by simp) id
 have cb7:=hE0.cell (p:=⟨w.heap.size+1,7,none⟩) (v:=.string b.val.text) (by simp) id
 clear hF0 hE0
 rcases g0:zbD a.old b.old with _|_
 ·
  go_wp2
  go_ret
  exact ⟨yC (by simp[zh1,g0]),HF0.out⟩
 go_wp2_with fail
 refine (zf1 a.val b.val _).mono ?_
 rintro e w1 ⟨rfl,hE1⟩
 have hF1:Ext w w1:=Mod.ext HF0.out hE1
 have HF1:=hJ hF1
 clear hF1 hE1
 go_wp2
 go_ret
 exact ⟨yC (by simp[zh1,h0,h1,g0]),HF1.out⟩
theorem k_call (a b:zW) (w:World):Calls Tryz.prog 17 #[.agg #[.int .i64 a.client,.int .i64 a.seq,.int .i64 a.cmd.kind,.string a.cmd.key,.int .i64 a.cmd.old.kind,.float .f64 a.cmd.old.num,.string a.cmd.old.text,.int .i64 a.cmd.val.kind,.float .f64 a.cmd.val.num,.string a.cmd.val.text],.agg #[.int .i64 b.client,.int .i64 b.seq,.int .i64 b.cmd.kind,.string b.cmd.key,.int .i64 b.cmd.old.kind,.float .f64 b.cmd.old.num,.string b.cmd.old.text,.int .i64 b.cmd.val.kind,.float .f64 b.cmd.val.num,.string b.cmd.val.text]] w fun e w'=>e=.returned (.bool (zbY a b))∧Ext w w':=by
 have hE:Ext w ((w.alloc (.cells #[.int .i64 a.client,.int .i64 a.seq,.int .i64 a.cmd.kind,.string a.cmd.key,.int .i64 a.cmd.old.kind,.float .f64 a.cmd.old.num,.string a.cmd.old.text,.int .i64 a.cmd.val.kind,.float .f64 a.cmd.val.num,.string a.cmd.val.text] 29)).alloc (.cells #[.int .i64 b.client,.int .i64 b.seq,.int .i64 b.cmd.kind,.string b.cmd.key,.int .i64 b.cmd.old.kind,.float .f64 b.cmd.old.num,.string b.cmd.old.text,.int .i64 b.cmd.val.kind,.float .f64 b.cmd.val.num,.string b.cmd.val.text] 29)):=((Mod.refl _ w).alloc _).alloc _
 rcases h0:(a.client==b.client) with _|_
 ·
  go_enter Tryz.func17,Tryz.ntmps17
  go_wp2
  go_ret
  exact ⟨yC (by simp[zbY,h0]),hE⟩
 rcases h1:(a.seq==b.seq) with _|_
 ·
  go_enter Tryz.func17,Tryz.ntmps17
  go_wp2
  go_ret
  exact ⟨yC (by simp[zbY,h1]),hE⟩
 go_enter Tryz.func17,Tryz.ntmps17
 go_wp2_with fail
 refine (k_cmd a.cmd b.cmd _).mono ?_
 rintro e w0 ⟨rfl,hE0⟩
 have hF0:Ext w w0:=Mod.ext hE hE0
 have HF0:=hJ hF0
 clear hF0 hE0
 go_wp2
 go_ret
 exact ⟨yC (by simp[zbY,h0,h1]),HF0.out⟩
end Go.Proofs.YtjbkjhhjofeldaaGreat
namespace Go.Proofs.YtjbkjhhjofeldaaGreat
set_option linter.unusedSimpArgs false
open Go.RowKit
attribute [local go_sem] yN xT
end Go.Proofs.YtjbkjhhjofeldaaGreat
set_option maxRecDepth 100000
set_option maxHeartbeats 2000000
namespace Go.Proofs.YtjbkjhhjofeldaaGreat
set_option linter.unusedSimpArgs false
open Go.RowKit
theorem zkP (a b:Nat) (ha:a<128) (hb:b<128):bits .and .i64 (a:Int) (b:Int)=((a &&& b:Nat):Int):=by
 have hx:a &&& b<2 ^ 7:=Nat.and_lt_two_pow _ (by omega)
 show IntKind.i64.wrap ((BitVec.ofInt 64 (a:Int) &&& BitVec.ofInt 64 (b:Int)).toNat:Int)=_
 rw[BitVec.toNat_and,ofInt_u64 a (by omega),ofInt_u64 b (by omega),IntKind.wrap_i64]
 omega
theorem or_lt (a b:Nat) (ha:a<128) (hb:b<128):a ||| b<128:=by
 have:a ||| b<2 ^ 7:=Nat.or_lt_two_pow (by omega) (by omega)
 omega
theorem zmU (a b:Nat) (ha:a<128) (hb:b<128):bits .or .i64 (a:Int) (b:Int)=((a ||| b:Nat):Int):=by
 have hx:=or_lt a b ha hb
 show IntKind.i64.wrap ((BitVec.ofInt 64 (a:Int) ||| BitVec.ofInt 64 (b:Int)).toNat:Int)=_
 rw[BitVec.toNat_or,ofInt_u64 a (by omega),ofInt_u64 b (by omega),IntKind.wrap_i64]
 omega
def chkL:List Int→Nat→Bool
 | [],_=>true
 | x :: l,a=>zjD x&&(x.toNat &&& a==0)&&chkL l (a ||| x.toNat)
theorem zmV (c:jB):zb2 c=(chkL [c.full,c.wit,c.learn,c.learnWit] 0&&c.full != 0):=by
 unfold zb2 chkL chkL chkL chkL chkL
 rw[Nat.and_zero,Nat.zero_or,Nat.and_comm c.full.toNat,Nat.and_comm (c.full.toNat ||| c.wit.toNat),Nat.and_comm (c.full.toNat ||| c.wit.toNat ||| c.learn.toNat)]
 generalize zjD c.full=a,zjD c.wit=b,zjD c.learn=d,zjD c.learnWit=e
 generalize (c.wit.toNat &&& c.full.toNat==0)=f,(c.learn.toNat &&& (c.full.toNat ||| c.wit.toNat)==0)=g,(c.learnWit.toNat &&& (c.full.toNat ||| c.wit.toNat ||| c.learn.toNat)==0)=h,(c.full != 0)=i
 revert a b d e f g h i
 decide
theorem bit7_nat {x:Int} (h:zjD x=true):∃ y:Nat,x=y∧y<128:=by
 unfold zjD at h
 simp only[Bool.and_eq_true,decide_eq_true_eq] at h
 exact ⟨x.toNat,by omega,by omega⟩
theorem zoN {x:Int} (h:x<0∨127<x):zjD x=false:=by
 unfold zjD
 rcases h with h|h
 · rw[decide_eq_false (by omega)];rfl
 rw[decide_eq_false (show ¬ x≤127 by omega),Bool.and_false]
theorem zlU {x:Int} (h0:¬ x<0) (h1:¬ 127<x):zjD x=true:=by
 unfold zjD
 rw[decide_eq_true (by omega),decide_eq_true (by omega)];rfl
theorem zkQ (c:jB) (w:World):Calls Tryz.prog 190 #[.agg #[.int .i64 c.full,.int .i64 c.wit,.int .i64 c.learn,.int .i64 c.learnWit]] w fun e w'=>e=.returned (.int .i64 (if zb2 c then 0 else 14))∧Ext w w':=by
 rw[zmV]
 obtain ⟨w2,hw2⟩:∃ w2,(w.alloc (.cells #[.int .i64 c.full,.int .i64 c.wit,.int .i64 c.learn,.int .i64 c.learnWit] 57)).alloc (.cells #[.int .i64 c.full,.int .i64 c.wit,.int .i64 c.learn,.int .i64 c.learnWit] 3)=w2:=⟨_,rfl⟩
 have hE:Ext w w2:=by rw[←hw2];exact ((Mod.refl _ w).alloc _).alloc _
 have hf:w2.cell? ⟨w.heap.size,0,none⟩=some (.int .i64 c.full):=by rw[←hw2];simp[go_sem,World.cell?_alloc_past]
 obtain ⟨l,hl⟩:∃ l,[c.full,c.wit,c.learn,c.learnWit]=l:=⟨_,rfl⟩
 have hc:∀ i x,l[i]? = some x→w2.cell? ⟨w.heap.size+1,i,none⟩=some (.int .i64 x):=by
  intro i x hx
  have hg:w2.heap[w.heap.size+1]? = some (.cells (l.map (Value.int .i64)).toArray 3 (0,0)):=by
   rw[←hw2,←hl]
   have:=heap_alloc_new (w.alloc (.cells #[.int .i64 c.full,.int .i64 c.wit,.int .i64 c.learn,.int .i64 c.learnWit] 57)) (.cells #[.int .i64 c.full,.int .i64 c.wit,.int .i64 c.learn,.int .i64 c.learnWit] 3)
   simpa using this
  exact zA hg (by rw[List.getElem?_map,hx];rfl)
 have hll:l.length=4:=by rw[←hl];rfl
 rw[hl]
 obtain ⟨r,hr⟩:∃ r,chkL l 0=r:=⟨_,rfl⟩
 rw[hr]
 obtain ⟨q,hq⟩:∃ q:Int,(if (r&&c.full != 0)=true then 0 else 14)=q:=⟨_,rfl⟩
 rw[hq]
 have HQ:=hJ hq
 clear hq
 obtain ⟨Hw2,HE,Hc,Hll,Hr⟩:=hJ5 hw2 hE hc hll hr
 clear hw2 hE hc hll hr hl
 go_enter Tryz.func190,Tryz.ntmps190
 go_wp2_with fail
 rw[Hw2.out]
 clear Hw2
 go_loop [3,16] (fun av iv=>∃ i a:Nat,i≤4∧iv=.int .i64 i∧av=.int .i64 a∧a<128∧chkL (l.drop i) a=r) (fun _ iv=>4-(intOf iv).toNat)
 case atStart=>exact ⟨0,0,by omega,rfl,rfl,by omega,Hr.out⟩
 obtain ⟨i,a,hi4,rfl,rfl,ha,hg⟩:=hrel
 by_cases hi:i<4
 ·
  obtain ⟨x,hx⟩:∃ x,l[i]? = some x:=⟨_,List.getElem?_eq_getElem (by rw[Hll.out];exact hi)⟩
  have hd:l.drop i=x :: l.drop (i+1):=by
   obtain ⟨h1,h2⟩:=List.getElem?_eq_some_iff.1 hx
   rw[List.drop_eq_getElem_cons h1,h2]
  have x0:=Hc.out i x hx
  rw[hd,chkL] at hg
  have hi0:(0:Int)≤(i:Int):=by omega
  have hi1:(i:Int)<4:=by omega
  clear hd hx
  by_cases h1:x<0
  ·
   rw[zoN (.inl h1)] at hg
   have Hg:=hJ hg
   clear hg
   go_wp2
   go_ret
   exact ⟨by rw[←HQ.out,←Hg.out];rfl,HE.out⟩
  by_cases h2:127<x
  ·
   rw[zoN (.inr h2)] at hg
   have Hg:=hJ hg
   clear hg
   go_wp2
   go_ret
   exact ⟨by rw[←HQ.out,←Hg.out];rfl,HE.out⟩
  rw[zlU h1 h2] at hg
  obtain ⟨y,rfl,hy⟩:=bit7_nat (zlU h1 h2)
  have e1:=zkP y a hy ha
  have e2:=zmU a y ha hy
  have e3:=or_lt a y ha hy
  rw[Int.toNat_natCast,Bool.true_and] at hg
  clear h1
  have h1:(0:Int)≤(y:Int):=by omega
  obtain ⟨z,hz⟩:∃ z,y &&& a=z:=⟨_,rfl⟩
  obtain ⟨u,hu⟩:∃ u,a ||| y=u:=⟨_,rfl⟩
  rw[hz] at e1 hg
  rw[hu] at e2 e3 hg
  by_cases hz0:z=0
  rotate_left
  ·
   rw[show (z==0)=false by simpa using hz0] at hg
   have hzb:((z:Int) != 0)=true:=by simpa using hz0
   have Hg:=hJ hg
   clear hg hz hu hz0
   go_wp2
   go_ret
   exact ⟨by rw[←HQ.out,←Hg.out];rfl,HE.out⟩
  subst hz0
  rw[show ((0:Nat)==0)=true from rfl,Bool.true_and] at hg
  have Hg:=hJ hg
  clear hg hz hu
  go_wp2_with fail
  go_round
  case rel=>exact ⟨i+1,u,by omega,by go_num,rfl,e3,Hg.out⟩
  case measure=>simp[intOf];omega
 have e:i=4:=by omega
 subst e
 rw[List.drop_of_length_le (by rw[Hll.out];exact Nat.le_refl _)] at hg
 have Hg:=hJ hg
 clear hg
 by_cases h0:c.full=0
 ·
  have hb:(c.full==0)=true:=by simpa using h0
  have Hn:Hid ((c.full != 0)=false):=hJ (by simpa using h0)
  clear h0
  go_wp2
  go_ret
  exact ⟨by rw[←HQ.out,Hn.out,Bool.and_false];rfl,HE.out⟩
 have hb:(c.full==0)=false:=by simpa using h0
 have Hn:Hid ((c.full != 0)=true):=hJ (by simpa using h0)
 clear h0
 go_wp2
 go_ret
 exact ⟨by rw[←HQ.out,Hn.out,←Hg.out];rfl,HE.out⟩
theorem zf5 (v:yO) (w:World):Calls Tryz.prog 417 #[.agg #[.int .i64 v.kind,.float .f64 v.num,.string v.text]] w fun e w'=>e=.returned (.bool (zdU v))∧Ext w w':=by
 have hT:v.text.toList.isEmpty=zZ v.text:=rfl
 rcases h1:(v.kind==0) with _|_
 ·
  go_enter Tryz.func417,Tryz.ntmps417
  go_wp2
  go_ret
  exact ⟨yC (by simp[zdU,h1]),(Mod.refl _ w).alloc _⟩
 rcases h2:yV v.num 0 with _|_
 focus
  go_enter Tryz.func417,Tryz.ntmps417
 rotate_left
 focus
  go_enter Tryz.func417,Tryz.ntmps417
 all_goals
  go_wp2_with (go_at_call 267;refine (zjH _ _ _).mono ?_;rintro e w' ⟨rfl,rfl⟩)
  go_ret
  exact ⟨yC (by simp[zdU,h1,h2]),(Mod.refl _ w).alloc _⟩
theorem zlV (c:zW) (w:World):Calls Tryz.prog 360 #[.agg #[.int .i64 c.client,.int .i64 c.seq,.int .i64 c.cmd.kind,.string c.cmd.key,.int .i64 c.cmd.old.kind,.float .f64 c.cmd.old.num,.string c.cmd.old.text,.int .i64 c.cmd.val.kind,.float .f64 c.cmd.val.num,.string c.cmd.val.text]] w
  fun e w'=>e=.returned (.bool (yW c))∧Ext w w':=by
 have hT:c.cmd.key.toList.isEmpty=zZ c.cmd.key:=rfl
 have hE:Ext w (w.alloc (.cells #[.int .i64 c.client,.int .i64 c.seq,.int .i64 c.cmd.kind,.string c.cmd.key,.int .i64 c.cmd.old.kind,.float .f64 c.cmd.old.num,.string c.cmd.old.text,.int .i64 c.cmd.val.kind,.float .f64 c.cmd.val.num,.string c.cmd.val.text] 29)):=(Mod.refl _ w).alloc _
 rcases h1:(c.client==0) with _|_
 ·
  go_enter Tryz.func360,Tryz.ntmps360
  go_wp2
  go_ret
  exact ⟨yC (by simp[yW,h1]),hE⟩
 rcases h2:(c.seq==0) with _|_
 ·
  go_enter Tryz.func360,Tryz.ntmps360
  go_wp2
  go_ret
  exact ⟨yC (by simp[yW,h2]),hE⟩
 rcases h3:(c.cmd.kind==0) with _|_
 ·
  go_enter Tryz.func360,Tryz.ntmps360
  go_wp2
  go_ret
  exact ⟨yC (by simp[yW,h3]),hE⟩
 rcases h4:zZ c.cmd.key with _|_
 ·
  go_enter Tryz.func360,Tryz.ntmps360
  go_wp2
  go_ret
  exact ⟨yC (by simp[yW,h4]),hE⟩
 rcases h5:zdU c.cmd.old with _|_
 ·
  go_enter Tryz.func360,Tryz.ntmps360
  go_wp2_with fail
  refine (zf5 c.cmd.old _).mono ?_
  rintro e w1 ⟨rfl,hE1⟩
  rw[h5]
  have HE1:=hJ hE1
  clear hE1
  go_wp2
  go_ret
  exact ⟨yC (by simp[yW,h5]),Mod.ext hE HE1.out⟩
 go_enter Tryz.func360,Tryz.ntmps360
 go_wp2_with fail
 refine (zf5 c.cmd.old _).mono ?_
 rintro e w1 ⟨rfl,hE1⟩
 rw[h5]
 have c1:=hE1.cell (p:=⟨w.heap.size,7,none⟩) (v:=.int .i64 c.cmd.val.kind) (by simp) id
 have c2:=hE1.cell (p:=⟨w.heap.size,8,none⟩) (v:=.float .f64 c.cmd.val.num) (by simp) id
 have c3:=hE1.cell (p:=⟨w.heap.size,9,none⟩) (v:=.string c.cmd.val.text) (by simp) id
 have HE1:=hJ hE1
 clear hE1
 go_wp2_with fail
 refine (zf5 c.cmd.val _).mono ?_
 rintro e w2 ⟨rfl,hE2⟩
 have HE2:=hJ hE2
 clear hE2
 go_wp2
 go_ret
 exact ⟨yC (by simp[yW,h1,h2,h3,h4,h5]),Mod.ext (Mod.ext hE HE1.out) HE2.out⟩
end Go.Proofs.YtjbkjhhjofeldaaGreat
