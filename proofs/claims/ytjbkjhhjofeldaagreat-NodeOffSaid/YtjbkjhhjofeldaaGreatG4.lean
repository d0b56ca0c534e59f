/-
 Contracts of the verifier's comparisons of floats and values (skerrykeep). Conditions: as each theorem names them.
-/
import Derived.Test.YtjbkjhhjofeldaaGreatG1
import Derived.IntWalk
set_option maxRecDepth 100000
set_option maxHeartbeats 400000
namespace Go.Proofs.YtjbkjhhjofeldaaGreat
open Go.RowKit
attribute [local go_sem] yN xT
theorem zoK (a b:Nat) (w:World):Calls Tryz.prog 111 #[.float .f64 a,.float .f64 b] w fun e w'=>e=.returned (.bool (zg4 a b))∧w=w':=by
 have e1:(FloatKind.f64.format.order a a != some Ordering.eq)=xZ a:=rfl
 have e2:(FloatKind.f64.format.order b b != some Ordering.eq)=xZ b:=rfl
 have e3:((a:Int)==(b:Int))=(a==b):=by rw[Bool.eq_iff_iff];simp;omega
 rcases h1:xZ a with _|_ <;> rcases h2:xZ b with _|_
 all_goals
  have Hf:Hid (zg4 a b=_):=hJ (by unfold zg4;rw[h1,h2])
  go_enter Tryz.func111,Tryz.ntmps111
  go_wp2
  go_ret
  exact ⟨yC (by rw[Hf.out];simp),rfl⟩
theorem zf1 (a b:yO) (w:World):Calls Tryz.prog 53 #[.agg #[.int .i64 a.kind,.float .f64 a.num,.string a.text],.agg #[.int .i64 b.kind,.float .f64 b.num,.string b.text]] w fun e w'=>e=.returned (.bool (zbD a b))∧Ext w w':=by
 have hT:(a.text.toList==b.text.toList)=eqT a.text b.text:=rfl
 rcases h1:(a.kind==b.kind) with _|_
 ·
  go_enter Tryz.func53,Tryz.ntmps53
  go_wp2
  go_ret
  exact ⟨yC (by simp[zbD,h1]),((Mod.refl _ w).alloc _).alloc _⟩
 rcases h2:zg4 a.num b.num with _|_
 ·
  go_enter Tryz.func53,Tryz.ntmps53
  go_wp2_with (go_at_call 111;refine (zoK _ _ _).mono ?_;rintro e w' ⟨rfl,rfl⟩)
  go_ret
  exact ⟨yC (by simp[zbD,h2]),((Mod.refl _ w).alloc _).alloc _⟩
 go_enter Tryz.func53,Tryz.ntmps53
 go_wp2_with (go_at_call 111;refine (zoK _ _ _).mono ?_;rintro e w' ⟨rfl,rfl⟩)
 go_ret
 exact ⟨yC (by simp[zbD,h1,h2]),((Mod.refl _ w).alloc _).alloc _⟩
end Go.Proofs.YtjbkjhhjofeldaaGreat
namespace Go.Proofs.YtjbkjhhjofeldaaGreat
def zcF (r:Nat):Nat:=if r<4503599627370496 then r else (4503599627370496+r % 4503599627370496)*2 ^ (r / 4503599627370496-1)
theorem za9 {r s:Nat} (h:r<s):zcF r<zcF s:=by
 unfold zcF
 by_cases h1:s<4503599627370496
 · rw[if_pos h1,if_pos (by omega)];exact h
 rw[if_neg h1]
 have hs1:1≤s / 4503599627370496:=by omega
 have hp:1≤2 ^ (s / 4503599627370496-1):=Nat.one_le_two_pow
 have hb:4503599627370496*2 ^ (s / 4503599627370496-1)≤(4503599627370496+s % 4503599627370496)*2 ^ (s / 4503599627370496-1):=Nat.mul_le_mul_right _ (by omega)
 by_cases h2:r<4503599627370496
 · rw[if_pos h2];omega
 rw[if_neg h2]
 have hr1:1≤r / 4503599627370496:=by omega
 by_cases h3:r / 4503599627370496=s / 4503599627370496
 · rw[h3]
   exact Nat.mul_lt_mul_of_pos_right (by omega) (by omega)
 have hq:r / 4503599627370496<s / 4503599627370496:=by omega
 have e1:(4503599627370496+r % 4503599627370496)*2 ^ (r / 4503599627370496-1)<4503599627370496*2*2 ^ (r / 4503599627370496-1):=Nat.mul_lt_mul_of_pos_right (by omega) (Nat.two_pow_pos _)
 have e2:4503599627370496*2*2 ^ (r / 4503599627370496-1)=4503599627370496*2 ^ (r / 4503599627370496):=by
  rw[Nat.mul_assoc,←Nat.pow_succ',show (r / 4503599627370496-1).succ=r / 4503599627370496 from by omega]
 have e3:2 ^ (r / 4503599627370496)≤2 ^ (s / 4503599627370496-1):=Nat.pow_le_pow_right (by omega) (by omega)
 have e4:=Nat.mul_le_mul_left 4503599627370496 e3
 omega
theorem zlR {r s:Nat}:zcF r<zcF s↔r<s:=by
 constructor
 ·
  intro h
  rcases Nat.lt_trichotomy r s with h1|h1|h1
  · exact h1
  · rw[h1] at h;omega
  have:=za9 h1;omega
 exact za9
theorem zhI {r:Nat}:zcF r=0↔r=0:=by
 constructor
 ·
  intro h
  rcases Nat.eq_zero_or_pos r with h1|h1
  · exact h1
  have:=za9 h1;omega
 rintro rfl;rfl
def zf2 (x:Nat):Bool:=decide (9223372036854775808≤x)
def xC (x:Nat):Nat:=x % 9223372036854775808
def magOf (r:Nat):Nat:=if r<4503599627370496 then r else 4503599627370496+r % 4503599627370496
def upOf (r:Nat):Nat:=if r<4503599627370496 then 0 else r / 4503599627370496-1
theorem zlS (r:Nat):zcF r=magOf r*2 ^ upOf r:=by
 unfold zcF magOf upOf
 split <;> simp
theorem zkM {x:Nat} (hx:x<18446744073709551616):FloatKind.f64.format.read x =
  if xC x<9218868437227405312 then .number (zf2 x) (magOf (xC x)) (-1074+(upOf (xC x):Nat))
  else if xC x=9218868437227405312 then .infinity (zf2 x) else .nan (zf2 x) (xC x-9218868437227405312):=by
 have e1:FloatKind.f64.format.signWeight=9223372036854775808:=by decide
 have e2:FloatKind.f64.format.binade=4503599627370496:=by decide
 have e3:FloatKind.f64.format.infRung=9218868437227405312:=by decide
 have e4:FloatKind.f64.format.leastPlace = -1074:=by decide
 have e5:(x / 9223372036854775808 % 2==1)=zf2 x:=by
  unfold zf2
  rw[Bool.eq_iff_iff,beq_iff_eq,decide_eq_true_iff]
  omega
 unfold Ieee.Format.read
 simp only[e1,e2,e3,e4,e5]
 unfold xC magOf upOf
 split
 ·
  rename_i h
  rw[if_pos (by omega)]
  simp
 rfl
def sv (x:Nat):Int:=if zf2 x then -(zcF (xC x):Int) else (zcF (xC x):Int)
theorem zh7 (a b:Int) (k:Nat) (hk:0<k):compare (a*k) (b*k)=compare a b:=by
 have hk':(0:Int)<k:=by omega
 simp only[compare,compareOfLessAndEq]
 have h1:(a*k<b*k)↔a<b:=Int.mul_lt_mul_right hk'
 have h2:(a*k=b*k)↔a=b:=by
  constructor
  · exact fun h=>Int.eq_of_mul_eq_mul_right (by omega) h
  rintro rfl;rfl
 simp only[h1,h2]
theorem zfC (s:Bool) (m a c:Nat) (hc:c≤a):Ieee.signed s m (a-c)*((2 ^ c:Nat):Int)=if s then -((m*2 ^ a:Nat):Int) else ((m*2 ^ a:Nat):Int):=by
 have e:(m <<< (a-c))*2 ^ c=m*2 ^ a:=by
  rw[Nat.shiftLeft_eq,Nat.mul_assoc,←Nat.pow_add,Nat.sub_add_cancel hc]
 unfold Ieee.signed
 cases s
 · simp only[Bool.false_eq_true,if_false]
   rw[←e,Int.natCast_mul]
 simp only[if_true]
 rw[←e,Int.natCast_mul,Int.neg_mul]
theorem zjG (s t:Bool) (m n a b:Nat):Ieee.Datum.order (.number s m (-1074+(a:Int))) (.number t n (-1074+(b:Int))) =
  some (compare (if s then -((m*2 ^ a:Nat):Int) else ((m*2 ^ a:Nat):Int)) (if t then -((n*2 ^ b:Nat):Int) else ((n*2 ^ b:Nat):Int))):=by
 unfold Ieee.Datum.order
 simp only
 have e1:(-1074+(a:Int)-min (-1074+(a:Int)) (-1074+(b:Int))).toNat=a-min a b:=by omega
 have e2:(-1074+(b:Int)-min (-1074+(a:Int)) (-1074+(b:Int))).toNat=b-min a b:=by omega
 rw[e1,e2,←zh7 _ _ (2 ^ min a b) (Nat.two_pow_pos _),zfC s m a _ (Nat.min_le_left _ _),zfC t n b _ (Nat.min_le_right _ _)]
theorem zkN {x:Nat} (hx:x<18446744073709551616):xZ x=decide (9218868437227405312<xC x):=by
 unfold xZ Ieee.Format.order
 rw[zkM hx]
 by_cases h1:xC x<9218868437227405312
 ·
  rw[if_pos h1,zjG]
  simp only[compare,compareOfLessAndEq,Int.lt_irrefl,if_false,if_true]
  have:¬ 9218868437227405312<xC x:=by omega
  simp[this]
 rw[if_neg h1]
 by_cases h2:xC x=9218868437227405312
 ·
  rw[if_pos h2]
  have:¬ 9218868437227405312<xC x:=by omega
  simp only[Ieee.Datum.order,this,decide_false]
  cases zf2 x <;> decide
 rw[if_neg h2]
 have:9218868437227405312<xC x:=by omega
 simp[Ieee.Datum.order,this]
theorem zfD {a b:Int} (h:a<b):compare a b=.lt:=by simp[compare,compareOfLessAndEq,h]
theorem zfE {a b:Int} (h:b<a):compare a b=.gt:=by
 have h1:¬ a<b:=by omega
 have h2:¬ a=b:=by omega
 simp[compare,compareOfLessAndEq,h1,h2]
theorem zlT (a:Int):compare a a=.eq:=by simp[compare,compareOfLessAndEq]
theorem order_eq {x y:Nat} (hx:x<18446744073709551616) (hy:y<18446744073709551616) (nx:xZ x=false) (ny:xZ y=false):FloatKind.f64.format.order x y=some (compare (sv x) (sv y)):=by
 rw[zkN hx,decide_eq_false_iff_not] at nx
 rw[zkN hy,decide_eq_false_iff_not] at ny
 unfold Ieee.Format.order
 rw[zkM hx,zkM hy]
 unfold sv
 by_cases h1:xC x<9218868437227405312
 ·
  rw[if_pos h1]
  by_cases h2:xC y<9218868437227405312
  · rw[if_pos h2,zjG,←zlS,←zlS]
  rw[if_neg h2,if_pos (by omega)]
  have h3:zcF (xC x)<zcF (xC y):=za9 (by omega)
  simp only[Ieee.Datum.order]
  cases zf2 x <;> cases zf2 y <;> simp only[Bool.false_eq_true,if_false,if_true,Option.some.injEq]
  · rw[zfD (by omega)]
  · rw[zfE (by omega)]
  · rw[zfD (by omega)]
  rw[zfE (by omega)]
 rw[if_neg h1,if_pos (by omega)]
 by_cases h2:xC y<9218868437227405312
 ·
  rw[if_pos h2]
  have h3:zcF (xC y)<zcF (xC x):=za9 (by omega)
  simp only[Ieee.Datum.order]
  cases zf2 x <;> cases zf2 y <;> simp only[Bool.false_eq_true,if_false,if_true,Option.some.injEq]
  · rw[zfE (by omega)]
  · rw[zfE (by omega)]
  · rw[zfD (by omega)]
  rw[zfD (by omega)]
 rw[if_neg h2,if_pos (by omega)]
 have h3:xC x=xC y:=by omega
 rw[h3]
 have h4:0<zcF (xC y):=by
  have:=za9 (r:=0) (s:=xC y) (by omega)
  omega
 simp only[Ieee.Datum.order]
 cases zf2 x <;> cases zf2 y <;> simp only[Bool.false_eq_true,if_false,if_true,Option.some.injEq]
 · rw[zlT];rfl
 · rw[zfE (by omega)];rfl
 · rw[zfD (by omega)];rfl
 rw[zlT];rfl
def lessG (a b:Nat):Bool:=if FloatKind.f64.format.order a b==some .eq then zf2 a && !zf2 b else FloatKind.f64.format.order a b==some .lt
theorem zoL {x:Nat} (hx:x<18446744073709551616) (nx:xZ x=false):rank x=if zf2 x then 9223372036854775807-xC x else 9223372036854775808+xC x:=by
 unfold rank xS zf2 xC
 rw[nx]
 simp only[Bool.false_eq_true,if_false]
 by_cases h:9223372036854775808≤x
 · rw[if_pos (by omega)];simp only[h,decide_true,if_true];omega
 rw[if_neg (by omega)];simp only[h,decide_false,Bool.false_eq_true,if_false];omega
theorem lessG_eq {a b:Nat} (ha:a<18446744073709551616) (hb:b<18446744073709551616) (na:xZ a=false) (nb:xZ b=false):lessG a b=zn9 a b:=by
 unfold lessG zn9
 rw[order_eq ha hb na nb,zoL ha na,zoL hb nb]
 unfold sv
 have hra:xC a<9223372036854775808:=Nat.mod_lt _ (by omega)
 have hrb:xC b<9223372036854775808:=Nat.mod_lt _ (by omega)
 have hm1:=@zlR (xC a) (xC b)
 have hm2:=@zlR (xC b) (xC a)
 have hz1:=@zhI (xC a)
 have hz2:=@zhI (xC b)
 cases zf2 a <;> cases zf2 b <;> simp only[Bool.false_eq_true,if_false,if_true,Bool.not_true,Bool.not_false,Bool.and_false,Bool.and_true]
 ·
  rcases Nat.lt_trichotomy (xC a) (xC b) with h|h|h
  · rw[zfD (by have:=hm1.2 h;omega)]
    have:9223372036854775808+xC a<9223372036854775808+xC b:=by omega
    simp[this]
  · rw[h,zlT];simp
  rw[zfE (by have:=hm2.2 h;omega)]
  have:¬ 9223372036854775808+xC a<9223372036854775808+xC b:=by omega
  simp[this]
 ·
  have h0:¬ 9223372036854775808+xC a<9223372036854775807-xC b:=by omega
  simp only[h0,decide_false]
  by_cases hz:zcF (xC a)=0∧zcF (xC b)=0
  · rw[hz.1,hz.2];decide
  rw[zfE (by omega)];decide
 ·
  have h0:9223372036854775807-xC a<9223372036854775808+xC b:=by omega
  simp only[h0,decide_true]
  by_cases hz:zcF (xC a)=0∧zcF (xC b)=0
  · rw[hz.1,hz.2];decide
  rw[zfD (by omega)];decide
 rcases Nat.lt_trichotomy (xC a) (xC b) with h|h|h
 ·
  rw[zfE (by have:=hm1.2 h;omega)]
  have:¬ 9223372036854775807-xC a<9223372036854775807-xC b:=by omega
  simp[this]
 · rw[h,zlT];simp
 rw[zfD (by have:=hm2.2 h;omega)]
 have:9223372036854775807-xC a<9223372036854775807-xC b:=by omega
 simp[this]
theorem nan_bits (t:Nat):xZ ((t % 2)*2 ^ 63+0x7ff0000000000000+1+(t / 2) % (2 ^ 52-1))=true:=by
 have h1:(t / 2) % (2 ^ 52-1)<4503599627370495:=Nat.mod_lt _ (by omega)
 generalize (t / 2) % (2 ^ 52-1)=k at h1
 rw[zkN (by omega)]
 unfold xC
 rw[decide_eq_true_iff]
 rcases Nat.mod_two_eq_zero_or_one t with h|h
 · rw[h];omega
 rw[h];omega
end Go.Proofs.YtjbkjhhjofeldaaGreat
set_option maxRecDepth 100000
set_option maxHeartbeats 1000000
namespace Go.Proofs.YtjbkjhhjofeldaaGreat
open Go.RowKit
attribute [local go_sem] yN xT
theorem zjH (a b:Nat) (w:World):Calls Tryz.prog 267 #[.float .f64 a,.float .f64 b] w fun e w'=>e=.returned (.bool (yV a b))∧w=w':=by
 have e3:((xS a:Int)==(xS b:Int))=yV a b:=by unfold yV;rw[Bool.eq_iff_iff];simp;omega
 go_enter Tryz.func267,Tryz.ntmps267
 go_wp2_with (go_at_call 338;refine (zb0 _ _).mono ?_;rintro e w' ⟨rfl,rfl⟩)
 go_ret
 exact ⟨rfl,rfl⟩
theorem vcanon (a:Nat) (w:World):Calls Tryz.prog 268 #[.float .f64 a] w fun e w'=>e=.returned (.bool (za4 a))∧w=w':=by
 have e3:((xS a:Int)==(a:Int))=za4 a:=by unfold za4;rw[Bool.eq_iff_iff];simp;omega
 go_enter Tryz.func268,Tryz.ntmps268
 go_wp2_with (go_at_call 338;refine (zb0 _ _).mono ?_;rintro e w' ⟨rfl,rfl⟩)
 go_ret
 exact ⟨rfl,rfl⟩
theorem zkO:xS 0=0:=by kernel_rfl
theorem zd5 (n:Nat):yV n 0=decide (n=0):=by
 unfold yV
 rw[zkO,Bool.eq_iff_iff,beq_iff_eq,decide_eq_true_iff]
 unfold xS
 split
 ·
  rename_i h
  constructor
  · intro h';simp[zaL] at h'
  rintro rfl;revert h;decide +kernel
 exact Iff.rfl
theorem zhJ (n:Nat):za4 n = !(decide (xZ n=true∧n≠zaL)):=by
 unfold za4 xS
 by_cases h:xZ n=true
 ·
  rw[if_pos h]
  rw[Bool.eq_iff_iff,beq_iff_eq]
  simp[h]
  exact eq_comm
 rw[if_neg h];simp[h]
theorem zhK:xZ 0=false:=by kernel_rfl
theorem chk0 (x:Nat) (t:ByteArray):chk ⟨0,x,t⟩=if (yV x 0&&zZ t)=true then 0 else 8:=by
 rw[zd5]
 unfold chk
 by_cases h:x=0
 · subst h;rcases zZ t with _|_ <;> simp[zhK]
 rcases zZ t with _|_ <;> simp[h]
theorem chk1 (x:Nat) (t:ByteArray):chk ⟨1,x,t⟩=if (za4 x&&zZ t)=true then 0 else 8:=by
 rw[zhJ]
 unfold chk
 by_cases h:xZ x=true∧x≠zaL
 · rcases zZ t with _|_ <;> simp[h]
 rcases zZ t with _|_ <;> simp[h]
theorem chk2 (x:Nat) (t:ByteArray):chk ⟨2,x,t⟩=if 32<t.size then 2 else if yV x 0=true then 0 else 8:=by
 rw[zd5]
 unfold chk
 by_cases h:x=0
 · subst h;by_cases h2:32<t.size <;> simp[h2,zhK]
 by_cases h2:32<t.size <;> simp[h,h2]
theorem chk3 {k:Int} (x:Nat) (t:ByteArray) (h0:k≠0) (h1:k≠1) (h2:k≠2):chk ⟨k,x,t⟩=15:=by
 unfold chk
 rw[if_pos (by simp only;omega)]
theorem xW (v:yO) (w:World):Calls Tryz.prog 168 #[.agg #[.int .i64 v.kind,.float .f64 v.num,.string v.text]] w fun e w'=>e=.returned (.int .i64 (chk v))∧Ext w w':=by
 obtain ⟨k,x,t⟩:=v
 have hT:t.toList.isEmpty=zZ t:=rfl
 have hE:Ext w (w.alloc (.cells #[.int .i64 k,.float .f64 x,.string t] 25)):=(Mod.refl _ w).alloc _
 simp only
 by_cases h0:k=0
 ·
  subst h0
  rw[chk0]
  rcases hs:yV x 0 with _|_ <;> rcases he:zZ t with _|_
  all_goals
   rw[he] at hT
   go_enter Tryz.func168,Tryz.ntmps168
   go_wp2_with (go_at_call 267;refine (zjH _ _ _).mono ?_;rintro e w' ⟨rfl,rfl⟩)
   go_ret
   exact ⟨rfl,hE⟩
 by_cases h1:k=1
 ·
  subst h1
  rw[chk1]
  rcases hs:za4 x with _|_ <;> rcases he:zZ t with _|_
  all_goals
   rw[he] at hT
   go_enter Tryz.func168,Tryz.ntmps168
   go_wp2_with (first|(go_at_call 267;refine (zjH _ _ _).mono ?_;rintro e w' ⟨rfl,rfl⟩)|(go_at_call 268;refine (vcanon _ _).mono ?_;rintro e w' ⟨rfl,rfl⟩))
   go_ret
   exact ⟨rfl,hE⟩
 by_cases h2:k=2
 ·
  subst h2
  rw[chk2]
  by_cases hl:32<t.size
  ·
   rw[if_pos hl]
   have d:decide ((32:Int)<(t.size:Int))=true:=by simp;omega
   go_enter Tryz.func168,Tryz.ntmps168
   go_wp2_with (go_at_call 267;refine (zjH _ _ _).mono ?_;rintro e w' ⟨rfl,rfl⟩)
   go_ret
   exact ⟨rfl,hE⟩
  rw[if_neg hl]
  have d:decide ((32:Int)<(t.size:Int))=false:=by simp;omega
  rcases hs:yV x 0 with _|_
  all_goals
   go_enter Tryz.func168,Tryz.ntmps168
   go_wp2_with (go_at_call 267;refine (zjH _ _ _).mono ?_;rintro e w' ⟨rfl,rfl⟩)
   go_ret
   exact ⟨rfl,hE⟩
 rw[chk3 x t h0 h1 h2]
 have k0:(k==0)=false:=by simpa using h0
 have k1:(k==1)=false:=by simpa using h1
 have k2:(k==2)=false:=by simpa using h2
 clear h0 h1 h2
 go_enter Tryz.func168,Tryz.ntmps168
 go_wp2_with (go_at_call 267;refine (zjH _ _ _).mono ?_;rintro e w' ⟨rfl,rfl⟩)
 go_ret
 exact ⟨rfl,hE⟩
end Go.Proofs.YtjbkjhhjofeldaaGreat
