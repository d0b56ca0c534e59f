/-
 A region that draws its order: loads may be taken first till an operation comes up that waits for all of them; what is left from there on goes in its own order. Conditions: as each theorem names them.
-/
import Derived.Test.YtjbkjhhjofeldaaGreatG0
import Derived.StillTail
import Derived.Lib.Zigzag
import Derived.Lib.Varint
import Derived.Lib.VarintBits
import Derived.IntWalk
import Derived.Test.YtjbkjhhjofeldaaGreatRows
namespace Go.Proofs.YtjbkjhhjofeldaaGreat
set_option linter.unusedSimpArgs false
set_option linter.unusedVariables false
open Go
section
variable {P:Program} {ops:Array Oper} {Q:Exit→Act→World→Prop} {md:Region.Mode} {S:World→Prop} {k:Nat}
def yK (P:Program) (md:Region.Mode) (ops:Array Oper) (Q:Exit→Act→World→Prop) (S:World→Prop) (k:Nat):Nat→Array Bool→Act→World→Prop
  | 0,listed,a,w=>Region.ready md ops listed=[]∧Q .normal a w
  | fuel+1,listed,a,w=>
    (Region.ready md ops listed=[]→Q .normal a w) ∧
    ∀ i∈Region.ready md ops listed,wpOp P ops Q i (fun a' w'=>((listed.setIfInBounds i true).getD k true=false→S w')∧yK P md ops Q S k fuel (listed.setIfInBounds i true) a' w') a w
theorem zbS:∀ (fuel:Nat) (listed:Array Bool) (a:Act) (w:World),yK P md ops Q S k fuel listed a w→wpAny P md ops Q fuel listed a w
  | 0,_,_,_,h=>h
  | fuel+1,_,_,_,h=>⟨h.1,fun i hi=>wpOp_mono (fun a' w' h'=>zbS fuel _ a' w' h'.2) (h.2 i hi)⟩
theorem zcT:∀ (fuel:Nat) (listed:Array Bool) (a:Act) (w:World),(∀ i∈Region.ready md ops listed,(listed.setIfInBounds i true).getD k true=true)→wpAny P md ops Q fuel listed a w→yK P md ops Q S k fuel listed a w
  | 0,_,_,_,_,h=>h
  | fuel+1,listed,_,_,hg,h=>⟨h.1,fun i hi=>wpOp_mono (fun a' w' h'=>⟨fun e=>(by rw[hg i hi] at e;cases e),zcT fuel _ a' w' (fun j hj=>by
      have hik:k≠j∨k=j:=by omega
      rcases hik with hik|rfl
      · rw[getD_set_ne true (Ne.symm hik)];exact hg i hi
      · by_cases hs:k<(listed.setIfInBounds i true).size
        · simp at hs;simp[hs]
        · simp at hs;simp[Array.getElem?_eq_none,hs]) h'⟩) (h.2 i hi)⟩
theorem zfA {T:World→Prop} {i:Nat} {oi:Oper} {v:Value} (hi:ops[i]? = some oi) (hsel:∀ (j:Nat) (o:Oper) cs b,ops[j]? = some o→o.op≠.select cs b)
    (hQ:∀ c a w,Q (.panic c) (a.put oi.dst v) w→Q (.panic c) a w) (hki:k≠i):
    ∀ (fuel:Nat) (listed:Array Bool) (a:Act) (w:World),
      (∀ j oj,ops[j]? = some oj→j≠i→listed.getD j true=false→(∀ e∈oj.after,Region.binds md e=true→e.on≠i)→oi.apart ops oj=true) →
      i∈Region.ready md ops listed→((∀ w,T w)∨(T=S∧Region.waitsFor md ops k i=true∧listed.getD k true=false))→YieldsIf P ops T oi v a→(listed.getD k true=false→S w) →
      yK P md ops Q S k fuel (listed.setIfInBounds i true) (a.put oi.dst v) w→yK P md ops Q S k (fuel+1) listed a w:=by
  have hTw:∀ {listed:Array Bool} {w:World},((∀ w,T w)∨(T=S∧Region.waitsFor md ops k i=true∧listed.getD k true=false))→(listed.getD k true=false→S w)→T w:=by
    intro listed w h hS
    rcases h with h|⟨rfl,_,h⟩
    · exact h w
    · exact hS h
  intro fuel
  induction fuel with
  | zero=>
    intro listed a w _ hr hT hy hS H
    refine ⟨fun h=>(by rw[h] at hr;cases hr),fun j hj=>?_⟩
    by_cases hji:j=i
    · subst hji
      exact hy.wpOp hi (hTw hT hS) ⟨fun e=>hS (by rw[getD_set_ne true (Ne.symm hki)] at e;exact e),H⟩
    · have:=ready_mono hj hji
      rw[H.1] at this
      cases this
  | succ fuel ih=>
    intro listed a w hfree hr hT hy hS H
    refine ⟨fun h=>(by rw[h] at hr;cases hr),fun j hj=>?_⟩
    by_cases hji:j=i
    · subst hji
      exact hy.wpOp hi (hTw hT hS) ⟨fun e=>hS (by rw[getD_set_ne true (Ne.symm hki)] at e;exact e),H⟩
    · have h1:=H.2 j (ready_mono hj hji)
      obtain ⟨hjun,oj,hoj,hall⟩:=mem_ready.1 hj
      have hun:=(mem_ready.1 hr).1
      have hnot:∀ e∈oj.after,Region.binds md e=true→e.on≠i:=fun e he hb heq=>by
        have h1:=hall e he hb
        rw[heq,getD_both hun] at h1
        cases h1
      have h2:=wpOp_putIf hoj (hfree j oj hoj hji hjun hnot) (fun cs b=>hsel i oi cs b hi) (fun cs b=>hsel j oj cs b hoj) hQ hy h1
      have hfree':∀ k ok,ops[k]? = some ok→k≠i→(listed.setIfInBounds j true).getD k true=false →
          (∀ e∈ok.after,Region.binds md e=true→e.on≠i)→oi.apart ops ok=true:=fun k ok hk hki hun hno=>by
        refine hfree k ok hk hki ?_ hno
        by_cases hjk:j=k
        · subst hjk;exact hjun
        · rw[getD_set_ne true hjk] at hun;exact hun
      refine wpOp_mono (fun a' w' h3=>?_) h2
      have hS':(listed.setIfInBounds j true).getD k true=false→S w':=fun e=>h3.2.1 (by
        rw[Array.setIfInBounds_comm _ _ (Ne.symm hji),getD_set_ne true (Ne.symm hki)];exact e)
      refine ⟨hS',ih (listed.setIfInBounds j true) a' w' hfree' (ready_mono hr (Ne.symm hji)) ?_ h3.1 hS' ?_⟩
      · rcases hT with hT|⟨e1,e2,e3⟩
        · exact .inl hT
        · refine .inr ⟨e1,e2,?_⟩
          have hjk:j≠k:=fun e=>by
            subst e
            obtain ⟨o',ho',e,he,hb,hon⟩:=Region.waitsFor_spec e2
            have:o'=oj:=Option.some.inj (ho'.symm.trans hoj)
            subst this
            exact hnot e he hb hon
          rw[getD_set_ne true hjk];exact e3
      · rw[Array.setIfInBounds_comm _ _ hji]
        exact h3.2.2
theorem zkH {fuel:Nat} {listed:Array Bool} {a:Act} {w:World} (i:Nat) (d:Option Tmp) (v:Value) {oi:Oper} (hS:S w) (hy:YieldsIf P ops S oi v a)
    (h:yK P md ops Q S k fuel (listed.setIfInBounds i true) (a.put d v) w) (hi:ops[i]? = some oi:=by rfl) (hd:oi.dst=d:=by rfl) (hs:Region.noSelect ops=true:=by kernel_rfl) (hf:Region.free md ops listed i=true:=by kernel_rfl) (hr:(Region.ready md ops listed).contains i=true:=by kernel_rfl)
    (hQ:∀ c a w,Q (.panic c) (a.put d v) w→Q (.panic c) a w:=by exact fun _ _ _ h=>h) (hki:(k != i)=true:=by kernel_rfl) (hw:Region.waitsFor md ops k i=true:=by kernel_rfl) (hkl:listed.getD k true=false:=by kernel_rfl):yK P md ops Q S k (fuel+1) listed a w:=by
  subst hd
  exact zfA hi (Region.noSelect_spec hs) hQ (by simpa using hki) fuel listed a w (Region.free_spec hi hf) (by simpa using hr) (.inr ⟨rfl,hw,hkl⟩) hy (fun _=>hS) h
theorem takeP {fuel:Nat} {listed:Array Bool} {a:Act} {w:World} (i:Nat) (d:Option Tmp) (v:Value) {oi:Oper} (hS:S w) (hy:YieldsIf P ops (fun _=>True) oi v a)
    (h:yK P md ops Q S k fuel (listed.setIfInBounds i true) (a.put d v) w) (hi:ops[i]? = some oi:=by rfl) (hd:oi.dst=d:=by rfl) (hs:Region.noSelect ops=true:=by kernel_rfl) (hf:Region.free md ops listed i=true:=by kernel_rfl) (hr:(Region.ready md ops listed).contains i=true:=by kernel_rfl)
    (hQ:∀ c a w,Q (.panic c) (a.put d v) w→Q (.panic c) a w:=by exact fun _ _ _ h=>h) (hki:(k != i)=true:=by kernel_rfl):yK P md ops Q S k (fuel+1) listed a w:=by
  subst hd
  exact zfA hi (Region.noSelect_spec hs) hQ (by simpa using hki) fuel listed a w (Region.free_spec hi hf) (by simpa using hr) (.inl fun _=>trivial) hy (fun _=>hS) h
theorem jP {fuel:Nat} {listed:Array Bool} {a:Act} {w:World} (i:Nat) {o:Oper}
    (h:∀ K':Act→World→Prop,Shut (∀ a w,S w→(S w→yK P md ops Q S k fuel (listed.setIfInBounds i true) a w)→K' a w)→if Region.wanted o (yielded ops a.tmps)=true then Oper.wp P o a w K' Q else K' (a.put o.dst undef) w)
    (hr:Region.ready md ops listed=[i]:=by kernel_rfl) (ho:ops[i]? = some o:=by rfl):yK P md ops Q S k (fuel+1) listed a w:=by
  refine ⟨fun h0=>(by rw[hr] at h0;cases h0),fun j hj=>?_⟩
  rw[hr] at hj
  obtain rfl:j=i:=by simpa using hj
  exact wpOp_step ho (fun K' hK=>h K' (fun a w hS hW=>hK a w ⟨fun _=>hS,hW hS⟩))
theorem xN {fuel:Nat} {listed:Array Bool} {a:Act} {w:World} {l:List Oper} (n:Nat) (hl:l=ops.toList.drop n) (h:wpList P ops Q l a w) (hf:(fuel==(ops.size-n))=true:=by kernel_rfl) (hg:((Region.ready md ops listed).all fun i=>(listed.setIfInBounds i true).getD k true)=true:=by kernel_rfl)
    (hB:Region.seqB md ops (ops.size-n) n listed=true:=by kernel_rfl):yK P md ops Q S k fuel listed a w:=by
  subst hl
  have hf:fuel=ops.size-n:=by simpa using hf
  have hlen:(ops.toList.drop n).length=ops.size-n:=by simp
  subst hf
  refine zcT _ _ _ _ (fun i hi=>List.all_eq_true.1 hg i hi) ?_
  have:=wpAny_of_seq (md:=md) (Q':=Q) (ops.toList.drop n) n listed a w (fun j=>by simp[List.getElem?_drop]) (by rw[hlen];exact hB) h
  rwa [hlen] at this
theorem yZ {id:Nat} {a:Act} {w:World} (S:World→Prop) (k:Nat) (hS:S w.drew) (h:S w.drew→yK P .any ops Q S k ops.size (Array.replicate ops.size false) a w.drew) (hm:P.follows .mixedOrders=true:=by kernel_rfl):(Code.region id ops true).wp P Q a w:=
  wp_region_any hm (zbS _ _ _ _ (h hS))
end
theorem tP {P:Program} {ops:Array Oper} {Q:Exit→Act→World→Prop} {md:Region.Mode} {S:World→Prop} {k:Nat} {fuel:Nat} {listed:Array Bool} {a:Act} {w:World} (i t:Nat) (v:Value) {oi:Oper} (hS:S w) (hy:∀ W',(execOp a.eval oi).run P W'=.ok (.value v) W')
    (h:yK P md ops Q S k fuel (listed.setIfInBounds i true) (a.put (some t) v) w) (hi:ops[i]? = some oi:=by rfl) (hd:oi.dst=some t:=by rfl) (hw:Region.wanted oi (yielded ops a.tmps)=true:=by kernel_rfl) (hs:Region.noSelect ops=true:=by kernel_rfl) (hf:Region.free md ops listed i=true:=by kernel_rfl) (hr:(Region.ready md ops listed).contains i=true:=by decide +kernel)
    (hQ:∀ c a w,Q (.panic c) (a.put (some t) v) w→Q (.panic c) a w:=by exact fun _ _ _ h=>h) (hki:(k != i)=true:=by kernel_rfl):yK P md ops Q S k (fuel+1) listed a w:=
  takeP i (some t) v hS (Or.inl ⟨hw,fun W' _=>hy W'⟩) h hi hd hs hf hr hQ hki
theorem tU {P:Program} {ops:Array Oper} {Q:Exit→Act→World→Prop} {md:Region.Mode} {S:World→Prop} {k:Nat} {fuel:Nat} {listed:Array Bool} {a:Act} {w:World} {ty:TypeId} {x:Operand} (i t:Nat) (v:Value) {oi:Oper} (hS:S w) (g o:Nat) (hl:∀ W',S W'→(Instr.loadAt ty (.pointer (some ⟨g,o,none⟩))).run P W'=.ok v W')
    (h:yK P md ops Q S k fuel (listed.setIfInBounds i true) (a.put (some t) v) w) (hi:ops[i]? = some oi:=by rfl) (ho:oi.op=.load ty x:=by rfl) (hx:a.eval x=.pointer (some ⟨g,o,none⟩):=by rfl) (hd:oi.dst=some t:=by rfl) (hw:Region.wanted oi (yielded ops a.tmps)=true:=by kernel_rfl) (hs:Region.noSelect ops=true:=by kernel_rfl) (hf:Region.free md ops listed i=true:=by kernel_rfl) (hr:(Region.ready md ops listed).contains i=true:=by kernel_rfl)
    (hQ:∀ c a w,Q (.panic c) (a.put (some t) v) w→Q (.panic c) a w:=by exact fun _ _ _ h=>h) (hki:(k != i)=true:=by kernel_rfl) (hwf:Region.waitsFor md ops k i=true:=by kernel_rfl) (hkl:listed.getD k true=false:=by kernel_rfl):yK P md ops Q S k (fuel+1) listed a w:=
  zkH i (some t) v hS (Or.inl ⟨hw,fun W' h=>zbH ty x ho _ v hx (hl W' h)⟩) h hi hd hs hf hr hQ hki hwf hkl
end Go.Proofs.YtjbkjhhjofeldaaGreat
namespace Go.Proofs.YtjbkjhhjofeldaaGreat
def zig (n:Int):Nat:=if n<0 then (-(n+1)).toNat*2+1 else n.toNat*2
def uvF:Nat→Nat→List UInt8
 | 0,z=>[UInt8.ofNat z]
 | f+1,z=>if z<128 then [UInt8.ofNat z] else UInt8.ofNat (z % 128+128) :: uvF f (z / 128)
def yM (n:Int):List UInt8:=uvF 9 (zig n)
def hib:Nat→Nat→List UInt8
 | 0,_=>[]
 | k+1,x=>UInt8.ofNat (x / 256 ^ k % 256) :: hib k x
def xZ (x:Nat):Bool:=FloatKind.f64.format.order x x != some Ordering.eq
def zaL:Nat:=9221120237041090561
def xS (x:Nat):Nat:=if xZ x then zaL else x
def qA (x:Nat):List UInt8:=hib 8 (xS x)
def xK (t:List UInt8):List UInt8:=yM t.length++t
structure yO where
 kind:Int
 num:Nat
 text:ByteArray
structure jV where
 kind:Int
 key:ByteArray
 old:yO
 val:yO
structure zW where
 client:Int
 seq:Int
 cmd:jV
structure jB where
 full:Int
 wit:Int
 learn:Int
 learnWit:Int
structure zO where
 term:Int
 kind:Int
 call:zW
 conf:jB
abbrev yO.cells (v:yO):List Value:=[.int .i64 v.kind,.float .f64 v.num,.string v.text]
abbrev jV.cells (c:jV):List Value:=[.int .i64 c.kind,.string c.key,.int .i64 c.old.kind,.float .f64 c.old.num,.string c.old.text,.int .i64 c.val.kind,.float .f64 c.val.num,.string c.val.text]
abbrev zW.cells (c:zW):List Value:=[.int .i64 c.client,.int .i64 c.seq,.int .i64 c.cmd.kind,.string c.cmd.key,.int .i64 c.cmd.old.kind,.float .f64 c.cmd.old.num,.string c.cmd.old.text,.int .i64 c.cmd.val.kind,.float .f64 c.cmd.val.num,.string c.cmd.val.text]
abbrev zO.cells (x:zO):List Value:=[.int .i64 x.term,.int .i64 x.kind,.int .i64 x.call.client,.int .i64 x.call.seq,.int .i64 x.call.cmd.kind,.string x.call.cmd.key,.int .i64 x.call.cmd.old.kind,.float .f64 x.call.cmd.old.num,.string x.call.cmd.old.text,.int .i64 x.call.cmd.val.kind,.float .f64 x.call.cmd.val.num,.string x.call.cmd.val.text,.int .i64 x.conf.full,.int .i64 x.conf.wit,.int .i64 x.conf.learn,.int .i64 x.conf.learnWit]
def I64 (n:Int):Prop:= -9223372036854775808≤n∧n≤9223372036854775807
def yO.ok (v:yO):Prop:=I64 v.kind∧v.num<18446744073709551616∧v.text.size≤maxLen
def jV.ok (c:jV):Prop:=I64 c.kind∧c.key.size≤maxLen∧c.old.ok∧c.val.ok
def zW.ok (c:zW):Prop:=I64 c.client∧I64 c.seq∧c.cmd.ok
def jB.ok (c:jB):Prop:=I64 c.full∧I64 c.wit∧I64 c.learn∧I64 c.learnWit
def zO.ok (x:zO):Prop:=I64 x.term∧I64 x.kind∧x.call.ok∧x.conf.ok
abbrev zbC (s:ByteArray):List UInt8:=s.data.toList
theorem zlI {a b:ByteArray} (h:zbC a=zbC b):a=b:=by
 cases a;cases b;simp[zbC] at h;simp[h]
def yO.zero:yO:=⟨0,0,⟨#[]⟩⟩
def jV.zero:jV:=⟨0,⟨#[]⟩,yO.zero,yO.zero⟩
def zW.zero:zW:=⟨0,0,jV.zero⟩
def jB.zero:jB:=⟨0,0,0,0⟩
def zg4 (a b:Nat):Bool:=xZ a&&xZ b||a==b
def eqT (a b:ByteArray):Bool:=a.toList==b.toList
theorem jD (a b:ByteArray):eqT a b=true↔a=b:=by
 unfold eqT
 rw[beq_iff_eq,ByteArray.toList_eq,ByteArray.toList_eq]
 exact ⟨fun h=>zlI h,fun h=>by rw[h]⟩
def zbD (a b:yO):Bool:=a.kind==b.kind&&zg4 a.num b.num&&eqT a.text b.text
def zh1 (a b:jV):Bool:=a.kind==b.kind&&eqT a.key b.key&&zbD a.old b.old&&zbD a.val b.val
def zbY (a b:zW):Bool:=a.client==b.client&&a.seq==b.seq&&zh1 a.cmd b.cmd
def zdR (a b:jB):Bool:=a.full==b.full&&a.wit==b.wit&&a.learn==b.learn&&a.learnWit==b.learnWit
abbrev WO:=Option (List UInt8×Bool)
def WO.seq (a b:WO):WO:=match a,b with
 | some (x,l),some (y,m)=>some (x++y,l||m)
 | _,_=>none
def zcR (l:List UInt8):WO:=some (l,false)
def qB (b:Bool):WO:=if b then some ([],false) else none
def zbT (t:List UInt8):WO:=if 16384<t.length then some ([],true) else some (xK t,false)
def zY (l:List Int):List UInt8:=l.flatMap yM
def yV (a b:Nat):Bool:=xS a==xS b
def zZ (s:ByteArray):Bool:=s.toList.isEmpty
theorem qF (s:ByteArray):zZ s=true↔s=⟨#[]⟩:=by
 have h:decide (s=ByteArray.empty)=s.toList.isEmpty:=decide_eq_emptyBytes s
 unfold zZ
 rw[←h,decide_eq_true_iff]
 exact Iff.rfl
def za4 (x:Nat):Bool:=xS x==x
def jW (v:yO):WO:=
 (zcR (yM v.kind)).seq (
  if v.kind=0 then qB (yV v.num 0&&zZ v.text)
  else if v.kind=1 then (qB (za4 v.num&&zZ v.text)).seq (zcR (qA v.num))
  else if v.kind=2 then (qB (yV v.num 0)).seq (zbT (zbC v.text))
  else none)
def zh2 (c:zW):WO:=(((zcR (zY [c.client,c.seq,c.cmd.kind])).seq (zbT (zbC c.cmd.key))).seq (jW c.cmd.old)).seq (jW c.cmd.val)
def zi5 (v:yO):List UInt8:=yM v.kind++(if v.kind=1 then qA v.num else if v.kind=2 then xK (zbC v.text) else [])
def zg5 (c:jB):WO:=zcR (zY [c.full,c.wit,c.learn,c.learnWit])
def zdU (v:yO):Bool:=v.kind==0&&yV v.num 0&&zZ v.text
def yW (c:zW):Bool:=c.client==0&&c.seq==0&&c.cmd.kind==0&&zZ c.cmd.key&&zdU c.cmd.old&&zdU c.cmd.val
def zcU (c:jB):Bool:=c.full==0&&c.wit==0&&c.learn==0&&c.learnWit==0
def jF (x:zO):WO:=
 ((((zcR (zY [x.term,x.kind])).seq (qB (decide (0≤x.kind∧x.kind≤2)))).seq (qB (x.kind==1||yW x.call))).seq (qB (x.kind==2||zcU x.conf))).seq
   (if x.kind=1 then zh2 x.call else if x.kind=2 then zg5 x.conf else zcR [])
def xL:List zO→WO
 | []=>zcR []
 | x :: l=>(jF x).seq (xL l)
def zh3 (l:List zO):WO:=(zcR (yM l.length)).seq (xL l)
def told (o:WO):List UInt8×Int:=match o with
 | none=>([],3)
 | some (d,l)=>if l||decide (16384<d.length) then ([],2) else (d,0)
structure zJ where
 key:ByteArray
 val:yO
structure yH where
 code:Int
 val:yO
abbrev zJ.cells (p:zJ):List Value:=[.string p.key,.int .i64 p.val.kind,.float .f64 p.val.num,.string p.val.text]
def zJ.ok (p:zJ):Prop:=p.key.size≤maxLen∧p.val.ok
def yH.ok (r:yH):Prop:=I64 r.code∧r.val.ok
def ltT (a b:ByteArray):Bool:=Op.bytesLess a.toList b.toList
theorem less_iff (x:List UInt8):∀ y:List UInt8,Op.bytesLess x y=true↔x<y:=by
 induction x with
 | nil=>intro y;cases y <;> simp[Op.bytesLess]
 | cons a x ih=>
  intro y
  cases y with
  | nil=>simp[Op.bytesLess]
  | cons b y=>rw[Op.bytesLess,List.cons_lt_cons_iff,←ih y];simp
theorem zh4 (a b:ByteArray):ltT a b=true↔zbC a<zbC b:=by
 unfold ltT
 rw[less_iff,ByteArray.toList_eq,ByteArray.toList_eq]
theorem za8 (a:ByteArray):ltT a a=false:=by
 rw[←Bool.not_eq_true,zh4];exact List.lt_irrefl _
theorem zcV {a b c:ByteArray} (h:ltT a b=true) (h':ltT b c=true):ltT a c=true:=by
 rw[zh4] at *;exact List.lt_trans h h'
theorem zbZ {a b:ByteArray} (h:ltT a b=true):ltT b a=false:=by
 rw[←Bool.not_eq_true];intro h';have:=zcV h h';rw[za8] at this;cases this
theorem zi6 {a b:ByteArray} (h:ltT a b=false) (h':eqT a b=false):ltT b a=true:=by
 rw[←Bool.not_eq_true,zh4] at h
 rw[←Bool.not_eq_true,jD] at h'
 rw[zh4]
 rcases Decidable.em (zbC b<zbC a) with h2|h2
 · exact h2
 exact absurd (zlI (List.le_antisymm (List.not_lt.1 h2) (List.not_lt.1 h))) h'
def chk (v:yO):Int:=
 if v.kind<0∨2<v.kind then 15
 else if v.kind=2∧32<v.text.size then 2
 else if (v.kind≠2∧zZ v.text=false)∨(v.kind≠1∧v.num≠0) then 8
 else if xZ v.num=true∧v.num≠zaL then 8 else 0
def jX (k:ByteArray):Bool:=decide (1≤k.size)&&decide (k.size≤8)
def zaM (p:zJ):Bool:=jX p.key&&p.val.kind != 0&&chk p.val==0
def zcW:List zJ→Bool
 | []=>true
 | [_]=>true
 | a :: b :: l=>ltT a.key b.key&&zcW (b :: l)
def xG (l:List zJ):Bool:=decide (l.length≤32)&&l.all zaM&&zcW l
def zaC (v:yO):Bool:=v.kind==0&&chk v==0
def okV (c:jV):Bool:=
 if c.kind=1∨c.kind=3 then zaC c.val else if c.kind=2 then c.val.kind != 0 else if c.kind=5∨c.kind=6 then c.val.kind==1 else true
def zcP (c:jV):Int:=
 if c.kind<1∨6<c.kind then 15 else if 8<c.key.size then 2
 else if c.key.size<1∨(c.kind≠4∧zaC c.old=false)∨chk c.old≠0∨chk c.val≠0 then 8
 else if okV c then 0 else 8
def zcD:List zJ→ByteArray→yO
 | [],_=>yO.zero
 | p :: l,k=>if eqT p.key k then p.val else zcD l k
def zeR (k:ByteArray) (v:yO):Bool→List zJ→List zJ
 | d,[]=>if d then [] else [⟨k,v⟩]
 | d,p :: l=>
  if !d&&(ltT k p.key||eqT k p.key) then ⟨k,v⟩ :: (if eqT p.key k then zeR k v true l else p :: zeR k v true l)
  else if eqT p.key k then zeR k v d l else p :: zeR k v d l
def zlJ (a b:Nat):Nat:=match FloatKind.f64.format.add a b with
 | some r=>xS r
 | none=>zaL
def rank (x:Nat):Nat:=if xS x / 9223372036854775808=1 then 18446744073709551615-xS x else xS x+9223372036854775808
def zn9 (a b:Nat):Bool:=decide (rank a<rank b)
def zn1 (a b:Nat):Nat:=if xZ a||xZ b then zaL else if zn9 a b then b else a
def zbU (add:Bool) (a b:yO):yO×Int:=
 if chk a≠0 then (yO.zero,chk a) else if chk b≠0 then (yO.zero,chk b)
 else if a.kind=0 then (b,0) else if a.kind≠1∨b.kind≠1 then (yO.zero,8)
 else (⟨1,if add then zlJ a.num b.num else zn1 a.num b.num,⟨#[]⟩⟩,0)
def za1 (v:yO) (c:jV):Int×yO×yO:=
 if c.kind=2 then (0,c.val,v)
 else if c.kind=3 then (0,yO.zero,v)
 else if c.kind=4 then (if zbD v c.old then (0,c.val,v) else (9,v,v))
 else (match zbU (c.kind==5) v c.val with|(x,e)=>if e=0 then (0,x,x) else (e,yO.zero,yO.zero))
def doP (l:List zJ) (c:jV):List zJ×yH:=
 if zcP c≠0 then (l,⟨zcP c,yO.zero⟩)
 else if xG l=false then (l,⟨6,yO.zero⟩)
 else if c.kind=1 then (l,⟨0,zcD l c.key⟩)
 else match za1 (zcD l c.key) c with
  | (e,x,t)=>if e≠0 then (l,⟨e,t⟩) else if 32<(zeR c.key x (x.kind==0) l).length then (l,⟨5,yO.zero⟩) else (zeR c.key x (x.kind==0) l,⟨0,t⟩)
abbrev Srt (l:List zJ):Prop:=l.Pairwise fun a b=>ltT a.key b.key=true
theorem zfM (a:ByteArray):eqT a a=true:=(jD a a).2 rfl
theorem zh5 (a b:ByteArray):eqT a b=eqT b a:=by
 rw[Bool.eq_iff_iff,jD,jD];exact eq_comm
theorem zlK {a b:ByteArray} (h:ltT a b=true):eqT a b=false:=by
 rw[←Bool.not_eq_true,jD];rintro rfl;rw[za8] at h;cases h
theorem zfB {a b:ByteArray} (h:ltT b a=true):eqT a b=false:=by rw[zh5];exact zlK h
theorem zfZ:∀ l:List zJ,zcW l=true↔Srt l
 | []=>by simp[zcW]
 | [a]=>by simp[zcW]
 | a :: b :: l=>by
  rw[zcW,Bool.and_eq_true,zfZ (b :: l),show Srt (a :: b :: l)↔_ from List.pairwise_cons]
  constructor
  ·
   rintro ⟨h1,h2⟩
   refine ⟨fun c hc=>?_,h2⟩
   rcases List.mem_cons.1 hc with rfl|hc
   · exact h1
   exact zcV h1 ((List.pairwise_cons.1 h2).1 c hc)
  rintro ⟨h1,h2⟩
  exact ⟨h1 b (by simp),h2⟩
theorem xO (l:List zJ):xG l=true↔l.length≤32∧(∀ p∈l,zaM p=true)∧Srt l:=by
 unfold xG
 rw[Bool.and_eq_true,Bool.and_eq_true,decide_eq_true_iff,List.all_eq_true,zfZ]
 exact ⟨fun h=>⟨h.1.1,h.1.2,h.2⟩,fun h=>⟨⟨h.1,h.2.1⟩,h.2.2⟩⟩
theorem zcX (k:ByteArray) (v:yO) (l:List zJ):zeR k v true l=l.filter fun p=>!eqT p.key k:=by
 induction l with
 | nil=>simp[zeR]
 | cons p l ih=>
  rw[zeR]
  simp only[Bool.not_true,Bool.false_and,Bool.false_eq_true,if_false,ih]
  by_cases h:eqT p.key k=true
  · simp[h]
  simp[h]
theorem zcY (p:zJ) (l:List zJ) (k:ByteArray):zcD (p :: l) k=if eqT p.key k then p.val else zcD l k:=rfl
theorem zeS {l:List zJ} (hs:Srt l) (k:ByteArray) (v:yO):zeR k v false l=(l.filter fun p=>ltT p.key k)++⟨k,v⟩ :: (l.filter fun p=>ltT k p.key):=by
 induction l with
 | nil=>simp[zeR]
 | cons p l ih=>
  have hs':=List.pairwise_cons.1 hs
  rw[zeR]
  rcases h1:ltT k p.key with _|_
  ·
   rcases h2:eqT k p.key with _|_
   · have h3:=zi6 h1 h2
     have h4:eqT p.key k=false:=by rw[zh5];exact h2
     simp[h1,h3,h4,ih hs'.2]
   have e:=(jD _ _).1 h2
   have h4:eqT p.key k=true:=by rw[zh5];exact h2
   have h5:ltT p.key k=false:=by rw[←e];exact za8 k
   have h6:∀ q∈l,ltT k q.key=true:=fun q hq=>by rw[e];exact hs'.1 q hq
   have f1:l.filter (fun q=>ltT q.key k)=[]:=List.filter_eq_nil_iff.2 fun q hq=>by simp[zbZ (h6 q hq)]
   have f2:l.filter (fun q=>ltT k q.key)=l:=List.filter_eq_self.2 h6
   have f3:l.filter (fun q=>!eqT q.key k)=l:=List.filter_eq_self.2 fun q hq=>by simp[zfB (h6 q hq)]
   simp[h1,h4,h5,f1,f2,zcX,f3]
  have h6:∀ q∈l,ltT k q.key=true:=fun q hq=>zcV h1 (hs'.1 q hq)
  have f1:l.filter (fun q=>ltT q.key k)=[]:=List.filter_eq_nil_iff.2 fun q hq=>by simp[zbZ (h6 q hq)]
  have f2:l.filter (fun q=>ltT k q.key)=l:=List.filter_eq_self.2 h6
  have f3:l.filter (fun q=>!eqT q.key k)=l:=List.filter_eq_self.2 fun q hq=>by simp[zfB (h6 q hq)]
  simp[h1,zbZ h1,zfB h1,f1,f2,zcX,f3]
theorem srt_setP {l:List zJ} (hs:Srt l) (k:ByteArray) (v:yO) (d:Bool):Srt (zeR k v d l):=by
 cases d
 ·
  rw[zeS hs]
  refine List.pairwise_append.2 ⟨hs.filter _,List.pairwise_cons.2 ⟨fun q hq=>(List.mem_filter.1 hq).2,hs.filter _⟩,fun a ha b hb=>?_⟩
  have h1:=(List.mem_filter.1 ha).2
  rcases List.mem_cons.1 hb with rfl|hb
  · exact h1
  exact zcV h1 (List.mem_filter.1 hb).2
 rw[zcX];exact hs.filter _
theorem mem_setP {k:ByteArray} {v:yO} {d:Bool} {l:List zJ} {p:zJ} (hs:Srt l) (h:p∈zeR k v d l):p∈l∨(d=false∧p=⟨k,v⟩):=by
 cases d
 ·
  rw[zeS hs] at h
  rcases List.mem_append.1 h with h|h
  · exact .inl (List.mem_filter.1 h).1
  rcases List.mem_cons.1 h with h|h
  · exact .inr ⟨rfl,h⟩
  exact .inl (List.mem_filter.1 h).1
 rw[zcX] at h;exact .inl (List.mem_filter.1 h).1
theorem one_key {l:List zJ} (hs:Srt l) (k:ByteArray):(l.filter fun p=>eqT p.key k).length≤1:=by
 have h:=hs.filter fun p=>eqT p.key k
 rcases hq:l.filter (fun p=>eqT p.key k) with _|⟨a,_|⟨b,m⟩⟩
 · rw[hq];simp
 · rw[hq];simp
 exfalso
 rw[hq] at h
 have ha:eqT a.key k=true:=(List.mem_filter.1 (show a∈l.filter (fun p=>eqT p.key k) by rw[hq];simp)).2
 have hb:eqT b.key k=true:=(List.mem_filter.1 (show b∈l.filter (fun p=>eqT p.key k) by rw[hq];simp)).2
 have:=(List.pairwise_cons.1 h).1 b (by simp)
 rw[(jD _ _).1 ha,(jD _ _).1 hb,za8] at this
 cases this
theorem zoA {l:List zJ} {k:ByteArray} (h:∀ p∈l,eqT p.key k=false):zcD l k=yO.zero:=by
 induction l with
 | nil=>rfl
 | cons p l ih=>rw[zcY,h p (by simp)];exact ih fun q hq=>h q (by simp[hq])
theorem getP_mem {l:List zJ} (hs:Srt l) {p:zJ} (hp:p∈l):zcD l p.key=p.val:=by
 induction l with
 | nil=>cases hp
 | cons q l ih=>
  have hs':=List.pairwise_cons.1 hs
  rw[zcY]
  rcases List.mem_cons.1 hp with rfl|hp
  · simp[zfM]
  rw[zlK (hs'.1 p hp)];exact ih hs'.2 hp
theorem zoB {l:List zJ} {k:ByteArray} (h:(zcD l k).kind≠0):∃ p∈l,p.key=k∧p.val=zcD l k:=by
 induction l with
 | nil=>exact absurd rfl h
 | cons q l ih=>
  rw[zcY] at h ⊢
  by_cases hq:eqT q.key k=true
  · rw[if_pos hq] at h ⊢
    exact ⟨q,by simp,(jD _ _).1 hq,rfl⟩
  rw[if_neg hq] at h ⊢
  obtain ⟨p,hp,h1⟩:=ih h
  exact ⟨p,by simp[hp],h1⟩
theorem zi7 {x:Nat} (h:xZ (xS x)=true):xS x=zaL:=by
 unfold xS at h ⊢
 split
 · rfl
 rename_i hx;rw[if_neg hx] at h;exact absurd h hx
theorem addF_nan {a b:Nat} (h:xZ (zlJ a b)=true):zlJ a b=zaL:=by
 unfold zlJ at h ⊢
 split
 ·
  rename_i r hr
  rw[hr] at h
  exact zi7 h
 rfl
theorem maxF_nan {a b:Nat} (h:xZ (zn1 a b)=true):zn1 a b=zaL:=by
 unfold zn1 at h ⊢
 split
 · rfl
 rename_i hx
 rw[if_neg hx] at h
 rw[Bool.or_eq_true,not_or] at hx
 split at h
 · exact absurd h hx.2
 exact absurd h hx.1
theorem zd4:zZ ⟨#[]⟩=true:=(qF _).2 rfl
theorem chk_num {x:Nat} (h:xZ x=true→x=zaL):chk ⟨1,x,⟨#[]⟩⟩=0:=by
 unfold chk
 simp[zd4]
 exact h
theorem zfN:chk yO.zero=0:=by
 have:xZ 0=false:=by kernel_rfl
 simp[chk,yO.zero,zd4,this]
theorem zoC {add:Bool} {a b x:yO} (hb:chk b=0) (h:zbU add a b=(x,0)):chk x=0∧(a.kind=0→x=b)∧(b.kind=1→x.kind=1):=by
 unfold zbU at h
 split at h
 · rename_i h1;simp only[Prod.mk.injEq] at h;exact absurd h.2 h1
 split at h
 · rename_i h1;simp only[Prod.mk.injEq] at h;exact absurd h.2 h1
 split at h
 · simp only[Prod.mk.injEq,and_true] at h;subst h;exact ⟨hb,fun _=>rfl,fun h=>h⟩
 rename_i h0
 split at h
 · simp at h
 simp only[Prod.mk.injEq,and_true] at h
 subst h
 refine ⟨chk_num ?_,fun h=>absurd h h0,fun _=>rfl⟩
 cases add
 · exact maxF_nan
 exact addF_nan
theorem zlL {c:jV} (h:zcP c=0):(1≤c.kind∧c.kind≤6)∧(1≤c.key.size∧c.key.size≤8)∧chk c.old=0∧chk c.val=0∧(c.kind≠4→zaC c.old=true)∧okV c=true:=by
 unfold zcP at h
 split at h
 · cases h
 split at h
 · cases h
 split at h
 · cases h
 split at h
 ·
  rename_i h1 h2 h3 h4
  rw[not_or,not_or,not_or] at h3
  refine ⟨by omega,by omega,Classical.byContradiction h3.2.2.1,Classical.byContradiction h3.2.2.2,fun hk=>?_,h4⟩
  rcases hz:zaC c.old with _|_
  · exact absurd ⟨hk,hz⟩ h3.2.1
  rfl
 cases h
theorem do_ok {l:List zJ} {c:jV} (h:(doP l c).2.code=0):zcP c=0∧xG l=true ∧
  ((c.kind=1∧doP l c=(l,⟨0,zcD l c.key⟩)) ∨
   (c.kind≠1∧∃ x t,za1 (zcD l c.key) c=(0,x,t)∧(zeR c.key x (x.kind==0) l).length≤32∧doP l c=(zeR c.key x (x.kind==0) l,⟨0,t⟩))):=by
 unfold doP at h ⊢
 by_cases h1:zcP c=0
 case neg=>rw[if_pos h1] at h;exact absurd h h1
 rw[if_neg (by simpa using h1)] at h ⊢
 rcases h2:xG l with _|_
 · rw[h2,if_pos rfl] at h;cases h
 rw[h2,if_neg (by simp)] at h
 rw[if_neg (by simp)]
 refine ⟨h1,rfl,?_⟩
 by_cases h3:c.kind=1
 · rw[if_pos h3];exact .inl ⟨h3,rfl⟩
 rw[if_neg h3] at h ⊢
 refine .inr ⟨h3,?_⟩
 rcases hs:za1 (zcD l c.key) c with ⟨e,x,t⟩
 rw[hs] at h
 simp only at h ⊢
 by_cases h4:e=0
 case neg=>rw[if_pos h4] at h;exact absurd h h4
 rw[if_neg (by simpa using h4)] at h ⊢
 by_cases h5:32<(zeR c.key x (x.kind==0) l).length
 · rw[if_pos h5] at h;cases h
 rw[if_neg h5]
 exact ⟨x,t,by rw[h4],by omega,rfl⟩
theorem do_no {l:List zJ} {c:jV} (h:(doP l c).2.code≠0):(doP l c).1=l∧((doP l c).2.code≠9→(doP l c).2.val=yO.zero):=by
 unfold doP at h ⊢
 by_cases h1:zcP c=0
 case neg=>rw[if_pos h1];exact ⟨rfl,fun _=>rfl⟩
 rw[if_neg (by simpa using h1)] at h ⊢
 rcases h2:xG l with _|_
 · rw[if_pos rfl];exact ⟨rfl,fun _=>rfl⟩
 rw[h2,if_neg (by simp)] at h
 rw[if_neg (by simp)]
 by_cases h3:c.kind=1
 · rw[if_pos h3] at h;exact absurd rfl h
 rw[if_neg h3] at h ⊢
 rcases hs:za1 (zcD l c.key) c with ⟨e,x,t⟩
 rw[hs] at h
 simp only at h ⊢
 by_cases h4:e=0
 ·
  rw[if_neg (by simpa using h4)] at h ⊢
  split
  · exact ⟨rfl,fun _=>rfl⟩
  rename_i h5;rw[if_neg h5] at h;exact absurd rfl h
 rw[if_pos h4]
 refine ⟨rfl,fun h9=>?_⟩
 unfold za1 at hs
 split at hs
 · simp at hs;exact absurd hs.1.symm h4
 split at hs
 · simp at hs;exact absurd hs.1.symm h4
 split at hs
 ·
  split at hs
  · simp at hs;exact absurd hs.1.symm h4
  simp only[Prod.mk.injEq] at hs;exact absurd hs.1.symm h9
 split at hs
 split at hs
 · simp at hs;exact absurd hs.1.symm h4
 simp only[Prod.mk.injEq] at hs;exact hs.2.2.symm
theorem step_ok {v x t:yO} {c:jV} (hc:zcP c=0) (h:za1 v c=(0,x,t)):chk x=0:=by
 obtain ⟨_,_,_,hv,_,_⟩:=zlL hc
 unfold za1 at h
 split at h
 · simp only[Prod.mk.injEq,true_and] at h;rw[←h.1];exact hv
 split at h
 · simp only[Prod.mk.injEq,true_and] at h;rw[←h.1];exact zfN
 split at h
 ·
  split at h
  · simp only[Prod.mk.injEq,true_and] at h;rw[←h.1];exact hv
  simp at h
 split at h
 rename_i y e hj
 split at h
 ·
  rename_i he
  simp only[Prod.mk.injEq,true_and] at h
  subst he
  rw[←h.1]
  exact (zoC hv hj).1
 rename_i he
 simp only[Prod.mk.injEq] at h
 exact absurd h.1 he
theorem zoD {l:List zJ} {k:ByteArray} {x:yO} (hl:xG l=true) (hk:1≤k.size∧k.size≤8) (hx:chk x=0) (hn:(zeR k x (x.kind==0) l).length≤32):xG (zeR k x (x.kind==0) l)=true:=by
 obtain ⟨_,h2,h3⟩:=(xO l).1 hl
 refine (xO _).2 ⟨hn,fun p hp=>?_,srt_setP h3 _ _ _⟩
 rcases mem_setP h3 hp with h|⟨h,rfl⟩
 · exact h2 p h
 unfold zaM jX
 have:x.kind≠0:=by simpa using h
 simp[hk.1,hk.2,hx,this]
theorem do_right {l:List zJ} (c:jV) (hl:xG l=true):xG (doP l c).1=true:=by
 by_cases h:(doP l c).2.code=0
 ·
  obtain ⟨hc,_,h|⟨_,x,t,hs,hn,h⟩⟩:=do_ok h
  · rw[h.2];exact hl
  rw[h]
  exact zoD hl (zlL hc).2.1 (step_ok hc hs) hn
 rw[(do_no h).1];exact hl
theorem zeT (v:yO):zbD v v=true:=by simp[zbD,zg4,zfM]
theorem chk_get {l:List zJ} (hl:xG l=true) (k:ByteArray):chk (zcD l k)=0:=by
 by_cases h:(zcD l k).kind=0
 ·
  by_cases h':∃ p∈l,eqT p.key k=true
  ·
   obtain ⟨p,hp,e⟩:=h'
   obtain ⟨_,h2,h3⟩:=(xO l).1 hl
   have:=getP_mem h3 hp
   rw[(jD _ _).1 e] at this
   rw[this]
   have:=h2 p hp
   unfold zaM at this
   simp only[Bool.and_eq_true,beq_iff_eq] at this
   exact this.2
  rw[zoA fun p hp=>by
   rcases e:eqT p.key k with _|_
   · rfl
   exact absurd ⟨p,hp,e⟩ h']
  exact zfN
 obtain ⟨p,hp,_,e⟩:=zoB h
 obtain ⟨_,h2,_⟩:=(xO l).1 hl
 rw[←e]
 have:=h2 p hp
 unfold zaM at this
 simp only[Bool.and_eq_true,beq_iff_eq] at this
 exact this.2
theorem do_eq {l:List zJ} {c:jV} (hc:zcP c=0) (hl:xG l=true) (h1:c.kind≠1):doP l c=(match za1 (zcD l c.key) c with
  | (e,x,t)=>if e≠0 then (l,⟨e,t⟩) else if 32<(zeR c.key x (x.kind==0) l).length then (l,⟨5,yO.zero⟩) else (zeR c.key x (x.kind==0) l,⟨0,t⟩)):=by
 unfold doP
 rw[if_neg (by simpa using hc),hl,if_neg (by simp),if_neg h1]
end Go.Proofs.YtjbkjhhjofeldaaGreat
namespace Go.Proofs.YtjbkjhhjofeldaaGreat
theorem wrap_u64 (n:Int):IntKind.u64.wrap n=n % 18446744073709551616:=by simp[IntKind.wrap,IntKind.bits,IntKind.signed]
theorem zig_lt {n:Int} (h0 : -9223372036854775808≤n) (h1:n≤9223372036854775807):zig n<18446744073709551616:=by
 unfold zig;split <;> omega
theorem zig_bits (n:Int) (h0 : -9223372036854775808≤n) (h1:n≤9223372036854775807):
  bits BinOp.xor IntKind.u64 (IntKind.u64.wrap (IntKind.u64.wrap n*2)) (IntKind.u64.wrap (n / 9223372036854775808))=(zig n:Int):=by
 simp only[wrap_u64]
 by_cases hn:n<0
 ·
  have e1:n / 9223372036854775808 = -1:=by omega
  have e2:(n % 18446744073709551616*2) % 18446744073709551616=((18446744073709551616-2*(-n).toNat:Nat):Int):=by omega
  have e3:(-1:Int) % 18446744073709551616=((18446744073709551615:Nat):Int):=by decide
  rw[e1,e2,e3,u64_xor_nat _ _ (by omega) (by omega)]
  have:=Lib.xor_ones64 (18446744073709551616-2*(-n).toNat) (by omega)
  rw[Nat.xor_comm]
  have e4:(2:Nat) ^ 64-1=18446744073709551615:=by decide
  rw[e4] at this
  rw[this]
  unfold zig
  rw[if_pos hn]
  omega
 have e1:n / 9223372036854775808=0:=by omega
 have e2:(n % 18446744073709551616*2) % 18446744073709551616=((2*n.toNat:Nat):Int):=by omega
 have e3:(0:Int) % 18446744073709551616=((0:Nat):Int):=by decide
 rw[e1,e2,e3,u64_xor_nat _ _ (by omega) (by omega)]
 unfold zig
 rw[if_neg hn]
 simp
 omega
theorem or128 (z:Nat):Value.int .u8 (bits BinOp.or IntKind.u8 ((z:Int) % 256) 128)=B (UInt8.ofNat (z % 128+128)):=by
 rw[Lib.u8_or128_any _ (by omega) (by omega)]
 unfold B
 simp
 omega
theorem low8 (z:Nat) (h:z<256):Value.int .u8 (z:Int)=B (UInt8.ofNat z):=by
 unfold B
 simp
 omega
theorem low8m (z:Nat):Value.int .u8 ((z:Int) % 256)=B (UInt8.ofNat (z % 256)):=by
 unfold B
 simp
theorem low8w (y k:Nat):Value.int .u8 (IntKind.u8.wrap ((y:Int) / 256 ^ k))=B (UInt8.ofNat (y / 256 ^ k % 256)):=by
 rw[←low8m,IntKind.wrap_u8']
 have:((y:Int) / 256 ^ k)=((y / 256 ^ k:Nat):Int):=by simp
 rw[this]
theorem wrap8k (k:Nat) (h:k≤8):IntKind.i64.wrap (8*(k:Int))=8*(k:Int):=IntWalk.i64_in _ (by omega)
theorem run_shr8 {P:Program} (y k:Nat) (h:k<8) (W:World):(Op.shift BinOp.shr .u64 (y:Int) .i64 (IntKind.i64.wrap (8*(k:Int)))).run P W=.ok (.int .u64 ((y / 256 ^ k:Nat):Int)) W:=by
 rw[wrap8k k (by omega)]
 have e:min (8*(k:Int)).toNat IntKind.u64.bits=8*k:=by simp[IntKind.bits];omega
 have e2:(2:Int) ^ (8*k)=((256 ^ k:Nat):Int):=by rw[Int.pow_mul];simp
 simp only[Op.shift]
 rw[if_neg (by omega)]
 simp only[e,e2]
 rw[Int.fdiv_eq_ediv_of_nonneg _ (Int.natCast_nonneg _)]
 rfl
open RowKit (wrap64)
theorem zoE:∀ f z,(uvF f z).length≤f+1
 | 0,_=>by simp[uvF]
 | f+1,z=>by
  unfold uvF;split
  · simp
  have:=zoE f (z / 128);simp;omega
theorem zP (n:Int):(yM n).length≤10:=zoE 9 _
end Go.Proofs.YtjbkjhhjofeldaaGreat
set_option maxRecDepth 100000
set_option maxHeartbeats 400000
namespace Go.Proofs.YtjbkjhhjofeldaaGreat
open Go.RowKit
theorem yN (n:Int) (w:World):(callFunc 283 #[.int .u64 n]).run Tryz.prog w=.ok (.value (.float .f64 n.toNat)) w:=by kernel_rfl
theorem xT (n:Nat) (w:World):(callFunc 186 #[.float .f64 n]).run Tryz.prog w=.ok (.value (.int .u64 n)) w:=by kernel_rfl
attribute [local go_sem] yN xT
theorem zkI (w:World):Calls Tryz.prog 401 #[] w fun e w'=>e=.returned (.float .f64 zaL)∧w=w':=by
 go_enter Tryz.func401,Tryz.ntmps401
 go_wp2
 go_ret
 exact ⟨rfl,rfl⟩
theorem zbE (x:Nat) (w:World):Calls Tryz.prog 400 #[.float .f64 x] w fun e w'=>e=.returned (.bool (xZ x))∧w=w':=by
 go_enter Tryz.func400,Tryz.ntmps400
 go_wp2
 go_ret
 exact ⟨rfl,rfl⟩
theorem zi8 {x:Nat} (h:xZ x=true):xS x=zaL:=by unfold xS;rw[if_pos h]
theorem canon_no {x:Nat} (h:xZ x=false):xS x=x:=by unfold xS;rw[if_neg (by rw[h];decide)]
theorem zb0 (x:Nat) (w:World):Calls Tryz.prog 338 #[.float .f64 x] w fun e w'=>e=.returned (.float .f64 (xS x))∧w=w':=by
 rcases hn:xZ x with _|_
 ·
  rw[canon_no hn]
  go_enter Tryz.func338,Tryz.ntmps338
  go_wp2_with (go_at_call 400;refine (zbE _ _).mono ?_;rintro e w' ⟨rfl,rfl⟩)
  go_ret
  exact ⟨rfl,rfl⟩
 rw[zi8 hn]
 go_enter Tryz.func338,Tryz.ntmps338
 go_wp2_with (first|(go_at_call 400;refine (zbE _ _).mono ?_;rintro e w' ⟨rfl,rfl⟩)|(go_at_call 401;refine (zkI _).mono ?_;rintro e w' ⟨rfl,rfl⟩))
 go_ret
 exact ⟨rfl,rfl⟩
theorem qG (w:World):Calls Tryz.prog 187 #[] w fun e w'=>e=.returned (.float .f64 zaL)∧w=w':=by
 go_enter Tryz.func187,Tryz.ntmps187
 go_wp2
 go_ret
 exact ⟨rfl,rfl⟩
end Go.Proofs.YtjbkjhhjofeldaaGreat
