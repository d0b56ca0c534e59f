/-
 What a message of any caller is. Conditions: as each theorem names them.
-/
import Derived.Test.YtjbkjhhjofeldaaGreatK1
import Derived.Test.YtjbkjhhjofeldaaGreatG50
import Derived.ProofKit
import Derived.OpenShut
import Derived.ShutString
import Derived.ChangeOld
import Derived.Deep.Slices
import Derived.Deep.Fields
set_option maxRecDepth 100000
set_option maxHeartbeats 1000000
namespace Go.Proofs.YtjbkjhhjofeldaaGreat
set_option linter.unusedSimpArgs false
set_option linter.unusedVariables false
open Go.RowKit Go.ChangeShapes Go.WideShapes Go.Deep
section
variable {H:Type} {enc:TypeId×Value→H} {P:Program} {w:World} {base:Nat} {spare:Nat→Bool} {held:Bool} {fuel:Nat} {t:TypeId} {cs:List Value} {x:DataW H×List MemPlace}
theorem trod_u8 (ht:P.underlying t=some (.int .u8)) (h:DataW.trod enc P w base spare held fuel t cs=some x):∃ n:UInt8,cs=[B n]:=by
 obtain ⟨n,hc,_,hw⟩:=DataW.trod_int ht h
 have:_:=bounds_u8 hw
 refine ⟨UInt8.ofNat n.toNat,?_⟩
 rw[hc]
 unfold B
 simp
 omega
theorem trod_bool' (ht:P.underlying t=some .bool) (h:DataW.trod enc P w base spare held fuel t cs=some x):∃ b:Bool,cs=[.bool b]:=by
 obtain ⟨b,hc,_⟩:=DataW.trod_bool ht h
 exact ⟨b,hc⟩
theorem flatMap_single {α β:Type} (f:α→β) (l:List α):(l.flatMap fun a=>[f a])=l.map f:=by
 induction l with
 | nil=>rfl
 | cons a l ih=>simp[ih]
theorem open_bytes {e:TypeId} (ht:P.underlying t=some (.slice e)) (he:P.underlying e=some (.int .u8)) (hC:P.cellsOf e=1) (h:DataW.trod enc P w base spare held fuel t cs=some x):
  ∃ (v:Value) (l:List UInt8),cs=[v]∧Byt w (fun g=>g<w.heap.size) v l:=by
 obtain ⟨v,l,h1,h2,_⟩:=open_sl (fun b:UInt8=>[B b]) (fun _=>True) 1 (fun _=>rfl) (by omega) ht hC (fun n cs' y hy=>by
  obtain ⟨b,hb⟩:=trod_u8 he hy
  exact ⟨b,hb,trivial⟩) h
 exact ⟨v,l,h1,by rw[flatMap_single] at h2;exact h2⟩
end
theorem open_conf {H:Type} {enc:TypeId×Value→H} {w:World} {base:Nat} {spare:Nat→Bool} {held:Bool} {fuel:Nat} {cs:List Value} {x:DataW H×List MemPlace}
  (h:DataW.trod enc Tryz.prog w base spare held fuel 57 cs=some x):∃ a:jB,cs=a.cells∧a.ok:=by
 obtain ⟨ys,m,_,_,hlen,hys,hf⟩:=DataW.trod_struct Tryz.underlying57 h
 have hc:Tryz.prog.cellsOf 57=4:=by kernel_rfl
 rw[hc] at hlen
 match cs,hlen with
 | [a0,a1,a2,a3],_=>
  have g0:DataW.trod enc Tryz.prog w base spare held m 3 (([a0,a1,a2,a3].drop 0).take (Tryz.prog.cellsOf 3))=ys[0]?:=hf 0 _ rfl
  have g1:DataW.trod enc Tryz.prog w base spare held m 3 (([a0,a1,a2,a3].drop 1).take (Tryz.prog.cellsOf 3))=ys[1]?:=hf 1 _ rfl
  have g2:DataW.trod enc Tryz.prog w base spare held m 3 (([a0,a1,a2,a3].drop 2).take (Tryz.prog.cellsOf 3))=ys[2]?:=hf 2 _ rfl
  have g3:DataW.trod enc Tryz.prog w base spare held m 3 (([a0,a1,a2,a3].drop 3).take (Tryz.prog.cellsOf 3))=ys[3]?:=hf 3 _ rfl
  have c0:Tryz.prog.cellsOf 3=1:=by kernel_rfl
  simp only[c0,List.drop_succ_cons,List.drop_zero,List.take_succ_cons,List.take_zero] at g0 g1 g2 g3
  have hys':ys.length=4:=hys
  rw[List.getElem?_eq_getElem (by omega)] at g0 g1 g2 g3
  obtain ⟨n0,e0,b0⟩:=zfP Tryz.underlying3 g0
  obtain ⟨n1,e1,b1⟩:=zfP Tryz.underlying3 g1
  obtain ⟨n2,e2,b2⟩:=zfP Tryz.underlying3 g2
  obtain ⟨n3,e3,b3⟩:=zfP Tryz.underlying3 g3
  simp only[List.cons.injEq,and_true] at e0 e1 e2 e3
  subst e0
  subst e1
  subst e2
  subst e3
  exact ⟨⟨n0,n1,n2,n3⟩,rfl,b0,b1,b2,b3⟩
theorem open_entry {H:Type} {enc:TypeId×Value→H} {w:World} {base:Nat} {spare:Nat→Bool} {held:Bool} {fuel:Nat} {cs:List Value} {x:DataW H×List MemPlace}
  (h:DataW.trod enc Tryz.prog w base spare held fuel 100 cs=some x):∃ a:zO,cs=a.cells∧a.ok:=by
 obtain ⟨ys,m,_,_,hlen,hys,hf⟩:=DataW.trod_struct Tryz.underlying100 h
 have hc:Tryz.prog.cellsOf 100=16:=by kernel_rfl
 rw[hc] at hlen
 match cs,hlen with
 | [a0,a1,a2,a3,a4,a5,a6,a7,a8,a9,a10,a11,a12,a13,a14,a15],_=>
  have g0:DataW.trod enc Tryz.prog w base spare held m 3 (([a0,a1,a2,a3,a4,a5,a6,a7,a8,a9,a10,a11,a12,a13,a14,a15].drop 0).take (Tryz.prog.cellsOf 3))=ys[0]?:=hf 0 _ rfl
  have g1:DataW.trod enc Tryz.prog w base spare held m 3 (([a0,a1,a2,a3,a4,a5,a6,a7,a8,a9,a10,a11,a12,a13,a14,a15].drop 1).take (Tryz.prog.cellsOf 3))=ys[1]?:=hf 1 _ rfl
  have g2:DataW.trod enc Tryz.prog w base spare held m 29 (([a0,a1,a2,a3,a4,a5,a6,a7,a8,a9,a10,a11,a12,a13,a14,a15].drop 2).take (Tryz.prog.cellsOf 29))=ys[2]?:=hf 2 _ rfl
  have g3:DataW.trod enc Tryz.prog w base spare held m 57 (([a0,a1,a2,a3,a4,a5,a6,a7,a8,a9,a10,a11,a12,a13,a14,a15].drop 12).take (Tryz.prog.cellsOf 57))=ys[3]?:=hf 3 _ rfl
  have c0:Tryz.prog.cellsOf 3=1:=by kernel_rfl
  have c1:Tryz.prog.cellsOf 29=10:=by kernel_rfl
  have c2:Tryz.prog.cellsOf 57=4:=by kernel_rfl
  simp only[c0,c1,c2,List.drop_succ_cons,List.drop_zero,List.take_succ_cons,List.take_zero] at g0 g1 g2 g3
  have hys':ys.length=4:=hys
  rw[List.getElem?_eq_getElem (by omega)] at g0 g1 g2 g3
  obtain ⟨n0,e0,b0⟩:=zfP Tryz.underlying3 g0
  obtain ⟨n1,e1,b1⟩:=zfP Tryz.underlying3 g1
  obtain ⟨n2,e2,b2⟩:=open_call g2
  obtain ⟨n3,e3,b3⟩:=open_conf g3
  simp only[List.cons.injEq,and_true] at e0 e1 e2 e3
  subst e0
  subst e1
  obtain ⟨rfl,rfl,rfl,rfl,rfl,rfl,rfl,rfl,rfl,rfl⟩:=e2
  obtain ⟨rfl,rfl,rfl,rfl⟩:=e3
  exact ⟨⟨n0,n1,n2,n3⟩,rfl,b0,b1,b2,b3⟩
theorem open_entries {H:Type} {enc:TypeId×Value→H} {w:World} {base:Nat} {spare:Nat→Bool} {held:Bool} {fuel:Nat} {cs:List Value} {x:DataW H×List MemPlace}
  (h:DataW.trod enc Tryz.prog w base spare held fuel 59 cs=some x):∃ (v:Value) (l:List zO),cs=[v]∧zoU w (fun g=>g<w.heap.size) v l:=by
 obtain ⟨v,l,h1,h2,h3⟩:=open_sl zO.cells zO.ok 16 (fun _=>rfl) (by omega) Tryz.underlying59 (by kernel_rfl) (fun n cs' y hy=>open_entry hy) h
 exact ⟨v,l,h1,h2,h3⟩
theorem open_head {H:Type} {enc:TypeId×Value→H} {w:World} {base:Nat} {spare:Nat→Bool} {held:Bool} {fuel:Nat} {cs:List Value} {x:DataW H×List MemPlace}
  (h:DataW.trod enc Tryz.prog w base spare held fuel 92 cs=some x):∃ a:AHead,cs=a.cells∧a.ok w (fun g=>g<w.heap.size)∧∃ n y,DataW.trod enc Tryz.prog w base spare held n 71 [a.innV]=some y:=by
 obtain ⟨ys,m,_,_,hlen,hys,hf⟩:=DataW.trod_struct Tryz.underlying92 h
 have hc:Tryz.prog.cellsOf 92=16:=by kernel_rfl
 rw[hc] at hlen
 match cs,hlen with
 | [a0,a1,a2,a3,a4,a5,a6,a7,a8,a9,a10,a11,a12,a13,a14,a15],_=>
  have g0:DataW.trod enc Tryz.prog w base spare held m 3 (([a0,a1,a2,a3,a4,a5,a6,a7,a8,a9,a10,a11,a12,a13,a14,a15].drop 0).take (Tryz.prog.cellsOf 3))=ys[0]?:=hf 0 _ rfl
  have g1:DataW.trod enc Tryz.prog w base spare held m 3 (([a0,a1,a2,a3,a4,a5,a6,a7,a8,a9,a10,a11,a12,a13,a14,a15].drop 1).take (Tryz.prog.cellsOf 3))=ys[1]?:=hf 1 _ rfl
  have g2:DataW.trod enc Tryz.prog w base spare held m 3 (([a0,a1,a2,a3,a4,a5,a6,a7,a8,a9,a10,a11,a12,a13,a14,a15].drop 2).take (Tryz.prog.cellsOf 3))=ys[2]?:=hf 2 _ rfl
  have g3:DataW.trod enc Tryz.prog w base spare held m 3 (([a0,a1,a2,a3,a4,a5,a6,a7,a8,a9,a10,a11,a12,a13,a14,a15].drop 3).take (Tryz.prog.cellsOf 3))=ys[3]?:=hf 3 _ rfl
  have g4:DataW.trod enc Tryz.prog w base spare held m 3 (([a0,a1,a2,a3,a4,a5,a6,a7,a8,a9,a10,a11,a12,a13,a14,a15].drop 4).take (Tryz.prog.cellsOf 3))=ys[4]?:=hf 4 _ rfl
  have g5:DataW.trod enc Tryz.prog w base spare held m 3 (([a0,a1,a2,a3,a4,a5,a6,a7,a8,a9,a10,a11,a12,a13,a14,a15].drop 5).take (Tryz.prog.cellsOf 3))=ys[5]?:=hf 5 _ rfl
  have g6:DataW.trod enc Tryz.prog w base spare held m 3 (([a0,a1,a2,a3,a4,a5,a6,a7,a8,a9,a10,a11,a12,a13,a14,a15].drop 6).take (Tryz.prog.cellsOf 3))=ys[6]?:=hf 6 _ rfl
  have g7:DataW.trod enc Tryz.prog w base spare held m 3 (([a0,a1,a2,a3,a4,a5,a6,a7,a8,a9,a10,a11,a12,a13,a14,a15].drop 7).take (Tryz.prog.cellsOf 3))=ys[7]?:=hf 7 _ rfl
  have g8:DataW.trod enc Tryz.prog w base spare held m 4 (([a0,a1,a2,a3,a4,a5,a6,a7,a8,a9,a10,a11,a12,a13,a14,a15].drop 8).take (Tryz.prog.cellsOf 4))=ys[8]?:=hf 8 _ rfl
  have g9:DataW.trod enc Tryz.prog w base spare held m 59 (([a0,a1,a2,a3,a4,a5,a6,a7,a8,a9,a10,a11,a12,a13,a14,a15].drop 9).take (Tryz.prog.cellsOf 59))=ys[9]?:=hf 9 _ rfl
  have g10:DataW.trod enc Tryz.prog w base spare held m 57 (([a0,a1,a2,a3,a4,a5,a6,a7,a8,a9,a10,a11,a12,a13,a14,a15].drop 10).take (Tryz.prog.cellsOf 57))=ys[10]?:=hf 10 _ rfl
  have g11:DataW.trod enc Tryz.prog w base spare held m 58 (([a0,a1,a2,a3,a4,a5,a6,a7,a8,a9,a10,a11,a12,a13,a14,a15].drop 14).take (Tryz.prog.cellsOf 58))=ys[11]?:=hf 11 _ rfl
  have g12:DataW.trod enc Tryz.prog w base spare held m 71 (([a0,a1,a2,a3,a4,a5,a6,a7,a8,a9,a10,a11,a12,a13,a14,a15].drop 15).take (Tryz.prog.cellsOf 71))=ys[12]?:=hf 12 _ rfl
  have c0:Tryz.prog.cellsOf 3=1:=by kernel_rfl
  have c1:Tryz.prog.cellsOf 4=1:=by kernel_rfl
  have c2:Tryz.prog.cellsOf 59=1:=by kernel_rfl
  have c3:Tryz.prog.cellsOf 57=4:=by kernel_rfl
  have c4:Tryz.prog.cellsOf 58=1:=by kernel_rfl
  have c5:Tryz.prog.cellsOf 71=1:=by kernel_rfl
  simp only[c0,c1,c2,c3,c4,c5,List.drop_succ_cons,List.drop_zero,List.take_succ_cons,List.take_zero] at g0 g1 g2 g3 g4 g5 g6 g7 g8 g9 g10 g11 g12
  have hys':ys.length=13:=hys
  rw[List.getElem?_eq_getElem (by omega)] at g0 g1 g2 g3 g4 g5 g6 g7 g8 g9 g10 g11 g12
  obtain ⟨n0,e0,b0⟩:=zfP Tryz.underlying3 g0
  obtain ⟨n1,e1,b1⟩:=zfP Tryz.underlying3 g1
  obtain ⟨n2,e2,b2⟩:=zfP Tryz.underlying3 g2
  obtain ⟨n3,e3,b3⟩:=zfP Tryz.underlying3 g3
  obtain ⟨n4,e4,b4⟩:=zfP Tryz.underlying3 g4
  obtain ⟨n5,e5,b5⟩:=zfP Tryz.underlying3 g5
  obtain ⟨n6,e6,b6⟩:=zfP Tryz.underlying3 g6
  obtain ⟨n7,e7,b7⟩:=zfP Tryz.underlying3 g7
  obtain ⟨n8,e8⟩:=trod_bool' Tryz.underlying4 g8
  obtain ⟨n9,l9,e9,b9⟩:=open_entries g9
  obtain ⟨n10,e10,b10⟩:=open_conf g10
  obtain ⟨n11,l11,e11,b11⟩:=open_bytes Tryz.underlying58 Tryz.underlying5 (by kernel_rfl) g11
  simp only[List.cons.injEq,and_true] at e0 e1 e2 e3 e4 e5 e6 e7 e8 e9 e10 e11
  subst e0 e1 e2 e3 e4 e5 e6 e7 e8 e9 e11
  obtain ⟨rfl,rfl,rfl,rfl⟩:=e10
  have hin:∃ A n c,a15=.slice A n c∧n≤maxLen:=by
   rcases open_slice Tryz.underlying71 g12 with ⟨h0,_⟩|⟨a,len,cap,m',n',D,Pl,hcs,hb,hl,hm,_⟩
   · simp only[List.cons.injEq,and_true] at h0
     exact ⟨none,0,0,h0,by simp[maxLen]⟩
   simp only[List.cons.injEq,and_true] at hcs
   exact ⟨some a,len,cap,hcs,by omega⟩
  obtain ⟨A,n,c,rfl,hn⟩:=hin
  refine ⟨⟨n0,n1,n2,n3,n4,n5,n6,n7,n8,a9,l9,n10,a14,l11,.slice A n c,n⟩,rfl,⟨?_,b9,b10,b11,⟨A,c,rfl⟩,hn⟩,_,_,g12⟩
  intro k hk
  simp at hk
  rcases hk with rfl|rfl|rfl|rfl|rfl|rfl|rfl|rfl <;> assumption
theorem open_heads {H:Type} {enc:TypeId×Value→H} {w:World} {base:Nat} {spare:Nat→Bool} {held:Bool} {fuel:Nat} {v:Value} {x:DataW H×List MemPlace}
  (h:DataW.trod enc Tryz.prog w base spare held fuel 71 [v]=some x):∃ l:List AHead,Heads w (fun g=>g<w.heap.size) v l∧∀ a∈l,∃ n y,DataW.trod enc Tryz.prog w base spare held n 71 [a.innV]=some y:=by
 obtain ⟨v',l,h1,h2,h3⟩:=open_sl AHead.cells (fun a=>a.ok w (fun g=>g<w.heap.size)∧∃ n y,DataW.trod enc Tryz.prog w base spare held n 71 [a.innV]=some y) 16 (fun _=>rfl) (by omega) Tryz.underlying71 (by kernel_rfl) (fun n cs' y hy=>open_head hy) h
 simp only[List.cons.injEq,and_true] at h1
 subst h1
 exact ⟨l,⟨h2,fun a ha=>(h3 a ha).1⟩,fun a ha=>(h3 a ha).2⟩
theorem inn_len {w:World} {T:Nat→Prop} {a:AHead} {l:List AHead} (h:a.ok w T) (hs:Heads w T a.innV l):a.inn=l.length:=by
 obtain ⟨A,c,e⟩:=h.2.2.2.2.1
 obtain ⟨_,A',c',e',_⟩:=hs.1
 rw[e] at e'
 injection e' with _ e' _
theorem open_msg {H:Type} {enc:TypeId×Value→H} {w:World} {base:Nat} {spare:Nat→Bool} {held:Bool} {fuel:Nat} {cs:List Value} {x:DataW H×List MemPlace}
  (h:DataW.trod enc Tryz.prog w base spare held fuel 92 cs=some x):∃ (a:AHead) (l:List AHead),cs=a.cells∧Msg3 w (fun g=>g<w.heap.size) a l:=by
 obtain ⟨a,h1,h2,n,y,h3⟩:=open_head h
 obtain ⟨l,h4,h5⟩:=open_heads h3
 refine ⟨a,l,h1,h2,inn_len h2 h4,h4,fun b hb=>?_⟩
 obtain ⟨n',y',h6⟩:=h5 b hb
 obtain ⟨l',h7,_⟩:=open_heads h6
 exact ⟨l',inn_len (h4.2 b hb) h7,h7⟩
end Go.Proofs.YtjbkjhhjofeldaaGreat
