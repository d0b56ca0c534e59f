/-
 From the reading of an argument (the form's own) to the program's plain data. Conditions: as each theorem names them.
-/
import Derived.Test.YtjbkjhhjofeldaaGreatG47
set_option maxRecDepth 100000
namespace Go.Proofs.YtjbkjhhjofeldaaGreat
open Go.RowKit Go.ChangeShapes Go.WideShapes Go.Deep
theorem zmQ {H:Type} {enc:TypeId×Value→H} {w:World} {base:Nat} {spare:Nat→Bool} {held:Bool} {fuel:Nat} {cs:List Value} {x:DataW H×List MemPlace}
  (h:DataW.trod enc Tryz.prog w base spare held fuel 25 cs=some x):∃ a:yO,cs=a.cells∧a.ok:=by
 obtain ⟨ys,m,_,_,hlen,hys,hf⟩:=DataW.trod_struct Tryz.underlying25 h
 have hc:Tryz.prog.cellsOf 25=3:=by kernel_rfl
 rw[hc] at hlen
 match cs,hlen with
 | [a0,a1,a2],_=>
  have g0:DataW.trod enc Tryz.prog w base spare held m 3 (([a0,a1,a2].drop 0).take (Tryz.prog.cellsOf 3))=ys[0]?:=hf 0 _ rfl
  have g1:DataW.trod enc Tryz.prog w base spare held m 23 (([a0,a1,a2].drop 1).take (Tryz.prog.cellsOf 23))=ys[1]?:=hf 1 _ rfl
  have g2:DataW.trod enc Tryz.prog w base spare held m 9 (([a0,a1,a2].drop 2).take (Tryz.prog.cellsOf 9))=ys[2]?:=hf 2 _ rfl
  have c0:Tryz.prog.cellsOf 3=1:=by kernel_rfl
  have c1:Tryz.prog.cellsOf 23=1:=by kernel_rfl
  have c2:Tryz.prog.cellsOf 9=1:=by kernel_rfl
  simp only[c0,c1,c2,List.drop_succ_cons,List.drop_zero,List.take_succ_cons,List.take_zero] at g0 g1 g2
  have hys':ys.length=3:=hys
  rw[List.getElem?_eq_getElem (by omega)] at g0 g1 g2
  obtain ⟨n0,e0,b0⟩:=zfP Tryz.underlying3 g0
  obtain ⟨n1,e1,b1⟩:=trod_f64 Tryz.underlying23 g1
  obtain ⟨n2,e2,_,b2⟩:=DataW.trod_string Tryz.underlying9 g2
  simp only[List.cons.injEq,and_true] at e0 e1 e2
  subst e0
  subst e1
  subst e2
  exact ⟨⟨n0,n1,n2⟩,rfl,b0,b1,b2⟩
theorem open_cmd {H:Type} {enc:TypeId×Value→H} {w:World} {base:Nat} {spare:Nat→Bool} {held:Bool} {fuel:Nat} {cs:List Value} {x:DataW H×List MemPlace}
  (h:DataW.trod enc Tryz.prog w base spare held fuel 27 cs=some x):∃ a:jV,cs=a.cells∧a.ok:=by
 obtain ⟨ys,m,_,_,hlen,hys,hf⟩:=DataW.trod_struct Tryz.underlying27 h
 have hc:Tryz.prog.cellsOf 27=8:=by kernel_rfl
 rw[hc] at hlen
 match cs,hlen with
 | [a0,a1,a2,a3,a4,a5,a6,a7],_=>
  have g0:DataW.trod enc Tryz.prog w base spare held m 3 (([a0,a1,a2,a3,a4,a5,a6,a7].drop 0).take (Tryz.prog.cellsOf 3))=ys[0]?:=hf 0 _ rfl
  have g1:DataW.trod enc Tryz.prog w base spare held m 9 (([a0,a1,a2,a3,a4,a5,a6,a7].drop 1).take (Tryz.prog.cellsOf 9))=ys[1]?:=hf 1 _ rfl
  have g2:DataW.trod enc Tryz.prog w base spare held m 25 (([a0,a1,a2,a3,a4,a5,a6,a7].drop 2).take (Tryz.prog.cellsOf 25))=ys[2]?:=hf 2 _ rfl
  have g3:DataW.trod enc Tryz.prog w base spare held m 25 (([a0,a1,a2,a3,a4,a5,a6,a7].drop 5).take (Tryz.prog.cellsOf 25))=ys[3]?:=hf 3 _ rfl
  have c0:Tryz.prog.cellsOf 3=1:=by kernel_rfl
  have c1:Tryz.prog.cellsOf 9=1:=by kernel_rfl
  have c2:Tryz.prog.cellsOf 25=3:=by kernel_rfl
  simp only[c0,c1,c2,List.drop_succ_cons,List.drop_zero,List.take_succ_cons,List.take_zero] at g0 g1 g2 g3
  have hys':ys.length=4:=hys
  rw[List.getElem?_eq_getElem (by omega)] at g0 g1 g2 g3
  obtain ⟨n0,e0,b0⟩:=zfP Tryz.underlying3 g0
  obtain ⟨n1,e1,_,b1⟩:=DataW.trod_string Tryz.underlying9 g1
  obtain ⟨n2,e2,b2⟩:=zmQ g2
  obtain ⟨n3,e3,b3⟩:=zmQ g3
  simp only[List.cons.injEq,and_true] at e0 e1 e2 e3
  subst e0
  subst e1
  obtain ⟨rfl,rfl,rfl⟩:=e2
  obtain ⟨rfl,rfl,rfl⟩:=e3
  exact ⟨⟨n0,n1,n2,n3⟩,rfl,b0,b1,b2,b3⟩
theorem open_call {H:Type} {enc:TypeId×Value→H} {w:World} {base:Nat} {spare:Nat→Bool} {held:Bool} {fuel:Nat} {cs:List Value} {x:DataW H×List MemPlace}
  (h:DataW.trod enc Tryz.prog w base spare held fuel 29 cs=some x):∃ a:zW,cs=a.cells∧a.ok:=by
 obtain ⟨ys,m,_,_,hlen,hys,hf⟩:=DataW.trod_struct Tryz.underlying29 h
 have hc:Tryz.prog.cellsOf 29=10:=by kernel_rfl
 rw[hc] at hlen
 match cs,hlen with
 | [a0,a1,a2,a3,a4,a5,a6,a7,a8,a9],_=>
  have g0:DataW.trod enc Tryz.prog w base spare held m 3 (([a0,a1,a2,a3,a4,a5,a6,a7,a8,a9].drop 0).take (Tryz.prog.cellsOf 3))=ys[0]?:=hf 0 _ rfl
  have g1:DataW.trod enc Tryz.prog w base spare held m 3 (([a0,a1,a2,a3,a4,a5,a6,a7,a8,a9].drop 1).take (Tryz.prog.cellsOf 3))=ys[1]?:=hf 1 _ rfl
  have g2:DataW.trod enc Tryz.prog w base spare held m 27 (([a0,a1,a2,a3,a4,a5,a6,a7,a8,a9].drop 2).take (Tryz.prog.cellsOf 27))=ys[2]?:=hf 2 _ rfl
  have c0:Tryz.prog.cellsOf 3=1:=by kernel_rfl
  have c1:Tryz.prog.cellsOf 27=8:=by kernel_rfl
  simp only[c0,c1,List.drop_succ_cons,List.drop_zero,List.take_succ_cons,List.take_zero] at g0 g1 g2
  have hys':ys.length=3:=hys
  rw[List.getElem?_eq_getElem (by omega)] at g0 g1 g2
  obtain ⟨n0,e0,b0⟩:=zfP Tryz.underlying3 g0
  obtain ⟨n1,e1,b1⟩:=zfP Tryz.underlying3 g1
  obtain ⟨n2,e2,b2⟩:=open_cmd g2
  simp only[List.cons.injEq,and_true] at e0 e1 e2
  subst e0
  subst e1
  obtain ⟨rfl,rfl,rfl,rfl,rfl,rfl,rfl,rfl⟩:=e2
  exact ⟨⟨n0,n1,n2⟩,rfl,b0,b1,b2⟩
theorem val_agg {H:Type} {enc:TypeId×Value→H} {P:Program} {w:World} {base b0:Nat} {spare:Nat→Bool} {held:Bool} {r:Reach} {t:TypeId} {fs:Array Field} {v:Value} {d:DataW H} {p:List MemPlace} (ht:P.underlying t=some (.struct fs))
  (hv:Value.okWide P w r b0 t v) (h:DataW.Trod enc P w base spare held t v d p):∃ (cs:Array Value) (fuel:Nat),v=.agg cs∧DataW.trod enc P w base spare held fuel t cs.toList=some (d,p):=by
 obtain ⟨cs,rfl,_⟩:=okWide_struct ht hv
 obtain ⟨fuel,hf⟩:=h
 exact ⟨cs,fuel,rfl,by simpa [Value.cells] using hf⟩
theorem open_calls {H:Type} {enc:TypeId×Value→H} {w:World} {base:Nat} {spare:Nat→Bool} {held:Bool} {fuel:Nat} {cs:List Value} {x:DataW H×List MemPlace}
    (h:DataW.trod enc Tryz.prog w base spare held fuel 22 cs=some x):∃ (v:Value) (l:List zW),cs=[v]∧Cals w (fun g=>g<w.heap.size) v l:=by
  obtain ⟨v,l,h1,h2,h3⟩:=open_sl zW.cells zW.ok 10 (fun _=>rfl) (by omega) Tryz.underlying22 (by kernel_rfl) (fun n cs' y hy=>open_call hy) h
  exact ⟨v,l,h1,h2,h3⟩
end Go.Proofs.YtjbkjhhjofeldaaGreat
