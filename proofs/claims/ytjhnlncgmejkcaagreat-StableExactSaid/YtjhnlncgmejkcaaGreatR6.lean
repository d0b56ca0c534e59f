/-
  From the reading of an argument (the form's own) to the program's plain data. Conditions: as each theorem names them.
-/
import Derived.Test.YtjhnlncgmejkcaaGreatKeep
import Derived.Test.YtjhnlncgmejkcaaGreatS7
import Derived.Test.YtjhnlncgmejkcaaGreatS8
import Derived.Test.YtjhnlncgmejkcaaGreatS25
import Derived.Test.YtjhnlncgmejkcaaGreatS6
set_option maxRecDepth 100000
namespace Go.Proofs.YtjhnlncgmejkcaaGreat
open Go.RowKit Go.ChangeShapes Go.WideShapes Go.Deep
theorem zmU {H : Type} {enc : TypeId × Value → H} {w : World} {base : Nat} {spare : Nat → Bool} {held : Bool} {fuel : Nat} {cs : List Value} {x : DataW H × List MemPlace}
  (h : DataW.trod enc Tryz.prog w base spare held fuel 50 cs = some x) : ∃ a : jY, cs = a.cells ∧ a.ok := by
 obtain ⟨ys, m, _, _, hlen, hys, hf⟩ := DataW.trod_struct Tryz.underlying50 h
 have hc : Tryz.prog.cellsOf 50 = 3 := by kernel_rfl
 rw [hc] at hlen
 match cs, hlen with
 | [a0, a1, a2], _ =>
  have g0 : DataW.trod enc Tryz.prog w base spare held m 3 (([a0, a1, a2].drop 0).take (Tryz.prog.cellsOf 3)) = ys[0]? := hf 0 _ rfl
  have g1 : DataW.trod enc Tryz.prog w base spare held m 48 (([a0, a1, a2].drop 1).take (Tryz.prog.cellsOf 48)) = ys[1]? := hf 1 _ rfl
  have g2 : DataW.trod enc Tryz.prog w base spare held m 9 (([a0, a1, a2].drop 2).take (Tryz.prog.cellsOf 9)) = ys[2]? := hf 2 _ rfl
  have c0 : Tryz.prog.cellsOf 3 = 1 := by kernel_rfl
  have c1 : Tryz.prog.cellsOf 48 = 1 := by kernel_rfl
  have c2 : Tryz.prog.cellsOf 9 = 1 := by kernel_rfl
  simp only [c0, c1, c2, List.drop_succ_cons, List.drop_zero, List.take_succ_cons, List.take_zero] at g0 g1 g2
  have hys' : ys.length = 3 := hys
  rw [List.getElem?_eq_getElem (by omega)] at g0 g1 g2
  obtain ⟨n0, e0, b0⟩ := xW Tryz.underlying3 g0
  obtain ⟨n1, e1, b1⟩ := trod_f64 Tryz.underlying48 g1
  obtain ⟨n2, e2, _, b2⟩ := DataW.trod_string Tryz.underlying9 g2
  simp only [List.cons.injEq, and_true] at e0 e1 e2
  subst e0
  subst e1
  subst e2
  exact ⟨⟨n0, n1, n2⟩, rfl, b0, b1, b2⟩
theorem open_cmd {H : Type} {enc : TypeId × Value → H} {w : World} {base : Nat} {spare : Nat → Bool} {held : Bool} {fuel : Nat} {cs : List Value} {x : DataW H × List MemPlace}
  (h : DataW.trod enc Tryz.prog w base spare held fuel 52 cs = some x) : ∃ a : zeG, cs = a.cells ∧ a.ok := by
 obtain ⟨ys, m, _, _, hlen, hys, hf⟩ := DataW.trod_struct Tryz.underlying52 h
 have hc : Tryz.prog.cellsOf 52 = 8 := by kernel_rfl
 rw [hc] at hlen
 match cs, hlen with
 | [a0, a1, a2, a3, a4, a5, a6, a7], _ =>
  have g0 : DataW.trod enc Tryz.prog w base spare held m 3 (([a0, a1, a2, a3, a4, a5, a6, a7].drop 0).take (Tryz.prog.cellsOf 3)) = ys[0]? := hf 0 _ rfl
  have g1 : DataW.trod enc Tryz.prog w base spare held m 9 (([a0, a1, a2, a3, a4, a5, a6, a7].drop 1).take (Tryz.prog.cellsOf 9)) = ys[1]? := hf 1 _ rfl
  have g2 : DataW.trod enc Tryz.prog w base spare held m 50 (([a0, a1, a2, a3, a4, a5, a6, a7].drop 2).take (Tryz.prog.cellsOf 50)) = ys[2]? := hf 2 _ rfl
  have g3 : DataW.trod enc Tryz.prog w base spare held m 50 (([a0, a1, a2, a3, a4, a5, a6, a7].drop 5).take (Tryz.prog.cellsOf 50)) = ys[3]? := hf 3 _ rfl
  have c0 : Tryz.prog.cellsOf 3 = 1 := by kernel_rfl
  have c1 : Tryz.prog.cellsOf 9 = 1 := by kernel_rfl
  have c2 : Tryz.prog.cellsOf 50 = 3 := by kernel_rfl
  simp only [c0, c1, c2, List.drop_succ_cons, List.drop_zero, List.take_succ_cons, List.take_zero] at g0 g1 g2 g3
  have hys' : ys.length = 4 := hys
  rw [List.getElem?_eq_getElem (by omega)] at g0 g1 g2 g3
  obtain ⟨n0, e0, b0⟩ := xW Tryz.underlying3 g0
  obtain ⟨n1, e1, _, b1⟩ := DataW.trod_string Tryz.underlying9 g1
  obtain ⟨n2, e2, b2⟩ := zmU g2
  obtain ⟨n3, e3, b3⟩ := zmU g3
  simp only [List.cons.injEq, and_true] at e0 e1 e2 e3
  subst e0
  subst e1
  obtain ⟨rfl, rfl, rfl⟩ := e2
  obtain ⟨rfl, rfl, rfl⟩ := e3
  exact ⟨⟨n0, n1, n2, n3⟩, rfl, b0, b1, b2, b3⟩
theorem zqZ {H : Type} {enc : TypeId × Value → H} {w : World} {base : Nat} {spare : Nat → Bool} {held : Bool} {fuel : Nat} {cs : List Value} {x : DataW H × List MemPlace}
  (h : DataW.trod enc Tryz.prog w base spare held fuel 54 cs = some x) : ∃ a : yK, cs = a.cells ∧ a.ok := by
 obtain ⟨ys, m, _, _, hlen, hys, hf⟩ := DataW.trod_struct Tryz.underlying54 h
 have hc : Tryz.prog.cellsOf 54 = 10 := by kernel_rfl
 rw [hc] at hlen
 match cs, hlen with
 | [a0, a1, a2, a3, a4, a5, a6, a7, a8, a9], _ =>
  have g0 : DataW.trod enc Tryz.prog w base spare held m 3 (([a0, a1, a2, a3, a4, a5, a6, a7, a8, a9].drop 0).take (Tryz.prog.cellsOf 3)) = ys[0]? := hf 0 _ rfl
  have g1 : DataW.trod enc Tryz.prog w base spare held m 3 (([a0, a1, a2, a3, a4, a5, a6, a7, a8, a9].drop 1).take (Tryz.prog.cellsOf 3)) = ys[1]? := hf 1 _ rfl
  have g2 : DataW.trod enc Tryz.prog w base spare held m 52 (([a0, a1, a2, a3, a4, a5, a6, a7, a8, a9].drop 2).take (Tryz.prog.cellsOf 52)) = ys[2]? := hf 2 _ rfl
  have c0 : Tryz.prog.cellsOf 3 = 1 := by kernel_rfl
  have c1 : Tryz.prog.cellsOf 52 = 8 := by kernel_rfl
  simp only [c0, c1, List.drop_succ_cons, List.drop_zero, List.take_succ_cons, List.take_zero] at g0 g1 g2
  have hys' : ys.length = 3 := hys
  rw [List.getElem?_eq_getElem (by omega)] at g0 g1 g2
  obtain ⟨n0, e0, b0⟩ := xW Tryz.underlying3 g0
  obtain ⟨n1, e1, b1⟩ := xW Tryz.underlying3 g1
  obtain ⟨n2, e2, b2⟩ := open_cmd g2
  simp only [List.cons.injEq, and_true] at e0 e1 e2
  subst e0
  subst e1
  obtain ⟨rfl, rfl, rfl, rfl, rfl, rfl, rfl, rfl⟩ := e2
  exact ⟨⟨n0, n1, n2⟩, rfl, b0, b1, b2⟩
theorem zjZ {H : Type} {enc : TypeId × Value → H} {w : World} {base : Nat} {spare : Nat → Bool} {held : Bool} {fuel : Nat} {cs : List Value} {x : DataW H × List MemPlace}
  (h : DataW.trod enc Tryz.prog w base spare held fuel 23 cs = some x) : ∃ a : yF, cs = a.cells ∧ a.ok := by
 obtain ⟨ys, m, _, _, hlen, hys, hf⟩ := DataW.trod_struct Tryz.underlying23 h
 have hc : Tryz.prog.cellsOf 23 = 4 := by kernel_rfl
 rw [hc] at hlen
 match cs, hlen with
 | [a0, a1, a2, a3], _ =>
  have g0 : DataW.trod enc Tryz.prog w base spare held m 3 (([a0, a1, a2, a3].drop 0).take (Tryz.prog.cellsOf 3)) = ys[0]? := hf 0 _ rfl
  have g1 : DataW.trod enc Tryz.prog w base spare held m 3 (([a0, a1, a2, a3].drop 1).take (Tryz.prog.cellsOf 3)) = ys[1]? := hf 1 _ rfl
  have g2 : DataW.trod enc Tryz.prog w base spare held m 3 (([a0, a1, a2, a3].drop 2).take (Tryz.prog.cellsOf 3)) = ys[2]? := hf 2 _ rfl
  have g3 : DataW.trod enc Tryz.prog w base spare held m 3 (([a0, a1, a2, a3].drop 3).take (Tryz.prog.cellsOf 3)) = ys[3]? := hf 3 _ rfl
  have c0 : Tryz.prog.cellsOf 3 = 1 := by kernel_rfl
  simp only [c0, List.drop_succ_cons, List.drop_zero, List.take_succ_cons, List.take_zero] at g0 g1 g2 g3
  have hys' : ys.length = 4 := hys
  rw [List.getElem?_eq_getElem (by omega)] at g0 g1 g2 g3
  obtain ⟨n0, e0, b0⟩ := xW Tryz.underlying3 g0
  obtain ⟨n1, e1, b1⟩ := xW Tryz.underlying3 g1
  obtain ⟨n2, e2, b2⟩ := xW Tryz.underlying3 g2
  obtain ⟨n3, e3, b3⟩ := xW Tryz.underlying3 g3
  simp only [List.cons.injEq, and_true] at e0 e1 e2 e3
  subst e0
  subst e1
  subst e2
  subst e3
  exact ⟨⟨n0, n1, n2, n3⟩, rfl, b0, b1, b2, b3⟩
theorem znP {H : Type} {enc : TypeId × Value → H} {w : World} {base : Nat} {spare : Nat → Bool} {held : Bool} {fuel : Nat} {cs : List Value} {x : DataW H × List MemPlace}
  (h : DataW.trod enc Tryz.prog w base spare held fuel 56 cs = some x) : ∃ a : zI, cs = a.cells ∧ a.ok := by
 obtain ⟨ys, m, _, _, hlen, hys, hf⟩ := DataW.trod_struct Tryz.underlying56 h
 have hc : Tryz.prog.cellsOf 56 = 16 := by kernel_rfl
 rw [hc] at hlen
 match cs, hlen with
 | [a0, a1, a2, a3, a4, a5, a6, a7, a8, a9, a10, a11, a12, a13, a14, a15], _ =>
  have g0 : DataW.trod enc Tryz.prog w base spare held m 3 (([a0, a1, a2, a3, a4, a5, a6, a7, a8, a9, a10, a11, a12, a13, a14, a15].drop 0).take (Tryz.prog.cellsOf 3)) = ys[0]? := hf 0 _ rfl
  have g1 : DataW.trod enc Tryz.prog w base spare held m 3 (([a0, a1, a2, a3, a4, a5, a6, a7, a8, a9, a10, a11, a12, a13, a14, a15].drop 1).take (Tryz.prog.cellsOf 3)) = ys[1]? := hf 1 _ rfl
  have g2 : DataW.trod enc Tryz.prog w base spare held m 54 (([a0, a1, a2, a3, a4, a5, a6, a7, a8, a9, a10, a11, a12, a13, a14, a15].drop 2).take (Tryz.prog.cellsOf 54)) = ys[2]? := hf 2 _ rfl
  have g3 : DataW.trod enc Tryz.prog w base spare held m 23 (([a0, a1, a2, a3, a4, a5, a6, a7, a8, a9, a10, a11, a12, a13, a14, a15].drop 12).take (Tryz.prog.cellsOf 23)) = ys[3]? := hf 3 _ rfl
  have c0 : Tryz.prog.cellsOf 3 = 1 := by kernel_rfl
  have c1 : Tryz.prog.cellsOf 54 = 10 := by kernel_rfl
  have c2 : Tryz.prog.cellsOf 23 = 4 := by kernel_rfl
  simp only [c0, c1, c2, List.drop_succ_cons, List.drop_zero, List.take_succ_cons, List.take_zero] at g0 g1 g2 g3
  have hys' : ys.length = 4 := hys
  rw [List.getElem?_eq_getElem (by omega)] at g0 g1 g2 g3
  obtain ⟨n0, e0, b0⟩ := xW Tryz.underlying3 g0
  obtain ⟨n1, e1, b1⟩ := xW Tryz.underlying3 g1
  obtain ⟨n2, e2, b2⟩ := zqZ g2
  obtain ⟨n3, e3, b3⟩ := zjZ g3
  simp only [List.cons.injEq, and_true] at e0 e1 e2 e3
  subst e0
  subst e1
  obtain ⟨rfl, rfl, rfl, rfl, rfl, rfl, rfl, rfl, rfl, rfl⟩ := e2
  obtain ⟨rfl, rfl, rfl, rfl⟩ := e3
  exact ⟨⟨n0, n1, n2, n3⟩, rfl, b0, b1, b2, b3⟩
theorem ze1 {H : Type} {enc : TypeId × Value → H} {w : World} {base : Nat} {spare : Nat → Bool} {held : Bool} {fuel : Nat} {cs : List Value} {x : DataW H × List MemPlace}
  (h : DataW.trod enc Tryz.prog w base spare held fuel 32 cs = some x) : ∃ (v : Value) (l : List zI), cs = [v] ∧ zbJ w (fun g => g < w.heap.size) v l := by
 obtain ⟨v, l, h1, h2, h3⟩ := zkH zI.cells zI.ok 16 (fun _ => rfl) (by omega) Tryz.underlying32 (by kernel_rfl) (fun n cs' y hy => znP hy) h
 exact ⟨v, l, h1, h2, h3⟩
theorem open_hard {H : Type} {enc : TypeId × Value → H} {w : World} {base : Nat} {spare : Nat → Bool} {held : Bool} {fuel : Nat} {cs : List Value} {x : DataW H × List MemPlace}
  (h : DataW.trod enc Tryz.prog w base spare held fuel 34 cs = some x) : ∃ (a : zC) (sv lv : Value), cs = a.cells sv lv ∧ zY w (fun g => g < w.heap.size) sv lv a ∧ a.ok := by
 obtain ⟨ys, m, _, _, hlen, hys, hf⟩ := DataW.trod_struct Tryz.underlying34 h
 have hc : Tryz.prog.cellsOf 34 = 10 := by kernel_rfl
 rw [hc] at hlen
 match cs, hlen with
 | [a0, a1, a2, a3, a4, a5, a6, a7, a8, a9], _ =>
  have g0 : DataW.trod enc Tryz.prog w base spare held m 3 (([a0, a1, a2, a3, a4, a5, a6, a7, a8, a9].drop 0).take (Tryz.prog.cellsOf 3)) = ys[0]? := hf 0 _ rfl
  have g1 : DataW.trod enc Tryz.prog w base spare held m 3 (([a0, a1, a2, a3, a4, a5, a6, a7, a8, a9].drop 1).take (Tryz.prog.cellsOf 3)) = ys[1]? := hf 1 _ rfl
  have g2 : DataW.trod enc Tryz.prog w base spare held m 3 (([a0, a1, a2, a3, a4, a5, a6, a7, a8, a9].drop 2).take (Tryz.prog.cellsOf 3)) = ys[2]? := hf 2 _ rfl
  have g3 : DataW.trod enc Tryz.prog w base spare held m 3 (([a0, a1, a2, a3, a4, a5, a6, a7, a8, a9].drop 3).take (Tryz.prog.cellsOf 3)) = ys[3]? := hf 3 _ rfl
  have g4 : DataW.trod enc Tryz.prog w base spare held m 23 (([a0, a1, a2, a3, a4, a5, a6, a7, a8, a9].drop 4).take (Tryz.prog.cellsOf 23)) = ys[4]? := hf 4 _ rfl
  have g5 : DataW.trod enc Tryz.prog w base spare held m 25 (([a0, a1, a2, a3, a4, a5, a6, a7, a8, a9].drop 8).take (Tryz.prog.cellsOf 25)) = ys[5]? := hf 5 _ rfl
  have g6 : DataW.trod enc Tryz.prog w base spare held m 32 (([a0, a1, a2, a3, a4, a5, a6, a7, a8, a9].drop 9).take (Tryz.prog.cellsOf 32)) = ys[6]? := hf 6 _ rfl
  have c0 : Tryz.prog.cellsOf 3 = 1 := by kernel_rfl
  have c2 : Tryz.prog.cellsOf 32 = 1 := by kernel_rfl
  have c3 : Tryz.prog.cellsOf 23 = 4 := by kernel_rfl
  have c4 : Tryz.prog.cellsOf 25 = 1 := by kernel_rfl
  simp only [c0, c2, c3, c4, List.drop_succ_cons, List.drop_zero, List.take_succ_cons, List.take_zero] at g0 g1 g2 g3 g4 g5 g6
  have hys' : ys.length = 7 := hys
  rw [List.getElem?_eq_getElem (by omega)] at g0 g1 g2 g3 g4 g5 g6
  obtain ⟨n0, e0, b0⟩ := xW Tryz.underlying3 g0
  obtain ⟨n1, e1, b1⟩ := xW Tryz.underlying3 g1
  obtain ⟨n2, e2, b2⟩ := xW Tryz.underlying3 g2
  obtain ⟨n3, e3, b3⟩ := xW Tryz.underlying3 g3
  obtain ⟨n4, e4, b4⟩ := zjZ g4
  obtain ⟨n5, l5, e5, b5⟩ := zg8 Tryz.underlying25 Tryz.underlying5 (by kernel_rfl) g5
  obtain ⟨n6, l6, e6, b6⟩ := ze1 g6
  simp only [List.cons.injEq, and_true] at e0 e1 e2 e3 e4 e5 e6
  subst e0 e1 e2 e3 e5 e6
  obtain ⟨rfl, rfl, rfl, rfl⟩ := e4
  exact ⟨⟨n0, n1, n2, n3, n4, l5, l6⟩, a8, a9, rfl, ⟨b5, b6⟩, b0, b1, b2, b3, b4⟩
end Go.Proofs.YtjhnlncgmejkcaaGreat
set_option maxRecDepth 100000
namespace Go.Proofs.YtjhnlncgmejkcaaGreat
open Go.RowKit Go.ChangeShapes Go.WideShapes Go.Deep
theorem open_act {H : Type} {enc : TypeId × Value → H} {w : World} {base : Nat} {spare : Nat → Bool} {held : Bool} {fuel : Nat} {cs : List Value} {x : DataW H × List MemPlace}
  (h : DataW.trod enc Tryz.prog w base spare held fuel 41 cs = some x) : ∃ a : zbA, cs = a.cells ∧ a.ok w (fun g => g < w.heap.size) := by
 obtain ⟨ys, m, _, _, hlen, hys, hf⟩ := DataW.trod_struct Tryz.underlying41 h
 have hc : Tryz.prog.cellsOf 41 = 15 := by kernel_rfl
 rw [hc] at hlen
 match cs, hlen with
 | [a0, a1, a2, a3, a4, a5, a6, a7, a8, a9, a10, a11, a12, a13, a14], _ =>
  have g0 : DataW.trod enc Tryz.prog w base spare held m 3 (([a0, a1, a2, a3, a4, a5, a6, a7, a8, a9, a10, a11, a12, a13, a14].drop 0).take (Tryz.prog.cellsOf 3)) = ys[0]? := hf 0 _ rfl
  have g1 : DataW.trod enc Tryz.prog w base spare held m 3 (([a0, a1, a2, a3, a4, a5, a6, a7, a8, a9, a10, a11, a12, a13, a14].drop 1).take (Tryz.prog.cellsOf 3)) = ys[1]? := hf 1 _ rfl
  have g2 : DataW.trod enc Tryz.prog w base spare held m 3 (([a0, a1, a2, a3, a4, a5, a6, a7, a8, a9, a10, a11, a12, a13, a14].drop 2).take (Tryz.prog.cellsOf 3)) = ys[2]? := hf 2 _ rfl
  have g3 : DataW.trod enc Tryz.prog w base spare held m 34 (([a0, a1, a2, a3, a4, a5, a6, a7, a8, a9, a10, a11, a12, a13, a14].drop 3).take (Tryz.prog.cellsOf 34)) = ys[3]? := hf 3 _ rfl
  have g4 : DataW.trod enc Tryz.prog w base spare held m 32 (([a0, a1, a2, a3, a4, a5, a6, a7, a8, a9, a10, a11, a12, a13, a14].drop 13).take (Tryz.prog.cellsOf 32)) = ys[4]? := hf 4 _ rfl
  have g5 : DataW.trod enc Tryz.prog w base spare held m 25 (([a0, a1, a2, a3, a4, a5, a6, a7, a8, a9, a10, a11, a12, a13, a14].drop 14).take (Tryz.prog.cellsOf 25)) = ys[5]? := hf 5 _ rfl
  have c0 : Tryz.prog.cellsOf 3 = 1 := by kernel_rfl
  have c2 : Tryz.prog.cellsOf 32 = 1 := by kernel_rfl
  have c3 : Tryz.prog.cellsOf 34 = 10 := by kernel_rfl
  have c4 : Tryz.prog.cellsOf 25 = 1 := by kernel_rfl
  simp only [c0, c2, c3, c4, List.drop_succ_cons, List.drop_zero, List.take_succ_cons, List.take_zero] at g0 g1 g2 g3 g4 g5
  have hys' : ys.length = 6 := hys
  rw [List.getElem?_eq_getElem (by omega)] at g0 g1 g2 g3 g4 g5
  obtain ⟨n0, e0, b0⟩ := xW Tryz.underlying3 g0
  obtain ⟨n1, e1, b1⟩ := xW Tryz.underlying3 g1
  obtain ⟨n2, e2, b2⟩ := xW Tryz.underlying3 g2
  obtain ⟨n3, sv, lv, e3, b3, ok3⟩ := open_hard g3
  obtain ⟨n4, l4, e4, b4⟩ := ze1 g4
  obtain ⟨n5, l5, e5, b5⟩ := zg8 Tryz.underlying25 Tryz.underlying5 (by kernel_rfl) g5
  simp only [List.cons.injEq, and_true] at e0 e1 e2 e3 e4 e5
  subst e0 e1 e2 e4 e5
  obtain ⟨rfl, rfl, rfl, rfl, rfl, rfl, rfl, rfl, rfl, rfl⟩ := e3
  exact ⟨⟨⟨n0, n1, n2, n3, l4, l5⟩, _, _, _, _⟩, rfl, b0, b1, b2, ok3, b3, b4, b5⟩
theorem open_acts {H : Type} {enc : TypeId × Value → H} {w : World} {base : Nat} {spare : Nat → Bool} {held : Bool} {fuel : Nat} {v : Value} {x : DataW H × List MemPlace}
  (h : DataW.trod enc Tryz.prog w base spare held fuel 24 [v] = some x) : ∃ l : List zbA, Acts w (fun g => g < w.heap.size) v l := by
 obtain ⟨v', l, h1, h2, h3⟩ := zkH zbA.cells (fun a => a.ok w (fun g => g < w.heap.size)) 15 (fun _ => rfl) (by omega) Tryz.underlying24 (by kernel_rfl) (fun n cs' y hy => open_act hy) h
 simp only [List.cons.injEq, and_true] at h1
 subst h1
 exact ⟨l, h2, h3⟩
end Go.Proofs.YtjhnlncgmejkcaaGreat
namespace Go.Proofs.YtjhnlncgmejkcaaGreat
open Go.RowKit Go.ChangeShapes Go.WideShapes Go.Deep
theorem val_agg {H : Type} {enc : TypeId × Value → H} {P : Program} {w : World} {base b0 : Nat} {spare : Nat → Bool} {held : Bool} {r : Reach} {t : TypeId} {fs : Array Field} {v : Value} {d : DataW H} {p : List MemPlace} (ht : P.underlying t = some (.struct fs))
  (hv : Value.okWide P w r b0 t v) (h : DataW.Trod enc P w base spare held t v d p) : ∃ (cs : Array Value) (fuel : Nat), v = .agg cs ∧ DataW.trod enc P w base spare held fuel t cs.toList = some (d, p) := by
 obtain ⟨cs, rfl, _⟩ := okWide_struct ht hv
 obtain ⟨fuel, hf⟩ := h
 exact ⟨cs, fuel, rfl, by simpa [Value.cells] using hf⟩
end Go.Proofs.YtjhnlncgmejkcaaGreat
