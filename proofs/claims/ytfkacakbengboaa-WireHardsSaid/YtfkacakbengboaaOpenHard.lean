/-
 From the reading of an argument to a hard state. Conditions: as each theorem names them.
-/
import Derived.Test.YtfkacakbengboaaOpenApi
import Derived.Test.YtfkacakbengboaaWireH1
namespace Go.Proofs.Ytfkacakbengboaa
open Go.RowKit Go.ChangeShapes Go.WideShapes Go.Deep

set_option maxRecDepth 100000 in
theorem open_hard {H : Type} {enc : TypeId × Value → H} {w : World} {base : Nat} {spare : Nat → Bool} {held : Bool} {fuel : Nat} {cs : List Value} {x : DataW H × List MemPlace}
  (h : DataW.trod enc Try.prog w base spare held fuel 54 cs = some x) : ∃ (a : AHard) (sv lv : Value), cs = a.cells sv lv ∧ HardM w (fun g => g < w.heap.size) sv lv a ∧ a.ok := by
 obtain ⟨ys, m, _, _, hlen, hys, hf⟩ := DataW.trod_struct Try.underlying54 h
 have hc : Try.prog.cellsOf 54 = 10 := by kernel_rfl
 rw [hc] at hlen
 match cs, hlen with
 | [a0, a1, a2, a3, a4, a5, a6, a7, a8, a9], _ =>
  have g0 : DataW.trod enc Try.prog w base spare held m 3 (([a0, a1, a2, a3, a4, a5, a6, a7, a8, a9].drop 0).take (Try.prog.cellsOf 3)) = ys[0]? := hf 0 _ rfl
  have g1 : DataW.trod enc Try.prog w base spare held m 3 (([a0, a1, a2, a3, a4, a5, a6, a7, a8, a9].drop 1).take (Try.prog.cellsOf 3)) = ys[1]? := hf 1 _ rfl
  have g2 : DataW.trod enc Try.prog w base spare held m 3 (([a0, a1, a2, a3, a4, a5, a6, a7, a8, a9].drop 2).take (Try.prog.cellsOf 3)) = ys[2]? := hf 2 _ rfl
  have g3 : DataW.trod enc Try.prog w base spare held m 3 (([a0, a1, a2, a3, a4, a5, a6, a7, a8, a9].drop 3).take (Try.prog.cellsOf 3)) = ys[3]? := hf 3 _ rfl
  have g4 : DataW.trod enc Try.prog w base spare held m 24 (([a0, a1, a2, a3, a4, a5, a6, a7, a8, a9].drop 4).take (Try.prog.cellsOf 24)) = ys[4]? := hf 4 _ rfl
  have g5 : DataW.trod enc Try.prog w base spare held m 25 (([a0, a1, a2, a3, a4, a5, a6, a7, a8, a9].drop 8).take (Try.prog.cellsOf 25)) = ys[5]? := hf 5 _ rfl
  have g6 : DataW.trod enc Try.prog w base spare held m 22 (([a0, a1, a2, a3, a4, a5, a6, a7, a8, a9].drop 9).take (Try.prog.cellsOf 22)) = ys[6]? := hf 6 _ rfl
  have c0 : Try.prog.cellsOf 3 = 1 := by kernel_rfl
  have c2 : Try.prog.cellsOf 22 = 1 := by kernel_rfl
  have c3 : Try.prog.cellsOf 24 = 4 := by kernel_rfl
  have c4 : Try.prog.cellsOf 25 = 1 := by kernel_rfl
  simp only [c0, c2, c3, c4, List.drop_succ_cons, List.drop_zero, List.take_succ_cons, List.take_zero] at g0 g1 g2 g3 g4 g5 g6
  have hys' : ys.length = 7 := hys
  rw [List.getElem?_eq_getElem (by omega)] at g0 g1 g2 g3 g4 g5 g6
  obtain ⟨n0, e0, b0⟩ := trod_i64 Try.underlying3 g0
  obtain ⟨n1, e1, b1⟩ := trod_i64 Try.underlying3 g1
  obtain ⟨n2, e2, b2⟩ := trod_i64 Try.underlying3 g2
  obtain ⟨n3, e3, b3⟩ := trod_i64 Try.underlying3 g3
  obtain ⟨n4, e4, b4⟩ := open_conf g4
  obtain ⟨n5, l5, e5, b5⟩ := open_bytes Try.underlying25 Try.underlying5 (by kernel_rfl) g5
  obtain ⟨n6, l6, e6, b6⟩ := open_entries g6
  simp only [List.cons.injEq, and_true] at e0 e1 e2 e3 e4 e5 e6
  subst e0 e1 e2 e3 e5 e6
  obtain ⟨rfl, rfl, rfl, rfl⟩ := e4
  exact ⟨⟨n0, n1, n2, n3, n4, l5, l6⟩, a8, a9, rfl, ⟨b5, b6⟩, b0, b1, b2, b3, b4⟩
end Go.Proofs.Ytfkacakbengboaa
