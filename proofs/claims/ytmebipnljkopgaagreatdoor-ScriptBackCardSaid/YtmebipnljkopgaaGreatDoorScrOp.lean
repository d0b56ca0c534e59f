/-
  From the reading of an argument to an act. Conditions: as each theorem names them.
-/
import Derived.Test.YtmebipnljkopgaaGreatDoorLawScriptLines
import Derived.Test.YtmebipnljkopgaaGreatDoorOpen
import Derived.Test.YtmebipnljkopgaaGreatDoorOpenAgg
namespace Go.Proofs.YtmebipnljkopgaaGreatDoor
open Go.RowKit Go.ChangeShapes Go.WideShapes Go.Deep
set_option maxRecDepth 100000 in
theorem open_val {H : Type} {enc : TypeId × Value → H} {w : World} {base : Nat} {spare : Nat → Bool} {held : Bool} {fuel : Nat} {cs : List Value} {x : DataW H × List MemPlace}
    (h : DataW.trod enc Tryz.prog w base spare held fuel 24 cs = some x) : ∃ a : AVal, cs = a.cells ∧ a.ok := by
  obtain ⟨ys, m, _, _, hlen, hys, hf⟩ := DataW.trod_struct Tryz.underlying24 h
  have hc : Tryz.prog.cellsOf 24 = 3 := by kernel_rfl
  rw [hc] at hlen
  match cs, hlen with
  | [a0, a1, a2], _ =>
    have g0 : DataW.trod enc Tryz.prog w base spare held m 3 (([a0, a1, a2].drop 0).take (Tryz.prog.cellsOf 3)) = ys[0]? := hf 0 _ rfl
    have g1 : DataW.trod enc Tryz.prog w base spare held m 22 (([a0, a1, a2].drop 1).take (Tryz.prog.cellsOf 22)) = ys[1]? := hf 1 _ rfl
    have g2 : DataW.trod enc Tryz.prog w base spare held m 9 (([a0, a1, a2].drop 2).take (Tryz.prog.cellsOf 9)) = ys[2]? := hf 2 _ rfl
    have c0 : Tryz.prog.cellsOf 3 = 1 := by kernel_rfl
    have c1 : Tryz.prog.cellsOf 22 = 1 := by kernel_rfl
    have c2 : Tryz.prog.cellsOf 9 = 1 := by kernel_rfl
    simp only [c0, c1, c2, List.drop_succ_cons, List.drop_zero, List.take_succ_cons, List.take_zero] at g0 g1 g2
    have hys' : ys.length = 3 := hys
    rw [List.getElem?_eq_getElem (by omega)] at g0 g1 g2
    obtain ⟨n0, e0, b0⟩ := trod_i64 Tryz.underlying3 g0
    obtain ⟨n1, e1, b1⟩ := trod_f64 Tryz.underlying22 g1
    obtain ⟨n2, e2, _, b2⟩ := DataW.trod_string Tryz.underlying9 g2
    simp only [List.cons.injEq, and_true] at e0 e1 e2
    subst e0
    subst e1
    subst e2
    exact ⟨⟨n0, n1, n2⟩, rfl, b0, b1, b2⟩
set_option maxRecDepth 100000 in
theorem open_cmd {H : Type} {enc : TypeId × Value → H} {w : World} {base : Nat} {spare : Nat → Bool} {held : Bool} {fuel : Nat} {cs : List Value} {x : DataW H × List MemPlace}
    (h : DataW.trod enc Tryz.prog w base spare held fuel 26 cs = some x) : ∃ a : ACmd, cs = a.cells ∧ a.ok := by
  obtain ⟨ys, m, _, _, hlen, hys, hf⟩ := DataW.trod_struct Tryz.underlying26 h
  have hc : Tryz.prog.cellsOf 26 = 8 := by kernel_rfl
  rw [hc] at hlen
  match cs, hlen with
  | [a0, a1, a2, a3, a4, a5, a6, a7], _ =>
    have g0 : DataW.trod enc Tryz.prog w base spare held m 3 (([a0, a1, a2, a3, a4, a5, a6, a7].drop 0).take (Tryz.prog.cellsOf 3)) = ys[0]? := hf 0 _ rfl
    have g1 : DataW.trod enc Tryz.prog w base spare held m 9 (([a0, a1, a2, a3, a4, a5, a6, a7].drop 1).take (Tryz.prog.cellsOf 9)) = ys[1]? := hf 1 _ rfl
    have g2 : DataW.trod enc Tryz.prog w base spare held m 24 (([a0, a1, a2, a3, a4, a5, a6, a7].drop 2).take (Tryz.prog.cellsOf 24)) = ys[2]? := hf 2 _ rfl
    have g3 : DataW.trod enc Tryz.prog w base spare held m 24 (([a0, a1, a2, a3, a4, a5, a6, a7].drop 5).take (Tryz.prog.cellsOf 24)) = ys[3]? := hf 3 _ rfl
    have c0 : Tryz.prog.cellsOf 3 = 1 := by kernel_rfl
    have c1 : Tryz.prog.cellsOf 9 = 1 := by kernel_rfl
    have c2 : Tryz.prog.cellsOf 24 = 3 := by kernel_rfl
    simp only [c0, c1, c2, List.drop_succ_cons, List.drop_zero, List.take_succ_cons, List.take_zero] at g0 g1 g2 g3
    have hys' : ys.length = 4 := hys
    rw [List.getElem?_eq_getElem (by omega)] at g0 g1 g2 g3
    obtain ⟨n0, e0, b0⟩ := trod_i64 Tryz.underlying3 g0
    obtain ⟨n1, e1, _, b1⟩ := DataW.trod_string Tryz.underlying9 g1
    obtain ⟨n2, e2, b2⟩ := open_val g2
    obtain ⟨n3, e3, b3⟩ := open_val g3
    simp only [List.cons.injEq, and_true] at e0 e1 e2 e3
    subst e0
    subst e1
    obtain ⟨rfl, rfl, rfl⟩ := e2
    obtain ⟨rfl, rfl, rfl⟩ := e3
    exact ⟨⟨n0, n1, n2, n3⟩, rfl, b0, b1, b2, b3⟩
set_option maxRecDepth 100000 in
theorem open_conf {H : Type} {enc : TypeId × Value → H} {w : World} {base : Nat} {spare : Nat → Bool} {held : Bool} {fuel : Nat} {cs : List Value} {x : DataW H × List MemPlace}
    (h : DataW.trod enc Tryz.prog w base spare held fuel 28 cs = some x) : ∃ a : AConf, cs = a.cells ∧ a.ok := by
  obtain ⟨ys, m, _, _, hlen, hys, hf⟩ := DataW.trod_struct Tryz.underlying28 h
  have hc : Tryz.prog.cellsOf 28 = 4 := by kernel_rfl
  rw [hc] at hlen
  match cs, hlen with
  | [a0, a1, a2, a3], _ =>
    have g0 : DataW.trod enc Tryz.prog w base spare held m 3 (([a0, a1, a2, a3].drop 0).take (Tryz.prog.cellsOf 3)) = ys[0]? := hf 0 _ rfl
    have g1 : DataW.trod enc Tryz.prog w base spare held m 3 (([a0, a1, a2, a3].drop 1).take (Tryz.prog.cellsOf 3)) = ys[1]? := hf 1 _ rfl
    have g2 : DataW.trod enc Tryz.prog w base spare held m 3 (([a0, a1, a2, a3].drop 2).take (Tryz.prog.cellsOf 3)) = ys[2]? := hf 2 _ rfl
    have g3 : DataW.trod enc Tryz.prog w base spare held m 3 (([a0, a1, a2, a3].drop 3).take (Tryz.prog.cellsOf 3)) = ys[3]? := hf 3 _ rfl
    have c0 : Tryz.prog.cellsOf 3 = 1 := by kernel_rfl
    simp only [c0, List.drop_succ_cons, List.drop_zero, List.take_succ_cons, List.take_zero] at g0 g1 g2 g3
    have hys' : ys.length = 4 := hys
    rw [List.getElem?_eq_getElem (by omega)] at g0 g1 g2 g3
    obtain ⟨n0, e0, b0⟩ := trod_i64 Tryz.underlying3 g0
    obtain ⟨n1, e1, b1⟩ := trod_i64 Tryz.underlying3 g1
    obtain ⟨n2, e2, b2⟩ := trod_i64 Tryz.underlying3 g2
    obtain ⟨n3, e3, b3⟩ := trod_i64 Tryz.underlying3 g3
    simp only [List.cons.injEq, and_true] at e0 e1 e2 e3
    subst e0
    subst e1
    subst e2
    subst e3
    exact ⟨⟨n0, n1, n2, n3⟩, rfl, b0, b1, b2, b3⟩
set_option maxRecDepth 100000 in
theorem open_act27 {H : Type} {enc : TypeId × Value → H} {w : World} {base : Nat} {spare : Nat → Bool} {held : Bool} {fuel : Nat} {cs : List Value} {x : DataW H × List MemPlace}
    (h : DataW.trod enc Tryz.prog w base spare held fuel 31 cs = some x) : ∃ (a : AAct) (bv : Value), cs = a.cells bv ∧ Byt w (fun g => g < w.heap.size) bv a.bytes ∧ AIn a := by
  obtain ⟨ys, m, _, _, hlen, hys, hf⟩ := DataW.trod_struct Tryz.underlying31 h
  have hc : Tryz.prog.cellsOf 31 = 18 := by kernel_rfl
  rw [hc] at hlen
  match cs, hlen with
  | [a0, a1, a2, a3, a4, a5, a6, a7, a8, a9, a10, a11, a12, a13, a14, a15, a16, a17], _ =>
    have g0 : DataW.trod enc Tryz.prog w base spare held m 3 (([a0, a1, a2, a3, a4, a5, a6, a7, a8, a9, a10, a11, a12, a13, a14, a15, a16, a17].drop 0).take (Tryz.prog.cellsOf 3)) = ys[0]? := hf 0 _ rfl
    have g1 : DataW.trod enc Tryz.prog w base spare held m 3 (([a0, a1, a2, a3, a4, a5, a6, a7, a8, a9, a10, a11, a12, a13, a14, a15, a16, a17].drop 1).take (Tryz.prog.cellsOf 3)) = ys[1]? := hf 1 _ rfl
    have g2 : DataW.trod enc Tryz.prog w base spare held m 3 (([a0, a1, a2, a3, a4, a5, a6, a7, a8, a9, a10, a11, a12, a13, a14, a15, a16, a17].drop 2).take (Tryz.prog.cellsOf 3)) = ys[2]? := hf 2 _ rfl
    have g3 : DataW.trod enc Tryz.prog w base spare held m 3 (([a0, a1, a2, a3, a4, a5, a6, a7, a8, a9, a10, a11, a12, a13, a14, a15, a16, a17].drop 3).take (Tryz.prog.cellsOf 3)) = ys[3]? := hf 3 _ rfl
    have g4 : DataW.trod enc Tryz.prog w base spare held m 3 (([a0, a1, a2, a3, a4, a5, a6, a7, a8, a9, a10, a11, a12, a13, a14, a15, a16, a17].drop 4).take (Tryz.prog.cellsOf 3)) = ys[4]? := hf 4 _ rfl
    have g5 : DataW.trod enc Tryz.prog w base spare held m 26 (([a0, a1, a2, a3, a4, a5, a6, a7, a8, a9, a10, a11, a12, a13, a14, a15, a16, a17].drop 5).take (Tryz.prog.cellsOf 26)) = ys[5]? := hf 5 _ rfl
    have g6 : DataW.trod enc Tryz.prog w base spare held m 28 (([a0, a1, a2, a3, a4, a5, a6, a7, a8, a9, a10, a11, a12, a13, a14, a15, a16, a17].drop 13).take (Tryz.prog.cellsOf 28)) = ys[6]? := hf 6 _ rfl
    have g7 : DataW.trod enc Tryz.prog w base spare held m 29 (([a0, a1, a2, a3, a4, a5, a6, a7, a8, a9, a10, a11, a12, a13, a14, a15, a16, a17].drop 17).take (Tryz.prog.cellsOf 29)) = ys[7]? := hf 7 _ rfl
    have c0 : Tryz.prog.cellsOf 3 = 1 := by kernel_rfl
    have c2 : Tryz.prog.cellsOf 26 = 8 := by kernel_rfl
    have c3 : Tryz.prog.cellsOf 28 = 4 := by kernel_rfl
    have c4 : Tryz.prog.cellsOf 29 = 1 := by kernel_rfl
    simp only [c0, c2, c3, c4, List.drop_succ_cons, List.drop_zero, List.take_succ_cons, List.take_zero] at g0 g1 g2 g3 g4 g5 g6 g7
    have hys' : ys.length = 8 := hys
    rw [List.getElem?_eq_getElem (by omega)] at g0 g1 g2 g3 g4 g5 g6 g7
    obtain ⟨n0, e0, b0⟩ := trod_i64 Tryz.underlying3 g0
    obtain ⟨n1, e1, b1⟩ := trod_i64 Tryz.underlying3 g1
    obtain ⟨n2, e2, b2⟩ := trod_i64 Tryz.underlying3 g2
    obtain ⟨n3, e3, b3⟩ := trod_i64 Tryz.underlying3 g3
    obtain ⟨n4, e4, b4⟩ := trod_i64 Tryz.underlying3 g4
    obtain ⟨n5, e5, b5⟩ := open_cmd g5
    obtain ⟨n6, e6, b6⟩ := open_conf g6
    obtain ⟨n7, l7, e7, b7⟩ := open_bytes Tryz.underlying29 Tryz.underlying5 (by kernel_rfl) g7
    simp only [List.cons.injEq, and_true] at e0 e1 e2 e3 e4 e5 e6 e7
    subst e0 e1 e2 e3 e4 e7
    obtain ⟨rfl, rfl, rfl, rfl, rfl, rfl, rfl, rfl⟩ := e5
    obtain ⟨rfl, rfl, rfl, rfl⟩ := e6
    exact ⟨⟨n0, n1, n2, n3, n4, n5, n6, l7⟩, a17, rfl, b7, ⟨b1, b2, b3, b4, by intro y hy; simp only [List.mem_cons, List.not_mem_nil, or_false] at hy; rcases hy with rfl | rfl | rfl | rfl; exact b6.1; exact b6.2.1; exact b6.2.2.1; exact b6.2.2.2, b5.2.2.1.2.1, b5.2.2.2.2.1⟩⟩
end Go.Proofs.YtmebipnljkopgaaGreatDoor
