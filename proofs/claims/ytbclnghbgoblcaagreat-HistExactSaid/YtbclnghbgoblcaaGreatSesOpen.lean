/-
 From the reading of an argument (the form's own) to calls, machines and lists of calls. Conditions: as each theorem names them.
-/
import Derived.Test.YtbclnghbgoblcaaGreatKvOpen
import Derived.Test.YtbclnghbgoblcaaGreatSesLib
namespace Go.Proofs.YtbclnghbgoblcaaGreat
open Go.RowKit Go.ChangeShapes Go.WideShapes Go.Deep

set_option maxRecDepth 100000 in
theorem open_call {H : Type} {enc : TypeId × Value → H} {w : World} {base : Nat} {spare : Nat → Bool} {held : Bool} {fuel : Nat} {cs : List Value} {x : DataW H × List MemPlace}
  (h : DataW.trod enc Tryz.prog w base spare held fuel 44 cs = some x) : ∃ a : ACall, cs = a.cells ∧ a.ok := by
 obtain ⟨ys, m, _, _, hlen, hys, hf⟩ := DataW.trod_struct Tryz.underlying44 h
 have hc : Tryz.prog.cellsOf 44 = 10 := by kernel_rfl
 rw [hc] at hlen
 match cs, hlen with
 | [a0, a1, a2, a3, a4, a5, a6, a7, a8, a9], _ =>
  have g0 : DataW.trod enc Tryz.prog w base spare held m 3 (([a0, a1, a2, a3, a4, a5, a6, a7, a8, a9].drop 0).take (Tryz.prog.cellsOf 3)) = ys[0]? := hf 0 _ rfl
  have g1 : DataW.trod enc Tryz.prog w base spare held m 3 (([a0, a1, a2, a3, a4, a5, a6, a7, a8, a9].drop 1).take (Tryz.prog.cellsOf 3)) = ys[1]? := hf 1 _ rfl
  have g2 : DataW.trod enc Tryz.prog w base spare held m 42 (([a0, a1, a2, a3, a4, a5, a6, a7, a8, a9].drop 2).take (Tryz.prog.cellsOf 42)) = ys[2]? := hf 2 _ rfl
  have c0 : Tryz.prog.cellsOf 3 = 1 := by kernel_rfl
  have c1 : Tryz.prog.cellsOf 42 = 8 := by kernel_rfl
  simp only [c0, c1, List.drop_succ_cons, List.drop_zero, List.take_succ_cons, List.take_zero] at g0 g1 g2
  have hys' : ys.length = 3 := hys
  rw [List.getElem?_eq_getElem (by omega)] at g0 g1 g2
  obtain ⟨n0, e0, b0⟩ := trod_i64 Tryz.underlying3 g0
  obtain ⟨n1, e1, b1⟩ := trod_i64 Tryz.underlying3 g1
  obtain ⟨n2, e2, b2⟩ := open_cmd g2
  simp only [List.cons.injEq, and_true] at e0 e1 e2
  subst e0
  subst e1
  obtain ⟨rfl, rfl, rfl, rfl, rfl, rfl, rfl, rfl⟩ := e2
  exact ⟨⟨n0, n1, n2⟩, rfl, b0, b1, b2⟩
set_option maxRecDepth 100000 in
theorem open_reply {H : Type} {enc : TypeId × Value → H} {w : World} {base : Nat} {spare : Nat → Bool} {held : Bool} {fuel : Nat} {cs : List Value} {x : DataW H × List MemPlace}
  (h : DataW.trod enc Tryz.prog w base spare held fuel 46 cs = some x) : ∃ a : AReply, cs = a.cells ∧ a.ok := by
 obtain ⟨ys, m, _, _, hlen, hys, hf⟩ := DataW.trod_struct Tryz.underlying46 h
 have hc : Tryz.prog.cellsOf 46 = 4 := by kernel_rfl
 rw [hc] at hlen
 match cs, hlen with
 | [a0, a1, a2, a3], _ =>
  have g0 : DataW.trod enc Tryz.prog w base spare held m 27 (([a0, a1, a2, a3].drop 0).take (Tryz.prog.cellsOf 27)) = ys[0]? := hf 0 _ rfl
  have g1 : DataW.trod enc Tryz.prog w base spare held m 40 (([a0, a1, a2, a3].drop 1).take (Tryz.prog.cellsOf 40)) = ys[1]? := hf 1 _ rfl
  have c0 : Tryz.prog.cellsOf 27 = 1 := by kernel_rfl
  have c1 : Tryz.prog.cellsOf 40 = 3 := by kernel_rfl
  simp only [c0, c1, List.drop_succ_cons, List.drop_zero, List.take_succ_cons, List.take_zero] at g0 g1
  have hys' : ys.length = 2 := hys
  rw [List.getElem?_eq_getElem (by omega)] at g0 g1
  obtain ⟨n0, e0, b0⟩ := trod_i64 Tryz.underlying27 g0
  obtain ⟨n1, e1, b1⟩ := open_val g1
  simp only [List.cons.injEq, and_true] at e0 e1
  subst e0
  obtain ⟨rfl, rfl, rfl⟩ := e1
  exact ⟨⟨n0, n1⟩, rfl, b0, b1⟩
set_option maxRecDepth 100000 in
theorem open_sess {H : Type} {enc : TypeId × Value → H} {w : World} {base : Nat} {spare : Nat → Bool} {held : Bool} {fuel : Nat} {cs : List Value} {x : DataW H × List MemPlace}
  (h : DataW.trod enc Tryz.prog w base spare held fuel 72 cs = some x) : ∃ a : ASess, cs = a.cells ∧ a.ok := by
 obtain ⟨ys, m, _, _, hlen, hys, hf⟩ := DataW.trod_struct Tryz.underlying72 h
 have hc : Tryz.prog.cellsOf 72 = 6 := by kernel_rfl
 rw [hc] at hlen
 match cs, hlen with
 | [a0, a1, a2, a3, a4, a5], _ =>
  have g0 : DataW.trod enc Tryz.prog w base spare held m 3 (([a0, a1, a2, a3, a4, a5].drop 0).take (Tryz.prog.cellsOf 3)) = ys[0]? := hf 0 _ rfl
  have g1 : DataW.trod enc Tryz.prog w base spare held m 3 (([a0, a1, a2, a3, a4, a5].drop 1).take (Tryz.prog.cellsOf 3)) = ys[1]? := hf 1 _ rfl
  have g2 : DataW.trod enc Tryz.prog w base spare held m 46 (([a0, a1, a2, a3, a4, a5].drop 2).take (Tryz.prog.cellsOf 46)) = ys[2]? := hf 2 _ rfl
  have c0 : Tryz.prog.cellsOf 3 = 1 := by kernel_rfl
  have c1 : Tryz.prog.cellsOf 46 = 4 := by kernel_rfl
  simp only [c0, c1, List.drop_succ_cons, List.drop_zero, List.take_succ_cons, List.take_zero] at g0 g1 g2
  have hys' : ys.length = 3 := hys
  rw [List.getElem?_eq_getElem (by omega)] at g0 g1 g2
  obtain ⟨n0, e0, b0⟩ := trod_i64 Tryz.underlying3 g0
  obtain ⟨n1, e1, b1⟩ := trod_i64 Tryz.underlying3 g1
  obtain ⟨n2, e2, b2⟩ := open_reply g2
  simp only [List.cons.injEq, and_true] at e0 e1 e2
  subst e0
  subst e1
  obtain ⟨rfl, rfl, rfl, rfl⟩ := e2
  exact ⟨⟨n0, n1, n2⟩, rfl, b0, b1, b2⟩
theorem open_sesss {H : Type} {enc : TypeId × Value → H} {w : World} {base : Nat} {spare : Nat → Bool} {held : Bool} {fuel : Nat} {cs : List Value} {x : DataW H × List MemPlace}
  (h : DataW.trod enc Tryz.prog w base spare held fuel 31 cs = some x) : ∃ (v : Value) (l : List ASess), cs = [v] ∧ Ses w (fun g => g < w.heap.size) v l := by
 obtain ⟨v, l, h1, h2, h3⟩ := open_sl ASess.cells ASess.ok 6 (fun _ => rfl) (by omega) Tryz.underlying31 (by kernel_rfl) (fun n cs' y hy => open_sess hy) h
 exact ⟨v, l, h1, h2, h3⟩
set_option maxRecDepth 100000 in
theorem open_mach {H : Type} {enc : TypeId × Value → H} {w : World} {base : Nat} {spare : Nat → Bool} {held : Bool} {fuel : Nat} {cs : List Value} {x : DataW H × List MemPlace}
  (h : DataW.trod enc Tryz.prog w base spare held fuel 33 cs = some x) : ∃ (pv v : Value) (p : List APair) (l : List ASess), cs = [pv, v] ∧ Prs w (fun g => g < w.heap.size) pv p ∧ Ses w (fun g => g < w.heap.size) v l := by
 obtain ⟨ys, m, _, _, hlen, hys, hf⟩ := DataW.trod_struct Tryz.underlying33 h
 have hc : Tryz.prog.cellsOf 33 = 2 := by kernel_rfl
 rw [hc] at hlen
 match cs, hlen with
 | [a0, a1], _ =>
  have g0 : DataW.trod enc Tryz.prog w base spare held m 30 (([a0, a1].drop 0).take (Tryz.prog.cellsOf 30)) = ys[0]? := hf 0 _ rfl
  have g1 : DataW.trod enc Tryz.prog w base spare held m 31 (([a0, a1].drop 1).take (Tryz.prog.cellsOf 31)) = ys[1]? := hf 1 _ rfl
  have c0 : Tryz.prog.cellsOf 30 = 1 := by kernel_rfl
  have c1 : Tryz.prog.cellsOf 31 = 1 := by kernel_rfl
  simp only [c0, c1, List.drop_succ_cons, List.drop_zero, List.take_succ_cons, List.take_zero] at g0 g1
  have hys' : ys.length = 2 := hys
  rw [List.getElem?_eq_getElem (by omega)] at g0 g1
  obtain ⟨n0, l0, e0, b0⟩ := open_pairs g0
  obtain ⟨n1, l1, e1, b1⟩ := open_sesss g1
  simp only [List.cons.injEq, and_true] at e0 e1
  subst e0
  subst e1
  exact ⟨_, _, l0, l1, rfl, b0, b1⟩
end Go.Proofs.YtbclnghbgoblcaaGreat
