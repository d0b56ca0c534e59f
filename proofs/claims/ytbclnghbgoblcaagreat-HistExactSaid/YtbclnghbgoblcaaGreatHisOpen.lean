/-
 From the reading of an argument (the form's own) to lists of entries and of events. Conditions: as each theorem names them.
-/
import Derived.Test.YtbclnghbgoblcaaGreatSesOpen
import Derived.Test.YtbclnghbgoblcaaGreatHisSpec
namespace Go.Proofs.YtbclnghbgoblcaaGreat
open Go.RowKit Go.ChangeShapes Go.WideShapes Go.Deep

set_option maxRecDepth 100000 in
theorem open_conf {H : Type} {enc : TypeId × Value → H} {w : World} {base : Nat} {spare : Nat → Bool} {held : Bool} {fuel : Nat} {cs : List Value} {x : DataW H × List MemPlace}
  (h : DataW.trod enc Tryz.prog w base spare held fuel 65 cs = some x) : ∃ a : AConf, cs = a.cells ∧ a.ok := by
 obtain ⟨ys, m, _, _, hlen, hys, hf⟩ := DataW.trod_struct Tryz.underlying65 h
 have hc : Tryz.prog.cellsOf 65 = 4 := by kernel_rfl
 rw [hc] at hlen
 match cs, hlen with
 | [a0, a1, a2, a3], _ =>
  have g0 : DataW.trod enc Tryz.prog w base spare held m 3 (([a0, a1, a2, a3].drop 0).take (Tryz.prog.cellsOf 3)) = ys[0]? := hf 0 _ rfl
  have g1 : DataW.trod enc Tryz.prog w base spare held m 3 (([a0, a1, a2, a3].drop 1).take (Tryz.prog.cellsOf 3)) = ys[1]? := hf 1 _ rfl
  have g2 : DataW.trod enc Tryz.prog w base spare held m 3 (([a0, a1, a2, a3].drop 2).take (Tryz.prog.cellsOf 3)) = ys[2]? := hf 2 _ rfl
  have g3 : DataW.trod enc Tryz.prog w base spare held m 3 (([a0, a1, a2, a3].drop 3).take (Tryz.prog.cellsOf 3)) = ys[3]? := hf 3 _ rfl
  have c0 : Tryz.prog.cellsOf 3 = 1 := by kernel_rfl
  simp only [c0, List.drop_succ_cons, List.drop_zero, List.take_succ_cons, List.take_zero] at g0 g1 g2 g3
  have hys' : ys.length = 4 := hys
  rw [List.getElem?_eq_getElem (by omega)] at g0 g1 g2 g3
  obtain ⟨n0, e0, b0⟩ := trod_i64 Tryz.underlying3 g0
  obtain ⟨n1, e1, b1⟩ := trod_i64 Tryz.underlying3 g1
  obtain ⟨n2, e2, b2⟩ := trod_i64 Tryz.underlying3 g2
  obtain ⟨n3, e3, b3⟩ := trod_i64 Tryz.underlying3 g3
  simp only [List.cons.injEq, and_true] at e0 e1 e2 e3
  subst e0
  subst e1
  subst e2
  subst e3
  exact ⟨⟨n0, n1, n2, n3⟩, rfl, b0, b1, b2, b3⟩
set_option maxRecDepth 100000 in
theorem open_entry {H : Type} {enc : TypeId × Value → H} {w : World} {base : Nat} {spare : Nat → Bool} {held : Bool} {fuel : Nat} {cs : List Value} {x : DataW H × List MemPlace}
  (h : DataW.trod enc Tryz.prog w base spare held fuel 67 cs = some x) : ∃ a : AEntry, cs = a.cells ∧ a.ok := by
 obtain ⟨ys, m, _, _, hlen, hys, hf⟩ := DataW.trod_struct Tryz.underlying67 h
 have hc : Tryz.prog.cellsOf 67 = 16 := by kernel_rfl
 rw [hc] at hlen
 match cs, hlen with
 | [a0, a1, a2, a3, a4, a5, a6, a7, a8, a9, a10, a11, a12, a13, a14, a15], _ =>
  have g0 : DataW.trod enc Tryz.prog w base spare held m 3 (([a0, a1, a2, a3, a4, a5, a6, a7, a8, a9, a10, a11, a12, a13, a14, a15].drop 0).take (Tryz.prog.cellsOf 3)) = ys[0]? := hf 0 _ rfl
  have g1 : DataW.trod enc Tryz.prog w base spare held m 3 (([a0, a1, a2, a3, a4, a5, a6, a7, a8, a9, a10, a11, a12, a13, a14, a15].drop 1).take (Tryz.prog.cellsOf 3)) = ys[1]? := hf 1 _ rfl
  have g2 : DataW.trod enc Tryz.prog w base spare held m 44 (([a0, a1, a2, a3, a4, a5, a6, a7, a8, a9, a10, a11, a12, a13, a14, a15].drop 2).take (Tryz.prog.cellsOf 44)) = ys[2]? := hf 2 _ rfl
  have g3 : DataW.trod enc Tryz.prog w base spare held m 65 (([a0, a1, a2, a3, a4, a5, a6, a7, a8, a9, a10, a11, a12, a13, a14, a15].drop 12).take (Tryz.prog.cellsOf 65)) = ys[3]? := hf 3 _ rfl
  have c0 : Tryz.prog.cellsOf 3 = 1 := by kernel_rfl
  have c1 : Tryz.prog.cellsOf 44 = 10 := by kernel_rfl
  have c2 : Tryz.prog.cellsOf 65 = 4 := by kernel_rfl
  simp only [c0, c1, c2, List.drop_succ_cons, List.drop_zero, List.take_succ_cons, List.take_zero] at g0 g1 g2 g3
  have hys' : ys.length = 4 := hys
  rw [List.getElem?_eq_getElem (by omega)] at g0 g1 g2 g3
  obtain ⟨n0, e0, b0⟩ := trod_i64 Tryz.underlying3 g0
  obtain ⟨n1, e1, b1⟩ := trod_i64 Tryz.underlying3 g1
  obtain ⟨n2, e2, b2⟩ := open_call g2
  obtain ⟨n3, e3, b3⟩ := open_conf g3
  simp only [List.cons.injEq, and_true] at e0 e1 e2 e3
  subst e0
  subst e1
  obtain ⟨rfl, rfl, rfl, rfl, rfl, rfl, rfl, rfl, rfl, rfl⟩ := e2
  obtain ⟨rfl, rfl, rfl, rfl⟩ := e3
  exact ⟨⟨n0, n1, n2, n3⟩, rfl, b0, b1, b2, b3⟩
theorem open_entries {H : Type} {enc : TypeId × Value → H} {w : World} {base : Nat} {spare : Nat → Bool} {held : Bool} {fuel : Nat} {cs : List Value} {x : DataW H × List MemPlace}
  (h : DataW.trod enc Tryz.prog w base spare held fuel 22 cs = some x) : ∃ (v : Value) (l : List AEntry), cs = [v] ∧ Ents w (fun g => g < w.heap.size) v l := by
 obtain ⟨v, l, h1, h2, h3⟩ := open_sl AEntry.cells AEntry.ok 16 (fun _ => rfl) (by omega) Tryz.underlying22 (by kernel_rfl) (fun n cs' y hy => open_entry hy) h
 exact ⟨v, l, h1, h2, h3⟩
set_option maxRecDepth 100000 in
theorem open_told {H : Type} {enc : TypeId × Value → H} {w : World} {base : Nat} {spare : Nat → Bool} {held : Bool} {fuel : Nat} {cs : List Value} {x : DataW H × List MemPlace}
  (h : DataW.trod enc Tryz.prog w base spare held fuel 48 cs = some x) : ∃ a : ATold, cs = a.cells ∧ a.ok := by
 obtain ⟨ys, m, _, _, hlen, hys, hf⟩ := DataW.trod_struct Tryz.underlying48 h
 have hc : Tryz.prog.cellsOf 48 = 15 := by kernel_rfl
 rw [hc] at hlen
 match cs, hlen with
 | [a0, a1, a2, a3, a4, a5, a6, a7, a8, a9, a10, a11, a12, a13, a14], _ =>
  have g0 : DataW.trod enc Tryz.prog w base spare held m 44 (([a0, a1, a2, a3, a4, a5, a6, a7, a8, a9, a10, a11, a12, a13, a14].drop 0).take (Tryz.prog.cellsOf 44)) = ys[0]? := hf 0 _ rfl
  have g1 : DataW.trod enc Tryz.prog w base spare held m 46 (([a0, a1, a2, a3, a4, a5, a6, a7, a8, a9, a10, a11, a12, a13, a14].drop 10).take (Tryz.prog.cellsOf 46)) = ys[1]? := hf 1 _ rfl
  have g2 : DataW.trod enc Tryz.prog w base spare held m 3 (([a0, a1, a2, a3, a4, a5, a6, a7, a8, a9, a10, a11, a12, a13, a14].drop 14).take (Tryz.prog.cellsOf 3)) = ys[2]? := hf 2 _ rfl
  have c0 : Tryz.prog.cellsOf 44 = 10 := by kernel_rfl
  have c1 : Tryz.prog.cellsOf 46 = 4 := by kernel_rfl
  have c2 : Tryz.prog.cellsOf 3 = 1 := by kernel_rfl
  simp only [c0, c1, c2, List.drop_succ_cons, List.drop_zero, List.take_succ_cons, List.take_zero] at g0 g1 g2
  have hys' : ys.length = 3 := hys
  rw [List.getElem?_eq_getElem (by omega)] at g0 g1 g2
  obtain ⟨n0, e0, b0⟩ := open_call g0
  obtain ⟨n1, e1, b1⟩ := open_reply g1
  obtain ⟨n2, e2, b2⟩ := trod_i64 Tryz.underlying3 g2
  simp only [List.cons.injEq, and_true] at e0 e1 e2
  obtain ⟨rfl, rfl, rfl, rfl, rfl, rfl, rfl, rfl, rfl, rfl⟩ := e0
  obtain ⟨rfl, rfl, rfl, rfl⟩ := e1
  subst e2
  exact ⟨⟨n0, n1, n2⟩, rfl, b0, b1, b2⟩
set_option maxRecDepth 100000 in
theorem open_event {H : Type} {enc : TypeId × Value → H} {w : World} {base : Nat} {spare : Nat → Bool} {held : Bool} {fuel : Nat} {cs : List Value} {x : DataW H × List MemPlace}
  (h : DataW.trod enc Tryz.prog w base spare held fuel 50 cs = some x) : ∃ a : AEvent, cs = a.cells ∧ a.ok := by
 obtain ⟨ys, m, _, _, hlen, hys, hf⟩ := DataW.trod_struct Tryz.underlying50 h
 have hc : Tryz.prog.cellsOf 50 = 16 := by kernel_rfl
 rw [hc] at hlen
 match cs, hlen with
 | [a0, a1, a2, a3, a4, a5, a6, a7, a8, a9, a10, a11, a12, a13, a14, a15], _ =>
  have g0 : DataW.trod enc Tryz.prog w base spare held m 4 (([a0, a1, a2, a3, a4, a5, a6, a7, a8, a9, a10, a11, a12, a13, a14, a15].drop 0).take (Tryz.prog.cellsOf 4)) = ys[0]? := hf 0 _ rfl
  have g1 : DataW.trod enc Tryz.prog w base spare held m 48 (([a0, a1, a2, a3, a4, a5, a6, a7, a8, a9, a10, a11, a12, a13, a14, a15].drop 1).take (Tryz.prog.cellsOf 48)) = ys[1]? := hf 1 _ rfl
  have c0 : Tryz.prog.cellsOf 4 = 1 := by kernel_rfl
  have c1 : Tryz.prog.cellsOf 48 = 15 := by kernel_rfl
  simp only [c0, c1, List.drop_succ_cons, List.drop_zero, List.take_succ_cons, List.take_zero] at g0 g1
  have hys' : ys.length = 2 := hys
  rw [List.getElem?_eq_getElem (by omega)] at g0 g1
  obtain ⟨n0, e0⟩ := trod_bool' Tryz.underlying4 g0
  obtain ⟨n1, e1, b1⟩ := open_told g1
  simp only [List.cons.injEq, and_true] at e0 e1
  subst e0
  obtain ⟨rfl, rfl, rfl, rfl, rfl, rfl, rfl, rfl, rfl, rfl, rfl, rfl, rfl, rfl, rfl⟩ := e1
  exact ⟨⟨n0, n1⟩, rfl, b1⟩
theorem open_events {H : Type} {enc : TypeId × Value → H} {w : World} {base : Nat} {spare : Nat → Bool} {held : Bool} {fuel : Nat} {cs : List Value} {x : DataW H × List MemPlace}
  (h : DataW.trod enc Tryz.prog w base spare held fuel 23 cs = some x) : ∃ (v : Value) (l : List AEvent), cs = [v] ∧ Evs w (fun g => g < w.heap.size) v l := by
 obtain ⟨v, l, h1, h2, h3⟩ := open_sl AEvent.cells AEvent.ok 16 (fun _ => rfl) (by omega) Tryz.underlying23 (by kernel_rfl) (fun n cs' y hy => open_event hy) h
 exact ⟨v, l, h1, h2, h3⟩
end Go.Proofs.YtbclnghbgoblcaaGreat
