/-
 From the reading of an argument (the form's own) to the program's plain data. Conditions: as each theorem names them.
-/
import Derived.Test.YtfkacakbengboaaKeep
import Derived.Test.YtfkacakbengboaaEnts
namespace Go.Proofs.Ytfkacakbengboaa
open Go.RowKit Go.ChangeShapes Go.WideShapes Go.Deep

set_option maxRecDepth 100000 in
theorem open_val {H : Type} {enc : TypeId × Value → H} {w : World} {base : Nat} {spare : Nat → Bool} {held : Bool} {fuel : Nat} {cs : List Value} {x : DataW H × List MemPlace}
  (h : DataW.trod enc Try.prog w base spare held fuel 38 cs = some x) : ∃ a : AVal, cs = a.cells ∧ a.ok := by
 obtain ⟨ys, m, _, _, hlen, hys, hf⟩ := DataW.trod_struct Try.underlying38 h
 have hc : Try.prog.cellsOf 38 = 3 := by kernel_rfl
 rw [hc] at hlen
 match cs, hlen with
 | [a0, a1, a2], _ =>
  have g0 : DataW.trod enc Try.prog w base spare held m 3 (([a0, a1, a2].drop 0).take (Try.prog.cellsOf 3)) = ys[0]? := hf 0 _ rfl
  have g1 : DataW.trod enc Try.prog w base spare held m 36 (([a0, a1, a2].drop 1).take (Try.prog.cellsOf 36)) = ys[1]? := hf 1 _ rfl
  have g2 : DataW.trod enc Try.prog w base spare held m 9 (([a0, a1, a2].drop 2).take (Try.prog.cellsOf 9)) = ys[2]? := hf 2 _ rfl
  have c0 : Try.prog.cellsOf 3 = 1 := by kernel_rfl
  have c1 : Try.prog.cellsOf 36 = 1 := by kernel_rfl
  have c2 : Try.prog.cellsOf 9 = 1 := by kernel_rfl
  simp only [c0, c1, c2, List.drop_succ_cons, List.drop_zero, List.take_succ_cons, List.take_zero] at g0 g1 g2
  have hys' : ys.length = 3 := hys
  rw [List.getElem?_eq_getElem (by omega)] at g0 g1 g2
  obtain ⟨n0, e0, b0⟩ := trod_i64 Try.underlying3 g0
  obtain ⟨n1, e1, b1⟩ := trod_f64 Try.underlying36 g1
  obtain ⟨n2, e2, _, b2⟩ := DataW.trod_string Try.underlying9 g2
  simp only [List.cons.injEq, and_true] at e0 e1 e2
  subst e0
  subst e1
  subst e2
  exact ⟨⟨n0, n1, n2⟩, rfl, b0, b1, b2⟩
set_option maxRecDepth 100000 in
theorem open_cmd {H : Type} {enc : TypeId × Value → H} {w : World} {base : Nat} {spare : Nat → Bool} {held : Bool} {fuel : Nat} {cs : List Value} {x : DataW H × List MemPlace}
  (h : DataW.trod enc Try.prog w base spare held fuel 40 cs = some x) : ∃ a : ACmd, cs = a.cells ∧ a.ok := by
 obtain ⟨ys, m, _, _, hlen, hys, hf⟩ := DataW.trod_struct Try.underlying40 h
 have hc : Try.prog.cellsOf 40 = 8 := by kernel_rfl
 rw [hc] at hlen
 match cs, hlen with
 | [a0, a1, a2, a3, a4, a5, a6, a7], _ =>
  have g0 : DataW.trod enc Try.prog w base spare held m 3 (([a0, a1, a2, a3, a4, a5, a6, a7].drop 0).take (Try.prog.cellsOf 3)) = ys[0]? := hf 0 _ rfl
  have g1 : DataW.trod enc Try.prog w base spare held m 9 (([a0, a1, a2, a3, a4, a5, a6, a7].drop 1).take (Try.prog.cellsOf 9)) = ys[1]? := hf 1 _ rfl
  have g2 : DataW.trod enc Try.prog w base spare held m 38 (([a0, a1, a2, a3, a4, a5, a6, a7].drop 2).take (Try.prog.cellsOf 38)) = ys[2]? := hf 2 _ rfl
  have g3 : DataW.trod enc Try.prog w base spare held m 38 (([a0, a1, a2, a3, a4, a5, a6, a7].drop 5).take (Try.prog.cellsOf 38)) = ys[3]? := hf 3 _ rfl
  have c0 : Try.prog.cellsOf 3 = 1 := by kernel_rfl
  have c1 : Try.prog.cellsOf 9 = 1 := by kernel_rfl
  have c2 : Try.prog.cellsOf 38 = 3 := by kernel_rfl
  simp only [c0, c1, c2, List.drop_succ_cons, List.drop_zero, List.take_succ_cons, List.take_zero] at g0 g1 g2 g3
  have hys' : ys.length = 4 := hys
  rw [List.getElem?_eq_getElem (by omega)] at g0 g1 g2 g3
  obtain ⟨n0, e0, b0⟩ := trod_i64 Try.underlying3 g0
  obtain ⟨n1, e1, _, b1⟩ := DataW.trod_string Try.underlying9 g1
  obtain ⟨n2, e2, b2⟩ := open_val g2
  obtain ⟨n3, e3, b3⟩ := open_val g3
  simp only [List.cons.injEq, and_true] at e0 e1 e2 e3
  subst e0
  subst e1
  obtain ⟨rfl, rfl, rfl⟩ := e2
  obtain ⟨rfl, rfl, rfl⟩ := e3
  exact ⟨⟨n0, n1, n2, n3⟩, rfl, b0, b1, b2, b3⟩
set_option maxRecDepth 100000 in
theorem open_call {H : Type} {enc : TypeId × Value → H} {w : World} {base : Nat} {spare : Nat → Bool} {held : Bool} {fuel : Nat} {cs : List Value} {x : DataW H × List MemPlace}
  (h : DataW.trod enc Try.prog w base spare held fuel 42 cs = some x) : ∃ a : ACall, cs = a.cells ∧ a.ok := by
 obtain ⟨ys, m, _, _, hlen, hys, hf⟩ := DataW.trod_struct Try.underlying42 h
 have hc : Try.prog.cellsOf 42 = 10 := by kernel_rfl
 rw [hc] at hlen
 match cs, hlen with
 | [a0, a1, a2, a3, a4, a5, a6, a7, a8, a9], _ =>
  have g0 : DataW.trod enc Try.prog w base spare held m 3 (([a0, a1, a2, a3, a4, a5, a6, a7, a8, a9].drop 0).take (Try.prog.cellsOf 3)) = ys[0]? := hf 0 _ rfl
  have g1 : DataW.trod enc Try.prog w base spare held m 3 (([a0, a1, a2, a3, a4, a5, a6, a7, a8, a9].drop 1).take (Try.prog.cellsOf 3)) = ys[1]? := hf 1 _ rfl
  have g2 : DataW.trod enc Try.prog w base spare held m 40 (([a0, a1, a2, a3, a4, a5, a6, a7, a8, a9].drop 2).take (Try.prog.cellsOf 40)) = ys[2]? := hf 2 _ rfl
  have c0 : Try.prog.cellsOf 3 = 1 := by kernel_rfl
  have c1 : Try.prog.cellsOf 40 = 8 := by kernel_rfl
  simp only [c0, c1, List.drop_succ_cons, List.drop_zero, List.take_succ_cons, List.take_zero] at g0 g1 g2
  have hys' : ys.length = 3 := hys
  rw [List.getElem?_eq_getElem (by omega)] at g0 g1 g2
  obtain ⟨n0, e0, b0⟩ := trod_i64 Try.underlying3 g0
  obtain ⟨n1, e1, b1⟩ := trod_i64 Try.underlying3 g1
  obtain ⟨n2, e2, b2⟩ := open_cmd g2
  simp only [List.cons.injEq, and_true] at e0 e1 e2
  subst e0
  subst e1
  obtain ⟨rfl, rfl, rfl, rfl, rfl, rfl, rfl, rfl⟩ := e2
  exact ⟨⟨n0, n1, n2⟩, rfl, b0, b1, b2⟩
set_option maxRecDepth 100000 in
theorem open_conf {H : Type} {enc : TypeId × Value → H} {w : World} {base : Nat} {spare : Nat → Bool} {held : Bool} {fuel : Nat} {cs : List Value} {x : DataW H × List MemPlace}
  (h : DataW.trod enc Try.prog w base spare held fuel 24 cs = some x) : ∃ a : AConf, cs = a.cells ∧ a.ok := by
 obtain ⟨ys, m, _, _, hlen, hys, hf⟩ := DataW.trod_struct Try.underlying24 h
 have hc : Try.prog.cellsOf 24 = 4 := by kernel_rfl
 rw [hc] at hlen
 match cs, hlen with
 | [a0, a1, a2, a3], _ =>
  have g0 : DataW.trod enc Try.prog w base spare held m 3 (([a0, a1, a2, a3].drop 0).take (Try.prog.cellsOf 3)) = ys[0]? := hf 0 _ rfl
  have g1 : DataW.trod enc Try.prog w base spare held m 3 (([a0, a1, a2, a3].drop 1).take (Try.prog.cellsOf 3)) = ys[1]? := hf 1 _ rfl
  have g2 : DataW.trod enc Try.prog w base spare held m 3 (([a0, a1, a2, a3].drop 2).take (Try.prog.cellsOf 3)) = ys[2]? := hf 2 _ rfl
  have g3 : DataW.trod enc Try.prog w base spare held m 3 (([a0, a1, a2, a3].drop 3).take (Try.prog.cellsOf 3)) = ys[3]? := hf 3 _ rfl
  have c0 : Try.prog.cellsOf 3 = 1 := by kernel_rfl
  simp only [c0, List.drop_succ_cons, List.drop_zero, List.take_succ_cons, List.take_zero] at g0 g1 g2 g3
  have hys' : ys.length = 4 := hys
  rw [List.getElem?_eq_getElem (by omega)] at g0 g1 g2 g3
  obtain ⟨n0, e0, b0⟩ := trod_i64 Try.underlying3 g0
  obtain ⟨n1, e1, b1⟩ := trod_i64 Try.underlying3 g1
  obtain ⟨n2, e2, b2⟩ := trod_i64 Try.underlying3 g2
  obtain ⟨n3, e3, b3⟩ := trod_i64 Try.underlying3 g3
  simp only [List.cons.injEq, and_true] at e0 e1 e2 e3
  subst e0
  subst e1
  subst e2
  subst e3
  exact ⟨⟨n0, n1, n2, n3⟩, rfl, b0, b1, b2, b3⟩
set_option maxRecDepth 100000 in
theorem open_entry {H : Type} {enc : TypeId × Value → H} {w : World} {base : Nat} {spare : Nat → Bool} {held : Bool} {fuel : Nat} {cs : List Value} {x : DataW H × List MemPlace}
  (h : DataW.trod enc Try.prog w base spare held fuel 44 cs = some x) : ∃ a : AEntry, cs = a.cells ∧ a.ok := by
 obtain ⟨ys, m, _, _, hlen, hys, hf⟩ := DataW.trod_struct Try.underlying44 h
 have hc : Try.prog.cellsOf 44 = 16 := by kernel_rfl
 rw [hc] at hlen
 match cs, hlen with
 | [a0, a1, a2, a3, a4, a5, a6, a7, a8, a9, a10, a11, a12, a13, a14, a15], _ =>
  have g0 : DataW.trod enc Try.prog w base spare held m 3 (([a0, a1, a2, a3, a4, a5, a6, a7, a8, a9, a10, a11, a12, a13, a14, a15].drop 0).take (Try.prog.cellsOf 3)) = ys[0]? := hf 0 _ rfl
  have g1 : DataW.trod enc Try.prog w base spare held m 3 (([a0, a1, a2, a3, a4, a5, a6, a7, a8, a9, a10, a11, a12, a13, a14, a15].drop 1).take (Try.prog.cellsOf 3)) = ys[1]? := hf 1 _ rfl
  have g2 : DataW.trod enc Try.prog w base spare held m 42 (([a0, a1, a2, a3, a4, a5, a6, a7, a8, a9, a10, a11, a12, a13, a14, a15].drop 2).take (Try.prog.cellsOf 42)) = ys[2]? := hf 2 _ rfl
  have g3 : DataW.trod enc Try.prog w base spare held m 24 (([a0, a1, a2, a3, a4, a5, a6, a7, a8, a9, a10, a11, a12, a13, a14, a15].drop 12).take (Try.prog.cellsOf 24)) = ys[3]? := hf 3 _ rfl
  have c0 : Try.prog.cellsOf 3 = 1 := by kernel_rfl
  have c1 : Try.prog.cellsOf 42 = 10 := by kernel_rfl
  have c2 : Try.prog.cellsOf 24 = 4 := by kernel_rfl
  simp only [c0, c1, c2, List.drop_succ_cons, List.drop_zero, List.take_succ_cons, List.take_zero] at g0 g1 g2 g3
  have hys' : ys.length = 4 := hys
  rw [List.getElem?_eq_getElem (by omega)] at g0 g1 g2 g3
  obtain ⟨n0, e0, b0⟩ := trod_i64 Try.underlying3 g0
  obtain ⟨n1, e1, b1⟩ := trod_i64 Try.underlying3 g1
  obtain ⟨n2, e2, b2⟩ := open_call g2
  obtain ⟨n3, e3, b3⟩ := open_conf g3
  simp only [List.cons.injEq, and_true] at e0 e1 e2 e3
  subst e0
  subst e1
  obtain ⟨rfl, rfl, rfl, rfl, rfl, rfl, rfl, rfl, rfl, rfl⟩ := e2
  obtain ⟨rfl, rfl, rfl, rfl⟩ := e3
  exact ⟨⟨n0, n1, n2, n3⟩, rfl, b0, b1, b2, b3⟩
theorem open_entries {H : Type} {enc : TypeId × Value → H} {w : World} {base : Nat} {spare : Nat → Bool} {held : Bool} {fuel : Nat} {cs : List Value} {x : DataW H × List MemPlace}
  (h : DataW.trod enc Try.prog w base spare held fuel 22 cs = some x) : ∃ (v : Value) (l : List AEntry), cs = [v] ∧ Ents w (fun g => g < w.heap.size) v l := by
 obtain ⟨v, l, h1, h2, h3⟩ := open_sl AEntry.cells AEntry.ok 16 (fun _ => rfl) (by omega) Try.underlying22 (by kernel_rfl) (fun n cs' y hy => open_entry hy) h
 exact ⟨v, l, h1, h2, h3⟩
end Go.Proofs.Ytfkacakbengboaa
