/-
 From the reading of an argument (the form's own) to values, commands and pairs. Conditions: as each theorem names them.
-/
import Derived.Test.YtbclnghbgoblcaaGreatKvLib
import Derived.Test.YtbclnghbgoblcaaGreatOpenAgg
namespace Go.Proofs.YtbclnghbgoblcaaGreat
open Go.RowKit Go.ChangeShapes Go.WideShapes Go.Deep

set_option maxRecDepth 100000 in
theorem open_val {H : Type} {enc : TypeId × Value → H} {w : World} {base : Nat} {spare : Nat → Bool} {held : Bool} {fuel : Nat} {cs : List Value} {x : DataW H × List MemPlace}
  (h : DataW.trod enc Tryz.prog w base spare held fuel 40 cs = some x) : ∃ a : AVal, cs = a.cells ∧ a.ok := by
 obtain ⟨ys, m, _, _, hlen, hys, hf⟩ := DataW.trod_struct Tryz.underlying40 h
 have hc : Tryz.prog.cellsOf 40 = 3 := by kernel_rfl
 rw [hc] at hlen
 match cs, hlen with
 | [a0, a1, a2], _ =>
  have g0 : DataW.trod enc Tryz.prog w base spare held m 3 (([a0, a1, a2].drop 0).take (Tryz.prog.cellsOf 3)) = ys[0]? := hf 0 _ rfl
  have g1 : DataW.trod enc Tryz.prog w base spare held m 38 (([a0, a1, a2].drop 1).take (Tryz.prog.cellsOf 38)) = ys[1]? := hf 1 _ rfl
  have g2 : DataW.trod enc Tryz.prog w base spare held m 9 (([a0, a1, a2].drop 2).take (Tryz.prog.cellsOf 9)) = ys[2]? := hf 2 _ rfl
  have c0 : Tryz.prog.cellsOf 3 = 1 := by kernel_rfl
  have c1 : Tryz.prog.cellsOf 38 = 1 := by kernel_rfl
  have c2 : Tryz.prog.cellsOf 9 = 1 := by kernel_rfl
  simp only [c0, c1, c2, List.drop_succ_cons, List.drop_zero, List.take_succ_cons, List.take_zero] at g0 g1 g2
  have hys' : ys.length = 3 := hys
  rw [List.getElem?_eq_getElem (by omega)] at g0 g1 g2
  obtain ⟨n0, e0, b0⟩ := trod_i64 Tryz.underlying3 g0
  obtain ⟨n1, e1, b1⟩ := trod_f64 Tryz.underlying38 g1
  obtain ⟨n2, e2, _, b2⟩ := DataW.trod_string Tryz.underlying9 g2
  simp only [List.cons.injEq, and_true] at e0 e1 e2
  subst e0
  subst e1
  subst e2
  exact ⟨⟨n0, n1, n2⟩, rfl, b0, b1, b2⟩
set_option maxRecDepth 100000 in
theorem open_cmd {H : Type} {enc : TypeId × Value → H} {w : World} {base : Nat} {spare : Nat → Bool} {held : Bool} {fuel : Nat} {cs : List Value} {x : DataW H × List MemPlace}
  (h : DataW.trod enc Tryz.prog w base spare held fuel 42 cs = some x) : ∃ a : ACmd, cs = a.cells ∧ a.ok := by
 obtain ⟨ys, m, _, _, hlen, hys, hf⟩ := DataW.trod_struct Tryz.underlying42 h
 have hc : Tryz.prog.cellsOf 42 = 8 := by kernel_rfl
 rw [hc] at hlen
 match cs, hlen with
 | [a0, a1, a2, a3, a4, a5, a6, a7], _ =>
  have g0 : DataW.trod enc Tryz.prog w base spare held m 3 (([a0, a1, a2, a3, a4, a5, a6, a7].drop 0).take (Tryz.prog.cellsOf 3)) = ys[0]? := hf 0 _ rfl
  have g1 : DataW.trod enc Tryz.prog w base spare held m 9 (([a0, a1, a2, a3, a4, a5, a6, a7].drop 1).take (Tryz.prog.cellsOf 9)) = ys[1]? := hf 1 _ rfl
  have g2 : DataW.trod enc Tryz.prog w base spare held m 40 (([a0, a1, a2, a3, a4, a5, a6, a7].drop 2).take (Tryz.prog.cellsOf 40)) = ys[2]? := hf 2 _ rfl
  have g3 : DataW.trod enc Tryz.prog w base spare held m 40 (([a0, a1, a2, a3, a4, a5, a6, a7].drop 5).take (Tryz.prog.cellsOf 40)) = ys[3]? := hf 3 _ rfl
  have c0 : Tryz.prog.cellsOf 3 = 1 := by kernel_rfl
  have c1 : Tryz.prog.cellsOf 9 = 1 := by kernel_rfl
  have c2 : Tryz.prog.cellsOf 40 = 3 := by kernel_rfl
  simp only [c0, c1, c2, List.drop_succ_cons, List.drop_zero, List.take_succ_cons, List.take_zero] at g0 g1 g2 g3
  have hys' : ys.length = 4 := hys
  rw [List.getElem?_eq_getElem (by omega)] at g0 g1 g2 g3
  obtain ⟨n0, e0, b0⟩ := trod_i64 Tryz.underlying3 g0
  obtain ⟨n1, e1, _, b1⟩ := DataW.trod_string Tryz.underlying9 g1
  obtain ⟨n2, e2, b2⟩ := open_val g2
  obtain ⟨n3, e3, b3⟩ := open_val g3
  simp only [List.cons.injEq, and_true] at e0 e1 e2 e3
  subst e0
  subst e1
  obtain ⟨rfl, rfl, rfl⟩ := e2
  obtain ⟨rfl, rfl, rfl⟩ := e3
  exact ⟨⟨n0, n1, n2, n3⟩, rfl, b0, b1, b2, b3⟩
theorem open_str {H : Type} {enc : TypeId × Value → H} {P : Program} {w : World} {base b0 : Nat} {spare : Nat → Bool} {held : Bool} {r : Reach} {t : TypeId} {v : Value} {d : DataW H} {p : List MemPlace} (ht : P.underlying t = some .string)
  (hv : Value.okWide P w r b0 t v) (h : DataW.Trod enc P w base spare held t v d p) : ∃ s : ByteArray, v = .string s ∧ s.size ≤ maxLen := by
 obtain ⟨s, rfl⟩ := okWide_string ht hv
 obtain ⟨fuel, hf⟩ := h
 obtain ⟨s', h', _, hs⟩ := DataW.trod_string ht hf
 simp [Value.cells] at h'
 subst h'
 exact ⟨s, rfl, hs⟩
set_option maxRecDepth 100000 in
theorem open_pair {H : Type} {enc : TypeId × Value → H} {w : World} {base : Nat} {spare : Nat → Bool} {held : Bool} {fuel : Nat} {cs : List Value} {x : DataW H × List MemPlace}
  (h : DataW.trod enc Tryz.prog w base spare held fuel 94 cs = some x) : ∃ a : APair, cs = a.cells ∧ a.ok := by
 obtain ⟨ys, m, _, _, hlen, hys, hf⟩ := DataW.trod_struct Tryz.underlying94 h
 have hc : Tryz.prog.cellsOf 94 = 4 := by kernel_rfl
 rw [hc] at hlen
 match cs, hlen with
 | [a0, a1, a2, a3], _ =>
  have g0 : DataW.trod enc Tryz.prog w base spare held m 9 (([a0, a1, a2, a3].drop 0).take (Tryz.prog.cellsOf 9)) = ys[0]? := hf 0 _ rfl
  have g1 : DataW.trod enc Tryz.prog w base spare held m 40 (([a0, a1, a2, a3].drop 1).take (Tryz.prog.cellsOf 40)) = ys[1]? := hf 1 _ rfl
  have c0 : Tryz.prog.cellsOf 9 = 1 := by kernel_rfl
  have c1 : Tryz.prog.cellsOf 40 = 3 := by kernel_rfl
  simp only [c0, c1, List.drop_succ_cons, List.drop_zero, List.take_succ_cons, List.take_zero] at g0 g1
  have hys' : ys.length = 2 := hys
  rw [List.getElem?_eq_getElem (by omega)] at g0 g1
  obtain ⟨n0, e0, _, b0⟩ := DataW.trod_string Tryz.underlying9 g0
  obtain ⟨n1, e1, b1⟩ := open_val g1
  simp only [List.cons.injEq, and_true] at e0 e1
  subst e0
  obtain ⟨rfl, rfl, rfl⟩ := e1
  exact ⟨⟨n0, n1⟩, rfl, b0, b1⟩
theorem open_pairs {H : Type} {enc : TypeId × Value → H} {w : World} {base : Nat} {spare : Nat → Bool} {held : Bool} {fuel : Nat} {cs : List Value} {x : DataW H × List MemPlace}
  (h : DataW.trod enc Tryz.prog w base spare held fuel 30 cs = some x) : ∃ (v : Value) (l : List APair), cs = [v] ∧ Prs w (fun g => g < w.heap.size) v l := by
 obtain ⟨v, l, h1, h2, h3⟩ := open_sl APair.cells APair.ok 4 (fun _ => rfl) (by omega) Tryz.underlying30 (by kernel_rfl) (fun n cs' y hy => open_pair hy) h
 exact ⟨v, l, h1, h2, h3⟩
end Go.Proofs.YtbclnghbgoblcaaGreat
