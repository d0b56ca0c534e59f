/-
 From the reading of an argument to acts. Conditions: as each theorem names them.
-/
import Derived.Test.YtjhnlncgmejkcaaGreatS27
import Derived.Test.YtjhnlncgmejkcaaGreatS25
namespace Go.Proofs.YtjhnlncgmejkcaaGreat
open Go.RowKit Go.ChangeShapes Go.WideShapes Go.Deep

set_option maxRecDepth 100000 in
theorem open_act {H : Type} {enc : TypeId × Value → H} {w : World} {base : Nat} {spare : Nat → Bool} {held : Bool} {fuel : Nat} {cs : List Value} {x : DataW H × List MemPlace}
  (h : DataW.trod enc Tryz.prog w base spare held fuel 41 cs = some x) : ∃ a : AActM, cs = a.cells ∧ a.ok w (fun g => g < w.heap.size) := by
 obtain ⟨ys, m, _, _, hlen, hys, hf⟩ := DataW.trod_struct Tryz.underlying41 h
 have hc : Tryz.prog.cellsOf 41 = 15 := by kernel_rfl
 rw [hc] at hlen
 match cs, hlen with
 | [a0, a1, a2, a3, a4, a5, a6, a7, a8, a9, a10, a11, a12, a13, a14], _ =>
  have g0 : DataW.trod enc Tryz.prog w base spare held m 3 (([a0, a1, a2, a3, a4, a5, a6, a7, a8, a9, a10, a11, a12, a13, a14].drop 0).take (Tryz.prog.cellsOf 3)) = ys[0]? := hf 0 _ rfl
  have g1 : DataW.trod enc Tryz.prog w base spare held m 3 (([a0, a1, a2, a3, a4, a5, a6, a7, a8, a9, a10, a11, a12, a13, a14].drop 1).take (Tryz.prog.cellsOf 3)) = ys[1]? := hf 1 _ rfl
  have g2 : DataW.trod enc Tryz.prog w base spare held m 3 (([a0, a1, a2, a3, a4, a5, a6, a7, a8, a9, a10, a11, a12, a13, a14].drop 2).take (Tryz.prog.cellsOf 3)) = ys[2]? := hf 2 _ rfl
  have g3 : DataW.trod enc Tryz.prog w base spare held m 34 (([a0, a1, a2, a3, a4, a5, a6, a7, a8, a9, a10, a11, a12, a13, a14].drop 3).take (Tryz.prog.cellsOf 34)) = ys[3]? := hf 3 _ rfl
  have g4 : DataW.trod enc Tryz.prog w base spare held m 32 (([a0, a1, a2, a3, a4, a5, a6, a7, a8, a9, a10, a11, a12, a13, a14].drop 13).take (Tryz.prog.cellsOf 32)) = ys[4]? := hf 4 _ rfl
  have g5 : DataW.trod enc Tryz.prog w base spare held m 25 (([a0, a1, a2, a3, a4, a5, a6, a7, a8, a9, a10, a11, a12, a13, a14].drop 14).take (Tryz.prog.cellsOf 25)) = ys[5]? := hf 5 _ rfl
  have c0 : Tryz.prog.cellsOf 3 = 1 := by kernel_rfl
  have c2 : Tryz.prog.cellsOf 32 = 1 := by kernel_rfl
  have c3 : Tryz.prog.cellsOf 34 = 10 := by kernel_rfl
  have c4 : Tryz.prog.cellsOf 25 = 1 := by kernel_rfl
  simp only [c0, c2, c3, c4, List.drop_succ_cons, List.drop_zero, List.take_succ_cons, List.take_zero] at g0 g1 g2 g3 g4 g5
  have hys' : ys.length = 6 := hys
  rw [List.getElem?_eq_getElem (by omega)] at g0 g1 g2 g3 g4 g5
  obtain ⟨n0, e0, b0⟩ := trod_i64 Tryz.underlying3 g0
  obtain ⟨n1, e1, b1⟩ := trod_i64 Tryz.underlying3 g1
  obtain ⟨n2, e2, b2⟩ := trod_i64 Tryz.underlying3 g2
  obtain ⟨n3, sv, lv, e3, b3, ok3⟩ := open_hard g3
  obtain ⟨n4, l4, e4, b4⟩ := open_entries g4
  obtain ⟨n5, l5, e5, b5⟩ := open_bytes Tryz.underlying25 Tryz.underlying5 (by kernel_rfl) g5
  simp only [List.cons.injEq, and_true] at e0 e1 e2 e3 e4 e5
  subst e0 e1 e2 e4 e5
  obtain ⟨rfl, rfl, rfl, rfl, rfl, rfl, rfl, rfl, rfl, rfl⟩ := e3
  exact ⟨⟨⟨n0, n1, n2, n3, l4, l5⟩, _, _, _, _⟩, rfl, b0, b1, b2, ok3, b3, b4, b5⟩
theorem open_acts {H : Type} {enc : TypeId × Value → H} {w : World} {base : Nat} {spare : Nat → Bool} {held : Bool} {fuel : Nat} {v : Value} {x : DataW H × List MemPlace}
  (h : DataW.trod enc Tryz.prog w base spare held fuel 24 [v] = some x) : ∃ l : List AActM, Acts w (fun g => g < w.heap.size) v l := by
 obtain ⟨v', l, h1, h2, h3⟩ := open_sl AActM.cells (fun a => a.ok w (fun g => g < w.heap.size)) 15 (fun _ => rfl) (by omega) Tryz.underlying24 (by kernel_rfl) (fun n cs' y hy => open_act hy) h
 simp only [List.cons.injEq, and_true] at h1
 subst h1
 exact ⟨l, h2, h3⟩
end Go.Proofs.YtjhnlncgmejkcaaGreat

