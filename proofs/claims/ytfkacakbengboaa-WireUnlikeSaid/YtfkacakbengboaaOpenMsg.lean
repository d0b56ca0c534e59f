/-
  From the reading of an argument to a message, three deep. Conditions: as each theorem names them.
-/
import Derived.Test.YtfkacakbengboaaOpenApi
import Derived.Test.YtfkacakbengboaaHead
namespace Go.Proofs.Ytfkacakbengboaa
open Go.RowKit Go.ChangeShapes Go.WideShapes Go.Deep

set_option maxRecDepth 100000 in
theorem open_head {H : Type} {enc : TypeId × Value → H} {w : World} {base : Nat} {spare : Nat → Bool} {held : Bool} {fuel : Nat} {cs : List Value} {x : DataW H × List MemPlace}
    (h : DataW.trod enc Try.prog w base spare held fuel 28 cs = some x) : ∃ a : AHead, cs = a.cells ∧ a.ok w (fun g => g < w.heap.size) ∧ ∃ n y, DataW.trod enc Try.prog w base spare held n 26 [a.innV] = some y := by
  obtain ⟨ys, m, _, _, hlen, hys, hf⟩ := DataW.trod_struct Try.underlying28 h
  have hc : Try.prog.cellsOf 28 = 16 := by kernel_rfl
  rw [hc] at hlen
  match cs, hlen with
  | [a0, a1, a2, a3, a4, a5, a6, a7, a8, a9, a10, a11, a12, a13, a14, a15], _ =>
    have g0 : DataW.trod enc Try.prog w base spare held m 3 (([a0, a1, a2, a3, a4, a5, a6, a7, a8, a9, a10, a11, a12, a13, a14, a15].drop 0).take (Try.prog.cellsOf 3)) = ys[0]? := hf 0 _ rfl
    have g1 : DataW.trod enc Try.prog w base spare held m 3 (([a0, a1, a2, a3, a4, a5, a6, a7, a8, a9, a10, a11, a12, a13, a14, a15].drop 1).take (Try.prog.cellsOf 3)) = ys[1]? := hf 1 _ rfl
    have g2 : DataW.trod enc Try.prog w base spare held m 3 (([a0, a1, a2, a3, a4, a5, a6, a7, a8, a9, a10, a11, a12, a13, a14, a15].drop 2).take (Try.prog.cellsOf 3)) = ys[2]? := hf 2 _ rfl
    have g3 : DataW.trod enc Try.prog w base spare held m 3 (([a0, a1, a2, a3, a4, a5, a6, a7, a8, a9, a10, a11, a12, a13, a14, a15].drop 3).take (Try.prog.cellsOf 3)) = ys[3]? := hf 3 _ rfl
    have g4 : DataW.trod enc Try.prog w base spare held m 3 (([a0, a1, a2, a3, a4, a5, a6, a7, a8, a9, a10, a11, a12, a13, a14, a15].drop 4).take (Try.prog.cellsOf 3)) = ys[4]? := hf 4 _ rfl
    have g5 : DataW.trod enc Try.prog w base spare held m 3 (([a0, a1, a2, a3, a4, a5, a6, a7, a8, a9, a10, a11, a12, a13, a14, a15].drop 5).take (Try.prog.cellsOf 3)) = ys[5]? := hf 5 _ rfl
    have g6 : DataW.trod enc Try.prog w base spare held m 3 (([a0, a1, a2, a3, a4, a5, a6, a7, a8, a9, a10, a11, a12, a13, a14, a15].drop 6).take (Try.prog.cellsOf 3)) = ys[6]? := hf 6 _ rfl
    have g7 : DataW.trod enc Try.prog w base spare held m 3 (([a0, a1, a2, a3, a4, a5, a6, a7, a8, a9, a10, a11, a12, a13, a14, a15].drop 7).take (Try.prog.cellsOf 3)) = ys[7]? := hf 7 _ rfl
    have g8 : DataW.trod enc Try.prog w base spare held m 4 (([a0, a1, a2, a3, a4, a5, a6, a7, a8, a9, a10, a11, a12, a13, a14, a15].drop 8).take (Try.prog.cellsOf 4)) = ys[8]? := hf 8 _ rfl
    have g9 : DataW.trod enc Try.prog w base spare held m 22 (([a0, a1, a2, a3, a4, a5, a6, a7, a8, a9, a10, a11, a12, a13, a14, a15].drop 9).take (Try.prog.cellsOf 22)) = ys[9]? := hf 9 _ rfl
    have g10 : DataW.trod enc Try.prog w base spare held m 24 (([a0, a1, a2, a3, a4, a5, a6, a7, a8, a9, a10, a11, a12, a13, a14, a15].drop 10).take (Try.prog.cellsOf 24)) = ys[10]? := hf 10 _ rfl
    have g11 : DataW.trod enc Try.prog w base spare held m 25 (([a0, a1, a2, a3, a4, a5, a6, a7, a8, a9, a10, a11, a12, a13, a14, a15].drop 14).take (Try.prog.cellsOf 25)) = ys[11]? := hf 11 _ rfl
    have g12 : DataW.trod enc Try.prog w base spare held m 26 (([a0, a1, a2, a3, a4, a5, a6, a7, a8, a9, a10, a11, a12, a13, a14, a15].drop 15).take (Try.prog.cellsOf 26)) = ys[12]? := hf 12 _ rfl
    have c0 : Try.prog.cellsOf 3 = 1 := by kernel_rfl
    have c1 : Try.prog.cellsOf 4 = 1 := by kernel_rfl
    have c2 : Try.prog.cellsOf 22 = 1 := by kernel_rfl
    have c3 : Try.prog.cellsOf 24 = 4 := by kernel_rfl
    have c4 : Try.prog.cellsOf 25 = 1 := by kernel_rfl
    have c5 : Try.prog.cellsOf 26 = 1 := by kernel_rfl
    simp only [c0, c1, c2, c3, c4, c5, List.drop_succ_cons, List.drop_zero, List.take_succ_cons, List.take_zero] at g0 g1 g2 g3 g4 g5 g6 g7 g8 g9 g10 g11 g12
    have hys' : ys.length = 13 := hys
    rw [List.getElem?_eq_getElem (by omega)] at g0 g1 g2 g3 g4 g5 g6 g7 g8 g9 g10 g11 g12
    obtain ⟨n0, e0, b0⟩ := trod_i64 Try.underlying3 g0
    obtain ⟨n1, e1, b1⟩ := trod_i64 Try.underlying3 g1
    obtain ⟨n2, e2, b2⟩ := trod_i64 Try.underlying3 g2
    obtain ⟨n3, e3, b3⟩ := trod_i64 Try.underlying3 g3
    obtain ⟨n4, e4, b4⟩ := trod_i64 Try.underlying3 g4
    obtain ⟨n5, e5, b5⟩ := trod_i64 Try.underlying3 g5
    obtain ⟨n6, e6, b6⟩ := trod_i64 Try.underlying3 g6
    obtain ⟨n7, e7, b7⟩ := trod_i64 Try.underlying3 g7
    obtain ⟨n8, e8⟩ := trod_bool' Try.underlying4 g8
    obtain ⟨n9, l9, e9, b9⟩ := open_entries g9
    obtain ⟨n10, e10, b10⟩ := open_conf g10
    obtain ⟨n11, l11, e11, b11⟩ := open_bytes Try.underlying25 Try.underlying5 (by kernel_rfl) g11
    simp only [List.cons.injEq, and_true] at e0 e1 e2 e3 e4 e5 e6 e7 e8 e9 e10 e11
    subst e0 e1 e2 e3 e4 e5 e6 e7 e8 e9 e11
    obtain ⟨rfl, rfl, rfl, rfl⟩ := e10
    have hin : ∃ A n c, a15 = .slice A n c ∧ n ≤ maxLen := by
      rcases open_slice Try.underlying26 g12 with ⟨h0, _⟩ | ⟨a, len, cap, m', n', D, Pl, hcs, hb, hl, hm, _⟩
      · simp only [List.cons.injEq, and_true] at h0
        exact ⟨none, 0, 0, h0, by simp [maxLen]⟩
      · simp only [List.cons.injEq, and_true] at hcs
        exact ⟨some a, len, cap, hcs, by omega⟩
    obtain ⟨A, n, c, rfl, hn⟩ := hin
    refine ⟨⟨n0, n1, n2, n3, n4, n5, n6, n7, n8, a9, l9, n10, a14, l11, .slice A n c, n⟩, rfl, ⟨?_, b9, b10, b11, ⟨A, c, rfl⟩, hn⟩, _, _, g12⟩
    intro k hk
    simp at hk
    rcases hk with rfl | rfl | rfl | rfl | rfl | rfl | rfl | rfl <;> assumption
theorem open_heads {H : Type} {enc : TypeId × Value → H} {w : World} {base : Nat} {spare : Nat → Bool} {held : Bool} {fuel : Nat} {v : Value} {x : DataW H × List MemPlace}
    (h : DataW.trod enc Try.prog w base spare held fuel 26 [v] = some x) : ∃ l : List AHead, Heads w (fun g => g < w.heap.size) v l ∧ ∀ a ∈ l, ∃ n y, DataW.trod enc Try.prog w base spare held n 26 [a.innV] = some y := by
  obtain ⟨v', l, h1, h2, h3⟩ := open_sl AHead.cells (fun a => a.ok w (fun g => g < w.heap.size) ∧ ∃ n y, DataW.trod enc Try.prog w base spare held n 26 [a.innV] = some y) 16 (fun _ => rfl) (by omega) Try.underlying26 (by kernel_rfl) (fun n cs' y hy => open_head hy) h
  simp only [List.cons.injEq, and_true] at h1
  subst h1
  exact ⟨l, ⟨h2, fun a ha => (h3 a ha).1⟩, fun a ha => (h3 a ha).2⟩
theorem inn_len {w : World} {T : Nat → Prop} {a : AHead} {l : List AHead} (h : a.ok w T) (hs : Heads w T a.innV l) : a.inn = l.length := by
  obtain ⟨A, c, e⟩ := h.2.2.2.2.1
  obtain ⟨_, A', c', e', _⟩ := hs.1
  rw [e] at e'
  injection e' with _ e' _
theorem open_msg {H : Type} {enc : TypeId × Value → H} {w : World} {base : Nat} {spare : Nat → Bool} {held : Bool} {fuel : Nat} {cs : List Value} {x : DataW H × List MemPlace}
    (h : DataW.trod enc Try.prog w base spare held fuel 28 cs = some x) : ∃ (a : AHead) (l : List AHead), cs = a.cells ∧ Msg3 w (fun g => g < w.heap.size) a l := by
  obtain ⟨a, h1, h2, n, y, h3⟩ := open_head h
  obtain ⟨l, h4, h5⟩ := open_heads h3
  refine ⟨a, l, h1, h2, inn_len h2 h4, h4, fun b hb => ?_⟩
  obtain ⟨n', y', h6⟩ := h5 b hb
  obtain ⟨l', h7, _⟩ := open_heads h6
  exact ⟨l', inn_len (h4.2 b hb) h7, h7⟩
end Go.Proofs.Ytfkacakbengboaa
