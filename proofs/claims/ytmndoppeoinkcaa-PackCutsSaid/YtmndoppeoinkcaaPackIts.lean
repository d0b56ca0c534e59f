/-
  A list of items that came in; skerrylaw02.heavy. Conditions: as each theorem names them.
-/
import Derived.Test.YtmndoppeoinkcaaPackGot
import Derived.Test.YtmndoppeoinkcaaOpen
namespace Go.Proofs.Ytmndoppeoinkcaa
open Go.RowKit Go.ChangeShapes Go.WideShapes Go.Deep

def It.full (w : World) (T : Nat → Prop) (i : It) : Prop := i.ok w T ∧ i.x < 18446744073709551616
def Its (w : World) (T : Nat → Prop) (v : Value) (l : List It) : Prop := Sl w T 5 v l.length (l.flatMap It.cells) ∧ ∀ i ∈ l, i.full w T
theorem Its.mod {w w' : World} {S T : Nat → Prop} {v : Value} {l : List It} (h : Its w T v l) (hm : Mod S w w') (hd : ∀ g, T g → ¬ S g) : Its w' T v l :=
  ⟨h.1.mod hm hd, fun i hi => ⟨(h.2 i hi).1.mod hm hd, (h.2 i hi).2⟩⟩
theorem Its.below {w w' : World} {N : Nat} {v : Value} {l : List It} (h : Its w (fun g => g < N) v l) (hm : Mod (Since N) w w') : Its w' (fun g => g < N) v l := h.mod hm (fun g hg h => by unfold Since at h; omega)

theorem Its.at {w : World} {T : Nat → Prop} {A : Option Addr} {n c : Nat} {l : List It} (h : Its w T (.slice A n c) l) {i : Nat} (hi : i < n) :
    ∃ g off it, A = some ⟨g, off, none⟩ ∧ T g ∧ l[i]? = some it ∧ it.full w T ∧ w.cell? ⟨g, off + i * 5, none⟩ = some (.int .i64 it.kind) ∧ w.cell? ⟨g, off + i * 5 + 1, none⟩ = some (.int .i64 it.n) ∧
      w.cell? ⟨g, off + i * 5 + 2, none⟩ = some (.bool it.is) ∧ w.cell? ⟨g, off + i * 5 + 3, none⟩ = some (.float .f64 it.x) ∧ w.cell? ⟨g, off + i * 5 + 4, none⟩ = some it.tv := by
  obtain ⟨⟨hl, A', c', e, hn, hc, hx⟩, hf⟩ := h
  injection e with e1 e2 e3; subst e1; subst e2; subst e3
  obtain ⟨g, off, rfl, hT, hcell⟩ := hx (by omega)
  have hget : l[i]? = some l[i] := List.getElem?_eq_getElem hi
  have hj : ∀ j u, j < 5 → (It.cells l[i])[j]? = some u → w.cell? ⟨g, off + i * 5 + j, none⟩ = some u := by
    intro j u hj hu
    rw [Nat.add_assoc]
    exact hcell _ u (by rw [flat_get (k := 5) (fun _ => rfl) l i j _ hget hj]; exact hu)
  exact ⟨g, off, l[i], rfl, hT, hget, hf _ (List.getElem_mem hi), hj 0 _ (by omega) rfl, hj 1 _ (by omega) rfl, hj 2 _ (by omega) rfl, hj 3 _ (by omega) rfl, hj 4 _ (by omega) rfl⟩

def hv (l : List It) : Bool := decide (200 < l.length) || l.any fun i => decide (32768 < i.t.length)
theorem hv_long {l : List It} (h : 200 < l.length) : hv l = true := by simp [hv, h]
theorem hv_yes {l : List It} {i : Nat} {it : It} (h : l[i]? = some it) (h1 : 32768 < it.t.length) : hv l = true := by
  simp only [hv, Bool.or_eq_true, List.any_eq_true]
  exact .inr ⟨it, List.mem_of_getElem? h, by simpa using h1⟩
theorem hv_no {l : List It} (h : ¬ 200 < l.length) (h1 : ∀ (j : Nat) (it : It), l[j]? = some it → ¬ 32768 < it.t.length) : hv l = false := by
  simp only [hv, Bool.or_eq_false_iff, List.any_eq_false]
  refine ⟨by simpa using h, fun it hit => ?_⟩
  obtain ⟨j, hj⟩ := List.mem_iff_getElem?.1 hit
  simpa using h1 j it hj
theorem hv_out {l : List It} (h : hv l = false) : l.length ≤ 200 ∧ ∀ it ∈ l, it.t.length ≤ 32768 := by
  simp only [hv, Bool.or_eq_false_iff, List.any_eq_false] at h
  exact ⟨by have := h.1; simp at this; omega, fun it hit => by have := h.2 it hit; simp at this; omega⟩

set_option maxRecDepth 100000 in
set_option maxHeartbeats 400000 in
theorem heavy_any (w : World) (T : Nat → Prop) (v : Value) (l : List It) (h : Its w T v l) :
    Calls Try.prog 9 #[v] w fun e w' => e = .returned (.bool (hv l)) ∧ w = w' := by
  obtain ⟨n, hn⟩ : ∃ n, l.length = n := ⟨_, rfl⟩
  obtain ⟨A, c, rfl⟩ := h.1.form
  have hle := h.1.le
  unfold maxLen at hle
  rw [hn] at h hle ⊢
  have Hn := Lib.hid hn
  clear hn
  by_cases h2 : 200 < n
  · have Hf : Hid (hv l = true) := Lib.hid (hv_long (by rw [Hn.out]; exact h2))
    go_enter Try.func9, Try.ntmps9
    go_wp2
    go_ret
    exact ⟨ret_bool Hf.out.symm, rfl⟩
  · go_enter Try.func9, Try.ntmps9
    go_wp2
    go_loop [3] (fun iv => ∃ i : Nat, i ≤ n ∧ iv = .int .i64 i ∧ ∀ j it, j < i → l[j]? = some it → ¬ 32768 < it.t.length) (fun iv => n - (intOf iv).toNat)
    case atStart => exact ⟨0, by omega, rfl, fun j it hj => by omega⟩
    case round =>
      obtain ⟨i, hin, rfl, hall⟩ := hrel
      have Hall := Lib.hid hall
      clear hall
      by_cases hi : i < n
      · obtain ⟨g, off, it, rfl, _, hit, hok, _, _, _, _, hcell⟩ := h.at hi
        obtain ⟨m, hm⟩ : ∃ m, it.t.length = m := ⟨_, rfl⟩
        obtain ⟨A1, c1, htv⟩ := hok.1.1.form
        rw [htv, hm] at hcell
        have Hm := Lib.hid hm
        have Hit := Lib.hid hit
        have Hh := Lib.hid h
        clear hm hit htv h
        by_cases h3 : 32768 < m
        · have Hf : Hid (hv l = true) := Lib.hid (hv_yes Hit.out (by rw [Hm.out]; exact h3))
          go_wp2
          go_ret
          exact ⟨ret_bool Hf.out.symm, rfl⟩
        · go_wp2
          refine ⟨⟨i + 1, by omega, by go_num, fun j jt hj hjt => ?_⟩, by simp [intOf]; omega⟩
          rcases Nat.lt_or_ge j i with hlt | hge
          · exact Hall.out j jt hlt hjt
          · obtain rfl : j = i := by omega
            rw [Hit.out] at hjt
            injection hjt with hjt
            subst hjt
            rw [Hm.out]; exact h3
      · have Hf : Hid (hv l = false) := Lib.hid (hv_no (by rw [Hn.out]; exact h2) (fun j it hj => Hall.out j it (by have := (List.getElem?_eq_some_iff.1 hj).1; rw [Hn.out] at this; omega) hj))
        go_wp2
        go_ret
        exact ⟨ret_bool Hf.out.symm, rfl⟩

theorem open_item {H : Type} {enc : TypeId × Value → H} {w : World} {base : Nat} {spare : Nat → Bool} {held : Bool} {fuel : Nat} {cs : List Value} {x : DataW H × List MemPlace}
    (h : DataW.trod enc Try.prog w base spare held fuel 31 cs = some x) : ∃ i : It, cs = i.cells ∧ i.full w (fun g => g < w.heap.size) := by
  obtain ⟨ys, m, _, _, hlen, hys, hf⟩ := DataW.trod_struct Try.underlying31 h
  have hc : Try.prog.cellsOf 31 = 5 := by kernel_rfl
  rw [hc] at hlen
  match cs, hlen with
  | [a0, a1, a2, a3, a4], _ =>
    have g0 : DataW.trod enc Try.prog w base spare held m 3 (([a0, a1, a2, a3, a4].drop 0).take (Try.prog.cellsOf 3)) = ys[0]? := hf 0 _ rfl
    have g1 : DataW.trod enc Try.prog w base spare held m 3 (([a0, a1, a2, a3, a4].drop 1).take (Try.prog.cellsOf 3)) = ys[1]? := hf 1 _ rfl
    have g2 : DataW.trod enc Try.prog w base spare held m 4 (([a0, a1, a2, a3, a4].drop 2).take (Try.prog.cellsOf 4)) = ys[2]? := hf 2 _ rfl
    have g3 : DataW.trod enc Try.prog w base spare held m 29 (([a0, a1, a2, a3, a4].drop 3).take (Try.prog.cellsOf 29)) = ys[3]? := hf 3 _ rfl
    have g4 : DataW.trod enc Try.prog w base spare held m 25 (([a0, a1, a2, a3, a4].drop 4).take (Try.prog.cellsOf 25)) = ys[4]? := hf 4 _ rfl
    have c3 : Try.prog.cellsOf 3 = 1 := by kernel_rfl
    have c4 : Try.prog.cellsOf 4 = 1 := by kernel_rfl
    have c29 : Try.prog.cellsOf 29 = 1 := by kernel_rfl
    have c25 : Try.prog.cellsOf 25 = 1 := by kernel_rfl
    simp only [c3, c4, c29, c25, List.drop_succ_cons, List.drop_zero, List.take_succ_cons, List.take_zero] at g0 g1 g2 g3 g4
    have hys' : ys.length = 5 := hys
    rw [List.getElem?_eq_getElem (by omega)] at g0 g1 g2 g3 g4
    obtain ⟨n0, e0, b0, b1⟩ := trod_i64 Try.underlying3 g0
    obtain ⟨n1, e1, b2, b3⟩ := trod_i64 Try.underlying3 g1
    obtain ⟨n2, e2⟩ := trod_bool' Try.underlying4 g2
    obtain ⟨n3, e3, b4⟩ := trod_f64 Try.underlying29 g3
    obtain ⟨v, l, e4, hb⟩ := open_bytes Try.underlying25 Try.underlying5 (by kernel_rfl) g4
    simp only [List.cons.injEq, and_true] at e0 e1 e2 e3 e4
    subst e0 e1 e2 e3 e4
    exact ⟨⟨n0, n1, n2, n3, a4, l⟩, rfl, ⟨hb, ⟨b0, b1⟩, ⟨b2, b3⟩⟩, b4⟩
theorem open_items {H : Type} {enc : TypeId × Value → H} {w : World} {base : Nat} {spare : Nat → Bool} {held : Bool} {fuel : Nat} {cs : List Value} {x : DataW H × List MemPlace}
    (h : DataW.trod enc Try.prog w base spare held fuel 22 cs = some x) : ∃ (v : Value) (l : List It), cs = [v] ∧ Its w (fun g => g < w.heap.size) v l := by
  obtain ⟨v, l, h1, h2, h3⟩ := open_sl It.cells (fun i => i.full w (fun g => g < w.heap.size)) 5 (fun _ => rfl) (by omega) Try.underlying22 (by kernel_rfl) (fun n cs' y hy => open_item hy) h
  exact ⟨v, l, h1, h2, h3⟩
end Go.Proofs.Ytmndoppeoinkcaa
