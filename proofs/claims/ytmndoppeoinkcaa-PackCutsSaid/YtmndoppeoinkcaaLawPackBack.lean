/-
  PackBack: whatever list of items comes in, skerrylaw02.PackBack returns true, and its argument reads as before. Conditions: none.
-/
import Derived.Test.YtmndoppeoinkcaaPackIts
import Derived.Test.YtmndoppeoinkcaaPackPure
namespace Go.Proofs.Ytmndoppeoinkcaa
open Go.RowKit Go.ChangeShapes Go.WideShapes Go.ChangeAt Go.Deep

def allBytes (l : List It) : List UInt8 := l.flatMap It.bytes
theorem all_len (l : List It) : (allBytes l).length ≤ l.length * 16400 := by
  induction l with
  | nil => simp [allBytes]
  | cons i l ih => have := bytes_len i; simp [allBytes] at ih ⊢; omega
theorem take_it {l : List It} {i : Nat} {x : It} (h : l[i]? = some x) : l.take (i + 1) = l.take i ++ [x] := by
  obtain ⟨hi, rfl⟩ := List.getElem?_eq_some_iff.1 h
  exact List.take_succ_eq_append_getElem hi
theorem drop_it {l : List It} {i : Nat} {x : It} (h : l[i]? = some x) : l.drop i = x :: l.drop (i + 1) := by
  obtain ⟨hi, rfl⟩ := List.getElem?_eq_some_iff.1 h
  exact List.drop_eq_getElem_cons hi
theorem all_snoc {l : List It} {i : Nat} {x : It} (h : l[i]? = some x) : allBytes (l.take (i + 1)) = allBytes (l.take i) ++ x.bytes := by
  rw [take_it h]; simp [allBytes]
theorem read_bytes {w : World} {T : Nat → Prop} (i : It) (rest : List UInt8) (hf : i.full w T) (ht : i.t.length ≤ 16384) : i.read ⟨i.bytes ++ rest, 0⟩ = (true, ⟨rest, 0⟩) := by
  obtain ⟨⟨_, _, ⟨n0, n1⟩⟩, hx⟩ := hf
  unfold It.read It.bytes
  have : i.kind % 4 = 0 ∨ i.kind % 4 = 1 ∨ i.kind % 4 = 2 ∨ i.kind % 4 = 3 := by omega
  rcases this with h4 | h4 | h4 | h4 <;> simp [h4]
  · rw [int_enc _ _ n0 n1]; simp
  · rw [mark_enc]; simp
  · rw [float_enc _ _ hx]; simp [same_canon]
  · rw [if_neg (by omega), text_enc _ _ ht]; simp
theorem Rd.cap {w : World} {S : Nat → Prop} {b : Nat} {r : RS} (h : Rd w S b r) : Rd w (fun k => S k ∧ k < w.heap.size) b r := by
  obtain ⟨v, t, hb, hs, hS⟩ := h
  have hlt := (Array.getElem?_eq_some_iff.1 hb).1
  exact ⟨v, t, hb, (hs.cap (by omega)).mono (fun g hg => ⟨⟨hg.1.1, hg.2⟩, hg.1.2⟩), hS, hlt⟩

def LawOk (w : World) (e : Ending) (w' : World) : Prop := e = .returned (.bool true) ∧ Below w.heap.size w w'

set_option maxRecDepth 100000 in
set_option maxHeartbeats 1000000 in
theorem packBack_walk (w : World) (v : Value) (l : List It) (h : Its w (fun g => g < w.heap.size) v l) :
    Calls Try.prog 8 #[v] w (LawOk w) := by
  obtain ⟨N, hN⟩ : ∃ N, w.heap.size = N := ⟨_, rfl⟩
  rw [hN] at h
  obtain ⟨n, hn⟩ : ∃ n, l.length = n := ⟨_, rfl⟩
  obtain ⟨A, c, rfl⟩ := h.1.form
  have hle := h.1.le
  unfold maxLen at hle
  rw [hn] at h hle ⊢
  have Hn := Lib.hid hn
  have HN := Lib.hid hN
  clear hn
  go_enter Try.func8, Try.ntmps8
  go_wp2_with fail
  refine (heavy_any _ _ _ l h).mono ?_
  rintro e w' ⟨rfl, rfl⟩
  rcases hh : hv l with _ | _
  · obtain ⟨h200, hall⟩ := hv_out hh
    rw [Hn.out] at h200
    have hfin : ∀ w', Mod (Since N) w w' → LawOk w (.returned (.bool true)) w' := fun w' hm => ⟨rfl, hm.below (by have := HN.out; omega) (fun k hk => by have := HN.out; unfold Since; omega)⟩
    have Hfin := Lib.hid hfin
    have Hall := Lib.hid hall
    have hW0 := Wr.new w 27
    rw [hN] at hW0
    clear hfin hall hh
    go_wp2
    go_loopw [4] (fun iv wr => ∃ i : Nat, i ≤ n ∧ iv = .int .i64 i ∧ Wr wr (Since N) N (allBytes (l.take i)) false ∧ Mod (Since N) w wr ∧ ∀ j it, j < i → l[j]? = some it → it.t.length ≤ 16384) (fun iv _ => n - (intOf iv).toNat)
    case atStart => exact ⟨0, by omega, rfl, by simpa [allBytes] using hW0, (Mod.refl _ w).alloc _, fun j it hj => by omega⟩
    case round =>
      obtain ⟨i, hin, rfl, hW, hm, hsm⟩ := hrel
      have Hsm := Lib.hid hsm
      clear hsm
      have hI := h.below hm
      by_cases hi : i < n
      · obtain ⟨g, off, it, rfl, hgN, hit, hok, c0, c1, c2, c3, c4⟩ := hI.at hi
        obtain ⟨m, hm'⟩ : ∃ m, it.t.length = m := ⟨_, rfl⟩
        obtain ⟨A1, k1, htv⟩ := hok.1.1.form
        rw [hm'] at htv
        have Hm := Lib.hid hm'
        have Hit := Lib.hid hit
        have Htv := Lib.hid htv
        rw [htv] at c4
        clear hm' hit htv h
        by_cases h3 : 16384 < m
        · go_wp2
          go_ret
          exact Hfin.out _ hm
        · have hlen : (allBytes (l.take i)).length ≤ 900000000 := by have := all_len (l.take i); rw [List.length_take] at this; omega
          go_wp2_with fail
          rw [← Htv.out]
          refine (write_any wr (Since N) (fun g => g < N) N _ false it hW hlen hok.1 (fun g h1 h2 => by unfold Since at h2; omega)).mono ?_
          rintro e w1 ⟨rfl, hW1, hm1⟩
          have hW2 := hW1.since (by have := hm.size; have := HN.out; omega)
          rw [← all_snoc Hit.out] at hW2
          have hlo : it.long = false := by simp [It.long, Hm.out, h3]
          simp only [hlo, Bool.or_false] at hW2
          have hm2 := hm.self hm1
          clear hlo
          go_wp2
          refine ⟨⟨i + 1, by omega, by go_num, hW2, hm2, fun j jt hj hjt => ?_⟩, by simp [intOf]; omega⟩
          rcases Nat.lt_or_ge j i with hlt | hge
          · exact Hsm.out j jt hlt hjt
          · obtain rfl : j = i := by omega
            rw [Hit.out] at hjt
            injection hjt with hjt
            subst hjt
            rw [Hm.out]; omega
      · have hall : ∀ it ∈ l, it.t.length ≤ 16384 := by
          intro it hit
          obtain ⟨j, hj⟩ := List.mem_iff_getElem?.1 hit
          exact Hsm.out j it (by have := (List.getElem?_eq_some_iff.1 hj).1; rw [Hn.out] at this; omega) hj
        have hlen : (allBytes l).length ≤ 4000000 := by have := all_len l; rw [Hn.out] at this; omega
        rw [List.take_of_length_le (by rw [Hn.out]; omega)] at hW
        have H2 := Lib.hid hall
        clear hall Hsm
        go_wp2_with fail
        refine (w_bytes _ _ _ _ hW (by omega)).mono ?_
        rintro e w1 ⟨v1, rfl, hN1, hE1⟩
        obtain ⟨m, hm'⟩ : ∃ m, (allBytes l).length = m := ⟨_, rfl⟩
        have hb1 := hN1.sl
        unfold Byt at hb1
        rw [hm'] at hb1 hlen
        have Hm := Lib.hid hm'
        clear hm'
        obtain ⟨A1, k1, rfl⟩ := hb1.form
        go_wp2_with fail
        refine (r_new _ _ _ (allBytes l) (by unfold Byt; rw [Hm.out]; exact hb1) (by rw [Hm.out]; omega)).mono ?_
        rintro e w2 ⟨b, rfl, hbs, hR, hE2⟩
        have hR := hR.cap
        have hm2 := (hm.ext hE1).ext hE2
        have hw1 : N ≤ w1.heap.size := by have := (hm.ext hE1).size; have := HN.out; omega
        have hlt : ∀ k, (w1.heap.size ≤ k ∧ k < w2.heap.size) → k < w2.heap.size := fun k hk => hk.2
        have Hlt := Lib.hid hlt
        clear hlt
        go_wp2_with fail
        refine (r_left _ _ _ _ hR).mono ?_
        rintro e w' ⟨rfl, rfl⟩
        have hln : (RS.leftN ⟨allBytes l, 0⟩ != (m : Int)) = false := by simp [RS.leftN, Hm.out]
        go_wp2
        go_loopw [8] (fun iv wr => ∃ i : Nat, i ≤ n ∧ iv = .int .i64 i ∧ Rd wr (fun k => w1.heap.size ≤ k ∧ k < w2.heap.size) b ⟨allBytes (l.drop i), 0⟩ ∧ Mod (fun k => w1.heap.size ≤ k) w2 wr) (fun iv _ => n - (intOf iv).toNat)
        case atStart => exact ⟨0, by omega, rfl, hR, Mod.refl _ _⟩
        case round =>
          obtain ⟨i, hin, rfl, hRi, hmi⟩ := hrel
          have hmm : Mod (Since N) w wr := hm2.trans hmi (fun k _ h => by unfold Since; omega)
          have hI := h.below hmm
          by_cases hj : i < n
          · obtain ⟨g, off, it, rfl, hgN, hit, hok, c0, c1, c2, c3, c4⟩ := hI.at hj
            have hrd := read_bytes it (allBytes (l.drop (i + 1))) hok (H2.out it (List.mem_of_getElem? hit))
            have hdr : allBytes (l.drop i) = it.bytes ++ allBytes (l.drop (i + 1)) := by rw [drop_it hit]; simp [allBytes]
            rw [hdr] at hRi
            have Hrd := Lib.hid hrd
            clear hrd hdr hit h
            go_wp2_with fail
            refine (got_any wr _ (fun g => g < N) b _ it hRi (fun k hk => Nat.lt_of_lt_of_le hk.2 hmi.size) hok.1 (fun g h1 h2 => by omega)).mono ?_
            rintro e w3 ⟨rfl, hR3, hm3⟩
            rw [Hrd.out] at hR3 ⊢
            have hm4 := hmi.trans hm3 (fun k _ h => h.1)
            go_wp2
            exact ⟨⟨i + 1, by omega, by go_num, hR3, hm4⟩, by simp [intOf]; omega⟩
          · rw [List.drop_eq_nil_of_le (by rw [Hn.out]; omega)] at hRi
            go_wp2_with fail
            refine (r_done _ _ _ _ hRi).mono ?_
            rintro e w' ⟨rfl, rfl⟩
            rw [show RS.done ⟨allBytes [], 0⟩ = 0 from rfl]
            go_wp2_with fail
            refine (r_left _ _ _ _ hRi).mono ?_
            rintro e w' ⟨rfl, rfl⟩
            rw [show RS.leftN ⟨allBytes [], 0⟩ = 0 from rfl]
            go_wp2_with fail
            refine (wakes_any _).mono ?_
            rintro e w4 ⟨rfl, hE4⟩
            have hF := Hfin.out w4 (hmm.ext hE4)
            go_wp2
            go_ret
            exact hF
  · clear hh
    go_wp2
    go_ret
    exact ⟨rfl, Below.refl _ _⟩
end Go.Proofs.Ytmndoppeoinkcaa
