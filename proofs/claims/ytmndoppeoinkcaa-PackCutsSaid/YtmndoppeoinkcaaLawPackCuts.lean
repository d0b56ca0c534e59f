/-
  PackCuts: whatever list of items, cut and byte come in, skerrylaw02.PackCuts returns true, and its arguments read as before. Conditions: none.
-/
import Derived.Test.YtmndoppeoinkcaaLawPackWrites
namespace Go.Proofs.Ytmndoppeoinkcaa
open Go.RowKit Go.ChangeShapes Go.WideShapes Go.ChangeAt Go.Deep

/-- The reader behind a list of items. -/
def readAll : List It → RS → RS
  | [], r => r
  | i :: l, r => readAll l (i.read r).2
theorem readAll_snoc (l : List It) (i : It) (r : RS) : readAll (l ++ [i]) r = (i.read (readAll l r)).2 := by
  induction l generalizing r with
  | nil => rfl
  | cons j l ih => simp only [List.cons_append, readAll]; exact ih _
theorem read_e (i : It) (r : RS) (h : (i.read r).2.e = 0) : r.e = 0 := by
  unfold It.read at h
  split at h
  · exact int_e r h
  · split at h
    · exact mark_e r h
    · split at h
      · exact float_e r h
      · exact text_e r h
theorem readAll_e (l : List It) (r : RS) (h : (readAll l r).e = 0) : r.e = 0 := by
  induction l generalizing r with
  | nil => exact h
  | cons i l ih => exact read_e i r (ih _ h)
theorem pair_eta {α β : Type} (p : α × β) : p = (p.1, p.2) := rfl
theorem read_behind (i : It) {l l' : List UInt8} (d : List UInt8) (h : (i.read ⟨l, 0⟩).2 = ⟨l', 0⟩) : (i.read ⟨l ++ d, 0⟩).2 = ⟨l' ++ d, 0⟩ := by
  unfold It.read at h ⊢
  split
  · rename_i h4; rw [if_pos h4] at h
    have h' : (RS.int ⟨l, 0⟩) = ((RS.int ⟨l, 0⟩).1, ⟨l', 0⟩) := by rw [← h]
    rw [int_behind h']
  · rename_i h4; rw [if_neg h4] at h
    split
    · rename_i h5; rw [if_pos h5] at h
      have h' : (RS.mark ⟨l, 0⟩) = ((RS.mark ⟨l, 0⟩).1, ⟨l', 0⟩) := by rw [← h]
      rw [mark_behind h']
    · rename_i h5; rw [if_neg h5] at h
      split
      · rename_i h6; rw [if_pos h6] at h
        have h' : (RS.float ⟨l, 0⟩) = ((RS.float ⟨l, 0⟩).1, ⟨l', 0⟩) := by rw [← h]
        rw [float_behind h']
      · rename_i h6; rw [if_neg h6] at h
        have h' : (RS.text ⟨l, 0⟩) = ((RS.text ⟨l, 0⟩).1, ⟨l', 0⟩) := by rw [← h]
        rw [text_behind h']
theorem readAll_behind (is : List It) (l l' d : List UInt8) (h : readAll is ⟨l, 0⟩ = ⟨l', 0⟩) : readAll is ⟨l ++ d, 0⟩ = ⟨l' ++ d, 0⟩ := by
  induction is generalizing l with
  | nil => simp only [readAll, RS.mk.injEq, and_true] at h ⊢; rw [h]
  | cons i is ih =>
    simp only [readAll] at h ⊢
    have he : (i.read ⟨l, 0⟩).2.e = 0 := readAll_e is _ (by rw [h])
    obtain ⟨⟨l1, e1⟩, hr⟩ : ∃ r1, (i.read ⟨l, 0⟩).2 = r1 := ⟨_, rfl⟩
    rw [hr] at he h
    simp only at he
    subst he
    rw [read_behind i d hr]
    exact ih l1 h
theorem readAll_all {w : World} {T : Nat → Prop} (is : List It) (rest : List UInt8) (hf : ∀ i ∈ is, i.full w T) (ht : ∀ i ∈ is, i.t.length ≤ 16384) : readAll is ⟨allBytes is ++ rest, 0⟩ = ⟨rest, 0⟩ := by
  induction is with
  | nil => simp [readAll, allBytes]
  | cons i is ih =>
    have e : allBytes (i :: is) ++ rest = i.bytes ++ (allBytes is ++ rest) := by simp [allBytes]
    rw [readAll, e, read_bytes i _ (hf i (by simp)) (ht i (by simp))]
    exact ih (fun j hj => hf j (by simp [hj])) (fun j hj => ht j (by simp [hj]))
theorem done_zero {r : RS} (h : r.done = 0) : r = ⟨[], 0⟩ := by
  obtain ⟨l, e⟩ := r
  unfold RS.done at h
  simp only at h
  split at h
  · omega
  · rename_i hne
    subst h
    rw [List.eq_nil_of_length_eq_zero (l := l) (by omega)]
/-- A strict beginning is not read as all of it. -/
theorem cut_bad {w : World} {T : Nat → Prop} (is : List It) (k : Nat) (hk : k < (allBytes is).length) (hf : ∀ i ∈ is, i.full w T) (ht : ∀ i ∈ is, i.t.length ≤ 16384) : (readAll is ⟨(allBytes is).take k, 0⟩).done ≠ 0 := by
  intro h
  have h1 := readAll_behind is _ _ ((allBytes is).drop k) (done_zero h)
  rw [List.take_append_drop] at h1
  have h2 := readAll_all is [] hf ht
  rw [List.append_nil, h1] at h2
  simp only [List.nil_append, RS.mk.injEq, and_true] at h2
  have := congrArg List.length h2
  simp at this
  omega
/-- Nor what has something more. -/
theorem more_bad {w : World} {T : Nat → Prop} (is : List It) (c : UInt8) (hf : ∀ i ∈ is, i.full w T) (ht : ∀ i ∈ is, i.t.length ≤ 16384) : (readAll is ⟨allBytes is ++ [c], 0⟩).done ≠ 0 := by
  rw [readAll_all is [c] hf ht]
  simp [RS.done]
theorem all_pos {is : List It} (h : is ≠ []) : 0 < (allBytes is).length ∨ ∃ i ∈ is, 16384 < i.t.length := by
  rcases is with _ | ⟨i, is⟩
  · exact absurd rfl h
  · by_cases hl : 16384 < i.t.length
    · exact .inr ⟨i, by simp, hl⟩
    · refine .inl ?_
      have : 0 < i.bytes.length := by
        unfold It.bytes
        split
        · exact uvF_pos 9 _
        · split
          · simp [encMark]; split <;> simp
          · split
            · rw [encFloat_len]; omega
            · have := uvF_pos 9 (zig i.t.length); simp [encText, encInt]; omega
      simp [allBytes]; omega

set_option maxRecDepth 100000 in
set_option maxHeartbeats 2000000 in
theorem packCuts_walk (w : World) (v : Value) (l : List It) (k0 m0 : Int) (h : Its w (fun g => g < w.heap.size) v l) (hk0 : -9223372036854775808 ≤ k0 ∧ k0 ≤ 9223372036854775807) (hm0 : 0 ≤ m0 ∧ m0 ≤ 255) :
    Calls Try.prog 7 #[v, .int .i64 k0, .int .u8 m0] w (LawOk w) := by
  obtain ⟨i0, hi0, hz0, hz1, hz2⟩ := info_parts info_u8
  obtain ⟨N, hN⟩ : ∃ N, w.heap.size = N := ⟨_, rfl⟩
  rw [hN] at h
  obtain ⟨n, hn⟩ : ∃ n, l.length = n := ⟨_, rfl⟩
  obtain ⟨A, c, rfl⟩ := h.1.form
  have hle := h.1.le
  unfold maxLen at hle
  rw [hn] at h hle ⊢
  have Hn := Lib.hid hn
  have HN := Lib.hid hN
  have Hk0 := Lib.hid hk0
  obtain ⟨more, hmore⟩ : ∃ c : UInt8, Value.int .u8 m0 = B c := ⟨UInt8.ofNat m0.toNat, by unfold B; simp; omega⟩
  have Hmore := Lib.hid hmore
  have hfin : ∀ w', Mod (Since N) w w' → LawOk w (.returned (.bool true)) w' := fun w' hm => ⟨rfl, hm.below (by have := HN.out; omega) (fun k hk => by have := HN.out; unfold Since; omega)⟩
  have Hfin := Lib.hid hfin
  clear hn hk0 hmore hfin
  go_enter Try.func7, Try.ntmps7
  go_wp2_with fail
  refine (heavy_any _ _ _ l h).mono ?_
  rintro e w' ⟨rfl, rfl⟩
  rcases hh : hv l with _ | _
  · obtain ⟨h200, hall⟩ := hv_out hh
    rw [Hn.out] at h200
    have Hall := Lib.hid hall
    have hW0 := Wr.new w 27
    rw [hN] at hW0
    clear hall hh
    by_cases hn0 : n = 0
    · have d0 : ((n : Int) == 0) = true := by simp; omega
      go_wp2
      go_ret
      exact Hfin.out _ (Mod.refl _ _)
    have d0 : ((n : Int) == 0) = false := by simp; omega
    go_wp2
    go_loopw [8] (fun iv wr => ∃ i : Nat, i ≤ n ∧ iv = .int .i64 i ∧ Wr wr (Since N) N (allBytes (l.take i)) false ∧ Mod (Since N) w wr ∧ ∀ j it, j < i → l[j]? = some it → it.t.length ≤ 16384) (fun iv _ => n - (intOf iv).toNat)
    case atStart => exact ⟨0, by omega, rfl, by simpa [allBytes] using hW0, (Mod.refl _ w).alloc _, fun j it hj => by omega⟩
    case round =>
      obtain ⟨i, hin, rfl, hW, hm, hsm⟩ := hrel
      have Hsm := Lib.hid hsm
      clear hsm
      have hI := h.below hm
      by_cases hi : i < n
      · obtain ⟨g, off, it, rfl, hgN, hit, hok, c0, c1, c2, c3, c4⟩ := hI.at hi
        obtain ⟨m, hm'⟩ : ∃ m, it.t.length = m := ⟨_, rfl⟩
        obtain ⟨A1, k1, htv⟩ := hok.1.1.form
        rw [hm'] at htv
        have Hm := Lib.hid hm'
        have Hit := Lib.hid hit
        have Htv := Lib.hid htv
        rw [htv] at c4
        clear hm' hit htv h
        by_cases h3 : 16384 < m
        · go_wp2
          go_ret
          exact Hfin.out _ hm
        · have hlen : (allBytes (l.take i)).length ≤ 900000000 := by have := all_len (l.take i); rw [List.length_take] at this; omega
          go_wp2_with fail
          rw [← Htv.out]
          refine (write_any wr (Since N) (fun g => g < N) N _ false it hW hlen hok.1 (fun g h1 h2 => by unfold Since at h2; omega)).mono ?_
          rintro e w1 ⟨rfl, hW1, hm1⟩
          have hW2 := hW1.since (by have := hm.size; have := HN.out; omega)
          rw [← all_snoc Hit.out] at hW2
          have hlo : it.long = false := by simp [It.long, Hm.out, h3]
          simp only [hlo, Bool.or_false] at hW2
          have hm2 := hm.self hm1
          clear hlo
          go_wp2
          refine ⟨⟨i + 1, by omega, by go_num, hW2, hm2, fun j jt hj hjt => ?_⟩, by simp [intOf]; omega⟩
          rcases Nat.lt_or_ge j i with hlt | hge
          · exact Hsm.out j jt hlt hjt
          · obtain rfl : j = i := by omega
            rw [Hit.out] at hjt
            injection hjt with hjt
            subst hjt
            rw [Hm.out]; omega
      · have hall : ∀ it ∈ l, it.t.length ≤ 16384 := by
          intro it hit
          obtain ⟨j, hj⟩ := List.mem_iff_getElem?.1 hit
          exact Hsm.out j it (by have := (List.getElem?_eq_some_iff.1 hj).1; rw [Hn.out] at this; omega) hj
        have hlen : (allBytes l).length ≤ 4000000 := by have := all_len l; rw [Hn.out] at this; omega
        have hpos : 0 < (allBytes l).length := by
          rcases all_pos (is := l) (by intro e; rw [e] at Hn; have := Hn.out; simp at this; omega) with hp | ⟨it, hit, hp⟩
          · exact hp
          · have := hall it hit; omega
        rw [List.take_of_length_le (by rw [Hn.out]; omega)] at hW
        have H2 := Lib.hid hall
        clear hall Hsm hW0
        go_wp2_with fail
        refine (w_bytes _ _ _ _ hW (by omega)).mono ?_
        rintro e w1 ⟨v1, rfl, hN1, hE1⟩
        obtain ⟨m, hm'⟩ : ∃ m, (allBytes l).length = m := ⟨_, rfl⟩
        have hb1 := hN1.sl
        unfold Byt at hb1
        rw [hm'] at hb1 hlen hpos
        have Hm := Lib.hid hm'
        clear hm'
        obtain ⟨A1, k1, rfl⟩ := hb1.form
        have hmk : m ≤ k1 := by obtain ⟨_, A', c', e, h1, _⟩ := hb1; injection e with _ _ e3; omega
        have hm1 := hm.ext hE1
        have hszN : N ≤ wr.heap.size := by have := hm.size; have := HN.out; omega
        have dm : ((m : Int) == 0) = false := by simp; omega
        obtain ⟨q, hq⟩ : ∃ q : Nat, (IntKind.u64.wrap k0) % (m : Int) = (q : Int) := ⟨((IntKind.u64.wrap k0) % (m : Int)).toNat, by have := Int.emod_nonneg (IntKind.u64.wrap k0) (show (m : Int) ≠ 0 by omega); omega⟩
        have hqm : q < m := by have := Int.emod_lt_of_pos (IntKind.u64.wrap k0) (show 0 < (m : Int) by omega); omega
        have hwm : IntKind.u64.wrap (m : Int) = (m : Int) := by rw [wrap_u64]; omega
        have hq2 : (IntKind.u64.wrap k0).tmod (m : Int) = (q : Int) := by rw [Int.tmod_eq_emod_of_nonneg (by rw [wrap_u64]; omega)]; exact hq
        have hqk : (q : Int) ≤ (k1 : Int) := by omega
        obtain ⟨w0, rfl⟩ : ∃ w0 : World, w0 = wr := ⟨_, rfl⟩
        go_wp2
        go_loopw [11] (fun kv wr => ∃ k : Nat, k ≤ 2 ∧ kv = .int .i64 k ∧ Mod (Since w1.heap.size) w1 wr) (fun kv _ => 2 - (intOf kv).toNat)
        case atStart => exact ⟨0, by omega, rfl, Mod.refl _ _⟩
        case round =>
          obtain ⟨k, hk2, rfl, hmr⟩ := hrel
          obtain ⟨wo, rfl⟩ : ∃ wo : World, wo = wr := ⟨_, rfl⟩
          have hbo := (hN1.sl.cap (by omega)).mod hmr (fun g a1 a2 => by unfold Since at a2; omega)
          have hmo : Mod (Since N) w wo := hm1.trans hmr (fun k _ h => by unfold Since at h ⊢; have := hE1.size; omega)
          have hIo := h.below hmo
          by_cases hk : k < 2
          · have hfull : ∀ it ∈ l, it.full wo (fun g => g < N) := hIo.2
            have hs1o := hmr.size
            have hke : k = 0 ∨ k = 1 := by omega
            rcases hke with rfl | rfl
            case' inl =>
              have hcb : Byt wo (fun g => Since w0.heap.size g ∧ g < w1.heap.size) (.slice A1 q k1) ((allBytes l).take q) := by
                have h1 := hbo
                unfold Byt at h1
                rw [Hm.out] at h1
                have h2 := h1.upto (m := q) (by omega)
                unfold Byt
                rw [List.length_take, Hm.out, Nat.min_eq_left (by omega)]
                simpa using h2
              have hbad := cut_bad l q (by rw [Hm.out]; exact hqm) hfull H2.out
              have hcl : ((allBytes l).take q).length ≤ 1000000000 := by rw [List.length_take, Hm.out]; omega
              have hmx : Mod (Since w1.heap.size) w1 wo := hmr
              obtain ⟨cbs, hcbs⟩ : ∃ x, (allBytes l).take q = x := ⟨_, rfl⟩
              rw [hcbs] at hcb hbad hcl
              have Hcb := Lib.hid hcb
              have Hbad := Lib.hid hbad
              obtain ⟨NX, hNX⟩ : ∃ x, wo.heap.size = x := ⟨_, rfl⟩
              have HNX := Lib.hid hNX
              have hNX1 : w1.heap.size ≤ NX := by omega
              clear hcbs hcb hbad hNX
              go_wp2_with fail
            case' inr =>
              go_wp2_with fail
              refine (k_twin _ _ _ (allBytes l) (by rw [← Hm.out] at *; exact hbo) (by rw [Hm.out]; omega)).mono ?_
              rintro e w2 ⟨v2, rfl, hN2, hE2⟩
              have ho2 := hN2.1
              rw [Hm.out] at ho2
              go_wp2_with (at_builtin; refine wpList_app _ rfl _ _ 25 rfl 5 i0 _ 1 1 Try.underlying25 hi0 hz0 hz1 hz2 rfl (by omega) _ m ((allBytes l).map B) rfl (ho2.alloc _) _ _ 1 _ rfl (Sl.one w2 _ _) (by simp [Value.oneCell']) (by simp only [maxLen]; omega) (by omega) ?_)
              intro v3 w3 ho3 hgr hat
              obtain ⟨hB3, hE3⟩ := NewB.app (cs := allBytes l ++ [more]) hN2 hE2 ((Mod.refl _ w2).alloc _) (by rw [Hmore.out]; simp) ho3 hgr hat (by have := hE2.size; omega)
              have hcb := hB3.sl
              have hbad := more_bad l more hfull H2.out
              have hcl : (allBytes l ++ [more]).length ≤ 1000000000 := by simp [Hm.out]; omega
              have hmx : Mod (Since w1.heap.size) w1 w3 := hmr.ext hE3
              have hIo := hIo.mod hE3 (fun _ _ => id)
              obtain ⟨cbs, hcbs⟩ : ∃ x, allBytes l ++ [more] = x := ⟨_, rfl⟩
              rw [hcbs] at hcb hbad hcl
              have Hcb := Lib.hid hcb
              have Hbad := Lib.hid hbad
              obtain ⟨NX, hNX⟩ : ∃ x, w3.heap.size = x := ⟨_, rfl⟩
              have HNX := Lib.hid hNX
              have hNX1 : w1.heap.size ≤ NX := by have := hE3.size; omega
              clear hcbs hcb hbad hgr hat ho3 hNX
              go_wp2_with fail
            all_goals
              refine (r_new _ _ _ cbs Hcb.out hcl).mono ?_
              rintro e wb ⟨b, rfl, hbs, hR, hE4⟩
              have hR := hR.cap
              rw [HNX.out] at hR
              have hsE1 := hE1.size
              have hmb : Mod (Since w1.heap.size) w1 wb := hmx.ext hE4
              have hIb := hIo.mod hE4 (fun _ _ => id)
              go_wp2
              go_loopw [14] (fun iv wr => ∃ i : Nat, i ≤ n ∧ iv = .int .i64 i ∧ Rd wr (Btw NX wb.heap.size) b (readAll (l.take i) ⟨cbs, 0⟩) ∧ Mod (Since NX) wb wr) (fun iv _ => n - (intOf iv).toNat)
              case atStart => exact ⟨0, by omega, rfl, hR, Mod.refl _ _⟩
              case round =>
                obtain ⟨i, hin, rfl, hRi, hmi⟩ := hrel
                have hI := hIb.mod hmi (fun g a1 a2 => by unfold Since at a2; omega)
                by_cases hj : i < n
                · obtain ⟨g, off, it, rfl, hgN, hit, hok, c0, c1, c2, c3, c4⟩ := hI.at hj
                  have hsn : readAll (l.take (i + 1)) ⟨cbs, 0⟩ = (it.read (readAll (l.take i) ⟨cbs, 0⟩)).2 := by rw [take_it hit, readAll_snoc]
                  have Hsn := Lib.hid hsn
                  clear hsn hit h
                  go_wp2_with fail
                  refine (got_any wr _ (fun g => g < N) b _ it hRi (fun k hk => Nat.lt_of_lt_of_le hk.2 hmi.size) hok.1 (fun g h1 h2 => by omega)).mono ?_
                  rintro e w5 ⟨rfl, hR5, hm5⟩
                  rw [← Hsn.out] at hR5
                  have hm6 := hmi.trans hm5 (fun k _ h => h.1)
                  go_wp2
                  exact ⟨⟨i + 1, by omega, by go_num, hR5, hm6⟩, by simp [intOf]; omega⟩
                · rw [List.take_of_length_le (by rw [Hn.out]; omega)] at hRi
                  have hdn : ((readAll l ⟨cbs, 0⟩).done == 0) = false := by simp [Hbad.out]
                  have hmf : Mod (Since w1.heap.size) w1 wr := hmb.trans hmi (fun k _ h => by unfold Since at h ⊢; omega)
                  go_wp2_with fail
                  refine (r_done _ _ _ _ hRi).mono ?_
                  rintro e w' ⟨rfl, rfl⟩
                  go_wp2
                  first | exact ⟨⟨1, by omega, by go_num, hmf⟩, by simp [intOf]⟩ | exact ⟨⟨2, by omega, by go_num, hmf⟩, by simp [intOf]⟩
          · go_wp2_with fail
            refine (wakes_any _).mono ?_
            rintro e w4 ⟨rfl, hE4⟩
            have hF := Hfin.out w4 (hmo.ext hE4)
            go_wp2
            go_ret
            exact hF
  · clear hh
    go_wp2
    go_ret
    exact Hfin.out _ (Mod.refl _ _)
end Go.Proofs.Ytmndoppeoinkcaa
