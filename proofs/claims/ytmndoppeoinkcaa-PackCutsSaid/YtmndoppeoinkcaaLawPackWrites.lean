/-
  PackWrites: whatever list of items comes in, skerrylaw02.PackWrites returns true, and its argument reads as before. Conditions: none.
-/
import Derived.Test.YtmndoppeoinkcaaLawPackFloats
namespace Go.Proofs.Ytmndoppeoinkcaa
open Go.RowKit Go.ChangeShapes Go.WideShapes Go.ChangeAt Go.Deep

def anyLong (l : List It) : Bool := l.any It.long
theorem any_snoc {l : List It} {i : Nat} {x : It} (h : l[i]? = some x) : anyLong (l.take (i + 1)) = (anyLong (l.take i) || x.long) := by
  rw [take_it h]; simp [anyLong]

def WantOk (w : World) (l : List It) (e : Ending) (w' : World) : Prop := ∃ v, e = .returned (.tuple #[v, .bool (!anyLong l)]) ∧ NewB w w' v (allBytes l) ∧ Ext w w'
set_option maxRecDepth 100000 in
set_option maxHeartbeats 2000000 in
theorem want_any (w : World) (T : Nat → Prop) (v : Value) (l : List It) (h : Its w T v l) (hl : l.length ≤ 200) :
    Calls Try.prog 14 #[v] w (WantOk w l) := by
  obtain ⟨i0, hi, hz0, hz1, hz2⟩ := info_parts info_u8
  obtain ⟨n, hn⟩ : ∃ n, l.length = n := ⟨_, rfl⟩
  obtain ⟨A, c, rfl⟩ := h.1.form
  rw [hn] at h hl ⊢
  have Hn := Lib.hid hn
  clear hn
  go_enter Try.func14, Try.ntmps14
  go_wp2
  go_loopw [4, 5, 6] (fun ov kv iv wr => ∃ i : Nat, i ≤ n ∧ iv = .int .i64 i ∧ kv = .bool (!anyLong (l.take i)) ∧ NewB w wr ov (allBytes (l.take i)) ∧ Ext w wr) (fun _ _ iv _ => n - (intOf iv).toNat)
  case atStart => exact ⟨0, by omega, rfl, rfl, NewB.nil w, Mod.refl _ _⟩
  case round =>
    obtain ⟨i, hin, rfl, rfl, hB, hE⟩ := hrel
    have hI := h.mod hE (fun _ _ => id)
    by_cases hii : i < n
    · obtain ⟨g, off, it, rfl, hgN, hit, hok, c0, c1, c2, c3, c4⟩ := hI.at hii
      have hal := all_snoc hit
      have han := any_snoc hit
      have hlen : (allBytes (l.take i)).length ≤ 900000000 := by have := all_len (l.take i); rw [List.length_take] at this; omega
      have hil := bytes_len it
      obtain ⟨pre, hpre⟩ : ∃ p, allBytes (l.take i) = p := ⟨_, rfl⟩
      obtain ⟨an, hann⟩ : ∃ p, anyLong (l.take i) = p := ⟨_, rfl⟩
      rw [hpre] at hal hB hlen
      rw [hann] at han ⊢
      have Hal := Lib.hid hal
      have Han := Lib.hid han
      have Hok := Lib.hid hok
      have hkm := kind_mod it.kind
      have ho := hB.1
      obtain ⟨m, hm⟩ : ∃ m, pre.length = m := ⟨_, rfl⟩
      rw [hm] at ho hlen
      have HB := Lib.hid hB
      clear hit hpre hann hB hal han hI h hm hok
      have h4 : it.kind % 4 = 0 ∨ it.kind % 4 = 1 ∨ it.kind % 4 = 2 ∨ it.kind % 4 = 3 := by omega
      have hlong4 : it.kind % 4 ≠ 3 → it.long = false := fun h => by simp [It.long, h]
      have Hlong4 := Lib.hid hlong4
      clear hlong4
      rcases h4 with h4 | h4 | h4 | h4
      case' inl =>
        rw [h4] at hkm
        have Hb : Hid (it.bytes = encInt it.n) := Lib.hid (by simp [It.bytes, h4])
        have Hl : Hid (it.long = false) := Lib.hid (Hlong4.out (by omega))
        clear h4
        go_wp2_with fail
        refine (ref_int _ _ Hok.out.1.2.2.1 Hok.out.1.2.2.2).mono ?_
        rintro e w1 ⟨v1, rfl, hN1, hE1⟩
        obtain ⟨q, hq⟩ : ∃ q, encInt it.n = q := ⟨_, rfl⟩
        rw [hq] at hN1
        have Hb2 : Hid (it.bytes = q) := Lib.hid (Hb.out.trans hq)
        clear hq
      case' inr.inl =>
        rw [h4] at hkm
        have Hb : Hid (it.bytes = encMark it.is) := Lib.hid (by simp [It.bytes, h4])
        have Hl : Hid (it.long = false) := Lib.hid (Hlong4.out (by omega))
        clear h4
        go_wp2_with fail
        refine (ref_mark _ _).mono ?_
        rintro e w1 ⟨v1, rfl, hN1, hE1⟩
        obtain ⟨q, hq⟩ : ∃ q, encMark it.is = q := ⟨_, rfl⟩
        rw [hq] at hN1
        have Hb2 : Hid (it.bytes = q) := Lib.hid (Hb.out.trans hq)
        clear hq
      case' inr.inr.inl =>
        rw [h4] at hkm
        have Hb : Hid (it.bytes = encFloat it.x) := Lib.hid (by simp [It.bytes, h4])
        have Hl : Hid (it.long = false) := Lib.hid (Hlong4.out (by omega))
        clear h4
        go_wp2_with fail
        refine (ref_float _ _).mono ?_
        rintro e w1 ⟨v1, rfl, hN1, hE1⟩
        obtain ⟨q, hq⟩ : ∃ q, encFloat it.x = q := ⟨_, rfl⟩
        rw [hq] at hN1
        have Hb2 : Hid (it.bytes = q) := Lib.hid (Hb.out.trans hq)
        clear hq
      case' inr.inr.inr =>
        rw [h4] at hkm
        obtain ⟨tm, htm⟩ : ∃ m, it.t.length = m := ⟨_, rfl⟩
        have hbt := Hok.out.1.1
        unfold Byt at hbt
        rw [htm] at hbt
        obtain ⟨A1, k1, htv⟩ := hbt.form
        rw [htv] at c4 hbt
        have Htm := Lib.hid htm
        clear htm htv
        by_cases h5 : 16384 < tm
        · have Hb : Hid (it.bytes = []) := Lib.hid (by simp [It.bytes, h4, Htm.out, h5])
          have Hl : Hid (it.long = true) := Lib.hid (by simp [It.long, h4, Htm.out, h5])
          have hd5 : decide ((16384 : Int) < (tm : Int)) = true := by simp; omega
          clear h4
          have hB1 := HB.out
          rw [show pre = allBytes (l.take (i + 1)) from by rw [Hal.out, Hb.out, List.append_nil]] at hB1
          have Hk : Hid ((!anyLong (l.take (i + 1))) = false) := Lib.hid (by rw [Han.out, Hl.out]; simp)
          go_wp2
          exact ⟨⟨i + 1, by omega, by go_num, by rw [Hk.out], hB1, hE⟩, by simp [intOf]; omega⟩
        have Hb : Hid (it.bytes = encText it.t) := Lib.hid (by simp [It.bytes, h4, Htm.out, h5])
        have Hl : Hid (it.long = false) := Lib.hid (by simp [It.long, h4, Htm.out, h5])
        have hd5 : decide ((16384 : Int) < (tm : Int)) = false := by simp; omega
        clear h4
        go_wp2_with fail
        refine (ref_text _ _ _ it.t (by unfold Byt; rw [Htm.out]; exact hbt) (by rw [Htm.out]; omega)).mono ?_
        rintro e w1 ⟨v1, rfl, hN1, hE1⟩
        obtain ⟨q, hq⟩ : ∃ q, encText it.t = q := ⟨_, rfl⟩
        rw [hq] at hN1
        have Hb2 : Hid (it.bytes = q) := Lib.hid (Hb.out.trans hq)
        clear hq
      all_goals
        have hb1 := hN1.sl
        have hql : q.length ≤ 16400 := by rw [← Hb2.out]; exact hil
        obtain ⟨qm, hqm⟩ : ∃ m, q.length = m := ⟨_, rfl⟩
        unfold Byt at hb1
        rw [hqm] at hb1 hql
        clear hqm
        have ho1 := own_mod ho hE1 (fun _ _ => id)
        have hsz := hE.size
        have hsz1 := hE1.size
        go_wp2_with (at_builtin; refine wpList_app _ rfl _ _ 25 rfl 5 i0 _ 1 1 Try.underlying25 hi hz0 hz1 hz2 rfl (by omega) _ m (pre.map B) rfl ho1 _ _ qm (q.map B) rfl hb1 (B_one _) (by simp only [maxLen]; omega) (by omega) ?_)
        intro v9 w9 ho9 hgr hat
        obtain ⟨hB9, hE9⟩ := NewB.app (cs := pre ++ q) HB.out hE hE1 (by simp) ho9 hgr hat (by omega)
        have hB10 : NewB w w9 v9 (allBytes (l.take (i + 1))) := by rw [Hal.out, Hb2.out]; exact hB9
        have Hk : Hid ((!anyLong (l.take (i + 1))) = !an) := Lib.hid (by rw [Han.out, Hl.out]; simp)
        go_wp2
        exact ⟨⟨i + 1, by omega, by go_num, by rw [Hk.out], hB10, hE9⟩, by simp [intOf]; omega⟩
    · have Hf : Hid (l.take i = l) := Lib.hid (List.take_of_length_le (by rw [Hn.out]; omega))
      rw [Hf.out] at hB ⊢
      go_wp2
      go_ret2
      exact ⟨_, rfl, hB, hE⟩

set_option maxRecDepth 100000 in
set_option maxHeartbeats 2000000 in
theorem packWrites_walk (w : World) (v : Value) (l : List It) (h : Its w (fun g => g < w.heap.size) v l) :
    Calls Try.prog 3 #[v] w (LawOk w) := by
  obtain ⟨N, hN⟩ : ∃ N, w.heap.size = N := ⟨_, rfl⟩
  rw [hN] at h
  obtain ⟨n, hn⟩ : ∃ n, l.length = n := ⟨_, rfl⟩
  obtain ⟨A, c, rfl⟩ := h.1.form
  have hle := h.1.le
  unfold maxLen at hle
  rw [hn] at h hle ⊢
  have Hn := Lib.hid hn
  have HN := Lib.hid hN
  clear hn
  go_enter Try.func3, Try.ntmps3
  go_wp2_with fail
  refine (heavy_any _ _ _ l h).mono ?_
  rintro e w' ⟨rfl, rfl⟩
  rcases hh : hv l with _ | _
  · obtain ⟨h200, hall⟩ := hv_out hh
    rw [Hn.out] at h200
    have hfin : ∀ w', Mod (Since N) w w' → LawOk w (.returned (.bool true)) w' := fun w' hm => ⟨rfl, hm.below (by have := HN.out; omega) (fun k hk => by have := HN.out; unfold Since; omega)⟩
    have Hfin := Lib.hid hfin
    have Hall := Lib.hid hall
    have hW0 := Wr.new w 27
    rw [hN] at hW0
    have hW0 : Wr (w.alloc (.cells #[.slice none 0 0, .bool false] 27)) (Btw N (w.alloc (.cells #[.slice none 0 0, .bool false] 27)).heap.size) N [] false := hW0.mono (fun k hk h => ⟨h, hk⟩)
    have HW0 := Lib.hid hW0
    clear hfin hall hh hW0
    go_wp2
    go_loopw [4] (fun iv wr => ∃ i : Nat, i ≤ n ∧ iv = .int .i64 i ∧ Wr wr (Btw N wr.heap.size) N (allBytes (l.take i)) (anyLong (l.take i)) ∧ Mod (Since N) w wr) (fun iv _ => n - (intOf iv).toNat)
    case atStart => exact ⟨0, by omega, rfl, by simpa [allBytes, anyLong] using HW0.out, (Mod.refl _ w).alloc _⟩
    case round =>
      obtain ⟨i, hin, rfl, hW, hm⟩ := hrel
      clear HW0
      have hI := h.below hm
      by_cases hi : i < n
      · obtain ⟨g, off, it, rfl, hgN, hit, hok, c0, c1, c2, c3, c4⟩ := hI.at hi
        have hal := all_snoc hit
        have han := any_snoc hit
        have hlen : (allBytes (l.take i)).length ≤ 900000000 := by have := all_len (l.take i); rw [List.length_take] at this; omega
        have ht32 := Hall.out it (List.mem_of_getElem? hit)
        have Hal := Lib.hid hal
        have Han := Lib.hid han
        have Hok := Lib.hid hok
        have hszN : N ≤ wr.heap.size := by have := hm.size; have := HN.out; omega
        clear hit hal han hI hok
        go_wp2_with fail
        refine (k_twin _ _ _ it.t Hok.out.1.1 (by omega)).mono ?_
        rintro e w1 ⟨vt, rfl, hNt, hE1⟩
        have c0 := hE1.cell c0 id
        have c1 := hE1.cell c1 id
        have c2 := hE1.cell c2 id
        have c3 := hE1.cell c3 id
        have c4 := hE1.cell c4 id
        obtain ⟨A5, k5, htv⟩ := Hok.out.1.1.form
        have Htv := Lib.hid htv
        obtain ⟨At, ct, rfl⟩ := own_form hNt.1
        obtain ⟨tm, htm⟩ : ∃ m, it.t.length = m := ⟨_, rfl⟩
        rw [htm] at htv ht32 hNt ⊢
        have Htm := Lib.hid htm
        rw [htv] at c4
        clear htv htm
        have hbt : Byt w1 (fun g => g < N) it.tv it.t := Hok.out.1.1.ext hE1
        have hbt' := hNt.sl
        go_wp2_with fail
        have hx : Ext w1 (w1.alloc (.cells #[.int .i64 it.kind, .int .i64 it.n, .bool it.is, .float .f64 it.x, .slice At tm ct] 31)) := (Mod.refl _ w1).alloc _
        have hW1 := (hW.mod hE1 (fun _ _ => id)).mod hx (fun _ _ => id)
        have hs1 := hE1.size
        refine (write_any _ (Btw N wr.heap.size) (Since wr.heap.size) N _ _ ⟨it.kind, it.n, it.is, it.x, .slice At tm ct, it.t⟩ hW1 hlen ⟨hNt.sl.ext hx, Hok.out.1.2⟩ (fun g a1 a2 => by unfold Since at a1; omega)).mono ?_
        rintro e w2 ⟨rfl, hW2, hm2⟩
        have hm12 : Mod (Btw N wr.heap.size) w1 w2 := (hx.mod _).self hm2
        have hs2 := hm12.size
        have c4 := hm12.cell c4 (fun h => by simp at h; omega)
        have hbt2 := hbt.mod hm12 (fun g a1 a2 => by omega)
        have hNt2 := hNt.sl.mod hm12 (fun g a1 a2 => by unfold Since at a1; omega)
        have hot2 := own_mod hNt.1 hm12 (fun g a1 a2 => by have := hNt.2 g a1; omega)
        rw [Htv.out, Htm.out] at hbt2
        go_wp2_with fail
        refine (k_bytes _ _ _ _ _ it.t it.t hNt2 (by unfold Byt; rw [Htm.out]; exact hbt2)).mono ?_
        rintro e w3 ⟨rfl, hE3⟩
        rw [show (it.t == it.t) = true from by simp]
        go_wp2_with fail
        refine (k_spoil _ _ it.t (by rw [Htm.out]; rw [Htm.out] at hot2; exact own_mod hot2 hE3 (fun _ _ => id))).mono ?_
        rintro e w4 ⟨rfl, hm4⟩
        have hs3 := hE3.size
        have hs4 := hm4.size
        have hW3 := hW2.mod hE3 (fun _ _ => id)
        have hW4 : Wr w4 (Btw N w4.heap.size) N (allBytes (l.take (i + 1))) (anyLong (l.take (i + 1))) := by
          rw [Hal.out, Han.out]
          have hgb : ∀ g, (Value.slice At tm ct).ownBlock = some g → wr.heap.size ≤ g ∧ g < w1.heap.size := fun g hg => ⟨hNt.2 g hg, (hNt.1.lt g hg).2⟩
          have hW4' := hW3.mod hm4 (fun g a1 a2 => by
            have := hgb g a2
            rcases a1 with a1 | a1
            · omega
            · simp at a1; omega)
          exact hW4'.mono (fun k hk a => ⟨by
            rcases a with a | a
            · exact a.1
            · simp at a; omega, hk⟩)
        have hm5 : Mod (Since N) w w4 := (((hm.ext hE1).trans hm12 (fun k _ h => h.1)).ext hE3).trans hm4 (fun k _ h => by have := hNt.2 k h; unfold Since; omega)
        go_wp2
        exact ⟨⟨i + 1, by omega, by go_num, hW4, hm5⟩, by simp [intOf]; omega⟩
      · rw [List.take_of_length_le (by rw [Hn.out]; omega)] at hW
        have hlen : (allBytes l).length ≤ 4000000 := by have := all_len l; rw [Hn.out] at this; omega
        have hszN : N ≤ wr.heap.size := by have := hm.size; have := HN.out; omega
        go_wp2_with fail
        refine (want_any _ _ _ l hI (by rw [Hn.out]; omega)).mono ?_
        rintro e w1 ⟨v1, rfl, hN1, hE1⟩
        have hW1 := hW.mod hE1 (fun _ _ => id)
        have hm1 := hm.ext hE1
        rcases hal : anyLong l with _ | _
        · rw [hal] at hW1
          clear hal
          go_wp2_with fail
          refine (w_bytes _ _ _ _ hW1 (by omega)).mono ?_
          rintro e w2 ⟨v2, rfl, hN2, hE2⟩
          go_wp2_with fail
          refine (k_bytes _ _ _ _ _ _ _ hN2.sl (hN1.sl.ext hE2)).mono ?_
          rintro e w3 ⟨rfl, hE3⟩
          rw [show (allBytes l == allBytes l) = true from by simp]
          go_wp2_with fail
          refine (k_spoil _ _ (allBytes l) (own_mod hN2.1 hE3 (fun _ _ => id))).mono ?_
          rintro e w4 ⟨rfl, hm4⟩
          have hs1 := hE1.size
          have hs2 := hE2.size
          have hs3 := hE3.size
          have hW4 := ((hW1.mod hE2 (fun _ _ => id)).mod hE3 (fun _ _ => id)).mod hm4 (fun g a1 a2 => by have := hN2.2 g a2; omega)
          have hN14 : NewB wr w4 v1 (allBytes l) := ⟨own_mod (own_mod (own_mod hN1.1 hE2 (fun _ _ => id)) hE3 (fun _ _ => id)) hm4 (fun g a1 a2 => by have := hN2.2 g a2; have := (hN1.1.lt g a1).2; omega), hN1.2⟩
          have hm4' : Mod (Since N) w w4 := ((hm1.ext hE2).ext hE3).trans hm4 (fun k _ h => by have := hN2.2 k h; unfold Since; omega)
          go_wp2_with fail
          refine (w_bytes _ _ _ _ hW4 (by omega)).mono ?_
          rintro e w5 ⟨v5, rfl, hN5, hE5⟩
          go_wp2_with fail
          refine (k_bytes _ _ _ _ _ _ _ hN5.sl (hN14.sl.ext hE5)).mono ?_
          rintro e w6 ⟨rfl, hE6⟩
          rw [show (allBytes l == allBytes l) = true from by simp]
          go_wp2_with fail
          refine (wakes_any _).mono ?_
          rintro e w7 ⟨rfl, hE7⟩
          have hF := Hfin.out w7 (((hm4'.ext hE5).ext hE6).ext hE7)
          go_wp2
          go_ret
          exact hF
        · rw [hal] at hW1
          clear hal
          go_wp2_with fail
          refine (w_bytes_long _ _ _ _ hW1).mono ?_
          rintro e w' ⟨rfl, rfl⟩
          go_wp2_with fail
          refine (wakes_any _).mono ?_
          rintro e w7 ⟨rfl, hE7⟩
          have hF := Hfin.out w7 (hm1.ext hE7)
          go_wp2
          go_ret
          exact hF
  · clear hh
    go_wp2
    go_ret
    exact ⟨rfl, Below.refl _ _⟩
end Go.Proofs.Ytmndoppeoinkcaa
