/-
  The contract of sess.Encode. Conditions: as each theorem names them.
-/
import Derived.Test.YtplpegjnmlabkaaSesW
namespace Go.Proofs.Ytplpegjnmlabkaa
set_option linter.unusedSimpArgs false
open Go.RowKit
attribute [local go_sem high] conv_sb

theorem flat_snoc {α : Type} {f : α → List UInt8} {l : List α} {i : Nat} {x : α} (h : l[i]? = some x) : (l.take (i + 1)).flatMap f = (l.take i).flatMap f ++ f x := by
  obtain ⟨hi, rfl⟩ := List.getElem?_eq_some_iff.1 h
  rw [List.take_succ_eq_append_getElem hi, List.flatMap_append]
  simp
theorem flatB_len {α : Type} {f : α → List UInt8} {l : List α} {k : Nat} (h : ∀ x ∈ l, (f x).length ≤ k) : (l.flatMap f).length ≤ l.length * k := by
  induction l with
  | nil => simp
  | cons a l ih =>
    have h1 := h a (by simp)
    have h2 := ih (fun x hx => h x (by simp [hx]))
    rw [List.flatMap_cons, List.length_append, List.length_cons, Nat.succ_mul]
    omega
theorem take_len {α : Type} {f : α → List UInt8} {l : List α} {k : Nat} (i : Nat) (h : ∀ x ∈ l, (f x).length ≤ k) : ((l.take i).flatMap f).length ≤ l.length * k := by
  have h1 := flatB_len (f := f) (l := l.take i) (k := k) (fun x hx => h x (List.mem_of_mem_take hx))
  have h2 : (l.take i).length ≤ l.length := by rw [List.length_take]; omega
  exact Nat.le_trans h1 (Nat.mul_le_mul_right _ h2)
theorem chk_small {v : AVal} (h : chk v = 0) : v.text.size ≤ 32 := by
  unfold chk at h
  split at h
  · cases h
  split at h
  · cases h
  rename_i h2
  split at h
  · cases h
  rename_i h3
  by_cases hk : v.kind = 2
  · have : ¬ 32 < v.text.size := fun e => h2 ⟨hk, e⟩
    omega
  · have h4 : isEmptyT v.text = true := by
      rcases he : isEmptyT v.text with _ | _
      · exact absurd (.inl ⟨hk, he⟩) h3
      · rfl
    have : v.text.size = 0 := by rw [(isEmptyT_iff _).1 h4]; rfl
    omega
theorem pair_small {p : APair} (h : pairOk p = true) : p.key.size ≤ 8 ∧ p.val.text.size ≤ 32 := by
  unfold pairOk rightKeyB at h
  simp only [Bool.and_eq_true, decide_eq_true_iff, beq_iff_eq] at h
  exact ⟨h.1.1.2, chk_small h.2⟩
theorem sess_small {s : ASess} (h : sessOk s = true) : s.reply.val.text.size ≤ 32 := by
  unfold sessOk at h
  simp only [Bool.and_eq_true, decide_eq_true_iff, beq_iff_eq] at h
  exact chk_small h.2
theorem encP_len {p : APair} (h : pairOk p = true) : (encP p).length ≤ 100 := by
  obtain ⟨h1, h2⟩ := pair_small h
  have h3 := encText_len' (bsOf p.key)
  have h4 : (bsOf p.key).length = p.key.size := rfl
  have h5 := encV_len p.val
  unfold encP
  rw [List.length_append]
  omega
theorem encS_len {s : ASess} (h : sessOk s = true) : (encS s).length ≤ 100 := by
  have h2 := sess_small h
  have h5 := encV_len s.reply.val
  have := encInt_len s.client
  have := encInt_len s.seq
  have := encInt_len s.reply.code
  unfold encS
  simp only [List.length_append]
  omega
theorem wrnew {w : World} {b : Nat} {t : TypeId} (h : w.heap[b]? = some (.cells #[.slice none 0 0, .bool false] t (0, 0))) : St w (fun k => k = b) b [] :=
  ⟨⟨_, t, h, World.ownsRow_nil _ _ _ _, rfl, by simp [Value.ownBlock]⟩, fun k e => by rw [e]; exact (Array.getElem?_eq_some_iff.1 h).1⟩

set_option maxRecDepth 100000 in
set_option maxHeartbeats 1000000 in
theorem s_enc_bad (w : World) (T U : Nat → Prop) (pv v : Value) (p : List APair) (l : List ASess) (hP : Prs w U pv p) (h : Ses w T v l) (hm : machB ⟨p, l⟩ = false) :
    Calls Try.prog 26 #[.agg #[pv, v]] w fun e w' => e = .returned (.tuple #[.slice none 0 0, .int .i64 6]) ∧ Ext w w' := by
  obtain ⟨A, c, rfl⟩ := h.form
  obtain ⟨A', c', rfl⟩ := hP.form
  have hE : Ext w (w.alloc (.cells #[.slice A' p.length c', .slice A l.length c] 25)) := (Mod.refl _ w).alloc _
  have hPW := hP.ext hE
  have hSW := h.ext hE
  go_enter Try.func26, Try.ntmps26
  go_wp2_with fail
  refine (s_check _ _ _ _ _ p l hPW hSW).mono ?_
  rintro e w1 ⟨rfl, hE1⟩
  have hk : chkM ⟨p, l⟩ = 6 := by unfold chkM; rw [hm]; rfl
  rw [hk]
  have HX := Lib.hid (hE.ext hE1)
  clear hE hE1 hPW hSW
  go_wp2
  go_ret2
  exact ⟨rfl, HX.out⟩

set_option maxRecDepth 100000 in
set_option maxHeartbeats 4000000 in
theorem s_enc_ok (w : World) (T U : Nat → Prop) (pv v : Value) (p : List APair) (l : List ASess) (hP : Prs w U pv p) (h : Ses w T v l) (hm : machB ⟨p, l⟩ = true) :
    Calls Try.prog 26 #[.agg #[pv, v]] w fun e w' => ∃ vb, e = .returned (.tuple #[vb, .int .i64 0]) ∧ NewB w w' vb (encM ⟨p, l⟩) ∧ Ext w w' := by
  obtain ⟨A, c, rfl⟩ := h.form
  obtain ⟨A', c', rfl⟩ := hP.form
  have hm2 := hm
  unfold machB at hm2
  rw [Bool.and_eq_true] at hm2
  have hp32 : p.length ≤ 32 := right_len hm2.1
  have hl4 : l.length ≤ 4 := (sess_nums hm2.2).2.2
  have hpk : ∀ x ∈ p, pairOk x = true := ((pairsB_iff p).1 hm2.1).2.1
  have hsk : ∀ x ∈ l, sessOk x = true := ((sessB_iff l).1 hm2.2).1
  have HP100 : Hid (∀ i, ((p.take i).flatMap encP).length ≤ 3200) := Lib.hid (fun i => by have := take_len (f := encP) (l := p) (k := 100) i (fun x hx => encP_len (hpk x hx)); omega)
  have HS100 : Hid (∀ i, ((l.take i).flatMap encS).length ≤ 400) := Lib.hid (fun i => by have := take_len (f := encS) (l := l) (k := 100) i (fun x hx => encS_len (hsk x hx)); omega)
  have Hpk := Lib.hid hpk
  have Hsk := Lib.hid hsk
  clear hpk hsk hm2
  obtain ⟨b0, hb0⟩ : ∃ b0, w.heap.size = b0 := ⟨_, rfl⟩
  obtain ⟨W, hW⟩ : ∃ W, W = w.alloc (.cells #[.slice A' p.length c', .slice A l.length c] 25) := ⟨_, rfl⟩
  have hE : Ext w W := by rw [hW]; exact (Mod.refl _ w).alloc _
  have hA : W.heap[b0]? = some (.cells #[.slice A' p.length c', .slice A l.length c] 25 (0, 0)) := by rw [hW, ← hb0]; exact heap_alloc_new w _
  have hPW := hP.ext hE
  have hSW := h.ext hE
  have HW := Lib.hid hW
  have Hb0 := Lib.hid hb0
  have HE := Lib.hid hE
  have HA := Lib.hid hA
  clear hW hb0 hE hA
  go_enter Try.func26, Try.ntmps26
  go_wp2_with fail
  rw [← HW.out]
  refine (s_check W _ _ _ _ p l hPW hSW).mono ?_
  rintro e w1 ⟨rfl, hE1⟩
  have hk : chkM ⟨p, l⟩ = 0 := by unfold chkM; rw [hm]; rfl
  rw [hk]
  obtain ⟨n, hn⟩ : ∃ n, p.length = n := ⟨_, rfl⟩
  obtain ⟨m, hmm⟩ : ∃ m, l.length = m := ⟨_, rfl⟩
  have hA1 := hE1.blk HA.out id
  have a0 : w1.cell? ⟨b0, 0, none⟩ = some _ := blk_cell hA1 rfl
  have a1 : w1.cell? ⟨b0, 1, none⟩ = some _ := blk_cell hA1 rfl
  have l0 : b0 < w1.heap.size := (Array.getElem?_eq_some_iff.1 hA1).1
  have HE1 := Lib.hid hE1
  have HA1 := Lib.hid hA1
  have Hn := Lib.hid hn
  have Hmm := Lib.hid hmm
  clear hE1 hA1 hk hm hPW hSW hn hmm
  rw [Hb0.out]
  go_wp2_with fail
  obtain ⟨wb, hwb⟩ : ∃ wb, w1.heap.size = wb := ⟨_, rfl⟩
  obtain ⟨W1, hW1⟩ : ∃ W1, W1 = w1.alloc (.cells #[.slice none 0 0, .bool false] 89) := ⟨_, rfl⟩
  have hEw : Ext w1 W1 := by rw [hW1]; exact (Mod.refl _ _).alloc _
  have hB : W1.heap[wb]? = some (.cells #[.slice none 0 0, .bool false] 89 (0, 0)) := by rw [hW1, ← hwb]; exact heap_alloc_new w1 _
  have hSt := wrnew hB
  have hXw1 := Mod.ext HE.out HE1.out
  have hXW1 : Ext w W1 := Mod.ext hXw1 hEw
  have hbw : w.heap.size ≤ wb := by have := hXw1.size; omega
  have hb0w : b0 < wb := by omega
  have hA2 := hEw.blk HA1.out id
  rw [← hW1, hwb, Hn.out]
  have HW1 := Lib.hid hW1
  have HXW1 := Lib.hid hXW1
  have HA2 := Lib.hid hA2
  clear hW1 hwb hEw hB hXw1 hXW1 hA2 a0 a1 l0
  have hn32 : n ≤ 32 := by have := Hn.out; omega
  have hm4 : m ≤ 4 := by have := Hmm.out; omega
  refine (w_int1 W1 _ wb [] (n : Int) hSt (by simp) ⟨by omega, by omega⟩).mono ?_
  rintro e w2 ⟨rfl, hm2, S2, hS2, hg2⟩
  have hn1 : b0 ≠ wb := by omega
  have hA3 := hm2.blk HA2.out hn1
  have a0 : w2.cell? ⟨b0, 0, none⟩ = some _ := blk_cell hA3 rfl
  have a1 : w2.cell? ⟨b0, 1, none⟩ = some _ := blk_cell hA3 rfl
  have HS2 := Lib.hid hS2
  have Hg2 := Lib.hid hg2
  have Hm2 := Lib.hid hm2
  clear hA3 hS2 hg2 hm2 hSt
  rw [Hn.out] at hP a0
  rw [Hmm.out] at h a1
  go_wp2
  go_loopw [22] (fun iv wr => ∃ (i : Nat) (S1 : Nat → Prop), i ≤ n ∧ iv = .int .i64 i ∧ St wr S1 wb (encInt n ++ (p.take i).flatMap encP) ∧ (∀ k, S1 k → k = wb ∨ W1.heap.size ≤ k) ∧ Mod (fun k => k = wb) W1 wr) (fun iv _ => n - (intOf iv).toNat)
  case atStart => exact ⟨0, S2, by omega, rfl, by simpa using HS2.out, Hg2.out, Hm2.out⟩
  case round =>
    obtain ⟨i, S1, hin, rfl, hS1, hg1, hm1⟩ := hrel
    have hX : Ext w wr := Mod.toExt ((Ext.mod HXW1.out (Since w.heap.size)).trans hm1 (fun k _ e => by unfold Since; omega))
    have HX := Lib.hid hX
    have HS1 := Lib.hid hS1
    have Hg1 := Lib.hid hg1
    have Hm1 := Lib.hid hm1
    clear hX hS1 hg1 hm1
    by_cases hi : i < n
    · obtain ⟨g, off, x, rfl, hgT, hx, hxok, hcells⟩ := hP.at hi
      have hi0 : (0 : Int) ≤ (i : Int) := by omega
      have hi1 : (i : Int) < (n : Int) := by omega
      have z0 := hcells 0 _ rfl
      have z1 := hcells 1 _ rfl
      have z2 := hcells 2 _ rfl
      have z3 := hcells 3 _ rfl
      rw [Nat.add_zero] at z0
      have x0 := HX.out.cell z0 id
      have x1 := HX.out.cell z1 id
      have x2 := HX.out.cell z2 id
      have x3 := HX.out.cell z3 id
      have hgl : g < wr.heap.size := World.block_lt_of_cell? _ _ x0
      obtain ⟨Wr2, hWr⟩ : ∃ Wr2, Wr2 = wr.alloc (.cells #[.string x.key, .int .i64 x.val.kind, .float .f64 x.val.num, .string x.val.text] 87) := ⟨_, rfl⟩
      obtain ⟨q, hq⟩ : ∃ q, wr.heap.size = q := ⟨_, rfl⟩
      have hEr : Ext wr Wr2 := by rw [hWr]; exact (Mod.refl _ _).alloc _
      have hQ : Wr2.heap[q]? = some (.cells #[.string x.key, .int .i64 x.val.kind, .float .f64 x.val.num, .string x.val.text] 87 (0, 0)) := by rw [hWr, ← hq]; exact heap_alloc_new wr _
      have hqS : ¬ S1 q := fun e => by have := HS1.out.2 q e; omega
      have hsn := flat_snoc (f := encP) hx
      have hpx := Hpk.out x (List.mem_of_getElem? hx)
      have Hsn := Lib.hid hsn
      have Hpx := Lib.hid hpx
      have Hxok := Lib.hid hxok
      have HWr := Lib.hid hWr
      have Hq := Lib.hid hq
      have HEr := Lib.hid hEr
      have HQ := Lib.hid hQ
      clear hsn hpx hxok hx hcells hWr hq hEr hQ hgT
      go_wp2_with fail
      rw [← HWr.out, Hq.out]
      have hsz2 : Wr2.heap.size = q + 1 := by rw [HWr.out, ← Hq.out]; simp
      have hbe := bw_ext Wr2 5 x.key
      have hbb := bw_byt Wr2 5 x.key Hxok.out.1
      rw [hsz2] at hbb
      have hSb := (HS1.out.of_ext HEr.out).of_ext hbe
      have hlen := HP100.out i
      have hle := encInt_len (n : Int)
      have hks := (pair_small Hpx.out).1
      have hkl : (bsOf x.key).length = x.key.size := rfl
      have hkt := encText_len' (bsOf x.key)
      refine (w_text1 _ S1 _ wb _ (bsOf x.key) _ hSb (by simp only [List.length_append]; omega) hbb (fun y h1 h2 => by have := HS1.out.2 y h2; have := Hq.out; omega) (by omega)).mono ?_
      rintro e w3 ⟨rfl, hm3, S3, hS3, hg3⟩
      have hQ3 := hm3.blk (hbe.blk HQ.out id) hqS
      have hm13 := mod_gr (Hm1.out.ext (HEr.out.ext hbe)) hm3 Hg1.out
      have hg13 := gr_trans Hg1.out hg3 (Hm1.out.ext (HEr.out.ext hbe)).size
      have q0 : w3.cell? ⟨q, 1, none⟩ = some _ := blk_cell hQ3 rfl
      have q1 : w3.cell? ⟨q, 1 + 1, none⟩ = some _ := blk_cell hQ3 rfl
      have q2 : w3.cell? ⟨q, 1 + 2, none⟩ = some _ := blk_cell hQ3 rfl
      have HS3 := Lib.hid hS3
      have Hm13 := Lib.hid hm13
      have Hg13 := Lib.hid hg13
      clear hQ3 hm3 hS3 hg3 hm13 hg13 hSb hbb hbe hsz2 x0 x1 x2 x3 z0 z1 z2 z3
      go_wp2_with fail
      refine (s_wval w3 S3 wb _ x.val HS3.out Hxok.out.2 (by simp only [List.length_append]; omega) (by have := (pair_small Hpx.out).2; omega)).mono ?_
      rintro e w4 ⟨rfl, hm4', S4, hS4, hg4⟩
      have hm14 := Lib.hid (mod_gr Hm13.out hm4' Hg13.out)
      have hg14 := Lib.hid (gr_trans Hg13.out hg4 Hm13.out.size)
      have hS5 : Hid (St w4 S4 wb (encInt n ++ (p.take (i + 1)).flatMap encP)) := Lib.hid (by
        rw [Hsn.out]
        simp only [encP, ← List.append_assoc] at hS4 ⊢
        exact hS4)
      clear hm4' hS4 hg4 q0 q1 q2
      go_wp2
      exact ⟨⟨i + 1, S4, by omega, by go_num, hS5.out, hg14.out, hm14.out⟩, by simp [intOf]; omega⟩
    · have hA4 := Hm1.out.blk HA2.out hn1
      have b0c : wr.cell? ⟨b0, 0, none⟩ = some _ := blk_cell hA4 rfl
      have b1c : wr.cell? ⟨b0, 1, none⟩ = some _ := blk_cell hA4 rfl
      rw [Hmm.out] at b1c
      clear hA4
      have hful : p.take i = p := List.take_of_length_le (by rw [Hn.out]; omega)
      have HS6 : Hid (St wr S1 wb (encInt n ++ p.flatMap encP)) := Lib.hid (by have := HS1.out; rw [hful] at this; exact this)
      have hlen := HP100.out i
      rw [hful] at hlen
      clear hful
      have hle := encInt_len (n : Int)
      have hlm := encInt_len (m : Int)
      go_wp2_with fail
      refine (w_int1 wr S1 wb _ (m : Int) HS6.out (by simp only [List.length_append]; omega) ⟨by omega, by omega⟩).mono ?_
      rintro e w5 ⟨rfl, hm5, S5, hS5, hg5⟩
      have hm15 := mod_gr Hm1.out hm5 Hg1.out
      have hg15 := gr_trans Hg1.out hg5 Hm1.out.size
      have hA5 := hm15.blk HA2.out hn1
      have d0c : w5.cell? ⟨b0, 0, none⟩ = some _ := blk_cell hA5 rfl
      have d1c : w5.cell? ⟨b0, 1, none⟩ = some _ := blk_cell hA5 rfl
      rw [Hmm.out] at d1c
      have HS5 := Lib.hid hS5
      have Hm15 := Lib.hid hm15
      have Hg15 := Lib.hid hg15
      clear hA5 hm5 hS5 hg5 hm15 hg15 b0c b1c
      go_wp2
      go_loopw [41] (fun iv wr => ∃ (i : Nat) (S1 : Nat → Prop), i ≤ m ∧ iv = .int .i64 i ∧ St wr S1 wb (encInt n ++ p.flatMap encP ++ encInt m ++ (l.take i).flatMap encS) ∧ (∀ k, S1 k → k = wb ∨ W1.heap.size ≤ k) ∧ Mod (fun k => k = wb) W1 wr) (fun iv _ => m - (intOf iv).toNat)
      case atStart => exact ⟨0, S5, by omega, rfl, by simpa using HS5.out, Hg15.out, Hm15.out⟩
      case round =>
        obtain ⟨j, S6, hjn, rfl, hS6, hg6, hm6⟩ := hrel
        have hX : Ext w wr := Mod.toExt ((Ext.mod HXW1.out (Since w.heap.size)).trans hm6 (fun k _ e => by unfold Since; omega))
        have HX6 := Lib.hid hX
        have HT6 := Lib.hid hS6
        have Hg6 := Lib.hid hg6
        have Hm6 := Lib.hid hm6
        clear hX hS6 hg6 hm6
        have hlj := HS100.out j
        by_cases hj : j < m
        · obtain ⟨g, off, x, rfl, hgT, hx, hxok, hcells⟩ := h.at hj
          have hj0 : (0 : Int) ≤ (j : Int) := by omega
          have hj1 : (j : Int) < (m : Int) := by omega
          have z0 := hcells 0 _ rfl
          have z1 := hcells 1 _ rfl
          have z2 := hcells 2 _ rfl
          have z3 := hcells 3 _ rfl
          have z4 := hcells 4 _ rfl
          have z5 := hcells 5 _ rfl
          rw [Nat.add_zero] at z0
          have x0 := HX6.out.cell z0 id
          have x1 := HX6.out.cell z1 id
          have x2 := HX6.out.cell z2 id
          have x3 := HX6.out.cell z3 id
          have x4 := HX6.out.cell z4 id
          have x5 := HX6.out.cell z5 id
          have hgl : g < wr.heap.size := World.block_lt_of_cell? _ _ x0
          obtain ⟨Wr2, hWr⟩ : ∃ Wr2, Wr2 = wr.alloc (.cells #[.int .i64 x.client, .int .i64 x.seq, .int .i64 x.reply.code, .int .i64 x.reply.val.kind, .float .f64 x.reply.val.num, .string x.reply.val.text] 72) := ⟨_, rfl⟩
          obtain ⟨q, hq⟩ : ∃ q, wr.heap.size = q := ⟨_, rfl⟩
          have hEr : Ext wr Wr2 := by rw [hWr]; exact (Mod.refl _ _).alloc _
          have hQ : Wr2.heap[q]? = some (.cells #[.int .i64 x.client, .int .i64 x.seq, .int .i64 x.reply.code, .int .i64 x.reply.val.kind, .float .f64 x.reply.val.num, .string x.reply.val.text] 72 (0, 0)) := by rw [hWr, ← hq]; exact heap_alloc_new wr _
          have hqS : ¬ S6 q := fun e => by have := HT6.out.2 q e; omega
          have hqlt : q < Wr2.heap.size := (Array.getElem?_eq_some_iff.1 hQ).1
          have Hsn := Lib.hid (flat_snoc (f := encS) hx)
          have Hpx := Lib.hid (Hsk.out x (List.mem_of_getElem? hx))
          have Hxok := Lib.hid hxok
          have HWr := Lib.hid hWr
          have Hq := Lib.hid hq
          have HEr := Lib.hid hEr
          have HQ := Lib.hid hQ
          clear hxok hx hcells hWr hq hEr hQ hgT
          have le0 := encInt_len x.client
          have le1 := encInt_len x.seq
          have le2 := encInt_len x.reply.code
          go_wp2_with fail
          rw [← HWr.out, Hq.out]
          have hmA := Hm6.out.ext HEr.out
          refine (w_int1 Wr2 S6 wb _ x.client (HT6.out.of_ext HEr.out) (by simp only [List.length_append]; omega) Hxok.out.1).mono ?_
          rintro e v7 ⟨rfl, hm7, S7, hS7, hg7⟩
          have hQ7 := hm7.blk HQ.out hqS
          have hq7 : ¬ S7 q := fun e => by rcases hg7 q e with h | h; exact hqS h; omega
          have ql7 : q < v7.heap.size := (Array.getElem?_eq_some_iff.1 hQ7).1
          have HM7 := Lib.hid (mod_gr hmA hm7 Hg6.out)
          have HG7 := Lib.hid (gr_trans Hg6.out hg7 (Mod.size hmA))
          have HT7 := Lib.hid hS7
          have HQ7 := Lib.hid hQ7
          have q70 : v7.cell? ⟨q, 0, none⟩ = some _ := blk_cell hQ7 rfl
          have q71 : v7.cell? ⟨q, 1, none⟩ = some _ := blk_cell hQ7 rfl
          have q72 : v7.cell? ⟨q, 2, none⟩ = some _ := blk_cell hQ7 rfl
          have q73 : v7.cell? ⟨q, 3, none⟩ = some _ := blk_cell hQ7 rfl
          have q74 : v7.cell? ⟨q, 4, none⟩ = some _ := blk_cell hQ7 rfl
          have q75 : v7.cell? ⟨q, 5, none⟩ = some _ := blk_cell hQ7 rfl
          clear hQ7 hm7 hS7 hg7 x0 x1 x2 x3 x4 x5 z0 z1 z2 z3 z4 z5
          go_wp2_with fail
          refine (w_int1 v7 S7 wb _ x.seq HT7.out (by simp only [List.length_append]; omega) Hxok.out.2.1).mono ?_
          rintro e v8 ⟨rfl, hm8, S8, hS8, hg8⟩
          have hQ8 := hm8.blk HQ7.out hq7
          have hq8 : ¬ S8 q := fun e => by rcases hg8 q e with h | h; exact hq7 h; omega
          have ql8 : q < v8.heap.size := (Array.getElem?_eq_some_iff.1 hQ8).1
          have HM8 := Lib.hid (mod_gr HM7.out hm8 HG7.out)
          have HG8 := Lib.hid (gr_trans HG7.out hg8 (Mod.size HM7.out))
          have HT8 := Lib.hid hS8
          have HQ8 := Lib.hid hQ8
          have q80 : v8.cell? ⟨q, 0, none⟩ = some _ := blk_cell hQ8 rfl
          have q81 : v8.cell? ⟨q, 1, none⟩ = some _ := blk_cell hQ8 rfl
          have q82 : v8.cell? ⟨q, 2, none⟩ = some _ := blk_cell hQ8 rfl
          have q83 : v8.cell? ⟨q, 3, none⟩ = some _ := blk_cell hQ8 rfl
          have q84 : v8.cell? ⟨q, 4, none⟩ = some _ := blk_cell hQ8 rfl
          have q85 : v8.cell? ⟨q, 5, none⟩ = some _ := blk_cell hQ8 rfl
          clear hQ8 hm8 hS8 hg8 q70 q71 q72 q73 q74 q75
          go_wp2_with fail
          refine (w_int1 v8 S8 wb _ x.reply.code HT8.out (by simp only [List.length_append]; omega) Hxok.out.2.2.1).mono ?_
          rintro e v9 ⟨rfl, hm9, S9, hS9, hg9⟩
          have hQ9 := hm9.blk HQ8.out hq8
          have hq9 : ¬ S9 q := fun e => by rcases hg9 q e with h | h; exact hq8 h; omega
          have ql9 : q < v9.heap.size := (Array.getElem?_eq_some_iff.1 hQ9).1
          have HM9 := Lib.hid (mod_gr HM8.out hm9 HG8.out)
          have HG9 := Lib.hid (gr_trans HG8.out hg9 (Mod.size HM8.out))
          have HT9 := Lib.hid hS9
          have HQ9 := Lib.hid hQ9
          have q90 : v9.cell? ⟨q, 0, none⟩ = some _ := blk_cell hQ9 rfl
          have q91 : v9.cell? ⟨q, 1, none⟩ = some _ := blk_cell hQ9 rfl
          have q92 : v9.cell? ⟨q, 2, none⟩ = some _ := blk_cell hQ9 rfl
          have q93 : v9.cell? ⟨q, 3, none⟩ = some _ := blk_cell hQ9 rfl
          have q94 : v9.cell? ⟨q, 4, none⟩ = some _ := blk_cell hQ9 rfl
          have q95 : v9.cell? ⟨q, 5, none⟩ = some _ := blk_cell hQ9 rfl
          clear hQ9 hm9 hS9 hg9 q80 q81 q82 q83 q84 q85
          go_wp2_with fail
          refine (s_wval v9 S9 wb _ x.reply.val HT9.out Hxok.out.2.2.2 (by simp only [List.length_append]; omega) (by have := sess_small Hpx.out; omega)).mono ?_
          rintro e va ⟨rfl, hma, Sa, hSa, hga⟩
          have HMa := Lib.hid (mod_gr HM9.out hma HG9.out)
          have HGa := Lib.hid (gr_trans HG9.out hga HM9.out.size)
          have HTa : Hid (St va Sa wb (encInt n ++ p.flatMap encP ++ encInt m ++ (l.take (j + 1)).flatMap encS)) := Lib.hid (by
            rw [Hsn.out]
            simp only [encS, ← List.append_assoc] at hSa ⊢
            exact hSa)
          clear hma hSa hga q90 q91 q92 q93 q94 q95
          go_wp2
          exact ⟨⟨j + 1, Sa, by omega, by go_num, HTa.out, HGa.out, HMa.out⟩, by simp [intOf]; omega⟩
        · have hful : l.take j = l := List.take_of_length_le (by rw [Hmm.out]; omega)
          rw [hful] at hlj
          have HT7 : Hid (St wr S6 wb (encM ⟨p, l⟩)) := Lib.hid (by
            have := HT6.out
            rw [hful] at this
            unfold encM
            simp only [Hn.out, Hmm.out, ← List.append_assoc]
            exact this)
          have hlM : (encM ⟨p, l⟩).length ≤ 4000 := by
            unfold encM
            simp only [Hn.out, Hmm.out, List.length_append]
            omega
          clear hful
          go_wp2_with fail
          refine (w_bytes wr S6 wb _ HT7.out.1 (by omega)).mono ?_
          rintro e wz ⟨vb, rfl, hNB, hEz⟩
          have HN : Hid (NewB w wz vb (encM ⟨p, l⟩)) := Lib.hid ⟨hNB.1, fun g hg => Nat.le_trans HX6.out.size (hNB.2 g hg)⟩
          have HZ := Lib.hid (HX6.out.ext hEz)
          clear hNB hEz
          go_wp2
          go_ret2
          exact ⟨vb, rfl, HN.out, HZ.out⟩
end Go.Proofs.Ytplpegjnmlabkaa
