/-
 Contracts of the page's entries, list, Hard (layer 10). Conditions: as each theorem names them.
-/
import Derived.Test.YtfkacakbengboaaWireP3
import Derived.Test.YtfkacakbengboaaWireH1
namespace Go.Proofs.Ytfkacakbengboaa
set_option linter.unusedSimpArgs false
open Go.RowKit

theorem all_no {α : Type} {p : α → Bool} {l : List α} {i : Nat} {x : α} (hx : l[i]? = some x) (e : p x = false) : l.all p = false := by
 rw [List.all_eq_false]
 exact ⟨x, List.mem_of_getElem? hx, by rw [e]; simp⟩
theorem all_step {α : Type} {p : α → Bool} {l : List α} {i : Nat} {x : α} (h : (l.take i).all p = true) (hx : l[i]? = some x) (e : p x = true) : (l.take (i + 1)).all p = true := by
 rw [take_at' hx, List.all_append, h]
 simp [e]
set_option maxRecDepth 100000 in
set_option maxHeartbeats 1000000 in
theorem p_entries (w : World) (T : Nat → Prop) (v : Value) (l : List AEntry) (h : Ents w T v l) :
  Calls Try.prog 45 #[v] w fun e w' => e = .returned (.bool (l.all entB)) ∧ Ext w w' := by
 have hle := h.1.le
 unfold maxLen at hle
 obtain ⟨n, hn⟩ : ∃ n, l.length = n := ⟨_, rfl⟩
 obtain ⟨A, c, rfl⟩ := h.1.form
 rw [hn] at h hle ⊢
 have Hn := Lib.hid hn
 have H := Lib.hid h
 clear hn h
 go_enter Try.func45, Try.ntmps45
 go_wp2
 go_loopw [3] (fun iv wr => ∃ i : Nat, iv = .int .i64 i ∧ i ≤ n ∧ (l.take i).all entB = true ∧ Ext w wr) (fun iv _ => n - (intOf iv).toNat)
 case atStart => exact ⟨0, rfl, by omega, rfl, Mod.refl _ _⟩
 case round =>
  obtain ⟨i, rfl, hin, hal, hX⟩ := hrel
  have Hal := Lib.hid hal
  have HX := Lib.hid hX
  clear hal hX
  by_cases hi : i < n
  case neg =>
   have Hr : Hid (l.all entB = true) := Lib.hid (by have := Hal.out; rw [List.take_of_length_le (by rw [Hn.out]; omega)] at this; exact this)
   have hd : decide ((i : Int) < (n : Int)) = false := by simp; omega
   go_wp2
   go_ret
   exact ⟨ret_bool Hr.out.symm, HX.out⟩
  have hv := H.out.mod HX.out (fun _ _ => id)
  obtain ⟨g, off, x, rfl, hgT, hx, hxok, hcells⟩ := hv.at hi
  have hld := load_at (P := Try.prog) (o := off + i * 16) (cs := x.cells) str_entry rfl hcells
  have Hx := Lib.hid hx
  have i0 : (0 : Int) ≤ (i : Int) := by omega
  have i1 : (i : Int) < (n : Int) := by omega
  clear hx hxok hcells hv hgT
  go_wp2_with (refine wpList_ld rfl 44 _ rfl _ _ rfl hld ?_)
  clear hld
  refine (p_entB x wr).mono ?_
  rintro e w1 ⟨rfl, hE⟩
  have HE := Lib.hid (HX.out.ext hE)
  clear hE
  rcases hb : entB x with _ | _
  ·
   have Hr : Hid (l.all entB = false) := Lib.hid (all_no Hx.out hb)
   clear hb
   go_wp2
   go_ret
   exact ⟨ret_bool Hr.out.symm, HE.out⟩
  ·
   have Hs : Hid ((l.take (i + 1)).all entB = true) := Lib.hid (all_step Hal.out Hx.out hb)
   clear hb
   go_wp2
   exact ⟨⟨i + 1, by go_num, by omega, Hs.out, HE.out⟩, by simp [intOf]; omega⟩

theorem encE_len {x : AEntry} (h : x.small) : (encE x).length ≤ 200000 := by
 have h2 := encInts_le [x.term, x.kind]
 have h3 := encInts_le [x.call.client, x.call.seq, x.call.cmd.kind]
 have h4 := encText_len' (bsOf x.call.cmd.key)
 have h5 := encV_len x.call.cmd.old
 have h6 := encV_len x.call.cmd.val
 have h7 : (encF x.conf).length ≤ 40 := encInts_le _
 have h8 : (bsOf x.call.cmd.key).length = x.call.cmd.key.size := rfl
 obtain ⟨s1, s2, s3⟩ := h
 unfold encE encC
 split
 ·
  simp only [List.length_append, List.length_cons, List.length_nil] at *; omega
 ·
  split
  ·
   simp only [List.length_append, List.length_cons, List.length_nil] at *; omega
  ·
   simp only [List.length_append, List.length_cons, List.length_nil] at *; omega
set_option maxRecDepth 100000 in
set_option maxHeartbeats 2000000 in
theorem p_list (w : World) (T : Nat → Prop) (v : Value) (l : List AEntry) (h : Ents w T v l) (hs : ∀ x ∈ l, x.small) (hl : l.length ≤ 1000) :
  Calls Try.prog 49 #[v] w fun e w' => ∃ v', e = .returned v' ∧ NewB w w' v' (encEs l) ∧ Ext w w' := by
 obtain ⟨n, hn⟩ : ∃ n, l.length = n := ⟨_, rfl⟩
 obtain ⟨A, c, rfl⟩ := h.1.form
 rw [hn] at h hl ⊢
 have Hn := Lib.hid hn
 have H := Lib.hid h
 have Hs := Lib.hid hs
 have Htl : Hid (∀ i, ((l.take i).flatMap encE).length ≤ 200000000) := Lib.hid (fun i => by
  have h1 := take_len (f := encE) (l := l) (k := 200000) i (fun x hx => encE_len (hs x hx))
  have : l.length * 200000 ≤ 1000 * 200000 := Nat.mul_le_mul_right _ (by omega)
  omega)
 clear hn h hs
 have hln := encInt_len (n : Int)
 go_enter Try.func49, Try.ntmps49
 go_wp2_with fail
 refine (r2_int w (n : Int) ⟨by omega, by omega⟩).mono ?_
 rintro e w1 ⟨v1, rfl, hN1, hE1⟩
 obtain ⟨B1, d1, rfl⟩ := own_form hN1.1
 have HN1 := Lib.hid hN1
 have HE1 := Lib.hid hE1
 clear hN1 hE1
 go_wp2
 go_loopw [3, 4] (fun bv iv wr => ∃ (i k : Nat) (B1 : Option Addr) (d1 : Nat), i ≤ n ∧ iv = .int .i64 i ∧ bv = .slice B1 k d1 ∧ (encInt n ++ (l.take i).flatMap encE).length = k ∧ NewB w wr (.slice B1 k d1) (encInt n ++ (l.take i).flatMap encE) ∧ Ext w wr) (fun _ iv _ => n - (intOf iv).toNat)
 case atStart => exact ⟨0, _, B1, d1, by omega, rfl, rfl, by simp, by simpa using HN1.out, HE1.out⟩
 case round =>
  obtain ⟨i, k, B1, d1, hin, rfl, rfl, hk, hN, hX⟩ := hrel
  have hlk := Htl.out i
  have hk' := hk
  rw [List.length_append] at hk'
  have hkl : k ≤ 200000020 := by omega
  have HN := Lib.hid hN
  have HX := Lib.hid hX
  have Hk := Lib.hid hk
  clear hN hX hk
  by_cases hi : i < n
  case neg =>
   have Hr : Hid (encEs l = encInt n ++ (l.take i).flatMap encE) := Lib.hid (by rw [List.take_of_length_le (by rw [Hn.out]; omega), encEs, Hn.out])
   have hd : decide ((i : Int) < (n : Int)) = false := by simp; omega
   go_wp2
   go_ret
   exact ⟨_, rfl, by rw [Hr.out]; exact HN.out, HX.out⟩
  have hv := H.out.mod HX.out (fun _ _ => id)
  obtain ⟨g, off, x, rfl, hgT, hx, hxok, hcells⟩ := hv.at hi
  have hld := load_at (P := Try.prog) (o := off + i * 16) (cs := x.cells) str_entry rfl hcells
  have Hsn := Lib.hid (flat_snoc (f := encE) hx)
  have Hsm := Lib.hid (Hs.out x (List.mem_of_getElem? hx))
  have Hxok := Lib.hid hxok
  have i0 : (0 : Int) ≤ (i : Int) := by omega
  have i1 : (i : Int) < (n : Int) := by omega
  clear hx hxok hcells hv hgT
  go_wp2_with (refine wpList_ld rfl 44 _ rfl _ _ rfl hld ?_)
  clear hld
  refine (p_bytes x Hxok.out Hsm.out wr).mono ?_
  rintro e w2 ⟨v2, rfl, hN2, hE2⟩
  have HN2 := Lib.hid (HN.out.ext hE2)
  have HX2 := Lib.hid (HX.out.ext hE2)
  have hb2 := hN2.sl
  have hl2 := encE_len Hsm.out
  obtain ⟨D, hD⟩ : ∃ D, encInt n ++ (l.take i).flatMap encE = D := ⟨_, rfl⟩
  have hk2 : D.length = k := by rw [← hD]; exact Hk.out
  rw [hD] at HN2
  have HD := Lib.hid hD
  have Hk2 := Lib.hid hk2
  clear hN2 hE2 hD hlk hk'
  go_wp2_with (at_builtin; refine wpList_appB rfl _ _ rfl (.slice B1 k d1) D w rfl HN2.out HX2.out _ _ (encE x) rfl hb2 (by omega) ?_)
  intro A4 n4 c4 w4 hn4 hN4 hX4 _ _
  have hall : D ++ encE x = encInt n ++ (l.take (i + 1)).flatMap encE := by rw [Hsn.out, ← List.append_assoc, HD.out]
  have hn5 : (encInt n ++ (l.take (i + 1)).flatMap encE).length = n4 := by rw [← hall, List.length_append]; omega
  rw [hall] at hN4
  have HN4 := Lib.hid hN4
  have HX4 := Lib.hid hX4
  have Hn5 := Lib.hid hn5
  clear hn4 hN4 hX4 hall hn5 hb2 hk2
  go_wp2
  exact ⟨⟨i + 1, n4, A4, c4, by omega, by go_num, rfl, Hn5.out, HN4.out, HX4.out⟩, by simp [intOf]; omega⟩

set_option maxRecDepth 100000 in
set_option maxHeartbeats 4000000 in
theorem p_Hard (w : World) (T : Nat → Prop) (h : AHard) (sv lv : Value) (hv : HardM w T sv lv h) (ho : h.ok) (hs : ∀ x ∈ h.log, x.small) (hl : h.log.length ≤ 1000) (hT : ∀ g, T g → g < w.heap.size) :
  Calls Try.prog 19 #[.agg #[.int .i64 h.term, .int .i64 h.vote, .int .i64 h.base, .int .i64 h.baseTerm, .int .i64 h.conf.full, .int .i64 h.conf.wit, .int .i64 h.conf.learn, .int .i64 h.conf.learnWit, sv, lv]] w fun e w' => ∃ v, e = .returned (.tuple #[v, .int .i64 (hardP h.term h.vote h.base h.baseTerm h.conf h.snap h.log).2]) ∧ NewB w w' v (hardP h.term h.vote h.base h.baseTerm h.conf h.snap h.log).1 ∧ Ext w w' := by
 obtain ⟨q, hq⟩ : ∃ q, w.heap.size = q := ⟨_, rfl⟩
 obtain ⟨W, hW⟩ : ∃ W, W = w.alloc (.cells #[.int .i64 h.term, .int .i64 h.vote, .int .i64 h.base, .int .i64 h.baseTerm, .int .i64 h.conf.full, .int .i64 h.conf.wit, .int .i64 h.conf.learn, .int .i64 h.conf.learnWit, sv, lv] 54) := ⟨_, rfl⟩
 have hE : Ext w W := by rw [hW]; exact (Mod.refl _ w).alloc _
 have hA : W.heap[q]? = some (.cells #[.int .i64 h.term, .int .i64 h.vote, .int .i64 h.base, .int .i64 h.baseTerm, .int .i64 h.conf.full, .int .i64 h.conf.wit, .int .i64 h.conf.learn, .int .i64 h.conf.learnWit, sv, lv] 54 (0, 0)) := by rw [hW, ← hq]; exact heap_alloc_new w _
 have hsz : W.heap.size = q + 1 := by rw [hW, ← hq]; simp
 have Hsz := Lib.hid hsz
 have hsn := hv.1.ext hE
 have hen := hv.2.mod hE (fun _ _ => id)
 have hle := hv.1.le
 unfold maxLen at hle
 obtain ⟨m, hm⟩ : ∃ m, h.snap.length = m := ⟨_, rfl⟩
 obtain ⟨As, cs, hsv⟩ := hv.1.form
 have Hm := Lib.hid hm
 rw [hm] at hsv hle
 have Hsv := Lib.hid hsv
 have HW := Lib.hid hW
 have Hq := Lib.hid hq
 have HE := Lib.hid hE
 have HA := Lib.hid hA
 have Hsn := Lib.hid hsn
 have Hen := Lib.hid hen
 have Ho := Lib.hid ho
 have Hs := Lib.hid hs
 have HT := Lib.hid hT
 obtain ⟨P, hP⟩ : ∃ P, hardP h.term h.vote h.base h.baseTerm h.conf h.snap h.log = P := ⟨_, rfl⟩
 rw [hP]
 have HP := Lib.hid hP
 clear hW hq hE hA hsn hen ho hs hv hm hsv hP hsz hT
 go_enter Try.func19, Try.ntmps19
 go_wp2_with fail
 rw [← HW.out, Hq.out]
 refine (p_entries W T lv h.log Hen.out).mono ?_
 rintro e w1 ⟨rfl, hE1⟩
 have HW1 := Lib.hid hE1
 have HX1 := Lib.hid (HE.out.ext hE1)
 have HA1 := Lib.hid (hE1.blk HA.out id)
 replace Hsn := Lib.hid (Hsn.out.ext hE1)
 replace Hen := Lib.hid (Hen.out.mod hE1 (fun _ _ => id))
 clear hE1
 rcases hb : h.log.all entB with _ | _
 ·
  have Hp : Hid (P = ([], 3)) := Lib.hid (by rw [← HP.out, hardP, hb]; rfl)
  clear hb
  go_wp2
  go_ret2
  rw [Hp.out]
  exact ⟨_, rfl, ⟨World.ownsRow_nil _ _ _ _, by simp [Value.ownBlock]⟩, HX1.out⟩
 have Hp : Hid (P = sizedP (encH h.term h.vote h.base h.baseTerm h.conf h.snap h.log)) := Lib.hid (by rw [← HP.out, hardP, hb]; rfl)
 clear hb
 obtain ⟨a0, a1, a2, a3, a4, a5, a6, a7, a8, a9⟩ := cq10 HA1.out
 rw [Hsv.out] at a8
 have hml : h.snap.length = m := Hm.out
 by_cases hlong : 16384 < m
 ·
  have hd : decide ((16384 : Int) < (m : Int)) = true := by simp; omega
  have Hz : Hid (P = ([], 2)) := Lib.hid (by
   rw [Hp.out, sizedP, if_pos]
   unfold encH encText
   simp only [List.length_append]
   omega)
  clear hml
  go_wp2
  go_ret2
  rw [Hz.out]
  exact ⟨_, rfl, ⟨World.ownsRow_nil _ _ _ _, by simp [Value.ownBlock]⟩, HX1.out⟩
 have hd : decide ((16384 : Int) < (m : Int)) = false := by simp; omega
 clear hml
 go_wp2_with fail
 refine wp_region_held_drew (S := (fun W' : World => Ext w1 W')) (by kernel_rfl) (Mod.refl _ w1).drew (fun hS => ?_)
 obtain ⟨e0, he0⟩ : ∃ e0, e0 = w1.drew := ⟨_, rfl⟩
 rw [← he0] at hS ⊢
 clear he0
 refine tkH 0 (some 13) rfl rfl ?_ hS ?_ ?_
 rotate_left
 ·
  rintro W' hm'
  have q0 := hm'.cell a0 id
  have q1 := hm'.cell a1 id
  have q2 := hm'.cell a2 id
  have q3 := hm'.cell a3 id
  have q4 := hm'.cell a4 id
  have q5 := hm'.cell a5 id
  have q6 := hm'.cell a6 id
  have q7 := hm'.cell a7 id
  go_simp
  try with_reducible rfl
 try simp only [pL]
 refine tkH 1 (some 14) rfl rfl ?_ hS ?_ ?_
 rotate_left
 ·
  rintro W' hm'
  have q0 := hm'.cell a0 id
  have q1 := hm'.cell a1 id
  have q2 := hm'.cell a2 id
  have q3 := hm'.cell a3 id
  have q4 := hm'.cell a4 id
  have q5 := hm'.cell a5 id
  have q6 := hm'.cell a6 id
  have q7 := hm'.cell a7 id
  go_simp
  try with_reducible rfl
 try simp only [pL]
 refine tkH 2 (some 15) rfl rfl ?_ hS ?_ ?_
 rotate_left
 ·
  rintro W' hm'
  have q0 := hm'.cell a0 id
  have q1 := hm'.cell a1 id
  have q2 := hm'.cell a2 id
  have q3 := hm'.cell a3 id
  have q4 := hm'.cell a4 id
  have q5 := hm'.cell a5 id
  have q6 := hm'.cell a6 id
  have q7 := hm'.cell a7 id
  go_simp
  try with_reducible rfl
 try simp only [pL]
 refine tkH 3 (some 16) rfl rfl ?_ hS ?_ ?_
 rotate_left
 ·
  rintro W' hm'
  have q0 := hm'.cell a0 id
  have q1 := hm'.cell a1 id
  have q2 := hm'.cell a2 id
  have q3 := hm'.cell a3 id
  have q4 := hm'.cell a4 id
  have q5 := hm'.cell a5 id
  have q6 := hm'.cell a6 id
  have q7 := hm'.cell a7 id
  go_simp
  try with_reducible rfl
 try simp only [pL]
 refine tkH 4 (some 17) rfl rfl ?_ hS ?_ ?_
 rotate_left
 ·
  rintro W' hm'
  have q0 := hm'.cell a0 id
  have q1 := hm'.cell a1 id
  have q2 := hm'.cell a2 id
  have q3 := hm'.cell a3 id
  have q4 := hm'.cell a4 id
  have q5 := hm'.cell a5 id
  have q6 := hm'.cell a6 id
  have q7 := hm'.cell a7 id
  go_simp
  try with_reducible rfl
 try simp only [pL]
 refine tkH 5 (some 18) rfl rfl ?_ hS ?_ ?_
 rotate_left
 ·
  rintro W' hm'
  have q0 := hm'.cell a0 id
  have q1 := hm'.cell a1 id
  have q2 := hm'.cell a2 id
  have q3 := hm'.cell a3 id
  have q4 := hm'.cell a4 id
  have q5 := hm'.cell a5 id
  have q6 := hm'.cell a6 id
  have q7 := hm'.cell a7 id
  go_simp
  try with_reducible rfl
 try simp only [pL]
 refine tkH 6 (some 19) rfl rfl ?_ hS ?_ ?_
 rotate_left
 ·
  rintro W' hm'
  have q0 := hm'.cell a0 id
  have q1 := hm'.cell a1 id
  have q2 := hm'.cell a2 id
  have q3 := hm'.cell a3 id
  have q4 := hm'.cell a4 id
  have q5 := hm'.cell a5 id
  have q6 := hm'.cell a6 id
  have q7 := hm'.cell a7 id
  go_simp
  try with_reducible rfl
 try simp only [pL]
 refine tkH 7 (some 20) rfl rfl ?_ hS ?_ ?_
 rotate_left
 ·
  rintro W' hm'
  have q0 := hm'.cell a0 id
  have q1 := hm'.cell a1 id
  have q2 := hm'.cell a2 id
  have q3 := hm'.cell a3 id
  have q4 := hm'.cell a4 id
  have q5 := hm'.cell a5 id
  have q6 := hm'.cell a6 id
  have q7 := hm'.cell a7 id
  go_simp
  try with_reducible rfl
 try simp only [pL]
 refine tkH 10 (some 23) rfl rfl ?_ hS ?_ ?_
 rotate_left
 ·
  rintro W' hm'
  have q0 := hm'.cell a0 id
  have q1 := hm'.cell a1 id
  have q2 := hm'.cell a2 id
  have q3 := hm'.cell a3 id
  have q4 := hm'.cell a4 id
  have q5 := hm'.cell a5 id
  have q6 := hm'.cell a6 id
  have q7 := hm'.cell a7 id
  go_simp
  try with_reducible rfl
 try simp only [pL]
 refine tkH 11 (some 24) rfl rfl ?_ hS ?_ ?_
 rotate_left
 ·
  rintro W' hm'
  have q0 := hm'.cell a0 id
  have q1 := hm'.cell a1 id
  have q2 := hm'.cell a2 id
  have q3 := hm'.cell a3 id
  have q4 := hm'.cell a4 id
  have q5 := hm'.cell a5 id
  have q6 := hm'.cell a6 id
  have q7 := hm'.cell a7 id
  go_simp
  try with_reducible rfl
 try simp only [pL]
 refine wpAnyH_ready (rs := [8]) (by kernel_rfl) (by simp) ?_
 refine AllReadyH.cons rfl (fun K hK => ?_) AllReadyH.nil
 have hX := hS.alloc (.cells #[.int .i64 h.term, .int .i64 h.vote, .int .i64 h.base, .int .i64 h.baseTerm] 3)
 have hsl := sl_lits e0 [h.term, h.vote, h.base, h.baseTerm] 3 #[.int .i64 h.term, .int .i64 h.vote, .int .i64 h.base, .int .i64 h.baseTerm] rfl 4 rfl (by omega)
 go_simp
 refine hK.out _ _ hX (fun hS => ?_)
 clear hK K hX
 try simp only [pL]
 refine wpAnyH_ready (rs := [9]) (by kernel_rfl) (by simp) ?_
 refine AllReadyH.cons rfl (fun K hK => ?_) AllReadyH.nil
 go_simp
 go_wp2_with fail
 refine (r2_ints _ _ _ [h.term, h.vote, h.base, h.baseTerm] hsl (by have h1 := Ho.out; simp; exact ⟨h1.1, h1.2.1, h1.2.2.1, h1.2.2.2.1⟩) (by simp)).mono ?_
 rintro e w2 ⟨v2, rfl, hN2, hE2⟩
 have hN2' : NewB w1 w2 v2 (encInts [h.term, h.vote, h.base, h.baseTerm]) := hN2.up hS
 obtain ⟨A2, c2, rfl⟩ := own_form hN2'.1
 obtain ⟨I, hI⟩ : ∃ I, encInts [h.term, h.vote, h.base, h.baseTerm] = I := ⟨_, rfl⟩
 have hlI := encInts_le [h.term, h.vote, h.base, h.baseTerm]
 rw [hI] at hN2' hlI
 obtain ⟨n2, hn2⟩ : ∃ n, I.length = n := ⟨_, rfl⟩
 have hN3 := hN2'
 rw [hI] at hN2
 rw [hn2] at hN3
 rw [show (encInts [h.term, h.vote, h.base, h.baseTerm]).length = n2 by rw [hI, hn2]]
 have HI := Lib.hid hI
 have Hn2 := Lib.hid hn2
 have HN2 := Lib.hid hN3
 have hX := Mod.ext hS hE2
 clear hS hN2 hN2' hE2 hsl hI hN3
 simp only [List.length_cons, List.length_nil] at hlI
 rw [hn2] at hlI
 clear hn2
 go_simp
 refine hK.out _ _ hX (fun hS => ?_)
 clear hK K hX
 try simp only [pL]
 refine wpAnyH_ready (rs := [12]) (by kernel_rfl) (by simp) ?_
 refine AllReadyH.cons rfl (fun K hK => ?_) AllReadyH.nil
 go_simp
 go_wp2_with fail
 refine (p_conf h.conf Ho.out.2.2.2.2 w2).mono ?_
 rintro e w3 ⟨v3, rfl, hN3, hE3⟩
 have HN3 := Lib.hid hN3
 have hl3 : (encF h.conf).length ≤ 40 := encInts_le _
 have hX := Mod.ext hS hE3
 replace HN2 := Lib.hid (HN2.out.ext hE3)
 clear hS hE3 hN3
 go_simp
 refine hK.out _ _ hX (fun hS => ?_)
 clear hK K hX
 try simp only [pL]
 refine wpAnyH_ready (rs := [13]) (by kernel_rfl) (by simp) ?_
 refine AllReadyH.cons rfl (fun K hK => ?_) AllReadyH.nil
 have hln2 := Hn2.out
 refine step_appB rfl _ _ rfl (.slice A2 n2 c2) I w1 rfl HN2.out hS _ _ (encF h.conf) rfl HN3.out.sl (by omega) ?_
 intro A4 n4 c4 w4 hn4 hN4 hX4 hm4 _
 have hX : Ext w1 w4 := hX4
 rw [List.length_append, hln2] at hn4
 have hlt4 : n4 ≤ 80 := by omega
 obtain ⟨D4, hD4⟩ : ∃ D, I ++ encF h.conf = D := ⟨_, rfl⟩
 have Hn4 : Hid (D4.length = n4) := Lib.hid (by rw [← hD4, List.length_append, hln2]; omega)
 rw [hD4] at hN4
 have HD4 := Lib.hid hD4
 have HN4 := Lib.hid hN4
 clear hD4
 clear hn4 hN4 hX4 hm4 hS hln2
 refine hK.out _ _ hX (fun hS => ?_)
 clear hK K hX
 try simp only [pL]
 refine tkH 14 (some 4) rfl rfl ?_ hS ?_ ?_
 rotate_left
 ·
  rintro W' hm'
  skip
  go_simp
  try with_reducible rfl
 try simp only [pL]
 refine wpAnyH_done (by kernel_rfl) ?_ _
 have HX4 : Hid (Ext W w4) := Lib.hid (HW1.out.ext hS)
 replace HN4 := Lib.hid (HN4.out.up HW1.out)
 have HA4 := Lib.hid (hS.blk HA1.out id)
 replace Hsn := Lib.hid (Hsn.out.ext hS)
 replace Hen := Lib.hid (Hen.out.mod hS (fun _ _ => id))
 clear hS HN2 HN3 a0 a1 a2 a3 a4 a5 a6 a7 a8 a9
 have a8 : w4.cell? ⟨q, 8, none⟩ = some _ := blk_cell HA4.out rfl
 have a9 : w4.cell? ⟨q, 9, none⟩ = some _ := blk_cell HA4.out rfl
 go_wp2_with fail
 refine (r2_text w4 T sv h.snap Hsn.out (by rw [Hm.out]; omega)).mono ?_
 rintro e w5 ⟨v5, rfl, hN5, hE5⟩
 replace HN4 := Lib.hid (HN4.out.ext hE5)
 replace HX4 := Lib.hid (HX4.out.ext hE5)
 have HA5 := Lib.hid (hE5.blk HA4.out id)
 replace Hen := Lib.hid (Hen.out.mod hE5 (fun _ _ => id))
 have hb5 := hN5.sl
 have hlt5 := encText_len' h.snap
 have hln4 := Hn4.out
 have hms := Hm.out
 clear a8 a9 hN5 hE5
 go_wp2_with (at_builtin; refine wpList_appB rfl _ _ rfl (.slice A4 n4 c4) D4 W rfl HN4.out HX4.out _ _ (encText h.snap) rfl hb5 (by omega) ?_)
 intro A6 n6 c6 w6 hn6 hN6 hX6 hm6 hf6
 have hlt6 : n6 ≤ 17000 := by omega
 have Hn6 : Hid ((D4 ++ encText h.snap).length = n6) := Lib.hid (by rw [List.length_append, hln4]; omega)
 have HN6 := Lib.hid hN6
 have HX6 := Lib.hid hX6
 have nq : ¬ (Value.slice A4 n4 c4).ownBlock = some q := fun e => by have := HN4.out.2 q e; have := Hsz.out; omega
 have HA6 := Lib.hid (hm6.blk HA5.out nq)
 replace Hen := Lib.hid (Hen.out.mod hm6 (fun g hg e => by have := HN4.out.2 g e; have := HT.out g hg; have := Hsz.out; have := Hq.out; omega))
 obtain ⟨D6, hD6⟩ : ∃ D, D4 ++ encText h.snap = D := ⟨_, rfl⟩
 rw [hD6] at HN6 Hn6
 have HD6 := Lib.hid hD6
 clear hn6 hN6 hX6 hm6 hf6 hb5 hln4 hD6 hlt5 hms nq
 have a9 : w6.cell? ⟨q, 9, none⟩ = some _ := blk_cell HA6.out rfl
 go_wp2_with fail
 refine (p_list w6 T lv h.log Hen.out Hs.out hl).mono ?_
 rintro e w7 ⟨v7, rfl, hN7, hE7⟩
 replace HN6 := Lib.hid (HN6.out.ext hE7)
 replace HX6 := Lib.hid (HX6.out.ext hE7)
 have hb7 := hN7.sl
 have hl7 : (encEs h.log).length ≤ 200000010 := by
  unfold encEs
  have h1 := encInt_len (h.log.length : Int)
  have h2 := flatB_len (f := encE) (l := h.log) (k := 200000) (fun x hx => encE_len (Hs.out x hx))
  have : h.log.length * 200000 ≤ 1000 * 200000 := Nat.mul_le_mul_right _ hl
  rw [List.length_append]
  omega
 have hln6 := Hn6.out
 clear a9 hN7 hE7
 go_wp2_with (at_builtin; refine wpList_appB rfl _ _ rfl (.slice A6 n6 c6) D6 W rfl HN6.out HX6.out _ _ (encEs h.log) rfl hb7 (by omega) ?_)
 intro A8 n8 c8 w8 hn8 hN8 hX8 _ _
 have Hn8 : Hid ((D6 ++ encEs h.log).length = n8) := Lib.hid (by rw [List.length_append, hln6]; omega)
 have hlt8 : n8 ≤ 1000000000 := by omega
 have HN8 := Lib.hid (hN8.up HE.out)
 have HX8 := Lib.hid (HE.out.ext hX8)
 have Hen8 : Hid (encH h.term h.vote h.base h.baseTerm h.conf h.snap h.log = D6 ++ encEs h.log) := Lib.hid (by rw [← HD6.out, ← HD4.out, ← HI.out]; rfl)
 clear hn8 hN8 hX8 hb7 hln6 hl7
 go_wp2_with fail
 refine (p_sized A8 n8 c8 w8 hlt8).mono ?_
 rintro e w9 ⟨rfl, h9⟩
 rcases h9 with ⟨h9, rfl⟩ | ⟨h9, rfl⟩
 ·
  have hz : P = ([], 2) := by rw [Hp.out, Hen8.out, sizedP, if_pos (by rw [Hn8.out]; exact h9)]
  have Hz := Lib.hid hz
  clear h9 hz
  go_wp2
  go_ret2
  rw [Hz.out]
  exact ⟨_, rfl, ⟨World.ownsRow_nil _ _ _ _, by simp [Value.ownBlock]⟩, HX8.out⟩
 ·
  have hz : P = (D6 ++ encEs h.log, 0) := by rw [Hp.out, Hen8.out, sizedP, if_neg (by rw [Hn8.out]; omega)]
  have Hz := Lib.hid hz
  clear h9 hz
  go_wp2
  go_ret2
  rw [Hz.out]
  exact ⟨_, rfl, HN8.out, HX8.out⟩
end Go.Proofs.Ytfkacakbengboaa
