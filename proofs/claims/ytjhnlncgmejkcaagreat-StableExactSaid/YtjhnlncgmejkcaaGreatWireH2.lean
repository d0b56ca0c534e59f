/-
 Contracts of the page's entries, list, Hard (layer 10). Conditions: as each theorem names them.
-/
import Derived.Test.YtjhnlncgmejkcaaGreatTakeI
import Derived.Test.YtjhnlncgmejkcaaGreatS19
import Derived.Test.YtjhnlncgmejkcaaGreatS8
set_option maxRecDepth 100000
set_option maxHeartbeats 4000000
namespace Go.Proofs.YtjhnlncgmejkcaaGreat
set_option linter.unusedSimpArgs false
open Go.RowKit
theorem all_no {α : Type} {p : α → Bool} {l : List α} {i : Nat} {x : α} (hx : l[i]? = some x) (e : p x = false) : l.all p = false := by
 rw [List.all_eq_false]
 exact ⟨x, List.mem_of_getElem? hx, by rw [e]; simp⟩
theorem all_step {α : Type} {p : α → Bool} {l : List α} {i : Nat} {x : α} (h : (l.take i).all p = true) (hx : l[i]? = some x) (e : p x = true) : (l.take (i + 1)).all p = true := by
 rw [zlR hx, List.all_append, h]
 simp [e]
theorem zp6 (w : World) (T : Nat → Prop) (v : Value) (l : List zI) (h : zbJ w T v l) :
  Calls Tryz.prog 149 #[v] w fun e w' => e = .returned (.bool (l.all zcK)) ∧ Ext w w' := by
 have hle := h.1.le
 unfold maxLen at hle
 obtain ⟨n, hn⟩ : ∃ n, l.length = n := ⟨_, rfl⟩
 obtain ⟨A, c, rfl⟩ := h.1.form
 rw [hn] at h hle ⊢
 have Hn := hJ hn
 have H := hJ h
 clear hn h
 go_enter Tryz.func149, Tryz.ntmps149
 go_wp2
 go_loopw [3] (fun iv wr => ∃ i : Nat, iv = .int .i64 i ∧ i ≤ n ∧ (l.take i).all zcK = true ∧ Ext w wr) (fun iv _ => n - (intOf iv).toNat)
 case atStart => exact ⟨0, rfl, by omega, rfl, Mod.refl _ _⟩
 obtain ⟨i, rfl, hin, hal, hX⟩ := hrel
 have Hal := hJ hal
 have HX := hJ hX
 clear hal hX
 by_cases hi : i < n
 case neg =>
  have Hr : Hid (l.all zcK = true) := hJ (by have := Hal.out; rw [List.take_of_length_le (by rw [Hn.out]; omega)] at this; exact this)
  have hd : decide ((i : Int) < (n : Int)) = false := by simp; omega
  go_wp2
  go_ret
  exact ⟨zP Hr.out.symm, HX.out⟩
 have hv := H.out.mod HX.out (fun _ _ => id)
 obtain ⟨g, off, x, rfl, hgT, hx, hxok, hcells⟩ := hv.at hi
 have hld := jE (P := Tryz.prog) (o := off + i * 16) (cs := x.cells) zM rfl hcells
 have Hx := hJ hx
 have i0 : (0 : Int) ≤ (i : Int) := by omega
 have i1 : (i : Int) < (n : Int) := by omega
 clear hx hxok hcells hv hgT
 go_wp2_with (refine zG rfl 56 _ rfl _ _ rfl hld ?_)
 clear hld
 refine (p_entB x wr).mono ?_
 rintro e w1 ⟨rfl, hE⟩
 have HE := hJ (HX.out.ext hE)
 clear hE
 rcases hb : zcK x with _ | _
 ·
  have Hr : Hid (l.all zcK = false) := hJ (all_no Hx.out hb)
  clear hb
  go_wp2
  go_ret
  exact ⟨zP Hr.out.symm, HE.out⟩
 have Hs : Hid ((l.take (i + 1)).all zcK = true) := hJ (all_step Hal.out Hx.out hb)
 clear hb
 go_wp2
 exact ⟨⟨i + 1, by go_num, by omega, Hs.out, HE.out⟩, by simp [intOf]; omega⟩
theorem encE_len {x : zI} (h : x.small) : (xT x).length ≤ 200000 := by
 have h2 := jD [x.term, x.kind]
 have h3 := jD [x.call.client, x.call.seq, x.call.cmd.kind]
 have h4 := zaE (zaF x.call.cmd.key)
 have h5 := zc0 x.call.cmd.old
 have h6 := zc0 x.call.cmd.val
 have h7 : (zhY x.conf).length ≤ 40 := jD _
 have h8 : (zaF x.call.cmd.key).length = x.call.cmd.key.size := rfl
 obtain ⟨s1, s2, s3⟩ := h
 unfold xT zlF
 split
 · simp only [List.length_append, List.length_cons, List.length_nil] at *; omega
 split
 · simp only [List.length_append, List.length_cons, List.length_nil] at *; omega
 simp only [List.length_append, List.length_cons, List.length_nil] at *; omega
theorem p_list (w : World) (T : Nat → Prop) (v : Value) (l : List zI) (h : zbJ w T v l) (hs : ∀ x ∈ l, x.small) (hl : l.length ≤ 12700) (K : Nat) (hK : ∀ x ∈ l, (xT x).length ≤ K) (hlK : l.length * K ≤ 890000000) :
  Calls Tryz.prog 150 #[v] w fun e w' => ∃ v', e = .returned v' ∧ yO w w' v' (zdO l) ∧ Ext w w' := by
 obtain ⟨n, hn⟩ : ∃ n, l.length = n := ⟨_, rfl⟩
 obtain ⟨A, c, rfl⟩ := h.1.form
 rw [hn] at h hl ⊢
 have Hn := hJ hn
 have H := hJ h
 have Hs := hJ hs
 have Htl : Hid (∀ i, ((l.take i).flatMap xT).length ≤ 890000000) := hJ (fun i => by
  have h1 := take_len (f := xT) (l := l) (k := K) i hK
  omega)
 clear hn h hs hK hlK
 have hln := zV (n : Int)
 go_enter Tryz.func150, Tryz.ntmps150
 go_wp2_with fail
 refine (zi9 w (n : Int) ⟨by omega, by omega⟩).mono ?_
 rintro e w1 ⟨v1, rfl, hN1, hE1⟩
 obtain ⟨B1, d1, rfl⟩ := zN hN1.1
 have HN1 := hJ hN1
 have HE1 := hJ hE1
 clear hN1 hE1
 go_wp2
 go_loopw [3, 4] (fun bv iv wr => ∃ (i k : Nat) (B1 : Option Addr) (d1 : Nat), i ≤ n ∧ iv = .int .i64 i ∧ bv = .slice B1 k d1 ∧ (zS n ++ (l.take i).flatMap xT).length = k ∧ yO w wr (.slice B1 k d1) (zS n ++ (l.take i).flatMap xT) ∧ Ext w wr) (fun _ iv _ => n - (intOf iv).toNat)
 case atStart => exact ⟨0, _, B1, d1, by omega, rfl, rfl, by simp, by simpa using HN1.out, HE1.out⟩
 obtain ⟨i, k, B1, d1, hin, rfl, rfl, hk, hN, hX⟩ := hrel
 have hlk := Htl.out i
 have hk' := hk
 rw [List.length_append] at hk'
 have hkl : k ≤ 890000020 := by omega
 have HN := hJ hN
 have HX := hJ hX
 have Hk := hJ hk
 clear hN hX hk
 by_cases hi : i < n
 case neg =>
  have Hr : Hid (zdO l = zS n ++ (l.take i).flatMap xT) := hJ (by rw [List.take_of_length_le (by rw [Hn.out]; omega), zdO, Hn.out])
  have hd : decide ((i : Int) < (n : Int)) = false := by simp; omega
  go_wp2
  go_ret
  exact ⟨_, rfl, by rw [Hr.out]; exact HN.out, HX.out⟩
 have hv := H.out.mod HX.out (fun _ _ => id)
 obtain ⟨g, off, x, rfl, hgT, hx, hxok, hcells⟩ := hv.at hi
 have hld := jE (P := Tryz.prog) (o := off + i * 16) (cs := x.cells) zM rfl hcells
 have Hsn := hJ (zi7 (f := xT) hx)
 have Hsm := hJ (Hs.out x (List.mem_of_getElem? hx))
 have Hxok := hJ hxok
 have i0 : (0 : Int) ≤ (i : Int) := by omega
 have i1 : (i : Int) < (n : Int) := by omega
 clear hx hxok hcells hv hgT
 go_wp2_with (refine zG rfl 56 _ rfl _ _ rfl hld ?_)
 clear hld
 refine (zp0 x Hxok.out Hsm.out wr).mono ?_
 rintro e w2 ⟨v2, rfl, hN2, hE2⟩
 have HN2 := hJ (HN.out.ext hE2)
 have HX2 := hJ (HX.out.ext hE2)
 have hb2 := hN2.sl
 have hl2 := encE_len Hsm.out
 obtain ⟨D, hD⟩ : ∃ D, zS n ++ (l.take i).flatMap xT = D := ⟨_, rfl⟩
 have hk2 : D.length = k := by rw [← hD]; exact Hk.out
 rw [hD] at HN2
 have HD := hJ hD
 have Hk2 := hJ hk2
 clear hN2 hE2 hD hlk hk'
 go_wp2_with (at_builtin; refine zW rfl _ _ rfl (.slice B1 k d1) D w rfl HN2.out HX2.out _ _ (xT x) rfl hb2 (by omega) ?_)
 intro A4 n4 c4 w4 hn4 hN4 hX4 _ _
 have hall : D ++ xT x = zS n ++ (l.take (i + 1)).flatMap xT := by rw [Hsn.out, ← List.append_assoc, HD.out]
 have hn5 : (zS n ++ (l.take (i + 1)).flatMap xT).length = n4 := by rw [← hall, List.length_append]; omega
 rw [hall] at hN4
 have HN4 := hJ hN4
 have HX4 := hJ hX4
 have Hn5 := hJ hn5
 clear hn4 hN4 hX4 hall hn5 hb2 hk2
 go_wp2
 exact ⟨⟨i + 1, n4, A4, c4, by omega, by go_num, rfl, Hn5.out, HN4.out, HX4.out⟩, by simp [intOf]; omega⟩
theorem p_Hard (w : World) (T : Nat → Prop) (h : zC) (sv lv : Value) (hv : zY w T sv lv h) (ho : h.ok) (hs : ∀ x ∈ h.log, x.small) (hl : h.log.length ≤ 12700) (K : Nat) (hK : ∀ x ∈ h.log, (xT x).length ≤ K) (hlK : h.log.length * K ≤ 890000000) (hT : ∀ g, T g → g < w.heap.size) :
  Calls Tryz.prog 115 #[.agg #[.int .i64 h.term, .int .i64 h.vote, .int .i64 h.base, .int .i64 h.baseTerm, .int .i64 h.conf.full, .int .i64 h.conf.wit, .int .i64 h.conf.learn, .int .i64 h.conf.learnWit, sv, lv]] w fun e w' => ∃ v, e = .returned (.tuple #[v, .int .i64 (hardP h.term h.vote h.base h.baseTerm h.conf h.snap h.log).2]) ∧ yO w w' v (hardP h.term h.vote h.base h.baseTerm h.conf h.snap h.log).1 ∧ Ext w w' := by
 obtain ⟨q, hq⟩ : ∃ q, w.heap.size = q := ⟨_, rfl⟩
 obtain ⟨W, hW⟩ : ∃ W, W = w.alloc (.cells (h.cells sv lv).toArray 34) := ⟨_, rfl⟩
 have hE : Ext w W := by rw [hW]; exact (Mod.refl _ w).alloc _
 have hA : W.heap[q]? = some (.cells (h.cells sv lv).toArray 34 (0, 0)) := by rw [hW, ← hq]; exact heap_alloc_new w _
 have hsz : W.heap.size = q + 1 := by rw [hW, ← hq]; simp
 have Hsz := hJ hsz
 have hsn := hv.1.ext hE
 have hen := hv.2.mod hE (fun _ _ => id)
 have hle := hv.1.le
 unfold maxLen at hle
 obtain ⟨m, hm⟩ : ∃ m, h.snap.length = m := ⟨_, rfl⟩
 obtain ⟨As, cs, hsv⟩ := hv.1.form
 have Hm := hJ hm
 rw [hm] at hsv hle
 have Hsv := hJ hsv
 have HW := hJ hW
 have Hq := hJ hq
 have HE := hJ hE
 have HA := hJ hA
 have Hsn := hJ hsn
 have Hen := hJ hen
 have Ho := hJ ho
 have Hs := hJ hs
 have HK := hJ hK
 have HT := hJ hT
 obtain ⟨P, hP⟩ : ∃ P, hardP h.term h.vote h.base h.baseTerm h.conf h.snap h.log = P := ⟨_, rfl⟩
 rw [hP]
 have HP := hJ hP
 clear hW hq hE hA hsn hen ho hs hv hm hsv hP hsz hT hK
 go_enter Tryz.func115, Tryz.ntmps115
 go_wp2_with fail
 rw [← HW.out, Hq.out]
 refine (zp6 W T lv h.log Hen.out).mono ?_
 rintro e w1 ⟨rfl, hE1⟩
 have HW1 := hJ hE1
 have HX1 := hJ (HE.out.ext hE1)
 have HA1 := hJ (hE1.blk HA.out id)
 replace Hsn := hJ (Hsn.out.ext hE1)
 replace Hen := hJ (Hen.out.mod hE1 (fun _ _ => id))
 clear hE1
 rcases hb : h.log.all zcK with _ | _
 ·
  have Hp : Hid (P = ([], 3)) := hJ (by rw [← HP.out, hardP, hb]; rfl)
  clear hb
  go_wp2
  go_ret2
  rw [Hp.out]
  exact ⟨_, rfl, ⟨World.ownsRow_nil _ _ _ _, by simp [Value.ownBlock]⟩, HX1.out⟩
 have Hp : Hid (P = za0 (encH h.term h.vote h.base h.baseTerm h.conf h.snap h.log)) := hJ (by rw [← HP.out, hardP, hb]; rfl)
 clear hb
 obtain ⟨a0, a1, a2, a3, a4, a5, a6, a7, a8, a9⟩ := cq10 HA1.out
 rw [Hsv.out] at a8
 have hml : h.snap.length = m := Hm.out
 by_cases hlong : 16384 < m
 ·
  have hd : decide ((16384 : Int) < (m : Int)) = true := by simp; omega
  have Hz : Hid (P = ([], 2)) := hJ (by
   rw [Hp.out, za0, if_pos]
   unfold encH yH
   simp only [List.length_append]
   omega)
  clear hml
  go_wp2
  go_ret2
  rw [Hz.out]
  exact ⟨_, rfl, ⟨World.ownsRow_nil _ _ _ _, by simp [Value.ownBlock]⟩, HX1.out⟩
 have hd : decide ((16384 : Int) < (m : Int)) = false := by simp; omega
 clear hml
 go_wp2_with fail
 refine wp_region_held_drew (S := (fun W' : World => Ext w1 W')) (by kernel_rfl) (Mod.refl _ w1).drew (fun hS => ?_)
 obtain ⟨e0, he0⟩ : ∃ e0, e0 = w1.drew := ⟨_, rfl⟩
 rw [← he0] at hS ⊢
 clear he0
 iterate 10
  first | refine tkI 0 (some 13) rfl rfl ?_ hS ?_ ?_ | refine tkI 1 (some 14) rfl rfl ?_ hS ?_ ?_ | refine tkI 2 (some 15) rfl rfl ?_ hS ?_ ?_ | refine tkI 3 (some 16) rfl rfl ?_ hS ?_ ?_ | refine tkI 4 (some 17) rfl rfl ?_ hS ?_ ?_ | refine tkI 5 (some 18) rfl rfl ?_ hS ?_ ?_ | refine tkI 6 (some 19) rfl rfl ?_ hS ?_ ?_ | refine tkI 7 (some 20) rfl rfl ?_ hS ?_ ?_ | refine tkI 10 (some 23) rfl rfl ?_ hS ?_ ?_ | refine tkI 11 (some 24) rfl rfl ?_ hS ?_ ?_
  rotate_left
  · rintro W' hm'
    have q0 := hm'.cell a0 id
    have q1 := hm'.cell a1 id
    have q2 := hm'.cell a2 id
    have q3 := hm'.cell a3 id
    have q4 := hm'.cell a4 id
    have q5 := hm'.cell a5 id
    have q6 := hm'.cell a6 id
    have q7 := hm'.cell a7 id
    go_simp
    try rfl
  try simp only [pL]
 refine xJ 8 rfl (fun K hK => ?_)
 have hX := hS.alloc (.cells #[.int .i64 h.term, .int .i64 h.vote, .int .i64 h.base, .int .i64 h.baseTerm] 3)
 have hsl := zbU e0 [h.term, h.vote, h.base, h.baseTerm] 3 #[.int .i64 h.term, .int .i64 h.vote, .int .i64 h.base, .int .i64 h.baseTerm] rfl 4 rfl (by omega)
 go_simp
 refine hK.out _ _ hX (fun hS => ?_)
 clear hK K hX
 try simp only [pL]
 refine xJ 9 rfl (fun K hK => ?_)
 go_simp
 go_wp2_with fail
 refine (zf5 _ _ _ [h.term, h.vote, h.base, h.baseTerm] hsl (by have h1 := Ho.out; simp; exact ⟨h1.1, h1.2.1, h1.2.2.1, h1.2.2.2.1⟩) (by simp)).mono ?_
 rintro e w2 ⟨v2, rfl, hN2, hE2⟩
 have hN2' : yO w1 w2 v2 (zQ [h.term, h.vote, h.base, h.baseTerm]) := hN2.up hS
 obtain ⟨A2, c2, rfl⟩ := zN hN2'.1
 obtain ⟨I, hI⟩ : ∃ I, zQ [h.term, h.vote, h.base, h.baseTerm] = I := ⟨_, rfl⟩
 have hlI := jD [h.term, h.vote, h.base, h.baseTerm]
 rw [hI] at hN2' hlI
 obtain ⟨n2, hn2⟩ : ∃ n, I.length = n := ⟨_, rfl⟩
 have hN3 := hN2'
 rw [hI] at hN2
 rw [hn2] at hN3
 rw [show (zQ [h.term, h.vote, h.base, h.baseTerm]).length = n2 by rw [hI, hn2]]
 have HI := hJ hI
 have Hn2 := hJ hn2
 have HN2 := hJ hN3
 have hX := Mod.ext hS hE2
 clear hS hN2 hN2' hE2 hsl hI hN3
 simp only [List.length_cons, List.length_nil] at hlI
 rw [hn2] at hlI
 clear hn2
 go_simp
 refine hK.out _ _ hX (fun hS => ?_)
 clear hK K hX
 try simp only [pL]
 refine xJ 12 rfl (fun K hK => ?_)
 go_simp
 go_wp2_with fail
 refine (p_conf h.conf Ho.out.2.2.2.2 w2).mono ?_
 rintro e w3 ⟨v3, rfl, hN3, hE3⟩
 have HN3 := hJ hN3
 have hl3 : (zhY h.conf).length ≤ 40 := jD _
 have hX := Mod.ext hS hE3
 replace HN2 := hJ (HN2.out.ext hE3)
 clear hS hE3 hN3
 go_simp
 refine hK.out _ _ hX (fun hS => ?_)
 clear hK K hX
 try simp only [pL]
 refine xJ 13 rfl (fun K hK => ?_)
 have hln2 := Hn2.out
 refine zcQ rfl _ _ rfl (.slice A2 n2 c2) I w1 rfl HN2.out hS _ _ (zhY h.conf) rfl HN3.out.sl (by omega) ?_
 intro A4 n4 c4 w4 hn4 hN4 hX4 hm4 _
 have hX : Ext w1 w4 := hX4
 rw [List.length_append, hln2] at hn4
 have hlt4 : n4 ≤ 80 := by omega
 obtain ⟨D4, hD4⟩ : ∃ D, I ++ zhY h.conf = D := ⟨_, rfl⟩
 have Hn4 : Hid (D4.length = n4) := hJ (by rw [← hD4, List.length_append, hln2]; omega)
 rw [hD4] at hN4
 have HD4 := hJ hD4
 have HN4 := hJ hN4
 clear hD4
 clear hn4 hN4 hX4 hm4 hS hln2
 refine hK.out _ _ hX (fun hS => ?_)
 clear hK K hX
 try simp only [pL]
 refine tkH 14 (some 4) rfl rfl ?_ hS ?_ ?_
 rotate_left
 ·
  rintro W' hm'
  skip
  go_simp
  try rfl
 try simp only [pL]
 refine wpAnyH_done (by kernel_rfl) ?_ _
 have HX4 : Hid (Ext W w4) := hJ (HW1.out.ext hS)
 replace HN4 := hJ (HN4.out.up HW1.out)
 have HA4 := hJ (hS.blk HA1.out id)
 replace Hsn := hJ (Hsn.out.ext hS)
 replace Hen := hJ (Hen.out.mod hS (fun _ _ => id))
 clear hS HN2 HN3 a0 a1 a2 a3 a4 a5 a6 a7 a8 a9
 have a8 : w4.cell? ⟨q, 8, none⟩ = some _ := zB HA4.out rfl
 have a9 : w4.cell? ⟨q, 9, none⟩ = some _ := zB HA4.out rfl
 go_wp2_with fail
 refine (zkM w4 T sv h.snap Hsn.out (by rw [Hm.out]; omega)).mono ?_
 rintro e w5 ⟨v5, rfl, hN5, hE5⟩
 replace HN4 := hJ (HN4.out.ext hE5)
 replace HX4 := hJ (HX4.out.ext hE5)
 have HA5 := hJ (hE5.blk HA4.out id)
 replace Hen := hJ (Hen.out.mod hE5 (fun _ _ => id))
 have hb5 := hN5.sl
 have hlt5 := zaE h.snap
 have hln4 := Hn4.out
 have hms := Hm.out
 clear a8 a9 hN5 hE5
 go_wp2_with (at_builtin; refine zW rfl _ _ rfl (.slice A4 n4 c4) D4 W rfl HN4.out HX4.out _ _ (yH h.snap) rfl hb5 (by omega) ?_)
 intro A6 n6 c6 w6 hn6 hN6 hX6 hm6 hf6
 have hlt6 : n6 ≤ 17000 := by omega
 have Hn6 : Hid ((D4 ++ yH h.snap).length = n6) := hJ (by rw [List.length_append, hln4]; omega)
 have HN6 := hJ hN6
 have HX6 := hJ hX6
 have nq : ¬ (Value.slice A4 n4 c4).ownBlock = some q := fun e => by have := HN4.out.2 q e; have := Hsz.out; omega
 have HA6 := hJ (hm6.blk HA5.out nq)
 replace Hen := hJ (Hen.out.mod hm6 (fun g hg e => by have := HN4.out.2 g e; have := HT.out g hg; have := Hsz.out; have := Hq.out; omega))
 obtain ⟨D6, hD6⟩ : ∃ D, D4 ++ yH h.snap = D := ⟨_, rfl⟩
 rw [hD6] at HN6 Hn6
 have HD6 := hJ hD6
 clear hn6 hN6 hX6 hm6 hf6 hb5 hln4 hD6 hlt5 hms nq
 have a9 : w6.cell? ⟨q, 9, none⟩ = some _ := zB HA6.out rfl
 go_wp2_with fail
 refine (p_list w6 T lv h.log Hen.out Hs.out hl K HK.out hlK).mono ?_
 rintro e w7 ⟨v7, rfl, hN7, hE7⟩
 replace HN6 := hJ (HN6.out.ext hE7)
 replace HX6 := hJ (HX6.out.ext hE7)
 have hb7 := hN7.sl
 have hl7 : (zdO h.log).length ≤ 890000010 := by
  unfold zdO
  have h1 := zV (h.log.length : Int)
  have h2 := zi8 (f := xT) (l := h.log) (k := K) HK.out
  rw [List.length_append]
  omega
 have hln6 := Hn6.out
 clear a9 hN7 hE7
 go_wp2_with (at_builtin; refine zW rfl _ _ rfl (.slice A6 n6 c6) D6 W rfl HN6.out HX6.out _ _ (zdO h.log) rfl hb7 (by omega) ?_)
 intro A8 n8 c8 w8 hn8 hN8 hX8 _ _
 have Hn8 : Hid ((D6 ++ zdO h.log).length = n8) := hJ (by rw [List.length_append, hln6]; omega)
 have hlt8 : n8 ≤ 10000000000 := by omega
 have HN8 := hJ (hN8.up HE.out)
 have HX8 := hJ (HE.out.ext hX8)
 have Hen8 : Hid (encH h.term h.vote h.base h.baseTerm h.conf h.snap h.log = D6 ++ zdO h.log) := hJ (by rw [← HD6.out, ← HD4.out, ← HI.out]; rfl)
 clear hn8 hN8 hX8 hb7 hln6 hl7
 go_wp2_with fail
 refine (zpZ A8 n8 c8 w8 hlt8).mono ?_
 rintro e w9 ⟨rfl, h9⟩
 rcases h9 with ⟨h9, rfl⟩ | ⟨h9, rfl⟩
 ·
  have hz : P = ([], 2) := by rw [Hp.out, Hen8.out, za0, if_pos (by rw [Hn8.out]; exact h9)]
  have Hz := hJ hz
  clear h9 hz
  go_wp2
  go_ret2
  rw [Hz.out]
  exact ⟨_, rfl, ⟨World.ownsRow_nil _ _ _ _, by simp [Value.ownBlock]⟩, HX8.out⟩
 have hz : P = (D6 ++ zdO h.log, 0) := by rw [Hp.out, Hen8.out, za0, if_neg (by rw [Hn8.out]; omega)]
 have Hz := hJ hz
 clear h9 hz
 go_wp2
 go_ret2
 rw [Hz.out]
 exact ⟨_, rfl, HN8.out, HX8.out⟩
end Go.Proofs.YtjhnlncgmejkcaaGreat
