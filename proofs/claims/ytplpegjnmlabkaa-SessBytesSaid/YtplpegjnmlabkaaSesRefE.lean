/-
  The contract of the page's Encode. Conditions: as each theorem names them.
-/
import Derived.Test.YtplpegjnmlabkaaSesRef2
import Derived.Test.YtplpegjnmlabkaaGOpen
namespace Go.Proofs.Ytplpegjnmlabkaa
set_option linter.unusedSimpArgs false
open Go.RowKit
attribute [local go_sem high] conv_sb

theorem sl_three (w : World) (e : TypeId) (a b c : Int) : Sl (w.alloc (.cells #[.int .i64 a, .int .i64 b, .int .i64 c] e)) (fun g => g = w.heap.size) 1 (.slice (some ⟨w.heap.size, 0, none⟩) 3 3) 3 ([a, b, c].map (Value.int .i64)) := by
  refine ⟨rfl, _, _, rfl, Nat.le_refl _, by simp [maxLen], fun _ => ⟨_, 0, rfl, rfl, fun j u hu => ?_⟩⟩
  rw [Nat.zero_add, World.cell?_alloc_at _ _ _ _ rfl]
  simpa using hu
set_option maxRecDepth 100000 in
set_option maxHeartbeats 4000000 in
theorem r5_enc (w : World) (T U : Nat → Prop) (pv v : Value) (p : List APair) (l : List ASess) (hP : Prs w U pv p) (h : Ses w T v l) (hm : machB ⟨p, l⟩ = true) :
    Calls Try.prog 28 #[.agg #[pv, v]] w fun e w' => ∃ vb, e = .returned vb ∧ NewB w w' vb (encM ⟨p, l⟩) ∧ Ext w w' := by
  obtain ⟨i0, hi, hz0, hz1, hz2⟩ := info_parts info_u8
  obtain ⟨A, c, rfl⟩ := h.form
  obtain ⟨A', c', rfl⟩ := hP.form
  have hm2 := hm
  unfold machB at hm2
  rw [Bool.and_eq_true] at hm2
  have hp32 : p.length ≤ 32 := right_len hm2.1
  have hl4 : l.length ≤ 4 := (sess_nums hm2.2).2.2
  have hpk : ∀ x ∈ p, pairOk x = true := ((pairsB_iff p).1 hm2.1).2.1
  have hsk : ∀ x ∈ l, sessOk x = true := ((sessB_iff l).1 hm2.2).1
  have HP100 : Hid (∀ i, ((p.take i).flatMap encP).length ≤ 3200) := Lib.hid (fun i => by have := take_len (f := encP) (l := p) (k := 100) i (fun x hx => encP_len (hpk x hx)); omega)
  have HS100 : Hid (∀ i, ((l.take i).flatMap encS).length ≤ 400) := Lib.hid (fun i => by have := take_len (f := encS) (l := l) (k := 100) i (fun x hx => encS_len (hsk x hx)); omega)
  have Hpk := Lib.hid hpk
  have Hsk := Lib.hid hsk
  clear hpk hsk hm2 hm
  obtain ⟨n, hn⟩ : ∃ n, p.length = n := ⟨_, rfl⟩
  obtain ⟨m, hmm⟩ : ∃ m, l.length = m := ⟨_, rfl⟩
  rw [hn] at hP hp32 ⊢
  rw [hmm] at h hl4 ⊢
  have Hn := Lib.hid hn
  have Hmm := Lib.hid hmm
  clear hn hmm
  obtain ⟨b0, hb0⟩ : ∃ b0, w.heap.size = b0 := ⟨_, rfl⟩
  obtain ⟨W, hW⟩ : ∃ W, W = w.alloc (.cells #[.slice A' n c', .slice A m c] 25) := ⟨_, rfl⟩
  have hE : Ext w W := by rw [hW]; exact (Mod.refl _ w).alloc _
  have hA : W.heap[b0]? = some (.cells #[.slice A' n c', .slice A m c] 25 (0, 0)) := by rw [hW, ← hb0]; exact heap_alloc_new w _
  have hbW : b0 < W.heap.size := (Array.getElem?_eq_some_iff.1 hA).1
  have HW := Lib.hid hW
  have Hb0 := Lib.hid hb0
  have HE := Lib.hid hE
  have HA := Lib.hid hA
  have hln := encInt_len (n : Int)
  clear hW hb0 hE hA
  go_enter Try.func28, Try.ntmps28
  go_wp2_with fail
  rw [← HW.out, Hb0.out]
  refine (r2_int W (n : Int) ⟨by omega, by omega⟩).mono ?_
  rintro e w1 ⟨v1, rfl, hN1, hE1⟩
  obtain ⟨B1, d1, rfl⟩ := own_form hN1.1
  have hA1 := hE1.blk HA.out id
  have HN1 := Lib.hid hN1
  have HE1 := Lib.hid hE1
  clear hN1 hE1 hA1
  go_wp2
  go_loopw [3, 4] (fun bv iv wr => ∃ (i k : Nat) (B1 : Option Addr) (d1 : Nat), i ≤ n ∧ iv = .int .i64 i ∧ bv = .slice B1 k d1 ∧ (encInt n ++ (p.take i).flatMap encP).length = k ∧ NewB W wr (.slice B1 k d1) (encInt n ++ (p.take i).flatMap encP) ∧ Ext W wr) (fun _ iv _ => n - (intOf iv).toNat)
  case atStart => exact ⟨0, _, B1, d1, by omega, rfl, rfl, by simp, by simpa using HN1.out, HE1.out⟩
  case round =>
    obtain ⟨i, k, B1, d1, hin, rfl, rfl, hk, hN, hX⟩ := hrel
    have hlk := HP100.out i
    have hk' := hk
    rw [List.length_append] at hk'
    have hA1 := hX.blk HA.out id
    have a0 : wr.cell? ⟨b0, 0, none⟩ = some _ := blk_cell hA1 rfl
    have a1 : wr.cell? ⟨b0, 1, none⟩ = some _ := blk_cell hA1 rfl
    have HN := Lib.hid hN
    have HX := Lib.hid hX
    have Hk := Lib.hid hk
    have hfar : ∀ g, (Value.slice B1 k d1).ownBlock = some g → W.heap.size ≤ g := hN.2
    clear hN hX hk hA1
    by_cases hi' : i < n
    · obtain ⟨g, off, x, rfl, hgT, hx, hxok, hcells⟩ := hP.at hi'
      have hi0 : (0 : Int) ≤ (i : Int) := by omega
      have hi1 : (i : Int) < (n : Int) := by omega
      have z0 := hcells 0 _ rfl
      have z1 := hcells 1 _ rfl
      have z2 := hcells 2 _ rfl
      have z3 := hcells 3 _ rfl
      rw [Nat.add_zero] at z0
      have hglw : g < w.heap.size := World.block_lt_of_cell? _ _ z0
      have x0 := (HE.out.ext HX.out).cell z0 id
      have x1 := (HE.out.ext HX.out).cell z1 id
      have x2 := (HE.out.ext HX.out).cell z2 id
      have x3 := (HE.out.ext HX.out).cell z3 id
      have Hsn := Lib.hid (flat_snoc (f := encP) hx)
      have Hpx := Lib.hid (Hpk.out x (List.mem_of_getElem? hx))
      have Hxok := Lib.hid hxok
      have nb : ¬ (Value.slice B1 k d1).ownBlock = some b0 := fun e => by have := hfar _ e; omega
      have ng : ¬ (Value.slice B1 k d1).ownBlock = some g := fun e => by have := hfar _ e; have := HE.out.size; omega
      clear hx hxok hcells z0 z1 z2 z3
      go_wp2_with fail
      refine wp_region_held_drew (S := (fun W' : World => Mod (fun k_ => (Value.slice B1 k d1).ownBlock = some k_) wr W')) (by kernel_rfl) (Mod.refl _ wr).drew (fun hS => ?_)
      obtain ⟨e0, he0⟩ : ∃ e0, e0 = wr.drew := ⟨_, rfl⟩
      have hNe : NewB W e0 (.slice B1 k d1) (encInt n ++ (p.take i).flatMap encP) := by rw [he0]; exact ⟨own_mod HN.out.1 (Mod.refl (fun _ => False) _).drew (fun _ _ => id), HN.out.2⟩
      have hXe : Ext W e0 := by rw [he0]; exact HX.out.drew
      rw [← he0] at hS ⊢
      clear he0
      refine takeH (i := 0) (v := ?_) (some 18) rfl rfl (by kernel_rfl) (by kernel_rfl) (by kernel_rfl) (fun _ _ _ h => h) (Or.inl ⟨by kernel_rfl, ?_⟩) hS ?_
      rotate_left
      · rintro W' hm'
        have qa := hm'.cell a0 nb
        have q0 := hm'.cell x0 ng
        have q1 := hm'.cell x1 ng
        have q2 := hm'.cell x2 ng
        have q3 := hm'.cell x3 ng
        go_simp
        try with_reducible rfl
      try simp only [pL]
      refine takeH (i := 1) (v := ?_) (some 19) rfl rfl (by kernel_rfl) (by kernel_rfl) (by kernel_rfl) (fun _ _ _ h => h) (Or.inl ⟨by kernel_rfl, ?_⟩) hS ?_
      rotate_left
      · rintro W' hm'
        have qa := hm'.cell a0 nb
        have q0 := hm'.cell x0 ng
        have q1 := hm'.cell x1 ng
        have q2 := hm'.cell x2 ng
        have q3 := hm'.cell x3 ng
        go_simp
        try with_reducible rfl
      try simp only [pL]
      refine takeH (i := 2) (v := ?_) (some 20) rfl rfl (by kernel_rfl) (by kernel_rfl) (by kernel_rfl) (fun _ _ _ h => h) (Or.inl ⟨by kernel_rfl, ?_⟩) hS ?_
      rotate_left
      · rintro W' hm'
        have qa := hm'.cell a0 nb
        have q0 := hm'.cell x0 ng
        have q1 := hm'.cell x1 ng
        have q2 := hm'.cell x2 ng
        have q3 := hm'.cell x3 ng
        go_simp
        try with_reducible rfl
      try simp only [pL]
      refine takeH (i := 3) (v := ?_) (some 21) rfl rfl (by kernel_rfl) (by kernel_rfl) (by kernel_rfl) (fun _ _ _ h => h) (Or.inl ⟨by kernel_rfl, ?_⟩) hS ?_
      rotate_left
      · rintro W' hm'
        have qa := hm'.cell a0 nb
        have q0 := hm'.cell x0 ng
        have q1 := hm'.cell x1 ng
        have q2 := hm'.cell x2 ng
        have q3 := hm'.cell x3 ng
        go_simp
        try with_reducible rfl
      try simp only [pL]
      refine takeH (i := 4) (v := ?_) (some 22) rfl rfl (by kernel_rfl) (by kernel_rfl) (by kernel_rfl) (fun _ _ _ h => h) (Or.inl ⟨by kernel_rfl, ?_⟩) hS ?_
      rotate_left
      · rintro W' hm'
        have qa := hm'.cell a0 nb
        have q0 := hm'.cell x0 ng
        have q1 := hm'.cell x1 ng
        have q2 := hm'.cell x2 ng
        have q3 := hm'.cell x3 ng
        go_simp
        try with_reducible rfl
      try simp only [pL]
      refine takeH (i := 5) (v := ?_) (some 23) rfl rfl (by kernel_rfl) (by kernel_rfl) (by kernel_rfl) (fun _ _ _ h => h) (Or.inl ⟨by kernel_rfl, ?_⟩) hS ?_
      rotate_left
      · rintro W' hm'
        have qa := hm'.cell a0 nb
        have q0 := hm'.cell x0 ng
        have q1 := hm'.cell x1 ng
        have q2 := hm'.cell x2 ng
        have q3 := hm'.cell x3 ng
        go_simp
        try with_reducible rfl
      try simp only [pL]
      refine takeH (i := 6) (v := ?_) (some 24) rfl rfl (by kernel_rfl) (by kernel_rfl) (by kernel_rfl) (fun _ _ _ h => h) (Or.inl ⟨by kernel_rfl, ?_⟩) hS ?_
      rotate_left
      · rintro W' hm'
        have qa := hm'.cell a0 nb
        have q0 := hm'.cell x0 ng
        have q1 := hm'.cell x1 ng
        have q2 := hm'.cell x2 ng
        have q3 := hm'.cell x3 ng
        go_simp
        try with_reducible rfl
      try simp only [pL]
      refine takeH (i := 10) (v := ?_) (some 28) rfl rfl (by kernel_rfl) (by kernel_rfl) (by kernel_rfl) (fun _ _ _ h => h) (Or.inl ⟨by kernel_rfl, ?_⟩) hS ?_
      rotate_left
      · rintro W' hm'
        have qa := hm'.cell a0 nb
        have q0 := hm'.cell x0 ng
        have q1 := hm'.cell x1 ng
        have q2 := hm'.cell x2 ng
        have q3 := hm'.cell x3 ng
        go_simp
        try with_reducible rfl
      try simp only [pL]
      refine takeH (i := 11) (v := ?_) (some 29) rfl rfl (by kernel_rfl) (by kernel_rfl) (by kernel_rfl) (fun _ _ _ h => h) (Or.inl ⟨by kernel_rfl, ?_⟩) hS ?_
      rotate_left
      · rintro W' hm'
        have qa := hm'.cell a0 nb
        have q0 := hm'.cell x0 ng
        have q1 := hm'.cell x1 ng
        have q2 := hm'.cell x2 ng
        have q3 := hm'.cell x3 ng
        go_simp
        try with_reducible rfl
      try simp only [pL]
      refine takeH (i := 12) (v := ?_) (some 30) rfl rfl (by kernel_rfl) (by kernel_rfl) (by kernel_rfl) (fun _ _ _ h => h) (Or.inl ⟨by kernel_rfl, ?_⟩) hS ?_
      rotate_left
      · rintro W' hm'
        have qa := hm'.cell a0 nb
        have q0 := hm'.cell x0 ng
        have q1 := hm'.cell x1 ng
        have q2 := hm'.cell x2 ng
        have q3 := hm'.cell x3 ng
        go_simp
        try with_reducible rfl
      try simp only [pL]
      refine takeH (i := 13) (v := ?_) (some 31) rfl rfl (by kernel_rfl) (by kernel_rfl) (by kernel_rfl) (fun _ _ _ h => h) (Or.inl ⟨by kernel_rfl, ?_⟩) hS ?_
      rotate_left
      · rintro W' hm'
        have qa := hm'.cell a0 nb
        have q0 := hm'.cell x0 ng
        have q1 := hm'.cell x1 ng
        have q2 := hm'.cell x2 ng
        have q3 := hm'.cell x3 ng
        go_simp
        try with_reducible rfl
      try simp only [pL]
      refine takeH (i := 14) (v := ?_) (some 32) rfl rfl (by kernel_rfl) (by kernel_rfl) (by kernel_rfl) (fun _ _ _ h => h) (Or.inl ⟨by kernel_rfl, ?_⟩) hS ?_
      rotate_left
      · rintro W' hm'
        have qa := hm'.cell a0 nb
        have q0 := hm'.cell x0 ng
        have q1 := hm'.cell x1 ng
        have q2 := hm'.cell x2 ng
        have q3 := hm'.cell x3 ng
        go_simp
        try with_reducible rfl
      try simp only [pL]
      refine takeH (i := 15) (v := ?_) (some 33) rfl rfl (by kernel_rfl) (by kernel_rfl) (by kernel_rfl) (fun _ _ _ h => h) (Or.inl ⟨by kernel_rfl, ?_⟩) hS ?_
      rotate_left
      · rintro W' hm'
        have qa := hm'.cell a0 nb
        have q0 := hm'.cell x0 ng
        have q1 := hm'.cell x1 ng
        have q2 := hm'.cell x2 ng
        have q3 := hm'.cell x3 ng
        go_simp
        try with_reducible rfl
      try simp only [pL]
      refine wpAnyH_ready (rs := [7]) (by kernel_rfl) (by simp) ?_
      refine AllReadyH.cons rfl (fun K hK => ?_) AllReadyH.nil
      have hbe := bw_ext e0 5 x.key
      have hbb := bw_byt e0 5 x.key Hxok.out.1
      have hkl : (bsOf x.key).length = x.key.size := rfl
      have hks := (pair_small Hpx.out).1
      have hX := Mod.ext hS hbe
      go_simp
      refine hK.out _ _ hX (fun hS => ?_)
      clear hK K hX
      try simp only [pL]
      refine wpAnyH_ready (rs := [8]) (by kernel_rfl) (by simp) ?_
      refine AllReadyH.cons rfl (fun K hK => ?_) AllReadyH.nil
      go_simp
      go_wp2_with fail
      refine (r2_text _ _ _ (bsOf x.key) hbb (by omega)).mono ?_
      rintro e w2 ⟨v2, rfl, hN2, hE2⟩
      have hX := Mod.ext hS hE2
      clear hS
      go_simp
      refine hK.out _ _ hX (fun hS => ?_)
      clear hK K hX
      try simp only [pL]
      refine wpAnyH_ready (rs := [9]) (by kernel_rfl) (by simp) ?_
      refine AllReadyH.cons rfl (fun K hK => ?_) AllReadyH.nil
      have hEE := hbe.ext hE2
      have hown := own_mod hNe.1 hEE (fun _ _ => id)
      rw [Hk.out] at hown
      have hlt := encText_len' (bsOf x.key)
      obtain ⟨j, hj⟩ : ∃ j, (encText (bsOf x.key)).length = j := ⟨_, rfl⟩
      have hb := hN2.sl
      unfold Byt at hb
      rw [hj] at hb hlt
      have hN0 : NewB W w2 (.slice B1 k d1) (encInt n ++ (p.take i).flatMap encP) := ⟨own_mod hNe.1 hEE (fun _ _ => id), hNe.2⟩
      refine step_app _ rfl _ _ 55 rfl 5 i0 _ 1 1 Try.underlying55 hi hz0 hz1 hz2 rfl (by omega) (.slice B1 k d1) k ((encInt n ++ (p.take i).flatMap encP).map B) rfl hown _ _ j ((encText (bsOf x.key)).map B) rfl hb (B_one (encText (bsOf x.key))) (by simp only [maxLen]; omega) (by omega) ?_
      intro v3 w3 ho hgr hat
      have hF := newB_app hN0 (hXe.ext hEE) ho (by rw [List.length_append, Hk.out, hj]) hgr hat
      have hgrow : Mod (fun k_ => (Value.slice B1 k d1).ownBlock = some k_) w2 w3 := (Mod.refl _ w2).grown hgr (fun k_ e => .inr e)
      have hX := hS.self hgrow
      have hbn : ∀ y, v3.ownBlock = some y → (Value.slice B1 k d1).ownBlock = some y ∨ wr.heap.size ≤ y := fun y hy => by
        rcases hat with e | e
        · exact .inl (by rw [← e]; exact hy)
        · rw [e] at hy
          injection hy with hy
          have := hS.size
          exact .inr (by omega)
      obtain ⟨B3, d3, rfl⟩ := own_form hF.1.1
      obtain ⟨k3, hk3⟩ : ∃ k3, (encInt n ++ (p.take i).flatMap encP ++ encText (bsOf x.key)).length = k3 := ⟨_, rfl⟩
      rw [hk3] at hF hbn ⊢
      have Hk3 := Lib.hid hk3
      clear hk3
      clear ho hgr hgrow hown hb hN0 hS hat
      refine hK.out _ _ hX (fun hS => ?_)
      clear hK K hX
      try simp only [pL]
      refine wpAnyH_ready (rs := [16]) (by kernel_rfl) (by simp) ?_
      refine AllReadyH.cons rfl (fun K hK => ?_) AllReadyH.nil
      go_simp
      go_wp2_with fail
      refine (r5_value _ x.val Hxok.out.2 (by have := (pair_small Hpx.out).2; omega)).mono ?_
      rintro e w4 ⟨v4, rfl, hN4, hE4⟩
      have hX := Mod.ext hS hE4
      clear hS
      go_simp
      refine hK.out _ _ hX (fun hS => ?_)
      clear hK K hX
      try simp only [pL]
      refine wpAnyH_ready (rs := [17]) (by kernel_rfl) (by simp) ?_
      refine AllReadyH.cons rfl (fun K hK => ?_) AllReadyH.nil
      have hk3 := Hk3.out
      have hN5 : NewB W w4 _ (encInt n ++ (p.take i).flatMap encP ++ encText (bsOf x.key)) := ⟨own_mod hF.1.1 hE4 (fun _ _ => id), hF.1.2⟩
      have hown := hN5.1
      rw [hk3] at hown
      have hlv := encV_len x.val
      have hvs := (pair_small Hpx.out).2
      obtain ⟨j4, hj4⟩ : ∃ j4, (encV x.val).length = j4 := ⟨_, rfl⟩
      have hb := hN4.sl
      unfold Byt at hb
      rw [hj4] at hb hlv
      have hk3l : k3 ≤ 4000 := by rw [← hk3]; simp only [List.length_append]; omega
      refine step_app _ rfl _ _ 55 rfl 5 i0 _ 1 1 Try.underlying55 hi hz0 hz1 hz2 rfl (by omega) (.slice B3 k3 d3) k3 ((encInt n ++ (p.take i).flatMap encP ++ encText (bsOf x.key)).map B) rfl hown _ _ j4 ((encV x.val).map B) rfl hb (B_one (encV x.val)) (by simp only [maxLen]; omega) (by omega) ?_
      intro v5 w5 ho hgr hat
      have hF5 := newB_app hN5 (hF.2.ext hE4) ho (by rw [List.length_append, hk3, hj4]) hgr hat
      have hX : (fun W' : World => Mod (fun k_ => (Value.slice B1 k d1).ownBlock = some k_) wr W') w5 := hS.grown hgr (fun y hy => (hbn y hy).symm)
      obtain ⟨B5, d5, rfl⟩ := own_form hF5.1.1
      have hall : encInt n ++ (p.take i).flatMap encP ++ encText (bsOf x.key) ++ encV x.val = encInt n ++ (p.take (i + 1)).flatMap encP := by rw [Hsn.out]; simp only [encP, List.append_assoc]
      rw [hall] at hF5 ⊢
      obtain ⟨k5, hk5⟩ : ∃ k5, (encInt n ++ (p.take (i + 1)).flatMap encP).length = k5 := ⟨_, rfl⟩
      rw [hk5] at hF5 ⊢
      have Hk5 := Lib.hid hk5
      have HF5 := Lib.hid hF5
      clear hk5 hall
      clear ho hgr hown hb hS hat
      refine hK.out _ _ hX (fun hS => ?_)
      clear hK K hX
      try simp only [pL]
      refine takeH (i := 18) (v := ?_) (some 3) rfl rfl (by kernel_rfl) (by kernel_rfl) (by kernel_rfl) (fun _ _ _ h => h) (Or.inl ⟨by kernel_rfl, ?_⟩) hS ?_
      rotate_left
      · rintro W' hm'
        skip
        go_simp
        try with_reducible rfl
      try simp only [pL]
      refine wpAnyH_done (by kernel_rfl) ?_ _
      clear hS hF5 hF hk3 hNe hXe hbe hbb hN2 hE2 hN4 hE4 hbn hN5 hEE a0 a1 x0 x1 x2 x3
      go_wp2
      exact ⟨⟨i + 1, k5, B5, d5, by omega, by go_num, rfl, Hk5.out, HF5.out.1, HF5.out.2⟩, by simp [intOf]; omega⟩
    · have hful : p.take i = p := List.take_of_length_le (by rw [Hn.out]; omega)
      rw [hful] at hlk
      have HN6 : Hid (NewB W wr (.slice B1 k d1) (encInt n ++ p.flatMap encP)) := Lib.hid (by have := HN.out; rw [hful] at this; exact this)
      have Hk6 : Hid ((encInt n ++ p.flatMap encP).length = k) := Lib.hid (by have := Hk.out; rw [hful] at this; exact this)
      clear hful
      have hk6 := Hk6.out
      rw [List.length_append] at hk6
      have hlm := encInt_len (m : Int)
      go_wp2_with fail
      refine (r2_int wr (m : Int) ⟨by omega, by omega⟩).mono ?_
      rintro e w6 ⟨v6, rfl, hN7, hE7⟩
      have hown := own_mod HN6.out.1 hE7 (fun _ _ => id)
      rw [Hk6.out] at hown
      obtain ⟨j, hj⟩ : ∃ j, (encInt (m : Int)).length = j := ⟨_, rfl⟩
      have hb := hN7.sl
      unfold Byt at hb
      rw [hj] at hb hlm
      have hN0 : NewB W w6 (.slice B1 k d1) (encInt n ++ p.flatMap encP) := ⟨own_mod HN6.out.1 hE7 (fun _ _ => id), HN6.out.2⟩
      have Hj := Lib.hid hj
      clear hj a0 a1
      go_wp2_with (at_builtin; refine wpList_app _ rfl _ _ 55 rfl 5 i0 _ 1 1 Try.underlying55 hi hz0 hz1 hz2 rfl (by omega) (.slice B1 k d1) k ((encInt n ++ p.flatMap encP).map B) rfl hown _ _ j ((encInt (m : Int)).map B) rfl hb (B_one (encInt (m : Int))) (by simp only [maxLen]; omega) (by omega) ?_)
      intro v7 w7 ho hgr hat
      have ho2 : w7.ownsRow 0 5 1 v7 (k + j) ((encInt n ++ p.flatMap encP).map B ++ (encInt (m : Int)).map B) := by simpa using ho
      have hF := newB_app hN0 (HX.out.ext hE7) ho2 (by rw [List.length_append, Hk6.out, Hj.out]) hgr hat
      obtain ⟨B7, d7, rfl⟩ := own_form hF.1.1
      obtain ⟨k7, hk7⟩ : ∃ k7, (encInt n ++ p.flatMap encP ++ encInt m).length = k7 := ⟨_, rfl⟩
      rw [hk7] at hF ⊢
      have Hk7 := Lib.hid hk7
      have HF7 := Lib.hid hF
      clear ho ho2 hgr hat hN0 hown hb hN7 hE7 hk7 hF
      go_wp2
      go_loopw [3, 5] (fun bv iv wr => ∃ (i k : Nat) (B1 : Option Addr) (d1 : Nat), i ≤ m ∧ iv = .int .i64 i ∧ bv = .slice B1 k d1 ∧ (encInt n ++ p.flatMap encP ++ encInt m ++ (l.take i).flatMap encS).length = k ∧ NewB W wr (.slice B1 k d1) (encInt n ++ p.flatMap encP ++ encInt m ++ (l.take i).flatMap encS) ∧ Ext W wr) (fun _ iv _ => m - (intOf iv).toNat)
      case atStart => exact ⟨0, k7, B7, d7, by omega, rfl, rfl, by simpa using Hk7.out, by simpa using HF7.out.1, HF7.out.2⟩
      case round =>
        obtain ⟨i2, k, B1, d1, hin2, rfl, rfl, hk, hN, hX⟩ := hrel
        have hlk2 := HS100.out i2
        have hk' := hk
        simp only [List.length_append] at hk'
        have hjl := Hj.out
        have hA1 := hX.blk HA.out id
        have a0 : wr.cell? ⟨b0, 0, none⟩ = some _ := blk_cell hA1 rfl
        have a1 : wr.cell? ⟨b0, 1, none⟩ = some _ := blk_cell hA1 rfl
        have HN2 := Lib.hid hN
        have HX2 := Lib.hid hX
        have Hk2 := Lib.hid hk
        have hfar2 : ∀ g, (Value.slice B1 k d1).ownBlock = some g → W.heap.size ≤ g ∧ g < wr.heap.size := fun g hg => ⟨hN.2 g hg, (hN.1.lt g hg).2⟩
        clear hN hX hk hA1
        by_cases hi2 : i2 < m
        · obtain ⟨g, off, x, rfl, hgT, hx, hxok, hcells⟩ := h.at hi2
          have hi0 : (0 : Int) ≤ (i2 : Int) := by omega
          have hi1 : (i2 : Int) < (m : Int) := by omega
          have z0 := hcells 0 _ rfl
          have z1 := hcells 1 _ rfl
          have z2 := hcells 2 _ rfl
          have z3 := hcells 3 _ rfl
          have z4 := hcells 4 _ rfl
          have z5 := hcells 5 _ rfl
          rw [Nat.add_zero] at z0
          have hglw : g < w.heap.size := World.block_lt_of_cell? _ _ z0
          have x0 := (HE.out.ext HX2.out).cell z0 id
          have x1 := (HE.out.ext HX2.out).cell z1 id
          have x2 := (HE.out.ext HX2.out).cell z2 id
          have x3 := (HE.out.ext HX2.out).cell z3 id
          have x4 := (HE.out.ext HX2.out).cell z4 id
          have x5 := (HE.out.ext HX2.out).cell z5 id
          have Hsn := Lib.hid (flat_snoc (f := encS) hx)
          have Hpx := Lib.hid (Hsk.out x (List.mem_of_getElem? hx))
          have Hxok := Lib.hid hxok
          obtain ⟨Wr2, hWr⟩ : ∃ Wr2, Wr2 = wr.alloc (.cells #[.int .i64 x.client, .int .i64 x.seq, .int .i64 x.reply.code, .int .i64 x.reply.val.kind, .float .f64 x.reply.val.num, .string x.reply.val.text] 72) := ⟨_, rfl⟩
          obtain ⟨q, hq⟩ : ∃ q, wr.heap.size = q := ⟨_, rfl⟩
          have hEr : Ext wr Wr2 := by rw [hWr]; exact (Mod.refl _ _).alloc _
          have hQ : Wr2.heap[q]? = some (.cells #[.int .i64 x.client, .int .i64 x.seq, .int .i64 x.reply.code, .int .i64 x.reply.val.kind, .float .f64 x.reply.val.num, .string x.reply.val.text] 72 (0, 0)) := by rw [hWr, ← hq]; exact heap_alloc_new wr _
          have nq : ¬ (Value.slice B1 k d1).ownBlock = some q := fun e => by have := (hfar2 _ e).2; omega
          have HWr := Lib.hid hWr
          have Hq := Lib.hid hq
          have HEr := Lib.hid hEr
          have HQ := Lib.hid hQ
          clear hx hxok hcells z0 z1 z2 z3 z4 z5 hWr hq hEr hQ
          go_wp2_with fail
          rw [← HWr.out, Hq.out]
          clear x0 x1 x2 x3 x4 x5
          have y0 : Wr2.cell? ⟨q, 0, none⟩ = some _ := blk_cell HQ.out rfl
          have y1 : Wr2.cell? ⟨q, 1, none⟩ = some _ := blk_cell HQ.out rfl
          have y2 : Wr2.cell? ⟨q, 2, none⟩ = some _ := blk_cell HQ.out rfl
          have y3 : Wr2.cell? ⟨q, 3, none⟩ = some _ := blk_cell HQ.out rfl
          have y4 : Wr2.cell? ⟨q, 4, none⟩ = some _ := blk_cell HQ.out rfl
          have y5 : Wr2.cell? ⟨q, 5, none⟩ = some _ := blk_cell HQ.out rfl
          refine wp_region_held_drew (S := (fun W' : World => Mod (fun k_ => (Value.slice B1 k d1).ownBlock = some k_) Wr2 W')) (by kernel_rfl) (Mod.refl _ Wr2).drew (fun hS => ?_)
          obtain ⟨e0, he0⟩ : ∃ e0, e0 = Wr2.drew := ⟨_, rfl⟩
          have hNe : NewB W e0 (.slice B1 k d1) (encInt n ++ p.flatMap encP ++ encInt m ++ (l.take i2).flatMap encS) := by rw [he0]; exact ⟨own_mod HN2.out.1 (Mod.drew HEr.out) (fun _ _ => id), HN2.out.2⟩
          have hXe : Ext W e0 := by rw [he0]; exact (HX2.out.ext HEr.out).drew
          rw [← he0] at hS ⊢
          clear he0
          refine takeH (i := 0) (v := ?_) (some 54) rfl rfl (by kernel_rfl) (by kernel_rfl) (by kernel_rfl) (fun _ _ _ h => h) (Or.inl ⟨by kernel_rfl, ?_⟩) hS ?_
          rotate_left
          · rintro W' hm'
            have q0 := hm'.cell y0 nq
            have q1 := hm'.cell y1 nq
            have q2 := hm'.cell y2 nq
            have q3 := hm'.cell y3 nq
            have q4 := hm'.cell y4 nq
            have q5 := hm'.cell y5 nq
            go_simp
            try with_reducible rfl
          try simp only [pL]
          refine takeH (i := 1) (v := ?_) (some 55) rfl rfl (by kernel_rfl) (by kernel_rfl) (by kernel_rfl) (fun _ _ _ h => h) (Or.inl ⟨by kernel_rfl, ?_⟩) hS ?_
          rotate_left
          · rintro W' hm'
            have q0 := hm'.cell y0 nq
            have q1 := hm'.cell y1 nq
            have q2 := hm'.cell y2 nq
            have q3 := hm'.cell y3 nq
            have q4 := hm'.cell y4 nq
            have q5 := hm'.cell y5 nq
            go_simp
            try with_reducible rfl
          try simp only [pL]
          refine takeH (i := 2) (v := ?_) (some 56) rfl rfl (by kernel_rfl) (by kernel_rfl) (by kernel_rfl) (fun _ _ _ h => h) (Or.inl ⟨by kernel_rfl, ?_⟩) hS ?_
          rotate_left
          · rintro W' hm'
            have q0 := hm'.cell y0 nq
            have q1 := hm'.cell y1 nq
            have q2 := hm'.cell y2 nq
            have q3 := hm'.cell y3 nq
            have q4 := hm'.cell y4 nq
            have q5 := hm'.cell y5 nq
            go_simp
            try with_reducible rfl
          try simp only [pL]
          refine takeH (i := 3) (v := ?_) (some 57) rfl rfl (by kernel_rfl) (by kernel_rfl) (by kernel_rfl) (fun _ _ _ h => h) (Or.inl ⟨by kernel_rfl, ?_⟩) hS ?_
          rotate_left
          · rintro W' hm'
            have q0 := hm'.cell y0 nq
            have q1 := hm'.cell y1 nq
            have q2 := hm'.cell y2 nq
            have q3 := hm'.cell y3 nq
            have q4 := hm'.cell y4 nq
            have q5 := hm'.cell y5 nq
            go_simp
            try with_reducible rfl
          try simp only [pL]
          refine takeH (i := 4) (v := ?_) (some 58) rfl rfl (by kernel_rfl) (by kernel_rfl) (by kernel_rfl) (fun _ _ _ h => h) (Or.inl ⟨by kernel_rfl, ?_⟩) hS ?_
          rotate_left
          · rintro W' hm'
            have q0 := hm'.cell y0 nq
            have q1 := hm'.cell y1 nq
            have q2 := hm'.cell y2 nq
            have q3 := hm'.cell y3 nq
            have q4 := hm'.cell y4 nq
            have q5 := hm'.cell y5 nq
            go_simp
            try with_reducible rfl
          try simp only [pL]
          refine takeH (i := 5) (v := ?_) (some 59) rfl rfl (by kernel_rfl) (by kernel_rfl) (by kernel_rfl) (fun _ _ _ h => h) (Or.inl ⟨by kernel_rfl, ?_⟩) hS ?_
          rotate_left
          · rintro W' hm'
            have q0 := hm'.cell y0 nq
            have q1 := hm'.cell y1 nq
            have q2 := hm'.cell y2 nq
            have q3 := hm'.cell y3 nq
            have q4 := hm'.cell y4 nq
            have q5 := hm'.cell y5 nq
            go_simp
            try with_reducible rfl
          try simp only [pL]
          refine takeH (i := 6) (v := ?_) (some 60) rfl rfl (by kernel_rfl) (by kernel_rfl) (by kernel_rfl) (fun _ _ _ h => h) (Or.inl ⟨by kernel_rfl, ?_⟩) hS ?_
          rotate_left
          · rintro W' hm'
            have q0 := hm'.cell y0 nq
            have q1 := hm'.cell y1 nq
            have q2 := hm'.cell y2 nq
            have q3 := hm'.cell y3 nq
            have q4 := hm'.cell y4 nq
            have q5 := hm'.cell y5 nq
            go_simp
            try with_reducible rfl
          try simp only [pL]
          refine takeH (i := 7) (v := ?_) (some 61) rfl rfl (by kernel_rfl) (by kernel_rfl) (by kernel_rfl) (fun _ _ _ h => h) (Or.inl ⟨by kernel_rfl, ?_⟩) hS ?_
          rotate_left
          · rintro W' hm'
            have q0 := hm'.cell y0 nq
            have q1 := hm'.cell y1 nq
            have q2 := hm'.cell y2 nq
            have q3 := hm'.cell y3 nq
            have q4 := hm'.cell y4 nq
            have q5 := hm'.cell y5 nq
            go_simp
            try with_reducible rfl
          try simp only [pL]
          refine takeH (i := 11) (v := ?_) (some 65) rfl rfl (by kernel_rfl) (by kernel_rfl) (by kernel_rfl) (fun _ _ _ h => h) (Or.inl ⟨by kernel_rfl, ?_⟩) hS ?_
          rotate_left
          · rintro W' hm'
            have q0 := hm'.cell y0 nq
            have q1 := hm'.cell y1 nq
            have q2 := hm'.cell y2 nq
            have q3 := hm'.cell y3 nq
            have q4 := hm'.cell y4 nq
            have q5 := hm'.cell y5 nq
            go_simp
            try with_reducible rfl
          try simp only [pL]
          refine takeH (i := 12) (v := ?_) (some 66) rfl rfl (by kernel_rfl) (by kernel_rfl) (by kernel_rfl) (fun _ _ _ h => h) (Or.inl ⟨by kernel_rfl, ?_⟩) hS ?_
          rotate_left
          · rintro W' hm'
            have q0 := hm'.cell y0 nq
            have q1 := hm'.cell y1 nq
            have q2 := hm'.cell y2 nq
            have q3 := hm'.cell y3 nq
            have q4 := hm'.cell y4 nq
            have q5 := hm'.cell y5 nq
            go_simp
            try with_reducible rfl
          try simp only [pL]
          refine takeH (i := 13) (v := ?_) (some 67) rfl rfl (by kernel_rfl) (by kernel_rfl) (by kernel_rfl) (fun _ _ _ h => h) (Or.inl ⟨by kernel_rfl, ?_⟩) hS ?_
          rotate_left
          · rintro W' hm'
            have q0 := hm'.cell y0 nq
            have q1 := hm'.cell y1 nq
            have q2 := hm'.cell y2 nq
            have q3 := hm'.cell y3 nq
            have q4 := hm'.cell y4 nq
            have q5 := hm'.cell y5 nq
            go_simp
            try with_reducible rfl
          try simp only [pL]
          refine wpAnyH_ready (rs := [8]) (by kernel_rfl) (by simp) ?_
          refine AllReadyH.cons rfl (fun K hK => ?_) AllReadyH.nil
          obtain ⟨e1, he1⟩ : ∃ e1, e1 = e0.alloc (.cells #[.int .i64 x.client, .int .i64 x.seq, .int .i64 x.reply.code] 3) := ⟨_, rfl⟩
          have hbe : Ext e0 e1 := by rw [he1]; exact (Mod.refl _ _).alloc _
          have hsl : Sl e1 (fun g => g = e0.heap.size) 1 (.slice (some ⟨e0.heap.size, 0, none⟩) 3 3) 3 ([x.client, x.seq, x.reply.code].map (Value.int .i64)) := by rw [he1]; exact sl_three e0 3 _ _ _
          have hX := Mod.ext hS hbe
          go_simp
          rw [← he1]
          clear he1
          refine hK.out _ _ hX (fun hS => ?_)
          clear hK K hX
          try simp only [pL]
          refine wpAnyH_ready (rs := [9]) (by kernel_rfl) (by simp) ?_
          refine AllReadyH.cons rfl (fun K hK => ?_) AllReadyH.nil
          go_simp
          go_wp2_with fail
          refine (r2_ints _ _ _ [x.client, x.seq, x.reply.code] hsl (by
            intro y hy
            simp only [List.mem_cons, List.not_mem_nil, or_false] at hy
            rcases hy with rfl | rfl | rfl
            · exact Hxok.out.1
            · exact Hxok.out.2.1
            · exact Hxok.out.2.2.1) (by simp)).mono ?_
          rintro e w2 ⟨v2, rfl, hN3, hE3⟩
          have hX := Mod.ext hS hE3
          clear hS
          go_simp
          refine hK.out _ _ hX (fun hS => ?_)
          clear hK K hX
          try simp only [pL]
          refine wpAnyH_ready (rs := [10]) (by kernel_rfl) (by simp) ?_
          refine AllReadyH.cons rfl (fun K hK => ?_) AllReadyH.nil
          have hEE := hbe.ext hE3
          have hown := own_mod hNe.1 hEE (fun _ _ => id)
          rw [Hk2.out] at hown
          have hlt := ints_len [x.client, x.seq, x.reply.code]
          obtain ⟨j3, hj3⟩ : ∃ j3, ([x.client, x.seq, x.reply.code].flatMap encInt).length = j3 := ⟨_, rfl⟩
          have hb := hN3.sl
          unfold Byt at hb
          rw [hj3] at hb hlt
          have hl3 : j3 ≤ 30 := by simpa using hlt
          have hN0 : NewB W w2 (.slice B1 k d1) (encInt n ++ p.flatMap encP ++ encInt m ++ (l.take i2).flatMap encS) := ⟨own_mod hNe.1 hEE (fun _ _ => id), hNe.2⟩
          refine step_app _ rfl _ _ 55 rfl 5 i0 _ 1 1 Try.underlying55 hi hz0 hz1 hz2 rfl (by omega) (.slice B1 k d1) k ((encInt n ++ p.flatMap encP ++ encInt m ++ (l.take i2).flatMap encS).map B) rfl hown _ _ j3 (([x.client, x.seq, x.reply.code].flatMap encInt).map B) rfl hb (B_one ([x.client, x.seq, x.reply.code].flatMap encInt)) (by simp only [maxLen]; omega) (by omega) ?_
          intro v3 w3 ho hgr hat
          have hF := newB_app hN0 (hXe.ext hEE) ho (by rw [List.length_append, Hk2.out, hj3]) hgr hat
          have hgrow : Mod (fun k_ => (Value.slice B1 k d1).ownBlock = some k_) w2 w3 := (Mod.refl _ w2).grown hgr (fun k_ e => .inr e)
          have hX := hS.self hgrow
          have hbn : ∀ y, v3.ownBlock = some y → (Value.slice B1 k d1).ownBlock = some y ∨ Wr2.heap.size ≤ y := fun y hy => by
            rcases hat with e | e
            · exact .inl (by rw [← e]; exact hy)
            · rw [e] at hy
              injection hy with hy
              have := hS.size
              exact .inr (by omega)
          obtain ⟨B3, d3, rfl⟩ := own_form hF.1.1
          obtain ⟨k3, hk3⟩ : ∃ k3, ((encInt n ++ p.flatMap encP ++ encInt m ++ (l.take i2).flatMap encS) ++ [x.client, x.seq, x.reply.code].flatMap encInt).length = k3 := ⟨_, rfl⟩
          rw [hk3] at hF hbn ⊢
          have hk3l : k3 ≤ 5000 := by rw [← hk3, List.length_append, Hk2.out, hj3]; omega
          have Hk3 := Lib.hid hk3
          clear hk3
          clear ho hgr hgrow hown hb hN0 hS hat hlt
          refine hK.out _ _ hX (fun hS => ?_)
          clear hK K hX
          try simp only [pL]
          refine wpAnyH_ready (rs := [14]) (by kernel_rfl) (by simp) ?_
          refine AllReadyH.cons rfl (fun K hK => ?_) AllReadyH.nil
          go_simp
          go_wp2_with fail
          refine (r5_value _ x.reply.val Hxok.out.2.2.2 (by have := sess_small Hpx.out; omega)).mono ?_
          rintro e w4 ⟨v4, rfl, hN4, hE4⟩
          have hX := Mod.ext hS hE4
          clear hS
          go_simp
          refine hK.out _ _ hX (fun hS => ?_)
          clear hK K hX
          try simp only [pL]
          refine wpAnyH_ready (rs := [15]) (by kernel_rfl) (by simp) ?_
          refine AllReadyH.cons rfl (fun K hK => ?_) AllReadyH.nil
          have hN5 : NewB W w4 _ ((encInt n ++ p.flatMap encP ++ encInt m ++ (l.take i2).flatMap encS) ++ [x.client, x.seq, x.reply.code].flatMap encInt) := ⟨own_mod hF.1.1 hE4 (fun _ _ => id), hF.1.2⟩
          have hown := hN5.1
          rw [Hk3.out] at hown
          have hlv := encV_len x.reply.val
          have hvs := sess_small Hpx.out
          obtain ⟨j4, hj4⟩ : ∃ j4, (encV x.reply.val).length = j4 := ⟨_, rfl⟩
          have hb := hN4.sl
          unfold Byt at hb
          rw [hj4] at hb hlv
          refine step_app _ rfl _ _ 55 rfl 5 i0 _ 1 1 Try.underlying55 hi hz0 hz1 hz2 rfl (by omega) (.slice B3 k3 d3) k3 (((encInt n ++ p.flatMap encP ++ encInt m ++ (l.take i2).flatMap encS) ++ [x.client, x.seq, x.reply.code].flatMap encInt).map B) rfl hown _ _ j4 ((encV x.reply.val).map B) rfl hb (B_one (encV x.reply.val)) (by simp only [maxLen]; omega) (by omega) ?_
          intro v5 w5 ho hgr hat
          have hF5 := newB_app hN5 (hF.2.ext hE4) ho (by rw [List.length_append, Hk3.out, hj4]) hgr hat
          have hX : (fun W' : World => Mod (fun k_ => (Value.slice B1 k d1).ownBlock = some k_) Wr2 W') w5 := hS.grown hgr (fun y hy => (hbn y hy).symm)
          obtain ⟨B5, d5, rfl⟩ := own_form hF5.1.1
          have hall : (encInt n ++ p.flatMap encP ++ encInt m ++ (l.take i2).flatMap encS) ++ [x.client, x.seq, x.reply.code].flatMap encInt ++ encV x.reply.val = encInt n ++ p.flatMap encP ++ encInt m ++ (l.take (i2 + 1)).flatMap encS := by rw [Hsn.out]; simp only [encS, List.flatMap_cons, List.flatMap_nil, List.append_nil, List.append_assoc]
          rw [hall] at hF5 ⊢
          obtain ⟨k5, hk5⟩ : ∃ k5, (encInt n ++ p.flatMap encP ++ encInt m ++ (l.take (i2 + 1)).flatMap encS).length = k5 := ⟨_, rfl⟩
          rw [hk5] at hF5 ⊢
          have Hk5 := Lib.hid hk5
          have HF5 := Lib.hid hF5
          clear hk5 hall
          clear ho hgr hown hb hS hat
          refine hK.out _ _ hX (fun hS => ?_)
          clear hK K hX
          try simp only [pL]
          refine takeH (i := 16) (v := ?_) (some 3) rfl rfl (by kernel_rfl) (by kernel_rfl) (by kernel_rfl) (fun _ _ _ h => h) (Or.inl ⟨by kernel_rfl, ?_⟩) hS ?_
          rotate_left
          · rintro W' hm'
            skip
            go_simp
            try with_reducible rfl
          try simp only [pL]
          refine wpAnyH_done (by kernel_rfl) ?_ _
          clear hS hF5 hF hNe hXe hbe hsl hN3 hE3 hN4 hE4 hbn hN5 hEE a0 a1 y0 y1 y2 y3 y4 y5
          go_wp2
          exact ⟨⟨i2 + 1, k5, B5, d5, by omega, by go_num, rfl, Hk5.out, HF5.out.1, HF5.out.2⟩, by simp [intOf]; omega⟩
        · have hful : l.take i2 = l := List.take_of_length_le (by rw [Hmm.out]; omega)
          have HF8 : Hid (NewB W wr (.slice B1 k d1) (encM ⟨p, l⟩)) := Lib.hid (by
            have := HN2.out
            rw [hful] at this
            unfold encM
            simp only [Hn.out, Hmm.out, ← List.append_assoc]
            exact this)
          clear hful
          go_wp2
          go_ret
          exact ⟨_, rfl, ⟨HF8.out.1, fun g hg => Nat.le_trans HE.out.size (HF8.out.2 g hg)⟩, HE.out.ext HX2.out⟩
end Go.Proofs.Ytplpegjnmlabkaa
