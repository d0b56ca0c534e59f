/-
  The contract of sess.Decode. Conditions: as each theorem names them.
-/
import Derived.Test.YtplpegjnmlabkaaSesBackP
import Derived.Test.YtplpegjnmlabkaaSesBytes
import Derived.Test.YtplpegjnmlabkaaGOpen
import Derived.Deep.DeepCutAuto
import Derived.Deep.CutBlock
namespace Go.Proofs.Ytplpegjnmlabkaa
set_option linter.unusedSimpArgs false
open Go.RowKit

/-- What is read so far: pairs os, of a reader's blocks S; lo: all that is made is behind it. -/
def DecP (wr : World) (S : Nat → Prop) (rb mb lo : Nat) (r : RS) (m : Nat) (v : Value) (os : List APair) : Prop :=
  Rd wr S rb r ∧ wr.heap[mb]? = some (.cells #[v, .slice none 0 0] 25 (0, 0)) ∧ os.length = m ∧ wr.ownsRow 0 87 4 v m (os.flatMap APair.cells) ∧ (∀ g, v.ownBlock = some g → lo ≤ g) ∧ ∀ x ∈ os, x.ok

def DecOut (w : World) (bs : List UInt8) (e : Ending) (w' : World) : Prop :=
  ∃ pv v, e = .returned (.tuple #[.agg #[pv, v], .int .i64 (decE bs)]) ∧ NewM w w' pv v (decR bs) ∧ Ext w w'
theorem newM_nil (w w' : World) : NewM w w' (.slice none 0 0) (.slice none 0 0) ⟨[], []⟩ :=
  ⟨⟨World.ownsRow_nil _ _ _ _, by simp, by simp [Value.ownBlock]⟩, ⟨World.ownsRow_nil _ _ _ _, by simp, by simp [Value.ownBlock]⟩, by simp [Value.ownBlock]⟩

set_option maxRecDepth 100000 in
set_option maxHeartbeats 4000000 in
theorem s_dec (w : World) (T : Nat → Prop) (v : Value) (bs : List UInt8) (h : Byt w T v bs) (hl : bs.length ≤ 1000000) :
    Calls Try.prog 30 #[v] w (DecOut w bs) := by
  obtain ⟨i0, hi, hz0, hz1, hz2⟩ := info_parts info_pair
  obtain ⟨j0, hj, hj0, hj1, hj2⟩ := info_parts info_sess
  obtain ⟨q0, hq0⟩ : ∃ q0, w.heap.size = q0 := ⟨_, rfl⟩
  obtain ⟨W, hW⟩ : ∃ W, W = (w.alloc (.cells #[.slice none 0 0, .slice none 0 0] 25)).alloc (.cells #[.slice none 0 0, .slice none 0 0] 25) := ⟨_, rfl⟩
  have hE : Ext w W := by rw [hW]; exact ((Mod.refl _ w).alloc _).alloc _
  obtain ⟨hA, hB, hsz⟩ := two_new w (.cells #[.slice none 0 0, .slice none 0 0] 25) (.cells #[.slice none 0 0, .slice none 0 0] 25)
  rw [← hW, hq0] at hA hB hsz
  have hbW := h.ext hE
  obtain ⟨N, hN⟩ : ∃ N, bs.length = N := ⟨_, rfl⟩
  have HW := Lib.hid hW
  have Hq0 := Lib.hid hq0
  have HE := Lib.hid hE
  have HA := Lib.hid hA
  have HB := Lib.hid hB
  have hNl : N ≤ 1000000 := by omega
  have HNb := Lib.hid hN
  clear hW hq0 hE hA hB hN
  go_enter Try.func30, Try.ntmps30
  go_wp2_with fail
  rw [← HW.out, Hq0.out]
  refine (r_new W T v bs hbW (by omega)).mono ?_
  rintro e w1 ⟨rb, rfl, hrb, hR, hE1⟩
  have hRf := hR.fin
  obtain ⟨S, hS⟩ : ∃ S : Nat → Prop, S = fun k => W.heap.size ≤ k ∧ k < w1.heap.size := ⟨_, rfl⟩
  rw [← hS] at hRf
  have hSlo : ∀ k, S k → W.heap.size ≤ k := fun k hk => by rw [hS] at hk; exact hk.1
  have hShi : ∀ k, S k → k < w1.heap.size := fun k hk => by rw [hS] at hk; exact hk.2
  have nS0 : ¬ S q0 := fun e => by have := hSlo _ e; omega
  have nS1 : ¬ S (q0 + 1) := fun e => by have := hSlo _ e; omega
  have hA1 := hE1.blk HA.out id
  have hB1 := hE1.blk HB.out id
  have hq1 : q0 + 1 < w1.heap.size := (Array.getElem?_eq_some_iff.1 hB1).1
  have HE1 := Lib.hid hE1
  have HSlo := Lib.hid hSlo
  have HShi := Lib.hid hShi
  clear hS hR hE1 hSlo hShi hbW
  go_wp2_with fail
  refine (r_int w1 S rb ⟨bs, 0⟩ hRf).mono ?_
  rintro e w2 ⟨rfl, hR2, hm2⟩
  obtain ⟨n0, hn0⟩ : ∃ n0, (RS.int ⟨bs, 0⟩).1 = n0 := ⟨_, rfl⟩
  obtain ⟨r1, hr1⟩ : ∃ r1, (RS.int ⟨bs, 0⟩).2 = r1 := ⟨_, rfl⟩
  have hrange := int_range ⟨bs, 0⟩
  have heat : Eaten N 0 r1 := by
    rw [← hr1, ← HNb.out]
    exact ⟨by omega, fun _ => by have := int_left_le ⟨bs, 0⟩; simpa using this⟩
  rw [hn0] at hrange ⊢
  rw [hr1] at hR2
  have hA2 := hm2.blk hA1 nS0
  have hB2 := hm2.blk hB1 nS1
  have HA2 := Lib.hid hA2
  have HB2 := Lib.hid hB2
  have HR2 := Lib.hid hR2
  have Hm2 := Lib.hid hm2
  have Heat := Lib.hid heat
  have Hn0 := Lib.hid hn0
  have Hr1 := Lib.hid hr1
  clear hA1 hB1 hRf hA2 hB2 hR2 hm2 heat hn0 hr1
  go_upto_block 0 with fail
  go_cut [6] (fun s6 wx => ∃ (n : Int) (m : Nat) (VA : Option Addr) (vc : Nat) (os : List APair) (r : RS), s6 = .int .i64 n ∧ DecP wx S rb (q0 + 1) w1.heap.size r m (.slice VA m vc) os ∧ rdPs n0.toNat r1 = (os, r) ∧ Eaten N m r ∧ Mod (fun k => S k ∨ w1.heap.size ≤ k ∨ k = q0 + 1) w2 wx)
  case first =>
    go_wp2
    go_loopw [6] (fun iv wr => ∃ (n : Int) (m : Nat) (VA : Option Addr) (vc : Nat) (os : List APair) (r : RS), iv = .int .i64 n ∧ -9223372036854775808 ≤ n ∧ n ≤ 9223372036854775807 ∧ DecP wr S rb (q0 + 1) w1.heap.size r m (.slice VA m vc) os ∧ rdPs n0.toNat r1 = (os ++ (rdPs n.toNat r).1, (rdPs n.toNat r).2) ∧ Eaten N m r ∧ Mod (fun k => S k ∨ w1.heap.size ≤ k ∨ k = q0 + 1) w2 wr) (fun iv _ => (intOf iv).toNat)
    case atStart => exact ⟨n0, 0, none, 0, [], r1, rfl, hrange.1, hrange.2, ⟨HR2.out, HB2.out, rfl, World.ownsRow_nil _ _ _ _, by simp [Value.ownBlock], by simp⟩, by simp, Heat.out, Mod.refl _ _⟩
    case round =>
      obtain ⟨n, m, VA, vc, os, r, rfl, hn1, hn2, hD, hps, hea, hm⟩ := hrel
      obtain ⟨hRd, hK, hom, hown, hfar, hok⟩ := hD
      have HRd := Lib.hid hRd
      have HK := Lib.hid hK
      have Hom := Lib.hid hom
      have Hown := Lib.hid hown
      have Hfar := Lib.hid hfar
      have Hok := Lib.hid hok
      have Hps := Lib.hid hps
      have Hea := Lib.hid hea
      have Hm := Lib.hid hm
      clear hRd hK hom hown hfar hok hps hea hm
      by_cases hn : 0 < n
      case neg =>
        have dn : decide (n > 0) = false := by simp; omega
        have hfin := rdPs_stop (n := n.toNat) (r := r) (.inl (by omega))
        have Hfin := Lib.hid hfin
        clear hfin
        go_wp2_with fail
        go_meet
        exact ⟨n, m, VA, vc, os, r, rfl, ⟨HRd.out, HK.out, Hom.out, Hown.out, Hfar.out, Hok.out⟩, by rw [Hps.out, Hfin.out]; simp, Hea.out, Hm.out⟩
      have dn : decide (n > 0) = true := by simp; omega
      go_wp2_with fail
      refine (r_left wr S rb r HRd.out).mono ?_
      rintro e wq ⟨rfl, rfl⟩
      by_cases hlf : 0 < r.leftN
      case neg =>
        have dl : decide (r.leftN > 0) = false := by simp; omega
        have hfin := rdPs_stop (n := n.toNat) (r := r) (.inr (by omega))
        have Hfin := Lib.hid hfin
        clear hfin
        go_wp2_with fail
        go_meet
        exact ⟨n, m, VA, vc, os, r, rfl, ⟨HRd.out, HK.out, Hom.out, Hown.out, Hfar.out, Hok.out⟩, by rw [Hps.out, Hfin.out]; simp, Hea.out, Hm.out⟩
      have dl : decide (r.leftN > 0) = true := by simp; omega
      have hw1w : w1.heap.size ≤ wr.heap.size := Nat.le_trans Hm2.out.size Hm.out.size
      go_wp2_with fail
      refine wp_region_held_drew (S := fun _ => True) (by kernel_rfl) trivial (fun hS => ?_)
      obtain ⟨e0, he0⟩ : ∃ e0, e0 = wr.drew := ⟨_, rfl⟩
      have hEd : Ext wr e0 := by rw [he0]; exact (Mod.refl _ _).drew
      rw [← he0]
      clear he0
      have hRc := HRd.out.mod hEd (fun _ _ => id)
      have hKc := hEd.blk HK.out id
      have hoc := own_mod Hown.out hEd (fun _ _ => id)
      have hMc : Mod (fun k => S k ∨ w1.heap.size ≤ k ∨ k = q0 + 1) wr e0 := hEd.mod _
      have hSc : ∀ k, S k → k < e0.heap.size := fun k hk => by have := HShi.out k hk; have := hMc.size; omega
      clear hEd
      refine tkH 0 (some 24) rfl rfl ?_ hS ?_ ?_; rotate_left; · rintro W' _; go_simp; try with_reducible rfl
      try simp only [pL]
      refine tkH 2 (some 26) rfl rfl ?_ hS ?_ ?_; rotate_left; · rintro W' _; go_simp; try with_reducible rfl
      try simp only [pL]
      refine tkH 5 (some 29) rfl rfl ?_ hS ?_ ?_; rotate_left; · rintro W' _; go_simp; try with_reducible rfl
      try simp only [pL]
      refine wpAnyH_ready (rs := [1, 3]) (by kernel_rfl) (by simp) ?_
      refine AllReadyH.cons rfl (fun K_ hK_ => ?_) (AllReadyH.cons rfl (fun K_ hK_ => ?_) AllReadyH.nil)
      · have mc : e0.cell? ⟨q0 + 1, 0, none⟩ = some _ := blk_cell hKc rfl
        go_simp
        refine hK_.out _ _ trivial (fun hS => ?_)
        clear hK_ K_
        try simp only [pL]
        clear mc
        refine wpAnyH_ready (rs := [3]) (by kernel_rfl) (by simp) ?_
        refine AllReadyH.cons rfl (fun K_ hK_ => ?_) AllReadyH.nil
        go_simp
        go_wp2_with fail
        refine (r_text e0 S rb r hRc hSc).mono ?_
        rintro e e2 ⟨vt, rfl, hNB, hRt, hmt⟩
        obtain ⟨A5, c5, rfl⟩ := own_form hNB.1
        have hNlo : ∀ y, (Value.slice A5 r.text.1.length c5).ownBlock = some y → w1.heap.size ≤ y := fun y hy => by have := hNB.2 y hy; have := hMc.size; omega
        have hBt := hNB.1
        clear hNB
        replace hKc := hmt.blk hKc nS1
        replace hoc := own_mod hoc hmt (fun y hy e => by have := Hfar.out y hy; have := HShi.out y e; omega)
        replace hMc := hMc.trans hmt (fun _ _ e => .inl e)
        replace hSc : ∀ k, S k → k < e2.heap.size := fun k hk => by have := HShi.out k hk; have := hMc.size; omega
        clear hRc hmt
        have hRc := hRt
        clear hRt
        go_simp
        refine hK_.out _ _ trivial (fun hS => ?_)
        clear hK_ K_
        try simp only [pL]
        refine wpAnyH_ready (rs := [4, 6]) (by kernel_rfl) (by simp) ?_
        refine AllReadyH.cons rfl (fun K_ hK_ => ?_) (AllReadyH.cons rfl (fun K_ hK_ => ?_) AllReadyH.nil)
        · have hcv := conv_bs (Sl.of_own hBt (fun _ h => h) : Byt e2 _ _ r.text.1)
          go_simp
          refine hK_.out _ _ trivial (fun hS => ?_)
          clear hK_ K_
          try simp only [pL]
          clear hcv
          refine wpAnyH_ready (rs := [6]) (by kernel_rfl) (by simp) ?_
          refine AllReadyH.cons rfl (fun K_ hK_ => ?_) AllReadyH.nil
          go_simp
          go_wp2_with fail
          refine (s_rval e2 S rb r.text.2 hRc hSc).mono ?_
          rintro e e4 ⟨rfl, hRt, hmt⟩
          replace hKc := hmt.blk hKc nS1
          replace hoc := own_mod hoc hmt (fun y hy e => by have := Hfar.out y hy; have := HShi.out y e; omega)
          replace hBt := own_mod hBt hmt (fun y hy e => by have := hNlo y hy; have := HShi.out y e; omega)
          replace hMc := hMc.trans hmt (fun _ _ e => .inl e)
          clear hRc hmt hSc
          have hSc : ∀ k, S k → k < e4.heap.size := fun k hk => by have := HShi.out k hk; have := hMc.size; omega
          have hRc := hRt
          clear hRt
          go_simp
          refine hK_.out _ _ trivial (fun hS => ?_)
          clear hK_ K_
          try simp only [pL]
          refine tkH 7 (some 31) rfl rfl ?_ hS ?_ ?_; rotate_left; · rintro W' _; go_simp; try with_reducible rfl
          try simp only [pL]
          refine wpAnyH_ready (rs := [8]) (by kernel_rfl) (by simp) ?_
          refine AllReadyH.cons rfl (fun K_ hK_ => ?_) AllReadyH.nil
          go_simp
          obtain ⟨e5, hnw⟩ : ∃ e5, e5 = e4.alloc (.cells #[.string ⟨r.text.1.toArray⟩, .int .i64 r.text.2.val.1.kind, .float .f64 r.text.2.val.1.num, .string r.text.2.val.1.text] 87) := ⟨_, rfl⟩
          have hEa : Ext e4 e5 := by rw [hnw]; exact (Mod.refl _ _).alloc _
          have hsl : Sl e5 (fun y => y = e4.heap.size) 4 (.slice (some ⟨e4.heap.size, 0, none⟩) 1 1) 1 (⟨textB r.text.1, r.text.2.val.1⟩ : APair).cells := by rw [hnw]; exact sl_one e4 87 _
          rw [← hnw]
          clear hnw
          replace hKc := hEa.blk hKc id
          replace hoc := own_mod hoc hEa (fun _ _ => id)
          replace hRc := hRc.mod hEa (fun _ _ => id)
          replace hMc := hMc.ext hEa
          clear hEa
          refine hK_.out _ _ trivial (fun hS => ?_)
          clear hK_ K_
          try simp only [pL]
          refine wpAnyH_ready (rs := [9]) (by kernel_rfl) (by simp) ?_
          refine AllReadyH.cons rfl (fun K_ hK_ => ?_) AllReadyH.nil
          refine step_app _ rfl _ _ 22 rfl 87 i0 _ 4 48 Try.underlying22 hi hz0 hz1 hz2 rfl (by omega) (.slice VA m vc) m (os.flatMap APair.cells) rfl hoc _ _ 1 _ rfl hsl (pair1 _) (by simp only [maxLen]; have := Hea.out.1; omega) (by have := Hea.out.1; omega) ?_
          intro v9 e6 ho hgr hat
          obtain ⟨B9, d9, rfl⟩ := own_form ho
          have hnl : ∀ y, (Value.slice B9 (m + 1) d9).ownBlock = some y → w1.heap.size ≤ y := fun y hy => by
            have := hMc.size
            rcases hat with e | e
            · exact Hfar.out y (by rw [← e]; exact hy)
            · rw [e] at hy; injection hy with hy; omega
          have hgm : Mod (fun k => w1.heap.size ≤ k) e5 e6 := (Mod.refl _ _).grown hgr (fun k hk => .inr (Hfar.out k hk))
          replace hKc := hgm.blk hKc (by omega)
          replace hRc := hRc.mod hgm (fun y hy e => by have := HShi.out y hy; omega)
          replace hMc := hMc.trans hgm (fun _ _ e => .inr (.inl e))
          have hon := ho
          clear hgr hat ho hgm
          refine hK_.out _ _ trivial (fun hS => ?_)
          clear hK_ K_
          try simp only [pL]
          refine tkH 10 (some 34) rfl rfl ?_ hS ?_ ?_; rotate_left; · rintro W' _; go_simp; try with_reducible rfl
          try simp only [pL]
          refine wpAnyH_ready (rs := [11]) (by kernel_rfl) (by simp) ?_
          refine AllReadyH.cons rfl (fun K_ hK_ => ?_) AllReadyH.nil
          have fz := blk_free 0 hKc
          have cz : e6.cell? ⟨q0 + 1, 0, none⟩ = some _ := blk_cell hKc rfl
          have hMs : Mod (fun k => k = q0 + 1) e6 (e6.setCell ⟨q0 + 1, 0, none⟩ (.slice B9 (m + 1) d9)) := mod_same (Mod.refl _ _) _ _
          have hKs : (e6.setCell ⟨q0 + 1, 0, none⟩ (.slice B9 (m + 1) d9)).heap[q0 + 1]? = some (.cells #[.slice B9 (m + 1) d9, .slice none 0 0] 25 (0, 0)) := by simp [World.setCell, Array.getElem?_modify, hKc]
          have hDn : Hid (DecP (e6.setCell ⟨q0 + 1, 0, none⟩ (.slice B9 (m + 1) d9)) S rb (q0 + 1) w1.heap.size r.text.2.val.2 (m + 1) (.slice B9 (m + 1) d9) (os ++ [⟨textB r.text.1, r.text.2.val.1⟩])) := Lib.hid ⟨hRc.mod hMs (fun y hy e => nS1 (e ▸ hy)), hKs, by simp [Hom.out], by have := own_mod hon hMs (fun y hy e => by have := hnl y hy; omega); simpa using this, hnl, fun y hy => by
            rcases List.mem_append.1 hy with hy | hy
            · exact Hok.out y hy
            · simp at hy; subst hy; exact pair_ok r⟩
          have hMn : Hid (Mod (fun k => S k ∨ w1.heap.size ≤ k ∨ k = q0 + 1) w2 (e6.setCell ⟨q0 + 1, 0, none⟩ (.slice B9 (m + 1) d9))) := Lib.hid (Hm.out.trans (hMc.trans hMs (fun _ _ e => .inr (.inr e))) (fun _ _ e => e))
          go_simp
          refine hK_.out _ _ trivial (fun hS => ?_)
          clear hK_ K_
          try simp only [pL]
          clear fz cz hMs hKs
          refine wpAnyH_done (by kernel_rfl) ?_ _
          clear hRc hKc hoc hMc hSc hon hnl hBt hNlo hsl hS
          have hwn : IntKind.i64.wrap (n - 1) = n - 1 := IntWalk.i64_in _ (by omega)
          go_wp2
          exact ⟨⟨n - 1, m + 1, B9, d9, _, r.text.2.val.2, rfl, by omega, by omega, hDn.out, by rw [Hps.out, show n.toNat = (n - 1).toNat + 1 by omega, rdPs_step hlf]; simp, eat_pair Hea.out hlf, hMn.out⟩, by simp [intOf]; omega⟩
        · go_simp
          go_wp2_with fail
          refine (s_rval e2 S rb r.text.2 hRc hSc).mono ?_
          rintro e e7 ⟨rfl, hRt, hmt⟩
          replace hKc := hmt.blk hKc nS1
          replace hoc := own_mod hoc hmt (fun y hy e => by have := Hfar.out y hy; have := HShi.out y e; omega)
          replace hBt := own_mod hBt hmt (fun y hy e => by have := hNlo y hy; have := HShi.out y e; omega)
          replace hMc := hMc.trans hmt (fun _ _ e => .inl e)
          clear hRc hmt hSc
          have hSc : ∀ k, S k → k < e7.heap.size := fun k hk => by have := HShi.out k hk; have := hMc.size; omega
          have hRc := hRt
          clear hRt
          go_simp
          refine hK_.out _ _ trivial (fun hS => ?_)
          clear hK_ K_
          try simp only [pL]
          refine wpAnyH_ready (rs := [4]) (by kernel_rfl) (by simp) ?_
          refine AllReadyH.cons rfl (fun K_ hK_ => ?_) AllReadyH.nil
          have hcv := conv_bs (Sl.of_own hBt (fun _ h => h) : Byt e7 _ _ r.text.1)
          go_simp
          refine hK_.out _ _ trivial (fun hS => ?_)
          clear hK_ K_
          try simp only [pL]
          clear hcv
          refine tkH 7 (some 31) rfl rfl ?_ hS ?_ ?_; rotate_left; · rintro W' _; go_simp; try with_reducible rfl
          try simp only [pL]
          refine wpAnyH_ready (rs := [8]) (by kernel_rfl) (by simp) ?_
          refine AllReadyH.cons rfl (fun K_ hK_ => ?_) AllReadyH.nil
          go_simp
          obtain ⟨e9, hnw⟩ : ∃ e9, e9 = e7.alloc (.cells #[.string ⟨r.text.1.toArray⟩, .int .i64 r.text.2.val.1.kind, .float .f64 r.text.2.val.1.num, .string r.text.2.val.1.text] 87) := ⟨_, rfl⟩
          have hEa : Ext e7 e9 := by rw [hnw]; exact (Mod.refl _ _).alloc _
          have hsl : Sl e9 (fun y => y = e7.heap.size) 4 (.slice (some ⟨e7.heap.size, 0, none⟩) 1 1) 1 (⟨textB r.text.1, r.text.2.val.1⟩ : APair).cells := by rw [hnw]; exact sl_one e7 87 _
          rw [← hnw]
          clear hnw
          replace hKc := hEa.blk hKc id
          replace hoc := own_mod hoc hEa (fun _ _ => id)
          replace hRc := hRc.mod hEa (fun _ _ => id)
          replace hMc := hMc.ext hEa
          clear hEa
          refine hK_.out _ _ trivial (fun hS => ?_)
          clear hK_ K_
          try simp only [pL]
          refine wpAnyH_ready (rs := [9]) (by kernel_rfl) (by simp) ?_
          refine AllReadyH.cons rfl (fun K_ hK_ => ?_) AllReadyH.nil
          refine step_app _ rfl _ _ 22 rfl 87 i0 _ 4 48 Try.underlying22 hi hz0 hz1 hz2 rfl (by omega) (.slice VA m vc) m (os.flatMap APair.cells) rfl hoc _ _ 1 _ rfl hsl (pair1 _) (by simp only [maxLen]; have := Hea.out.1; omega) (by have := Hea.out.1; omega) ?_
          intro v9 e10 ho hgr hat
          obtain ⟨B9, d9, rfl⟩ := own_form ho
          have hnl : ∀ y, (Value.slice B9 (m + 1) d9).ownBlock = some y → w1.heap.size ≤ y := fun y hy => by
            have := hMc.size
            rcases hat with e | e
            · exact Hfar.out y (by rw [← e]; exact hy)
            · rw [e] at hy; injection hy with hy; omega
          have hgm : Mod (fun k => w1.heap.size ≤ k) e9 e10 := (Mod.refl _ _).grown hgr (fun k hk => .inr (Hfar.out k hk))
          replace hKc := hgm.blk hKc (by omega)
          replace hRc := hRc.mod hgm (fun y hy e => by have := HShi.out y hy; omega)
          replace hMc := hMc.trans hgm (fun _ _ e => .inr (.inl e))
          have hon := ho
          clear hgr hat ho hgm
          refine hK_.out _ _ trivial (fun hS => ?_)
          clear hK_ K_
          try simp only [pL]
          refine tkH 10 (some 34) rfl rfl ?_ hS ?_ ?_; rotate_left; · rintro W' _; go_simp; try with_reducible rfl
          try simp only [pL]
          refine wpAnyH_ready (rs := [11]) (by kernel_rfl) (by simp) ?_
          refine AllReadyH.cons rfl (fun K_ hK_ => ?_) AllReadyH.nil
          have fz := blk_free 0 hKc
          have cz : e10.cell? ⟨q0 + 1, 0, none⟩ = some _ := blk_cell hKc rfl
          have hMs : Mod (fun k => k = q0 + 1) e10 (e10.setCell ⟨q0 + 1, 0, none⟩ (.slice B9 (m + 1) d9)) := mod_same (Mod.refl _ _) _ _
          have hKs : (e10.setCell ⟨q0 + 1, 0, none⟩ (.slice B9 (m + 1) d9)).heap[q0 + 1]? = some (.cells #[.slice B9 (m + 1) d9, .slice none 0 0] 25 (0, 0)) := by simp [World.setCell, Array.getElem?_modify, hKc]
          have hDn : Hid (DecP (e10.setCell ⟨q0 + 1, 0, none⟩ (.slice B9 (m + 1) d9)) S rb (q0 + 1) w1.heap.size r.text.2.val.2 (m + 1) (.slice B9 (m + 1) d9) (os ++ [⟨textB r.text.1, r.text.2.val.1⟩])) := Lib.hid ⟨hRc.mod hMs (fun y hy e => nS1 (e ▸ hy)), hKs, by simp [Hom.out], by have := own_mod hon hMs (fun y hy e => by have := hnl y hy; omega); simpa using this, hnl, fun y hy => by
            rcases List.mem_append.1 hy with hy | hy
            · exact Hok.out y hy
            · simp at hy; subst hy; exact pair_ok r⟩
          have hMn : Hid (Mod (fun k => S k ∨ w1.heap.size ≤ k ∨ k = q0 + 1) w2 (e10.setCell ⟨q0 + 1, 0, none⟩ (.slice B9 (m + 1) d9))) := Lib.hid (Hm.out.trans (hMc.trans hMs (fun _ _ e => .inr (.inr e))) (fun _ _ e => e))
          go_simp
          refine hK_.out _ _ trivial (fun hS => ?_)
          clear hK_ K_
          try simp only [pL]
          clear fz cz hMs hKs
          refine wpAnyH_done (by kernel_rfl) ?_ _
          clear hRc hKc hoc hMc hSc hon hnl hBt hNlo hsl hS
          have hwn : IntKind.i64.wrap (n - 1) = n - 1 := IntWalk.i64_in _ (by omega)
          go_wp2
          exact ⟨⟨n - 1, m + 1, B9, d9, _, r.text.2.val.2, rfl, by omega, by omega, hDn.out, by rw [Hps.out, show n.toNat = (n - 1).toNat + 1 by omega, rdPs_step hlf]; simp, eat_pair Hea.out hlf, hMn.out⟩, by simp [intOf]; omega⟩
      · go_simp
        go_wp2_with fail
        refine (r_text e0 S rb r hRc hSc).mono ?_
        rintro e e11 ⟨vt, rfl, hNB, hRt, hmt⟩
        obtain ⟨A5, c5, rfl⟩ := own_form hNB.1
        have hNlo : ∀ y, (Value.slice A5 r.text.1.length c5).ownBlock = some y → w1.heap.size ≤ y := fun y hy => by have := hNB.2 y hy; have := hMc.size; omega
        have hBt := hNB.1
        clear hNB
        replace hKc := hmt.blk hKc nS1
        replace hoc := own_mod hoc hmt (fun y hy e => by have := Hfar.out y hy; have := HShi.out y e; omega)
        replace hMc := hMc.trans hmt (fun _ _ e => .inl e)
        replace hSc : ∀ k, S k → k < e11.heap.size := fun k hk => by have := HShi.out k hk; have := hMc.size; omega
        clear hRc hmt
        have hRc := hRt
        clear hRt
        go_simp
        refine hK_.out _ _ trivial (fun hS => ?_)
        clear hK_ K_
        try simp only [pL]
        refine wpAnyH_ready (rs := [1, 4, 6]) (by kernel_rfl) (by simp) ?_
        refine AllReadyH.cons rfl (fun K_ hK_ => ?_) (AllReadyH.cons rfl (fun K_ hK_ => ?_) (AllReadyH.cons rfl (fun K_ hK_ => ?_) AllReadyH.nil))
        · have mc : e11.cell? ⟨q0 + 1, 0, none⟩ = some _ := blk_cell hKc rfl
          go_simp
          refine hK_.out _ _ trivial (fun hS => ?_)
          clear hK_ K_
          try simp only [pL]
          clear mc
          refine wpAnyH_ready (rs := [4, 6]) (by kernel_rfl) (by simp) ?_
          refine AllReadyH.cons rfl (fun K_ hK_ => ?_) (AllReadyH.cons rfl (fun K_ hK_ => ?_) AllReadyH.nil)
          · have hcv := conv_bs (Sl.of_own hBt (fun _ h => h) : Byt e11 _ _ r.text.1)
            go_simp
            refine hK_.out _ _ trivial (fun hS => ?_)
            clear hK_ K_
            try simp only [pL]
            clear hcv
            refine wpAnyH_ready (rs := [6]) (by kernel_rfl) (by simp) ?_
            refine AllReadyH.cons rfl (fun K_ hK_ => ?_) AllReadyH.nil
            go_simp
            go_wp2_with fail
            refine (s_rval e11 S rb r.text.2 hRc hSc).mono ?_
            rintro e e14 ⟨rfl, hRt, hmt⟩
            replace hKc := hmt.blk hKc nS1
            replace hoc := own_mod hoc hmt (fun y hy e => by have := Hfar.out y hy; have := HShi.out y e; omega)
            replace hBt := own_mod hBt hmt (fun y hy e => by have := hNlo y hy; have := HShi.out y e; omega)
            replace hMc := hMc.trans hmt (fun _ _ e => .inl e)
            clear hRc hmt hSc
            have hSc : ∀ k, S k → k < e14.heap.size := fun k hk => by have := HShi.out k hk; have := hMc.size; omega
            have hRc := hRt
            clear hRt
            go_simp
            refine hK_.out _ _ trivial (fun hS => ?_)
            clear hK_ K_
            try simp only [pL]
            refine tkH 7 (some 31) rfl rfl ?_ hS ?_ ?_; rotate_left; · rintro W' _; go_simp; try with_reducible rfl
            try simp only [pL]
            refine wpAnyH_ready (rs := [8]) (by kernel_rfl) (by simp) ?_
            refine AllReadyH.cons rfl (fun K_ hK_ => ?_) AllReadyH.nil
            go_simp
            obtain ⟨e15, hnw⟩ : ∃ e15, e15 = e14.alloc (.cells #[.string ⟨r.text.1.toArray⟩, .int .i64 r.text.2.val.1.kind, .float .f64 r.text.2.val.1.num, .string r.text.2.val.1.text] 87) := ⟨_, rfl⟩
            have hEa : Ext e14 e15 := by rw [hnw]; exact (Mod.refl _ _).alloc _
            have hsl : Sl e15 (fun y => y = e14.heap.size) 4 (.slice (some ⟨e14.heap.size, 0, none⟩) 1 1) 1 (⟨textB r.text.1, r.text.2.val.1⟩ : APair).cells := by rw [hnw]; exact sl_one e14 87 _
            rw [← hnw]
            clear hnw
            replace hKc := hEa.blk hKc id
            replace hoc := own_mod hoc hEa (fun _ _ => id)
            replace hRc := hRc.mod hEa (fun _ _ => id)
            replace hMc := hMc.ext hEa
            clear hEa
            refine hK_.out _ _ trivial (fun hS => ?_)
            clear hK_ K_
            try simp only [pL]
            refine wpAnyH_ready (rs := [9]) (by kernel_rfl) (by simp) ?_
            refine AllReadyH.cons rfl (fun K_ hK_ => ?_) AllReadyH.nil
            refine step_app _ rfl _ _ 22 rfl 87 i0 _ 4 48 Try.underlying22 hi hz0 hz1 hz2 rfl (by omega) (.slice VA m vc) m (os.flatMap APair.cells) rfl hoc _ _ 1 _ rfl hsl (pair1 _) (by simp only [maxLen]; have := Hea.out.1; omega) (by have := Hea.out.1; omega) ?_
            intro v9 e16 ho hgr hat
            obtain ⟨B9, d9, rfl⟩ := own_form ho
            have hnl : ∀ y, (Value.slice B9 (m + 1) d9).ownBlock = some y → w1.heap.size ≤ y := fun y hy => by
              have := hMc.size
              rcases hat with e | e
              · exact Hfar.out y (by rw [← e]; exact hy)
              · rw [e] at hy; injection hy with hy; omega
            have hgm : Mod (fun k => w1.heap.size ≤ k) e15 e16 := (Mod.refl _ _).grown hgr (fun k hk => .inr (Hfar.out k hk))
            replace hKc := hgm.blk hKc (by omega)
            replace hRc := hRc.mod hgm (fun y hy e => by have := HShi.out y hy; omega)
            replace hMc := hMc.trans hgm (fun _ _ e => .inr (.inl e))
            have hon := ho
            clear hgr hat ho hgm
            refine hK_.out _ _ trivial (fun hS => ?_)
            clear hK_ K_
            try simp only [pL]
            refine tkH 10 (some 34) rfl rfl ?_ hS ?_ ?_; rotate_left; · rintro W' _; go_simp; try with_reducible rfl
            try simp only [pL]
            refine wpAnyH_ready (rs := [11]) (by kernel_rfl) (by simp) ?_
            refine AllReadyH.cons rfl (fun K_ hK_ => ?_) AllReadyH.nil
            have fz := blk_free 0 hKc
            have cz : e16.cell? ⟨q0 + 1, 0, none⟩ = some _ := blk_cell hKc rfl
            have hMs : Mod (fun k => k = q0 + 1) e16 (e16.setCell ⟨q0 + 1, 0, none⟩ (.slice B9 (m + 1) d9)) := mod_same (Mod.refl _ _) _ _
            have hKs : (e16.setCell ⟨q0 + 1, 0, none⟩ (.slice B9 (m + 1) d9)).heap[q0 + 1]? = some (.cells #[.slice B9 (m + 1) d9, .slice none 0 0] 25 (0, 0)) := by simp [World.setCell, Array.getElem?_modify, hKc]
            have hDn : Hid (DecP (e16.setCell ⟨q0 + 1, 0, none⟩ (.slice B9 (m + 1) d9)) S rb (q0 + 1) w1.heap.size r.text.2.val.2 (m + 1) (.slice B9 (m + 1) d9) (os ++ [⟨textB r.text.1, r.text.2.val.1⟩])) := Lib.hid ⟨hRc.mod hMs (fun y hy e => nS1 (e ▸ hy)), hKs, by simp [Hom.out], by have := own_mod hon hMs (fun y hy e => by have := hnl y hy; omega); simpa using this, hnl, fun y hy => by
              rcases List.mem_append.1 hy with hy | hy
              · exact Hok.out y hy
              · simp at hy; subst hy; exact pair_ok r⟩
            have hMn : Hid (Mod (fun k => S k ∨ w1.heap.size ≤ k ∨ k = q0 + 1) w2 (e16.setCell ⟨q0 + 1, 0, none⟩ (.slice B9 (m + 1) d9))) := Lib.hid (Hm.out.trans (hMc.trans hMs (fun _ _ e => .inr (.inr e))) (fun _ _ e => e))
            go_simp
            refine hK_.out _ _ trivial (fun hS => ?_)
            clear hK_ K_
            try simp only [pL]
            clear fz cz hMs hKs
            refine wpAnyH_done (by kernel_rfl) ?_ _
            clear hRc hKc hoc hMc hSc hon hnl hBt hNlo hsl hS
            have hwn : IntKind.i64.wrap (n - 1) = n - 1 := IntWalk.i64_in _ (by omega)
            go_wp2
            exact ⟨⟨n - 1, m + 1, B9, d9, _, r.text.2.val.2, rfl, by omega, by omega, hDn.out, by rw [Hps.out, show n.toNat = (n - 1).toNat + 1 by omega, rdPs_step hlf]; simp, eat_pair Hea.out hlf, hMn.out⟩, by simp [intOf]; omega⟩
          · go_simp
            go_wp2_with fail
            refine (s_rval e11 S rb r.text.2 hRc hSc).mono ?_
            rintro e e17 ⟨rfl, hRt, hmt⟩
            replace hKc := hmt.blk hKc nS1
            replace hoc := own_mod hoc hmt (fun y hy e => by have := Hfar.out y hy; have := HShi.out y e; omega)
            replace hBt := own_mod hBt hmt (fun y hy e => by have := hNlo y hy; have := HShi.out y e; omega)
            replace hMc := hMc.trans hmt (fun _ _ e => .inl e)
            clear hRc hmt hSc
            have hSc : ∀ k, S k → k < e17.heap.size := fun k hk => by have := HShi.out k hk; have := hMc.size; omega
            have hRc := hRt
            clear hRt
            go_simp
            refine hK_.out _ _ trivial (fun hS => ?_)
            clear hK_ K_
            try simp only [pL]
            refine wpAnyH_ready (rs := [4]) (by kernel_rfl) (by simp) ?_
            refine AllReadyH.cons rfl (fun K_ hK_ => ?_) AllReadyH.nil
            have hcv := conv_bs (Sl.of_own hBt (fun _ h => h) : Byt e17 _ _ r.text.1)
            go_simp
            refine hK_.out _ _ trivial (fun hS => ?_)
            clear hK_ K_
            try simp only [pL]
            clear hcv
            refine tkH 7 (some 31) rfl rfl ?_ hS ?_ ?_; rotate_left; · rintro W' _; go_simp; try with_reducible rfl
            try simp only [pL]
            refine wpAnyH_ready (rs := [8]) (by kernel_rfl) (by simp) ?_
            refine AllReadyH.cons rfl (fun K_ hK_ => ?_) AllReadyH.nil
            go_simp
            obtain ⟨e19, hnw⟩ : ∃ e19, e19 = e17.alloc (.cells #[.string ⟨r.text.1.toArray⟩, .int .i64 r.text.2.val.1.kind, .float .f64 r.text.2.val.1.num, .string r.text.2.val.1.text] 87) := ⟨_, rfl⟩
            have hEa : Ext e17 e19 := by rw [hnw]; exact (Mod.refl _ _).alloc _
            have hsl : Sl e19 (fun y => y = e17.heap.size) 4 (.slice (some ⟨e17.heap.size, 0, none⟩) 1 1) 1 (⟨textB r.text.1, r.text.2.val.1⟩ : APair).cells := by rw [hnw]; exact sl_one e17 87 _
            rw [← hnw]
            clear hnw
            replace hKc := hEa.blk hKc id
            replace hoc := own_mod hoc hEa (fun _ _ => id)
            replace hRc := hRc.mod hEa (fun _ _ => id)
            replace hMc := hMc.ext hEa
            clear hEa
            refine hK_.out _ _ trivial (fun hS => ?_)
            clear hK_ K_
            try simp only [pL]
            refine wpAnyH_ready (rs := [9]) (by kernel_rfl) (by simp) ?_
            refine AllReadyH.cons rfl (fun K_ hK_ => ?_) AllReadyH.nil
            refine step_app _ rfl _ _ 22 rfl 87 i0 _ 4 48 Try.underlying22 hi hz0 hz1 hz2 rfl (by omega) (.slice VA m vc) m (os.flatMap APair.cells) rfl hoc _ _ 1 _ rfl hsl (pair1 _) (by simp only [maxLen]; have := Hea.out.1; omega) (by have := Hea.out.1; omega) ?_
            intro v9 e20 ho hgr hat
            obtain ⟨B9, d9, rfl⟩ := own_form ho
            have hnl : ∀ y, (Value.slice B9 (m + 1) d9).ownBlock = some y → w1.heap.size ≤ y := fun y hy => by
              have := hMc.size
              rcases hat with e | e
              · exact Hfar.out y (by rw [← e]; exact hy)
              · rw [e] at hy; injection hy with hy; omega
            have hgm : Mod (fun k => w1.heap.size ≤ k) e19 e20 := (Mod.refl _ _).grown hgr (fun k hk => .inr (Hfar.out k hk))
            replace hKc := hgm.blk hKc (by omega)
            replace hRc := hRc.mod hgm (fun y hy e => by have := HShi.out y hy; omega)
            replace hMc := hMc.trans hgm (fun _ _ e => .inr (.inl e))
            have hon := ho
            clear hgr hat ho hgm
            refine hK_.out _ _ trivial (fun hS => ?_)
            clear hK_ K_
            try simp only [pL]
            refine tkH 10 (some 34) rfl rfl ?_ hS ?_ ?_; rotate_left; · rintro W' _; go_simp; try with_reducible rfl
            try simp only [pL]
            refine wpAnyH_ready (rs := [11]) (by kernel_rfl) (by simp) ?_
            refine AllReadyH.cons rfl (fun K_ hK_ => ?_) AllReadyH.nil
            have fz := blk_free 0 hKc
            have cz : e20.cell? ⟨q0 + 1, 0, none⟩ = some _ := blk_cell hKc rfl
            have hMs : Mod (fun k => k = q0 + 1) e20 (e20.setCell ⟨q0 + 1, 0, none⟩ (.slice B9 (m + 1) d9)) := mod_same (Mod.refl _ _) _ _
            have hKs : (e20.setCell ⟨q0 + 1, 0, none⟩ (.slice B9 (m + 1) d9)).heap[q0 + 1]? = some (.cells #[.slice B9 (m + 1) d9, .slice none 0 0] 25 (0, 0)) := by simp [World.setCell, Array.getElem?_modify, hKc]
            have hDn : Hid (DecP (e20.setCell ⟨q0 + 1, 0, none⟩ (.slice B9 (m + 1) d9)) S rb (q0 + 1) w1.heap.size r.text.2.val.2 (m + 1) (.slice B9 (m + 1) d9) (os ++ [⟨textB r.text.1, r.text.2.val.1⟩])) := Lib.hid ⟨hRc.mod hMs (fun y hy e => nS1 (e ▸ hy)), hKs, by simp [Hom.out], by have := own_mod hon hMs (fun y hy e => by have := hnl y hy; omega); simpa using this, hnl, fun y hy => by
              rcases List.mem_append.1 hy with hy | hy
              · exact Hok.out y hy
              · simp at hy; subst hy; exact pair_ok r⟩
            have hMn : Hid (Mod (fun k => S k ∨ w1.heap.size ≤ k ∨ k = q0 + 1) w2 (e20.setCell ⟨q0 + 1, 0, none⟩ (.slice B9 (m + 1) d9))) := Lib.hid (Hm.out.trans (hMc.trans hMs (fun _ _ e => .inr (.inr e))) (fun _ _ e => e))
            go_simp
            refine hK_.out _ _ trivial (fun hS => ?_)
            clear hK_ K_
            try simp only [pL]
            clear fz cz hMs hKs
            refine wpAnyH_done (by kernel_rfl) ?_ _
            clear hRc hKc hoc hMc hSc hon hnl hBt hNlo hsl hS
            have hwn : IntKind.i64.wrap (n - 1) = n - 1 := IntWalk.i64_in _ (by omega)
            go_wp2
            exact ⟨⟨n - 1, m + 1, B9, d9, _, r.text.2.val.2, rfl, by omega, by omega, hDn.out, by rw [Hps.out, show n.toNat = (n - 1).toNat + 1 by omega, rdPs_step hlf]; simp, eat_pair Hea.out hlf, hMn.out⟩, by simp [intOf]; omega⟩
        · have hcv := conv_bs (Sl.of_own hBt (fun _ h => h) : Byt e11 _ _ r.text.1)
          go_simp
          refine hK_.out _ _ trivial (fun hS => ?_)
          clear hK_ K_
          try simp only [pL]
          clear hcv
          refine wpAnyH_ready (rs := [1, 6]) (by kernel_rfl) (by simp) ?_
          refine AllReadyH.cons rfl (fun K_ hK_ => ?_) (AllReadyH.cons rfl (fun K_ hK_ => ?_) AllReadyH.nil)
          · have mc : e11.cell? ⟨q0 + 1, 0, none⟩ = some _ := blk_cell hKc rfl
            go_simp
            refine hK_.out _ _ trivial (fun hS => ?_)
            clear hK_ K_
            try simp only [pL]
            clear mc
            refine wpAnyH_ready (rs := [6]) (by kernel_rfl) (by simp) ?_
            refine AllReadyH.cons rfl (fun K_ hK_ => ?_) AllReadyH.nil
            go_simp
            go_wp2_with fail
            refine (s_rval e11 S rb r.text.2 hRc hSc).mono ?_
            rintro e e23 ⟨rfl, hRt, hmt⟩
            replace hKc := hmt.blk hKc nS1
            replace hoc := own_mod hoc hmt (fun y hy e => by have := Hfar.out y hy; have := HShi.out y e; omega)
            replace hBt := own_mod hBt hmt (fun y hy e => by have := hNlo y hy; have := HShi.out y e; omega)
            replace hMc := hMc.trans hmt (fun _ _ e => .inl e)
            clear hRc hmt hSc
            have hSc : ∀ k, S k → k < e23.heap.size := fun k hk => by have := HShi.out k hk; have := hMc.size; omega
            have hRc := hRt
            clear hRt
            go_simp
            refine hK_.out _ _ trivial (fun hS => ?_)
            clear hK_ K_
            try simp only [pL]
            refine tkH 7 (some 31) rfl rfl ?_ hS ?_ ?_; rotate_left; · rintro W' _; go_simp; try with_reducible rfl
            try simp only [pL]
            refine wpAnyH_ready (rs := [8]) (by kernel_rfl) (by simp) ?_
            refine AllReadyH.cons rfl (fun K_ hK_ => ?_) AllReadyH.nil
            go_simp
            obtain ⟨e24, hnw⟩ : ∃ e24, e24 = e23.alloc (.cells #[.string ⟨r.text.1.toArray⟩, .int .i64 r.text.2.val.1.kind, .float .f64 r.text.2.val.1.num, .string r.text.2.val.1.text] 87) := ⟨_, rfl⟩
            have hEa : Ext e23 e24 := by rw [hnw]; exact (Mod.refl _ _).alloc _
            have hsl : Sl e24 (fun y => y = e23.heap.size) 4 (.slice (some ⟨e23.heap.size, 0, none⟩) 1 1) 1 (⟨textB r.text.1, r.text.2.val.1⟩ : APair).cells := by rw [hnw]; exact sl_one e23 87 _
            rw [← hnw]
            clear hnw
            replace hKc := hEa.blk hKc id
            replace hoc := own_mod hoc hEa (fun _ _ => id)
            replace hRc := hRc.mod hEa (fun _ _ => id)
            replace hMc := hMc.ext hEa
            clear hEa
            refine hK_.out _ _ trivial (fun hS => ?_)
            clear hK_ K_
            try simp only [pL]
            refine wpAnyH_ready (rs := [9]) (by kernel_rfl) (by simp) ?_
            refine AllReadyH.cons rfl (fun K_ hK_ => ?_) AllReadyH.nil
            refine step_app _ rfl _ _ 22 rfl 87 i0 _ 4 48 Try.underlying22 hi hz0 hz1 hz2 rfl (by omega) (.slice VA m vc) m (os.flatMap APair.cells) rfl hoc _ _ 1 _ rfl hsl (pair1 _) (by simp only [maxLen]; have := Hea.out.1; omega) (by have := Hea.out.1; omega) ?_
            intro v9 e25 ho hgr hat
            obtain ⟨B9, d9, rfl⟩ := own_form ho
            have hnl : ∀ y, (Value.slice B9 (m + 1) d9).ownBlock = some y → w1.heap.size ≤ y := fun y hy => by
              have := hMc.size
              rcases hat with e | e
              · exact Hfar.out y (by rw [← e]; exact hy)
              · rw [e] at hy; injection hy with hy; omega
            have hgm : Mod (fun k => w1.heap.size ≤ k) e24 e25 := (Mod.refl _ _).grown hgr (fun k hk => .inr (Hfar.out k hk))
            replace hKc := hgm.blk hKc (by omega)
            replace hRc := hRc.mod hgm (fun y hy e => by have := HShi.out y hy; omega)
            replace hMc := hMc.trans hgm (fun _ _ e => .inr (.inl e))
            have hon := ho
            clear hgr hat ho hgm
            refine hK_.out _ _ trivial (fun hS => ?_)
            clear hK_ K_
            try simp only [pL]
            refine tkH 10 (some 34) rfl rfl ?_ hS ?_ ?_; rotate_left; · rintro W' _; go_simp; try with_reducible rfl
            try simp only [pL]
            refine wpAnyH_ready (rs := [11]) (by kernel_rfl) (by simp) ?_
            refine AllReadyH.cons rfl (fun K_ hK_ => ?_) AllReadyH.nil
            have fz := blk_free 0 hKc
            have cz : e25.cell? ⟨q0 + 1, 0, none⟩ = some _ := blk_cell hKc rfl
            have hMs : Mod (fun k => k = q0 + 1) e25 (e25.setCell ⟨q0 + 1, 0, none⟩ (.slice B9 (m + 1) d9)) := mod_same (Mod.refl _ _) _ _
            have hKs : (e25.setCell ⟨q0 + 1, 0, none⟩ (.slice B9 (m + 1) d9)).heap[q0 + 1]? = some (.cells #[.slice B9 (m + 1) d9, .slice none 0 0] 25 (0, 0)) := by simp [World.setCell, Array.getElem?_modify, hKc]
            have hDn : Hid (DecP (e25.setCell ⟨q0 + 1, 0, none⟩ (.slice B9 (m + 1) d9)) S rb (q0 + 1) w1.heap.size r.text.2.val.2 (m + 1) (.slice B9 (m + 1) d9) (os ++ [⟨textB r.text.1, r.text.2.val.1⟩])) := Lib.hid ⟨hRc.mod hMs (fun y hy e => nS1 (e ▸ hy)), hKs, by simp [Hom.out], by have := own_mod hon hMs (fun y hy e => by have := hnl y hy; omega); simpa using this, hnl, fun y hy => by
              rcases List.mem_append.1 hy with hy | hy
              · exact Hok.out y hy
              · simp at hy; subst hy; exact pair_ok r⟩
            have hMn : Hid (Mod (fun k => S k ∨ w1.heap.size ≤ k ∨ k = q0 + 1) w2 (e25.setCell ⟨q0 + 1, 0, none⟩ (.slice B9 (m + 1) d9))) := Lib.hid (Hm.out.trans (hMc.trans hMs (fun _ _ e => .inr (.inr e))) (fun _ _ e => e))
            go_simp
            refine hK_.out _ _ trivial (fun hS => ?_)
            clear hK_ K_
            try simp only [pL]
            clear fz cz hMs hKs
            refine wpAnyH_done (by kernel_rfl) ?_ _
            clear hRc hKc hoc hMc hSc hon hnl hBt hNlo hsl hS
            have hwn : IntKind.i64.wrap (n - 1) = n - 1 := IntWalk.i64_in _ (by omega)
            go_wp2
            exact ⟨⟨n - 1, m + 1, B9, d9, _, r.text.2.val.2, rfl, by omega, by omega, hDn.out, by rw [Hps.out, show n.toNat = (n - 1).toNat + 1 by omega, rdPs_step hlf]; simp, eat_pair Hea.out hlf, hMn.out⟩, by simp [intOf]; omega⟩
          · go_simp
            go_wp2_with fail
            refine (s_rval e11 S rb r.text.2 hRc hSc).mono ?_
            rintro e e26 ⟨rfl, hRt, hmt⟩
            replace hKc := hmt.blk hKc nS1
            replace hoc := own_mod hoc hmt (fun y hy e => by have := Hfar.out y hy; have := HShi.out y e; omega)
            replace hBt := own_mod hBt hmt (fun y hy e => by have := hNlo y hy; have := HShi.out y e; omega)
            replace hMc := hMc.trans hmt (fun _ _ e => .inl e)
            clear hRc hmt hSc
            have hSc : ∀ k, S k → k < e26.heap.size := fun k hk => by have := HShi.out k hk; have := hMc.size; omega
            have hRc := hRt
            clear hRt
            go_simp
            refine hK_.out _ _ trivial (fun hS => ?_)
            clear hK_ K_
            try simp only [pL]
            refine tkH 7 (some 31) rfl rfl ?_ hS ?_ ?_; rotate_left; · rintro W' _; go_simp; try with_reducible rfl
            try simp only [pL]
            refine wpAnyH_ready (rs := [1, 8]) (by kernel_rfl) (by simp) ?_
            refine AllReadyH.cons rfl (fun K_ hK_ => ?_) (AllReadyH.cons rfl (fun K_ hK_ => ?_) AllReadyH.nil)
            · have mc : e26.cell? ⟨q0 + 1, 0, none⟩ = some _ := blk_cell hKc rfl
              go_simp
              refine hK_.out _ _ trivial (fun hS => ?_)
              clear hK_ K_
              try simp only [pL]
              clear mc
              refine wpAnyH_ready (rs := [8]) (by kernel_rfl) (by simp) ?_
              refine AllReadyH.cons rfl (fun K_ hK_ => ?_) AllReadyH.nil
              go_simp
              obtain ⟨e28, hnw⟩ : ∃ e28, e28 = e26.alloc (.cells #[.string ⟨r.text.1.toArray⟩, .int .i64 r.text.2.val.1.kind, .float .f64 r.text.2.val.1.num, .string r.text.2.val.1.text] 87) := ⟨_, rfl⟩
              have hEa : Ext e26 e28 := by rw [hnw]; exact (Mod.refl _ _).alloc _
              have hsl : Sl e28 (fun y => y = e26.heap.size) 4 (.slice (some ⟨e26.heap.size, 0, none⟩) 1 1) 1 (⟨textB r.text.1, r.text.2.val.1⟩ : APair).cells := by rw [hnw]; exact sl_one e26 87 _
              rw [← hnw]
              clear hnw
              replace hKc := hEa.blk hKc id
              replace hoc := own_mod hoc hEa (fun _ _ => id)
              replace hRc := hRc.mod hEa (fun _ _ => id)
              replace hMc := hMc.ext hEa
              clear hEa
              refine hK_.out _ _ trivial (fun hS => ?_)
              clear hK_ K_
              try simp only [pL]
              refine wpAnyH_ready (rs := [9]) (by kernel_rfl) (by simp) ?_
              refine AllReadyH.cons rfl (fun K_ hK_ => ?_) AllReadyH.nil
              refine step_app _ rfl _ _ 22 rfl 87 i0 _ 4 48 Try.underlying22 hi hz0 hz1 hz2 rfl (by omega) (.slice VA m vc) m (os.flatMap APair.cells) rfl hoc _ _ 1 _ rfl hsl (pair1 _) (by simp only [maxLen]; have := Hea.out.1; omega) (by have := Hea.out.1; omega) ?_
              intro v9 e29 ho hgr hat
              obtain ⟨B9, d9, rfl⟩ := own_form ho
              have hnl : ∀ y, (Value.slice B9 (m + 1) d9).ownBlock = some y → w1.heap.size ≤ y := fun y hy => by
                have := hMc.size
                rcases hat with e | e
                · exact Hfar.out y (by rw [← e]; exact hy)
                · rw [e] at hy; injection hy with hy; omega
              have hgm : Mod (fun k => w1.heap.size ≤ k) e28 e29 := (Mod.refl _ _).grown hgr (fun k hk => .inr (Hfar.out k hk))
              replace hKc := hgm.blk hKc (by omega)
              replace hRc := hRc.mod hgm (fun y hy e => by have := HShi.out y hy; omega)
              replace hMc := hMc.trans hgm (fun _ _ e => .inr (.inl e))
              have hon := ho
              clear hgr hat ho hgm
              refine hK_.out _ _ trivial (fun hS => ?_)
              clear hK_ K_
              try simp only [pL]
              refine tkH 10 (some 34) rfl rfl ?_ hS ?_ ?_; rotate_left; · rintro W' _; go_simp; try with_reducible rfl
              try simp only [pL]
              refine wpAnyH_ready (rs := [11]) (by kernel_rfl) (by simp) ?_
              refine AllReadyH.cons rfl (fun K_ hK_ => ?_) AllReadyH.nil
              have fz := blk_free 0 hKc
              have cz : e29.cell? ⟨q0 + 1, 0, none⟩ = some _ := blk_cell hKc rfl
              have hMs : Mod (fun k => k = q0 + 1) e29 (e29.setCell ⟨q0 + 1, 0, none⟩ (.slice B9 (m + 1) d9)) := mod_same (Mod.refl _ _) _ _
              have hKs : (e29.setCell ⟨q0 + 1, 0, none⟩ (.slice B9 (m + 1) d9)).heap[q0 + 1]? = some (.cells #[.slice B9 (m + 1) d9, .slice none 0 0] 25 (0, 0)) := by simp [World.setCell, Array.getElem?_modify, hKc]
              have hDn : Hid (DecP (e29.setCell ⟨q0 + 1, 0, none⟩ (.slice B9 (m + 1) d9)) S rb (q0 + 1) w1.heap.size r.text.2.val.2 (m + 1) (.slice B9 (m + 1) d9) (os ++ [⟨textB r.text.1, r.text.2.val.1⟩])) := Lib.hid ⟨hRc.mod hMs (fun y hy e => nS1 (e ▸ hy)), hKs, by simp [Hom.out], by have := own_mod hon hMs (fun y hy e => by have := hnl y hy; omega); simpa using this, hnl, fun y hy => by
                rcases List.mem_append.1 hy with hy | hy
                · exact Hok.out y hy
                · simp at hy; subst hy; exact pair_ok r⟩
              have hMn : Hid (Mod (fun k => S k ∨ w1.heap.size ≤ k ∨ k = q0 + 1) w2 (e29.setCell ⟨q0 + 1, 0, none⟩ (.slice B9 (m + 1) d9))) := Lib.hid (Hm.out.trans (hMc.trans hMs (fun _ _ e => .inr (.inr e))) (fun _ _ e => e))
              go_simp
              refine hK_.out _ _ trivial (fun hS => ?_)
              clear hK_ K_
              try simp only [pL]
              clear fz cz hMs hKs
              refine wpAnyH_done (by kernel_rfl) ?_ _
              clear hRc hKc hoc hMc hSc hon hnl hBt hNlo hsl hS
              have hwn : IntKind.i64.wrap (n - 1) = n - 1 := IntWalk.i64_in _ (by omega)
              go_wp2
              exact ⟨⟨n - 1, m + 1, B9, d9, _, r.text.2.val.2, rfl, by omega, by omega, hDn.out, by rw [Hps.out, show n.toNat = (n - 1).toNat + 1 by omega, rdPs_step hlf]; simp, eat_pair Hea.out hlf, hMn.out⟩, by simp [intOf]; omega⟩
            · go_simp
              obtain ⟨e30, hnw⟩ : ∃ e30, e30 = e26.alloc (.cells #[.string ⟨r.text.1.toArray⟩, .int .i64 r.text.2.val.1.kind, .float .f64 r.text.2.val.1.num, .string r.text.2.val.1.text] 87) := ⟨_, rfl⟩
              have hEa : Ext e26 e30 := by rw [hnw]; exact (Mod.refl _ _).alloc _
              have hsl : Sl e30 (fun y => y = e26.heap.size) 4 (.slice (some ⟨e26.heap.size, 0, none⟩) 1 1) 1 (⟨textB r.text.1, r.text.2.val.1⟩ : APair).cells := by rw [hnw]; exact sl_one e26 87 _
              rw [← hnw]
              clear hnw
              replace hKc := hEa.blk hKc id
              replace hoc := own_mod hoc hEa (fun _ _ => id)
              replace hRc := hRc.mod hEa (fun _ _ => id)
              replace hMc := hMc.ext hEa
              clear hEa
              refine hK_.out _ _ trivial (fun hS => ?_)
              clear hK_ K_
              try simp only [pL]
              refine wpAnyH_ready (rs := [1]) (by kernel_rfl) (by simp) ?_
              refine AllReadyH.cons rfl (fun K_ hK_ => ?_) AllReadyH.nil
              have mc : e30.cell? ⟨q0 + 1, 0, none⟩ = some _ := blk_cell hKc rfl
              go_simp
              refine hK_.out _ _ trivial (fun hS => ?_)
              clear hK_ K_
              try simp only [pL]
              clear mc
              refine wpAnyH_ready (rs := [9]) (by kernel_rfl) (by simp) ?_
              refine AllReadyH.cons rfl (fun K_ hK_ => ?_) AllReadyH.nil
              refine step_app _ rfl _ _ 22 rfl 87 i0 _ 4 48 Try.underlying22 hi hz0 hz1 hz2 rfl (by omega) (.slice VA m vc) m (os.flatMap APair.cells) rfl hoc _ _ 1 _ rfl hsl (pair1 _) (by simp only [maxLen]; have := Hea.out.1; omega) (by have := Hea.out.1; omega) ?_
              intro v9 e32 ho hgr hat
              obtain ⟨B9, d9, rfl⟩ := own_form ho
              have hnl : ∀ y, (Value.slice B9 (m + 1) d9).ownBlock = some y → w1.heap.size ≤ y := fun y hy => by
                have := hMc.size
                rcases hat with e | e
                · exact Hfar.out y (by rw [← e]; exact hy)
                · rw [e] at hy; injection hy with hy; omega
              have hgm : Mod (fun k => w1.heap.size ≤ k) e30 e32 := (Mod.refl _ _).grown hgr (fun k hk => .inr (Hfar.out k hk))
              replace hKc := hgm.blk hKc (by omega)
              replace hRc := hRc.mod hgm (fun y hy e => by have := HShi.out y hy; omega)
              replace hMc := hMc.trans hgm (fun _ _ e => .inr (.inl e))
              have hon := ho
              clear hgr hat ho hgm
              refine hK_.out _ _ trivial (fun hS => ?_)
              clear hK_ K_
              try simp only [pL]
              refine tkH 10 (some 34) rfl rfl ?_ hS ?_ ?_; rotate_left; · rintro W' _; go_simp; try with_reducible rfl
              try simp only [pL]
              refine wpAnyH_ready (rs := [11]) (by kernel_rfl) (by simp) ?_
              refine AllReadyH.cons rfl (fun K_ hK_ => ?_) AllReadyH.nil
              have fz := blk_free 0 hKc
              have cz : e32.cell? ⟨q0 + 1, 0, none⟩ = some _ := blk_cell hKc rfl
              have hMs : Mod (fun k => k = q0 + 1) e32 (e32.setCell ⟨q0 + 1, 0, none⟩ (.slice B9 (m + 1) d9)) := mod_same (Mod.refl _ _) _ _
              have hKs : (e32.setCell ⟨q0 + 1, 0, none⟩ (.slice B9 (m + 1) d9)).heap[q0 + 1]? = some (.cells #[.slice B9 (m + 1) d9, .slice none 0 0] 25 (0, 0)) := by simp [World.setCell, Array.getElem?_modify, hKc]
              have hDn : Hid (DecP (e32.setCell ⟨q0 + 1, 0, none⟩ (.slice B9 (m + 1) d9)) S rb (q0 + 1) w1.heap.size r.text.2.val.2 (m + 1) (.slice B9 (m + 1) d9) (os ++ [⟨textB r.text.1, r.text.2.val.1⟩])) := Lib.hid ⟨hRc.mod hMs (fun y hy e => nS1 (e ▸ hy)), hKs, by simp [Hom.out], by have := own_mod hon hMs (fun y hy e => by have := hnl y hy; omega); simpa using this, hnl, fun y hy => by
                rcases List.mem_append.1 hy with hy | hy
                · exact Hok.out y hy
                · simp at hy; subst hy; exact pair_ok r⟩
              have hMn : Hid (Mod (fun k => S k ∨ w1.heap.size ≤ k ∨ k = q0 + 1) w2 (e32.setCell ⟨q0 + 1, 0, none⟩ (.slice B9 (m + 1) d9))) := Lib.hid (Hm.out.trans (hMc.trans hMs (fun _ _ e => .inr (.inr e))) (fun _ _ e => e))
              go_simp
              refine hK_.out _ _ trivial (fun hS => ?_)
              clear hK_ K_
              try simp only [pL]
              clear fz cz hMs hKs
              refine wpAnyH_done (by kernel_rfl) ?_ _
              clear hRc hKc hoc hMc hSc hon hnl hBt hNlo hsl hS
              have hwn : IntKind.i64.wrap (n - 1) = n - 1 := IntWalk.i64_in _ (by omega)
              go_wp2
              exact ⟨⟨n - 1, m + 1, B9, d9, _, r.text.2.val.2, rfl, by omega, by omega, hDn.out, by rw [Hps.out, show n.toNat = (n - 1).toNat + 1 by omega, rdPs_step hlf]; simp, eat_pair Hea.out hlf, hMn.out⟩, by simp [intOf]; omega⟩
        · go_simp
          go_wp2_with fail
          refine (s_rval e11 S rb r.text.2 hRc hSc).mono ?_
          rintro e e33 ⟨rfl, hRt, hmt⟩
          replace hKc := hmt.blk hKc nS1
          replace hoc := own_mod hoc hmt (fun y hy e => by have := Hfar.out y hy; have := HShi.out y e; omega)
          replace hBt := own_mod hBt hmt (fun y hy e => by have := hNlo y hy; have := HShi.out y e; omega)
          replace hMc := hMc.trans hmt (fun _ _ e => .inl e)
          clear hRc hmt hSc
          have hSc : ∀ k, S k → k < e33.heap.size := fun k hk => by have := HShi.out k hk; have := hMc.size; omega
          have hRc := hRt
          clear hRt
          go_simp
          refine hK_.out _ _ trivial (fun hS => ?_)
          clear hK_ K_
          try simp only [pL]
          refine wpAnyH_ready (rs := [1, 4]) (by kernel_rfl) (by simp) ?_
          refine AllReadyH.cons rfl (fun K_ hK_ => ?_) (AllReadyH.cons rfl (fun K_ hK_ => ?_) AllReadyH.nil)
          · have mc : e33.cell? ⟨q0 + 1, 0, none⟩ = some _ := blk_cell hKc rfl
            go_simp
            refine hK_.out _ _ trivial (fun hS => ?_)
            clear hK_ K_
            try simp only [pL]
            clear mc
            refine wpAnyH_ready (rs := [4]) (by kernel_rfl) (by simp) ?_
            refine AllReadyH.cons rfl (fun K_ hK_ => ?_) AllReadyH.nil
            have hcv := conv_bs (Sl.of_own hBt (fun _ h => h) : Byt e33 _ _ r.text.1)
            go_simp
            refine hK_.out _ _ trivial (fun hS => ?_)
            clear hK_ K_
            try simp only [pL]
            clear hcv
            refine tkH 7 (some 31) rfl rfl ?_ hS ?_ ?_; rotate_left; · rintro W' _; go_simp; try with_reducible rfl
            try simp only [pL]
            refine wpAnyH_ready (rs := [8]) (by kernel_rfl) (by simp) ?_
            refine AllReadyH.cons rfl (fun K_ hK_ => ?_) AllReadyH.nil
            go_simp
            obtain ⟨e36, hnw⟩ : ∃ e36, e36 = e33.alloc (.cells #[.string ⟨r.text.1.toArray⟩, .int .i64 r.text.2.val.1.kind, .float .f64 r.text.2.val.1.num, .string r.text.2.val.1.text] 87) := ⟨_, rfl⟩
            have hEa : Ext e33 e36 := by rw [hnw]; exact (Mod.refl _ _).alloc _
            have hsl : Sl e36 (fun y => y = e33.heap.size) 4 (.slice (some ⟨e33.heap.size, 0, none⟩) 1 1) 1 (⟨textB r.text.1, r.text.2.val.1⟩ : APair).cells := by rw [hnw]; exact sl_one e33 87 _
            rw [← hnw]
            clear hnw
            replace hKc := hEa.blk hKc id
            replace hoc := own_mod hoc hEa (fun _ _ => id)
            replace hRc := hRc.mod hEa (fun _ _ => id)
            replace hMc := hMc.ext hEa
            clear hEa
            refine hK_.out _ _ trivial (fun hS => ?_)
            clear hK_ K_
            try simp only [pL]
            refine wpAnyH_ready (rs := [9]) (by kernel_rfl) (by simp) ?_
            refine AllReadyH.cons rfl (fun K_ hK_ => ?_) AllReadyH.nil
            refine step_app _ rfl _ _ 22 rfl 87 i0 _ 4 48 Try.underlying22 hi hz0 hz1 hz2 rfl (by omega) (.slice VA m vc) m (os.flatMap APair.cells) rfl hoc _ _ 1 _ rfl hsl (pair1 _) (by simp only [maxLen]; have := Hea.out.1; omega) (by have := Hea.out.1; omega) ?_
            intro v9 e37 ho hgr hat
            obtain ⟨B9, d9, rfl⟩ := own_form ho
            have hnl : ∀ y, (Value.slice B9 (m + 1) d9).ownBlock = some y → w1.heap.size ≤ y := fun y hy => by
              have := hMc.size
              rcases hat with e | e
              · exact Hfar.out y (by rw [← e]; exact hy)
              · rw [e] at hy; injection hy with hy; omega
            have hgm : Mod (fun k => w1.heap.size ≤ k) e36 e37 := (Mod.refl _ _).grown hgr (fun k hk => .inr (Hfar.out k hk))
            replace hKc := hgm.blk hKc (by omega)
            replace hRc := hRc.mod hgm (fun y hy e => by have := HShi.out y hy; omega)
            replace hMc := hMc.trans hgm (fun _ _ e => .inr (.inl e))
            have hon := ho
            clear hgr hat ho hgm
            refine hK_.out _ _ trivial (fun hS => ?_)
            clear hK_ K_
            try simp only [pL]
            refine tkH 10 (some 34) rfl rfl ?_ hS ?_ ?_; rotate_left; · rintro W' _; go_simp; try with_reducible rfl
            try simp only [pL]
            refine wpAnyH_ready (rs := [11]) (by kernel_rfl) (by simp) ?_
            refine AllReadyH.cons rfl (fun K_ hK_ => ?_) AllReadyH.nil
            have fz := blk_free 0 hKc
            have cz : e37.cell? ⟨q0 + 1, 0, none⟩ = some _ := blk_cell hKc rfl
            have hMs : Mod (fun k => k = q0 + 1) e37 (e37.setCell ⟨q0 + 1, 0, none⟩ (.slice B9 (m + 1) d9)) := mod_same (Mod.refl _ _) _ _
            have hKs : (e37.setCell ⟨q0 + 1, 0, none⟩ (.slice B9 (m + 1) d9)).heap[q0 + 1]? = some (.cells #[.slice B9 (m + 1) d9, .slice none 0 0] 25 (0, 0)) := by simp [World.setCell, Array.getElem?_modify, hKc]
            have hDn : Hid (DecP (e37.setCell ⟨q0 + 1, 0, none⟩ (.slice B9 (m + 1) d9)) S rb (q0 + 1) w1.heap.size r.text.2.val.2 (m + 1) (.slice B9 (m + 1) d9) (os ++ [⟨textB r.text.1, r.text.2.val.1⟩])) := Lib.hid ⟨hRc.mod hMs (fun y hy e => nS1 (e ▸ hy)), hKs, by simp [Hom.out], by have := own_mod hon hMs (fun y hy e => by have := hnl y hy; omega); simpa using this, hnl, fun y hy => by
              rcases List.mem_append.1 hy with hy | hy
              · exact Hok.out y hy
              · simp at hy; subst hy; exact pair_ok r⟩
            have hMn : Hid (Mod (fun k => S k ∨ w1.heap.size ≤ k ∨ k = q0 + 1) w2 (e37.setCell ⟨q0 + 1, 0, none⟩ (.slice B9 (m + 1) d9))) := Lib.hid (Hm.out.trans (hMc.trans hMs (fun _ _ e => .inr (.inr e))) (fun _ _ e => e))
            go_simp
            refine hK_.out _ _ trivial (fun hS => ?_)
            clear hK_ K_
            try simp only [pL]
            clear fz cz hMs hKs
            refine wpAnyH_done (by kernel_rfl) ?_ _
            clear hRc hKc hoc hMc hSc hon hnl hBt hNlo hsl hS
            have hwn : IntKind.i64.wrap (n - 1) = n - 1 := IntWalk.i64_in _ (by omega)
            go_wp2
            exact ⟨⟨n - 1, m + 1, B9, d9, _, r.text.2.val.2, rfl, by omega, by omega, hDn.out, by rw [Hps.out, show n.toNat = (n - 1).toNat + 1 by omega, rdPs_step hlf]; simp, eat_pair Hea.out hlf, hMn.out⟩, by simp [intOf]; omega⟩
          · have hcv := conv_bs (Sl.of_own hBt (fun _ h => h) : Byt e33 _ _ r.text.1)
            go_simp
            refine hK_.out _ _ trivial (fun hS => ?_)
            clear hK_ K_
            try simp only [pL]
            clear hcv
            refine tkH 7 (some 31) rfl rfl ?_ hS ?_ ?_; rotate_left; · rintro W' _; go_simp; try with_reducible rfl
            try simp only [pL]
            refine wpAnyH_ready (rs := [1, 8]) (by kernel_rfl) (by simp) ?_
            refine AllReadyH.cons rfl (fun K_ hK_ => ?_) (AllReadyH.cons rfl (fun K_ hK_ => ?_) AllReadyH.nil)
            · have mc : e33.cell? ⟨q0 + 1, 0, none⟩ = some _ := blk_cell hKc rfl
              go_simp
              refine hK_.out _ _ trivial (fun hS => ?_)
              clear hK_ K_
              try simp only [pL]
              clear mc
              refine wpAnyH_ready (rs := [8]) (by kernel_rfl) (by simp) ?_
              refine AllReadyH.cons rfl (fun K_ hK_ => ?_) AllReadyH.nil
              go_simp
              obtain ⟨e40, hnw⟩ : ∃ e40, e40 = e33.alloc (.cells #[.string ⟨r.text.1.toArray⟩, .int .i64 r.text.2.val.1.kind, .float .f64 r.text.2.val.1.num, .string r.text.2.val.1.text] 87) := ⟨_, rfl⟩
              have hEa : Ext e33 e40 := by rw [hnw]; exact (Mod.refl _ _).alloc _
              have hsl : Sl e40 (fun y => y = e33.heap.size) 4 (.slice (some ⟨e33.heap.size, 0, none⟩) 1 1) 1 (⟨textB r.text.1, r.text.2.val.1⟩ : APair).cells := by rw [hnw]; exact sl_one e33 87 _
              rw [← hnw]
              clear hnw
              replace hKc := hEa.blk hKc id
              replace hoc := own_mod hoc hEa (fun _ _ => id)
              replace hRc := hRc.mod hEa (fun _ _ => id)
              replace hMc := hMc.ext hEa
              clear hEa
              refine hK_.out _ _ trivial (fun hS => ?_)
              clear hK_ K_
              try simp only [pL]
              refine wpAnyH_ready (rs := [9]) (by kernel_rfl) (by simp) ?_
              refine AllReadyH.cons rfl (fun K_ hK_ => ?_) AllReadyH.nil
              refine step_app _ rfl _ _ 22 rfl 87 i0 _ 4 48 Try.underlying22 hi hz0 hz1 hz2 rfl (by omega) (.slice VA m vc) m (os.flatMap APair.cells) rfl hoc _ _ 1 _ rfl hsl (pair1 _) (by simp only [maxLen]; have := Hea.out.1; omega) (by have := Hea.out.1; omega) ?_
              intro v9 e41 ho hgr hat
              obtain ⟨B9, d9, rfl⟩ := own_form ho
              have hnl : ∀ y, (Value.slice B9 (m + 1) d9).ownBlock = some y → w1.heap.size ≤ y := fun y hy => by
                have := hMc.size
                rcases hat with e | e
                · exact Hfar.out y (by rw [← e]; exact hy)
                · rw [e] at hy; injection hy with hy; omega
              have hgm : Mod (fun k => w1.heap.size ≤ k) e40 e41 := (Mod.refl _ _).grown hgr (fun k hk => .inr (Hfar.out k hk))
              replace hKc := hgm.blk hKc (by omega)
              replace hRc := hRc.mod hgm (fun y hy e => by have := HShi.out y hy; omega)
              replace hMc := hMc.trans hgm (fun _ _ e => .inr (.inl e))
              have hon := ho
              clear hgr hat ho hgm
              refine hK_.out _ _ trivial (fun hS => ?_)
              clear hK_ K_
              try simp only [pL]
              refine tkH 10 (some 34) rfl rfl ?_ hS ?_ ?_; rotate_left; · rintro W' _; go_simp; try with_reducible rfl
              try simp only [pL]
              refine wpAnyH_ready (rs := [11]) (by kernel_rfl) (by simp) ?_
              refine AllReadyH.cons rfl (fun K_ hK_ => ?_) AllReadyH.nil
              have fz := blk_free 0 hKc
              have cz : e41.cell? ⟨q0 + 1, 0, none⟩ = some _ := blk_cell hKc rfl
              have hMs : Mod (fun k => k = q0 + 1) e41 (e41.setCell ⟨q0 + 1, 0, none⟩ (.slice B9 (m + 1) d9)) := mod_same (Mod.refl _ _) _ _
              have hKs : (e41.setCell ⟨q0 + 1, 0, none⟩ (.slice B9 (m + 1) d9)).heap[q0 + 1]? = some (.cells #[.slice B9 (m + 1) d9, .slice none 0 0] 25 (0, 0)) := by simp [World.setCell, Array.getElem?_modify, hKc]
              have hDn : Hid (DecP (e41.setCell ⟨q0 + 1, 0, none⟩ (.slice B9 (m + 1) d9)) S rb (q0 + 1) w1.heap.size r.text.2.val.2 (m + 1) (.slice B9 (m + 1) d9) (os ++ [⟨textB r.text.1, r.text.2.val.1⟩])) := Lib.hid ⟨hRc.mod hMs (fun y hy e => nS1 (e ▸ hy)), hKs, by simp [Hom.out], by have := own_mod hon hMs (fun y hy e => by have := hnl y hy; omega); simpa using this, hnl, fun y hy => by
                rcases List.mem_append.1 hy with hy | hy
                · exact Hok.out y hy
                · simp at hy; subst hy; exact pair_ok r⟩
              have hMn : Hid (Mod (fun k => S k ∨ w1.heap.size ≤ k ∨ k = q0 + 1) w2 (e41.setCell ⟨q0 + 1, 0, none⟩ (.slice B9 (m + 1) d9))) := Lib.hid (Hm.out.trans (hMc.trans hMs (fun _ _ e => .inr (.inr e))) (fun _ _ e => e))
              go_simp
              refine hK_.out _ _ trivial (fun hS => ?_)
              clear hK_ K_
              try simp only [pL]
              clear fz cz hMs hKs
              refine wpAnyH_done (by kernel_rfl) ?_ _
              clear hRc hKc hoc hMc hSc hon hnl hBt hNlo hsl hS
              have hwn : IntKind.i64.wrap (n - 1) = n - 1 := IntWalk.i64_in _ (by omega)
              go_wp2
              exact ⟨⟨n - 1, m + 1, B9, d9, _, r.text.2.val.2, rfl, by omega, by omega, hDn.out, by rw [Hps.out, show n.toNat = (n - 1).toNat + 1 by omega, rdPs_step hlf]; simp, eat_pair Hea.out hlf, hMn.out⟩, by simp [intOf]; omega⟩
            · go_simp
              obtain ⟨e42, hnw⟩ : ∃ e42, e42 = e33.alloc (.cells #[.string ⟨r.text.1.toArray⟩, .int .i64 r.text.2.val.1.kind, .float .f64 r.text.2.val.1.num, .string r.text.2.val.1.text] 87) := ⟨_, rfl⟩
              have hEa : Ext e33 e42 := by rw [hnw]; exact (Mod.refl _ _).alloc _
              have hsl : Sl e42 (fun y => y = e33.heap.size) 4 (.slice (some ⟨e33.heap.size, 0, none⟩) 1 1) 1 (⟨textB r.text.1, r.text.2.val.1⟩ : APair).cells := by rw [hnw]; exact sl_one e33 87 _
              rw [← hnw]
              clear hnw
              replace hKc := hEa.blk hKc id
              replace hoc := own_mod hoc hEa (fun _ _ => id)
              replace hRc := hRc.mod hEa (fun _ _ => id)
              replace hMc := hMc.ext hEa
              clear hEa
              refine hK_.out _ _ trivial (fun hS => ?_)
              clear hK_ K_
              try simp only [pL]
              refine wpAnyH_ready (rs := [1]) (by kernel_rfl) (by simp) ?_
              refine AllReadyH.cons rfl (fun K_ hK_ => ?_) AllReadyH.nil
              have mc : e42.cell? ⟨q0 + 1, 0, none⟩ = some _ := blk_cell hKc rfl
              go_simp
              refine hK_.out _ _ trivial (fun hS => ?_)
              clear hK_ K_
              try simp only [pL]
              clear mc
              refine wpAnyH_ready (rs := [9]) (by kernel_rfl) (by simp) ?_
              refine AllReadyH.cons rfl (fun K_ hK_ => ?_) AllReadyH.nil
              refine step_app _ rfl _ _ 22 rfl 87 i0 _ 4 48 Try.underlying22 hi hz0 hz1 hz2 rfl (by omega) (.slice VA m vc) m (os.flatMap APair.cells) rfl hoc _ _ 1 _ rfl hsl (pair1 _) (by simp only [maxLen]; have := Hea.out.1; omega) (by have := Hea.out.1; omega) ?_
              intro v9 e44 ho hgr hat
              obtain ⟨B9, d9, rfl⟩ := own_form ho
              have hnl : ∀ y, (Value.slice B9 (m + 1) d9).ownBlock = some y → w1.heap.size ≤ y := fun y hy => by
                have := hMc.size
                rcases hat with e | e
                · exact Hfar.out y (by rw [← e]; exact hy)
                · rw [e] at hy; injection hy with hy; omega
              have hgm : Mod (fun k => w1.heap.size ≤ k) e42 e44 := (Mod.refl _ _).grown hgr (fun k hk => .inr (Hfar.out k hk))
              replace hKc := hgm.blk hKc (by omega)
              replace hRc := hRc.mod hgm (fun y hy e => by have := HShi.out y hy; omega)
              replace hMc := hMc.trans hgm (fun _ _ e => .inr (.inl e))
              have hon := ho
              clear hgr hat ho hgm
              refine hK_.out _ _ trivial (fun hS => ?_)
              clear hK_ K_
              try simp only [pL]
              refine tkH 10 (some 34) rfl rfl ?_ hS ?_ ?_; rotate_left; · rintro W' _; go_simp; try with_reducible rfl
              try simp only [pL]
              refine wpAnyH_ready (rs := [11]) (by kernel_rfl) (by simp) ?_
              refine AllReadyH.cons rfl (fun K_ hK_ => ?_) AllReadyH.nil
              have fz := blk_free 0 hKc
              have cz : e44.cell? ⟨q0 + 1, 0, none⟩ = some _ := blk_cell hKc rfl
              have hMs : Mod (fun k => k = q0 + 1) e44 (e44.setCell ⟨q0 + 1, 0, none⟩ (.slice B9 (m + 1) d9)) := mod_same (Mod.refl _ _) _ _
              have hKs : (e44.setCell ⟨q0 + 1, 0, none⟩ (.slice B9 (m + 1) d9)).heap[q0 + 1]? = some (.cells #[.slice B9 (m + 1) d9, .slice none 0 0] 25 (0, 0)) := by simp [World.setCell, Array.getElem?_modify, hKc]
              have hDn : Hid (DecP (e44.setCell ⟨q0 + 1, 0, none⟩ (.slice B9 (m + 1) d9)) S rb (q0 + 1) w1.heap.size r.text.2.val.2 (m + 1) (.slice B9 (m + 1) d9) (os ++ [⟨textB r.text.1, r.text.2.val.1⟩])) := Lib.hid ⟨hRc.mod hMs (fun y hy e => nS1 (e ▸ hy)), hKs, by simp [Hom.out], by have := own_mod hon hMs (fun y hy e => by have := hnl y hy; omega); simpa using this, hnl, fun y hy => by
                rcases List.mem_append.1 hy with hy | hy
                · exact Hok.out y hy
                · simp at hy; subst hy; exact pair_ok r⟩
              have hMn : Hid (Mod (fun k => S k ∨ w1.heap.size ≤ k ∨ k = q0 + 1) w2 (e44.setCell ⟨q0 + 1, 0, none⟩ (.slice B9 (m + 1) d9))) := Lib.hid (Hm.out.trans (hMc.trans hMs (fun _ _ e => .inr (.inr e))) (fun _ _ e => e))
              go_simp
              refine hK_.out _ _ trivial (fun hS => ?_)
              clear hK_ K_
              try simp only [pL]
              clear fz cz hMs hKs
              refine wpAnyH_done (by kernel_rfl) ?_ _
              clear hRc hKc hoc hMc hSc hon hnl hBt hNlo hsl hS
              have hwn : IntKind.i64.wrap (n - 1) = n - 1 := IntWalk.i64_in _ (by omega)
              go_wp2
              exact ⟨⟨n - 1, m + 1, B9, d9, _, r.text.2.val.2, rfl, by omega, by omega, hDn.out, by rw [Hps.out, show n.toNat = (n - 1).toNat + 1 by omega, rdPs_step hlf]; simp, eat_pair Hea.out hlf, hMn.out⟩, by simp [intOf]; omega⟩
  case rest =>
    obtain ⟨n, m, VA, vc, os, r, rfl, hD, hps, hea, hm⟩ := hcut
    obtain ⟨hRd, hK, hom, hown, hfar, hok⟩ := hD
    have hw1c : w1.heap.size ≤ wc.heap.size := Nat.le_trans Hm2.out.size hm.size
    go_wp2_with fail
    refine (r_int wc S rb r hRd).mono ?_
    rintro e w3 ⟨rfl, hR3, hm3⟩
    have hK3 := hm3.blk hK nS1
    have hown3 := own_mod hown hm3 (fun y hy e => by have := hfar y hy; have := HShi.out y e; omega)
    have hM3 : Mod (fun k => S k ∨ w1.heap.size ≤ k ∨ k = q0 + 1) w2 w3 := hm.trans hm3 (fun _ _ e => .inl e)
    obtain ⟨n1, hn1⟩ : ∃ n1, r.int.1 = n1 := ⟨_, rfl⟩
    obtain ⟨r3, hr3⟩ : ∃ r3, r.int.2 = r3 := ⟨_, rfl⟩
    have hrange1 := int_range r
    have heat3 : Eaten N 0 r3 := by
      rw [← hr3]
      refine ⟨by omega, fun he => ?_⟩
      have h1 := int_lt he
      have h2 := hea.2 (int_e _ he)
      omega
    rw [hn1] at hrange1 ⊢
    rw [hr3] at hR3
    have HK3 := Lib.hid hK3
    have Hown3 := Lib.hid hown3
    have HM3 := Lib.hid hM3
    have HR3 := Lib.hid hR3
    have Hps := Lib.hid hps
    have Hom := Lib.hid hom
    have Hfar := Lib.hid hfar
    have Hok := Lib.hid hok
    have Heat3 := Lib.hid heat3
    have Hn1 := Lib.hid hn1
    have Hr3 := Lib.hid hr3
    clear hK3 hown3 hM3 hR3 hps hom hfar hok heat3 hn1 hr3 hRd hK hown hm hm3 hea
    go_upto_block 2 with fail
    go_cut [7] (fun s7 wx => ∃ (n : Int) (k : Nat) (VB : Option Addr) (vd : Nat) (ss : List ASess) (r : RS), s7 = .int .i64 n ∧ Rd wx S rb r ∧ wx.heap[q0 + 1]? = some (.cells #[.slice VA m vc, .slice VB k vd] 25 (0, 0)) ∧ wx.ownsRow 0 87 4 (.slice VA m vc) m (os.flatMap APair.cells) ∧ ss.length = k ∧ wx.ownsRow 0 72 6 (.slice VB k vd) k (flS ss) ∧ (∀ g, (Value.slice VB k vd).ownBlock = some g → w3.heap.size ≤ g) ∧ (∀ x ∈ ss, x.ok) ∧ rdSs n1.toNat r3 = (ss, r) ∧ Eaten N k r ∧ Mod (fun k => S k ∨ w3.heap.size ≤ k ∨ k = q0 + 1) w3 wx)
    case first =>
      go_wp2
      go_loopw [7] (fun iv wr => ∃ (n : Int) (k : Nat) (VB : Option Addr) (vd : Nat) (ss : List ASess) (r : RS), iv = .int .i64 n ∧ -9223372036854775808 ≤ n ∧ n ≤ 9223372036854775807 ∧ Rd wr S rb r ∧ wr.heap[q0 + 1]? = some (.cells #[.slice VA m vc, .slice VB k vd] 25 (0, 0)) ∧ wr.ownsRow 0 87 4 (.slice VA m vc) m (os.flatMap APair.cells) ∧ ss.length = k ∧ wr.ownsRow 0 72 6 (.slice VB k vd) k (flS ss) ∧ (∀ g, (Value.slice VB k vd).ownBlock = some g → w3.heap.size ≤ g) ∧ (∀ x ∈ ss, x.ok) ∧ rdSs n1.toNat r3 = (ss ++ (rdSs n.toNat r).1, (rdSs n.toNat r).2) ∧ Eaten N k r ∧ Mod (fun k => S k ∨ w3.heap.size ≤ k ∨ k = q0 + 1) w3 wr) (fun iv _ => (intOf iv).toNat)
      case atStart => exact ⟨n1, 0, none, 0, [], r3, rfl, hrange1.1, hrange1.2, HR3.out, HK3.out, Hown3.out, rfl, World.ownsRow_nil _ _ _ _, by simp [Value.ownBlock], by simp, by simp, Heat3.out, Mod.refl _ _⟩
      case round =>
        obtain ⟨n, k, VB, vd, ss, r, rfl, hn1, hn2, hRd, hK, hpo, hsm, hso, hsf, hsk, hps, hea, hm⟩ := hrel
        have HRd := Lib.hid hRd
        have HK := Lib.hid hK
        have Hpo := Lib.hid hpo
        have Hsm := Lib.hid hsm
        have Hso := Lib.hid hso
        have Hsf := Lib.hid hsf
        have Hsk := Lib.hid hsk
        have Hps2 := Lib.hid hps
        have Hea := Lib.hid hea
        have Hm := Lib.hid hm
        clear hRd hK hpo hsm hso hsf hsk hps hea hm
        by_cases hn : 0 < n
        case neg =>
          have dn : decide (n > 0) = false := by simp; omega
          have hfin := rdSs_stop (n := n.toNat) (r := r) (.inl (by omega))
          have Hfin := Lib.hid hfin
          clear hfin
          go_wp2_with fail
          go_meet
          exact ⟨n, k, VB, vd, ss, r, rfl, HRd.out, HK.out, Hpo.out, Hsm.out, Hso.out, Hsf.out, Hsk.out, by rw [Hps2.out, Hfin.out]; simp, Hea.out, Hm.out⟩
        have dn : decide (n > 0) = true := by simp; omega
        go_wp2_with fail
        refine (r_left wr S rb r HRd.out).mono ?_
        rintro e wq ⟨rfl, rfl⟩
        by_cases hlf : 0 < r.leftN
        case neg =>
          have dl : decide (r.leftN > 0) = false := by simp; omega
          have hfin := rdSs_stop (n := n.toNat) (r := r) (.inr (by omega))
          have Hfin := Lib.hid hfin
          clear hfin
          go_wp2_with fail
          go_meet
          exact ⟨n, k, VB, vd, ss, r, rfl, HRd.out, HK.out, Hpo.out, Hsm.out, Hso.out, Hsf.out, Hsk.out, by rw [Hps2.out, Hfin.out]; simp, Hea.out, Hm.out⟩
        have dl : decide (r.leftN > 0) = true := by simp; omega
        go_wp2_with fail
        refine (r_int wr S rb r HRd.out).mono ?_
        rintro e wa ⟨rfl, hRa, hma⟩
        go_wp2_with fail
        refine (r_int wa S rb _ hRa).mono ?_
        rintro e wb ⟨rfl, hRb, hmb⟩
        go_wp2_with fail
        obtain ⟨q, hq⟩ : ∃ q, wb.heap.size = q := ⟨_, rfl⟩
        obtain ⟨Wb, hWb⟩ : ∃ Wb, Wb = wb.alloc (.cells #[.int .i64 r.int.1, .int .i64 r.int.2.int.1, .int .i64 0, .int .i64 0, .float .f64 0, .string ⟨#[]⟩] 72) := ⟨_, rfl⟩
        have hQ : Wb.heap[q]? = some (.cells #[.int .i64 r.int.1, .int .i64 r.int.2.int.1, .int .i64 0, .int .i64 0, .float .f64 0, .string ⟨#[]⟩] 72 (0, 0)) := by rw [hWb, ← hq]; exact heap_alloc_new wb _
        have hEb : Ext wb Wb := by rw [hWb]; exact (Mod.refl _ wb).alloc _
        rw [← hWb, hq]
        have hmab : Mod S wr Wb := (hma.self hmb).ext hEb
        have hw3r : w3.heap.size ≤ wr.heap.size := Hm.out.size
        have hrq : wr.heap.size ≤ q := by have := (hma.self hmb).size; omega
        have nSq : ¬ S q := fun e => by have := HShi.out q e; have := HM3.out.size; have := Hm2.out.size; omega
        have hKb := hmab.blk HK.out nS1
        have nqK : ¬ q = q0 + 1 := fun e => by have := (Array.getElem?_eq_some_iff.1 HK.out).1; omega
        have hRb2 := hRb.mod hEb (fun _ _ => id)
        have hSW : ∀ k, S k → k < Wb.heap.size := fun k hk => by have := HShi.out k hk; have := HM3.out.size; have := Hm2.out.size; have := hmab.size; omega
        have hpoW := own_mod Hpo.out hmab (fun g hg e => by have h1 := Hfar.out g hg; have h2 := HShi.out g e; omega)
        have hsoW := own_mod Hso.out hmab (fun g hg e => by have h1 := Hsf.out g hg; have h2 := HShi.out g e; have h3 := HM3.out.size; have h4 := Hm2.out.size; omega)
        clear hma hmb hRa hRb hEb hWb hq
        refine (r_int Wb S rb _ hRb2).mono ?_
        rintro e wc ⟨rfl, hRc, hmc⟩
        have hQc := hmc.blk hQ nSq
        have hKc := hmc.blk hKb nS1
        have hpoc := own_mod hpoW hmc (fun g hg e => by have h1 := Hfar.out g hg; have h2 := HShi.out g e; omega)
        have hsoc := own_mod hsoW hmc (fun g hg e => by have h1 := Hsf.out g hg; have h2 := HShi.out g e; have h3 := HM3.out.size; have h4 := Hm2.out.size; omega)
        have hmc2 := hmab.self hmc
        have hSc : ∀ k, S k → k < wc.heap.size := fun k hk => by have := hSW k hk; have := hmc.size; omega
        clear hQ hKb hpoW hsoW hmab hmc hRb2 hSW
        obtain ⟨Wc, hWc⟩ : ∃ Wc, wc.setCell ⟨q, 2, none⟩ (.int .i64 r.int.2.int.2.int.1) = Wc := ⟨_, rfl⟩
        have hmC : Mod (fun k => k = q) wc Wc := by rw [← hWc]; exact mod_same (Mod.refl _ _) _ _
        have hQ2 : Wc.heap[q]? = some (.cells #[.int .i64 r.int.1, .int .i64 r.int.2.int.1, .int .i64 r.int.2.int.2.int.1, .int .i64 0, .float .f64 0, .string ⟨#[]⟩] 72 (0, 0)) := by rw [← hWc]; simp [World.setCell, Array.getElem?_modify, hQc]
        have fq2 : wc.frozen? ⟨q, 2, none⟩ = false := blk_free 2 hQc
        have cq2 : wc.cell? ⟨q, 2, none⟩ = some _ := blk_cell hQc rfl
        have hK2 := hmC.blk hKc (fun e => nqK e.symm)
        have hR2c := hRc.mod hmC (fun k hk e => nSq (e ▸ hk))
        have hplt : ∀ g, (Value.slice VA m vc).ownBlock = some g → g ≠ q := fun g hg => by have := (Hpo.out.lt g hg).2; omega
        have hslt : ∀ g, (Value.slice VB k vd).ownBlock = some g → g ≠ q := fun g hg => by have := (Hso.out.lt g hg).2; omega
        have hpo2 := own_mod hpoc hmC hplt
        have hso2 := own_mod hsoc hmC hslt
        have HQ2 := Lib.hid hQ2
        have HK2 := Lib.hid hK2
        have HR2c := Lib.hid hR2c
        have Hpo2 := Lib.hid hpo2
        have Hso2 := Lib.hid hso2
        have Hplt := Lib.hid hplt
        have Hslt := Lib.hid hslt
        have hSC : ∀ k, S k → k < Wc.heap.size := fun k hk => by have := hSc k hk; have := hmC.size; omega
        have HmC := Lib.hid (hmc2.trans (hmC.mono (T := fun k => S k ∨ k = q) (fun _ _ e => .inr e)) (fun i hi e => by rcases e with e | e; exact e; omega))
        have HWc := Lib.hid hWc
        clear hQ2 hK2 hR2c hpo2 hso2 hplt hslt hSc hmc2 hmC hWc hQc hKc hpoc hsoc hRc
        go_wp2_with fail
        rw [HWc.out]
        refine (s_rval Wc S rb _ HR2c.out hSC).mono ?_
        rintro e wd ⟨rfl, hRd2, hmd⟩
        have hQd := hmd.blk HQ2.out nSq
        have hKd := hmd.blk HK2.out nS1
        have hpod := own_mod Hpo2.out hmd (fun g hg e => by have h1 := Hfar.out g hg; have h2 := HShi.out g e; omega)
        have hsod := own_mod Hso2.out hmd (fun g hg e => by have h1 := Hsf.out g hg; have h2 := HShi.out g e; have h3 := HM3.out.size; have h4 := Hm2.out.size; omega)
        have Hmd : Hid (Mod S wr wd) := Lib.hid (HmC.out.self hmd)
        obtain ⟨sx, hsx⟩ : ∃ sx : ASess, r.sess.1 = sx := ⟨_, rfl⟩
        have e1 : r.int.1 = sx.client := by rw [← hsx]; rfl
        have e2 : r.int.2.int.1 = sx.seq := by rw [← hsx]; rfl
        have e3 : r.int.2.int.2.int.1 = sx.reply.code := by rw [← hsx]; rfl
        have e4 : r.int.2.int.2.int.2.val.1 = sx.reply.val := by rw [← hsx]; rfl
        have e5 : r.int.2.int.2.int.2.val.2 = r.sess.2 := rfl
        rw [e1, e2, e3] at hQd
        rw [e4]
        rw [e5] at hRd2
        have Hsx := Lib.hid hsx
        clear hsx e1 e2 e3 e4 e5 hmd HQ2 HK2 HR2c Hpo2 Hso2 HWc HmC hSC
        have q3 : wd.frozen? ⟨q, 3, none⟩ = false := blk_free 3 hQd
        have q4 : wd.frozen? ⟨q, 4, none⟩ = false := blk_free 4 hQd
        have q5 : wd.frozen? ⟨q, 5, none⟩ = false := blk_free 5 hQd
        have x0 : wd.cell? ⟨q, 0, none⟩ = some _ := blk_cell hQd rfl
        have x1 : wd.cell? ⟨q, 1, none⟩ = some _ := blk_cell hQd rfl
        have x2 : wd.cell? ⟨q, 2, none⟩ = some _ := blk_cell hQd rfl
        have x3 : wd.cell? ⟨q, 3, none⟩ = some _ := blk_cell hQd rfl
        have x4 : wd.cell? ⟨q, 4, none⟩ = some _ := blk_cell hQd rfl
        have x5 : wd.cell? ⟨q, 5, none⟩ = some _ := blk_cell hQd rfl
        have k1 : wd.cell? ⟨q0 + 1, 1, none⟩ = some _ := blk_cell hKd rfl
        have nqK2 : ¬ q0 + 1 = q := fun e => nqK e.symm
        have hM5 : Mod (fun k => k = q) wd (((wd.setCell ⟨q, 3, none⟩ (.int .i64 sx.reply.val.kind)).setCell ⟨q, 4, none⟩ (.float .f64 sx.reply.val.num)).setCell ⟨q, 5, none⟩ (.string sx.reply.val.text)) := mod_same (mod_same (mod_same (Mod.refl _ _) _ _) _ _) _ _
        have hK5 := hM5.blk hKd nqK2
        have hpo5 := own_mod hpod hM5 Hplt.out
        have hso5 := own_mod hsod hM5 Hslt.out
        have hR5 := hRd2.mod hM5 (fun k hk e => nSq (e ▸ hk))
        have hm5 : Mod S wr _ := Hmd.out.trans hM5 (fun i hi e => by omega)
        have qlt : q < wd.heap.size := (Array.getElem?_eq_some_iff.1 hQd).1
        have hsl := sl_one (((wd.setCell ⟨q, 3, none⟩ (.int .i64 sx.reply.val.kind)).setCell ⟨q, 4, none⟩ (.float .f64 sx.reply.val.num)).setCell ⟨q, 5, none⟩ (.string sx.reply.val.text)) 72 sx.cells
        have hz5 : (((wd.setCell ⟨q, 3, none⟩ (.int .i64 sx.reply.val.kind)).setCell ⟨q, 4, none⟩ (.float .f64 sx.reply.val.num)).setCell ⟨q, 5, none⟩ (.string sx.reply.val.text)).heap.size = wd.heap.size := by simp [World.setCell]
        rw [hz5] at hsl
        clear hz5
        have HK5 := Lib.hid hK5
        have Hpo5 := Lib.hid hpo5
        have Hso5 := Lib.hid hso5
        have HR5 := Lib.hid hR5
        have Hm5 := Lib.hid hm5
        have Hqlt : Hid (w3.heap.size ≤ q) := Lib.hid (by omega)
        have hkN : k ≤ 1000001 := by have := Hea.out.1; omega
        clear hK5 hpo5 hso5 hR5 hm5 hM5 hRd2 hpod hsod hQd hKd Hmd
        go_wp2_with (at_builtin; refine wpList_app _ rfl _ _ 23 rfl 72 j0 _ 6 56 Try.underlying23 hj hj0 hj1 hj2 rfl (by omega) _ k _ rfl (Hso5.out.alloc _) _ _ 1 sx.cells rfl hsl (ses1 sx) (by simp only [maxLen]; omega) (by omega) ?_)
        intro v9 w9 ho hgr hat
        obtain ⟨B9, d9, rfl⟩ := own_form ho
        have hw3d := Hm5.out.size
        have hnl : ∀ y, (Value.slice B9 (k + 1) d9).ownBlock = some y → w3.heap.size ≤ y := fun y hy => by
          rcases hat with e | e
          · exact Hsf.out y (by rw [← e]; exact hy)
          · rw [e] at hy; injection hy with hy; simp at hy hw3d; omega
        have hgm := ((Mod.refl (fun k => w3.heap.size ≤ k) _).alloc _).grown hgr (fun y hy => .inr (Hsf.out y hy))
        have hK9 := hgm.blk HK5.out (by have := (Array.getElem?_eq_some_iff.1 HK3.out).1; omega)
        have hR9 := HR5.out.mod hgm (fun y hy e => by have := HShi.out y hy; have := HM3.out.size; have := Hm2.out.size; omega)
        have hpo9 := own_mod Hpo5.out hgm (fun y hy e => by have := (Hown3.out.lt y hy).2; omega)
        have hM9 : Mod (fun k => S k ∨ w3.heap.size ≤ k ∨ k = q0 + 1) w3 w9 := Hm.out.trans ((Hm5.out.mono (T := fun k => S k ∨ w3.heap.size ≤ k ∨ k = q0 + 1) (fun i _ e => .inl e)).trans hgm (fun i _ e => .inr (.inl e))) (fun _ _ e => e)
        have hMs : Mod (fun k => k = q0 + 1) w9 (w9.setCell ⟨q0 + 1, 1, none⟩ (.slice B9 (k + 1) d9)) := mod_same (Mod.refl _ _) _ _
        have hKs : (w9.setCell ⟨q0 + 1, 1, none⟩ (.slice B9 (k + 1) d9)).heap[q0 + 1]? = some (.cells #[.slice VA m vc, .slice B9 (k + 1) d9] 25 (0, 0)) := by simp [World.setCell, Array.getElem?_modify, hK9]
        have f9 : w9.frozen? ⟨q0 + 1, 1, none⟩ = false := blk_free 1 hK9
        have c9 : w9.cell? ⟨q0 + 1, 1, none⟩ = some _ := blk_cell hK9 rfl
        have HD : Hid (Rd (w9.setCell ⟨q0 + 1, 1, none⟩ (.slice B9 (k + 1) d9)) S rb r.sess.2 ∧ (w9.setCell ⟨q0 + 1, 1, none⟩ (.slice B9 (k + 1) d9)).heap[q0 + 1]? = some (.cells #[.slice VA m vc, .slice B9 (k + 1) d9] 25 (0, 0)) ∧ (w9.setCell ⟨q0 + 1, 1, none⟩ (.slice B9 (k + 1) d9)).ownsRow 0 87 4 (.slice VA m vc) m (os.flatMap APair.cells) ∧ (ss ++ [sx]).length = k + 1 ∧ (w9.setCell ⟨q0 + 1, 1, none⟩ (.slice B9 (k + 1) d9)).ownsRow 0 72 6 (.slice B9 (k + 1) d9) (k + 1) (flS (ss ++ [sx])) ∧ (∀ g, (Value.slice B9 (k + 1) d9).ownBlock = some g → w3.heap.size ≤ g) ∧ (∀ x ∈ ss ++ [sx], x.ok) ∧ rdSs n1.toNat r3 = ((ss ++ [sx]) ++ (rdSs (n - 1).toNat r.sess.2).1, (rdSs (n - 1).toNat r.sess.2).2) ∧ Eaten N (k + 1) r.sess.2 ∧ Mod (fun k => S k ∨ w3.heap.size ≤ k ∨ k = q0 + 1) w3 (w9.setCell ⟨q0 + 1, 1, none⟩ (.slice B9 (k + 1) d9))) := by
          refine Lib.hid ⟨hR9.mod hMs (fun y hy e => nS1 (e ▸ hy)), hKs, own_mod hpo9 hMs (fun y hy e => by have := Hfar.out y hy; omega), by simp [Hsm.out], ?_, hnl, ?_, ?_, eat_sess Hea.out hlf, hM9.trans hMs (fun _ _ e => .inr (.inr e))⟩
          · have := own_mod ho hMs (fun y hy e => by have := hnl y hy; have := (Array.getElem?_eq_some_iff.1 HK3.out).1; omega)
            simpa [flS] using this
          · intro y hy
            rcases List.mem_append.1 hy with hy | hy
            · exact Hsk.out y hy
            · simp at hy; subst hy; rw [← Hsx.out]; exact sess_ok r
          · rw [Hps2.out, show n.toNat = (n - 1).toNat + 1 by omega, rdSs_step hlf, Hsx.out]; simp
        clear ho hgr hat hnl hgm hK9 hR9 hpo9 hM9 hMs hKs
        have hwn : IntKind.i64.wrap (n - 1) = n - 1 := IntWalk.i64_in _ (by omega)
        go_wp2
        exact ⟨⟨n - 1, k + 1, B9, d9, _, r.sess.2, rfl, by omega, by omega, HD.out⟩, by simp [intOf]; omega⟩
    case rest =>
      obtain ⟨n, k, VB, vd, ss, r, rfl, hRd, hK, hpo, hsm, hso, hsf, hsk, hps2, hea2, hm⟩ := hcut
      have hom := Hom.out
      subst hom
      subst hsm
      have hdec : decM bs = (⟨os, ss⟩, r) := by
        unfold decM
        rw [Hn0.out, Hr1.out, Hps.out]
        simp only
        rw [Hn1.out, Hr3.out, hps2]
      have x1 : Mod (Since w.heap.size) w w1 := Ext.mod (Mod.ext HE.out HE1.out) _
      have hs1 := HE.out.size
      have hs2 := HE1.out.size
      have hs3 := Hm2.out.size
      have hs4 := HM3.out.size
      have hq := Hq0.out
      have x2 := x1.trans Hm2.out (fun k _ e => by have := HSlo.out k e; unfold Since; omega)
      have x3 := x2.trans HM3.out (fun k _ e => by
        unfold Since
        rcases e with e | e | e
        · have := HSlo.out k e; omega
        · omega
        · omega)
      have hXc : Ext w wc := Mod.toExt (x3.trans hm (fun k _ e => by
        unfold Since
        rcases e with e | e | e
        · have := HSlo.out k e; omega
        · omega
        · omega))
      have hNM : NewM w wc (.slice VA os.length vc) (.slice VB ss.length vd) ⟨os, ss⟩ := ⟨⟨hpo, Hok.out, fun g hg => by have := Hfar.out g hg; omega⟩, ⟨hso, hsk, fun g hg => by have := hsf g hg; omega⟩, fun g hg e => by have h1 := (Hown3.out.lt g hg).2; have h2 := hsf g e; omega⟩
      have hbc := h.ext hXc
      have nqn : ∀ a, q0 + 1 < a → ¬ (S q0 ∨ a ≤ q0 ∨ q0 = q0 + 1) := fun a ha e => by
        rcases e with e | e | e
        · exact nS0 e
        · omega
        · omega
      have hA3c := hm.blk (HM3.out.blk HA2.out (nqn _ hq1)) (nqn _ (by omega))
      have a0 : wc.cell? ⟨q0 + 1, 0, none⟩ = some _ := blk_cell hK rfl
      have a1 : wc.cell? ⟨q0 + 1, 1, none⟩ = some _ := blk_cell hK rfl
      have HNM := Lib.hid hNM
      have Hdec := Lib.hid hdec
      have HK := Lib.hid hK
      clear x1 x2 x3 hs1 hs2 hs3 hs4 hq hNM hdec hpo hso hsf hsk hps2 hea2 hm hrange hrange1 Hok Hfar Hown3 Hps Hn0 Hr1 Hn1 Hr3 Hom Heat Heat3 HM3 HK3 HR3 HR2 Hm2 HE1 HSlo HShi HB HA HE HB2 hK nqn
      rcases hmb : machB ⟨os, ss⟩ with _ | _
      · have Hfin := Lib.hid (dec_bad Hdec.out (.inl hmb))
        go_wp2_with fail
        refine (s_enc_bad wc _ _ _ _ os ss HNM.out.prs HNM.out.ses hmb).mono ?_
        rintro e w4 ⟨rfl, hE4⟩
        clear hmb a0 a1
        go_wp2_with fail
        refine (r_done w4 S rb r (hRd.mod hE4 (fun _ _ => id))).mono ?_
        rintro e w5 ⟨rfl, rfl⟩
        obtain ⟨d, hd⟩ : ∃ d, r.done = d := ⟨_, rfl⟩
        rw [hd]
        clear hd
        rcases hd0 : (d == 0) with _ | _
        · have hd1 : (d != 0) = true := by simp [bne, hd0]
          have hA6 := hE4.blk hA3c id
          have c0 : w4.cell? ⟨q0, 0, none⟩ = some _ := blk_cell hA6 rfl
          have c1 : w4.cell? ⟨q0, 1, none⟩ = some _ := blk_cell hA6 rfl
          have f0 : w4.frozen? ⟨q0, 0, none⟩ = false := blk_free 0 hA6
          have f1 : w4.frozen? ⟨q0, 1, none⟩ = false := blk_free 1 hA6
          have HXb := Lib.hid (Mod.ext hXc hE4)
          clear hA6
          go_wp2
          refine bodyPost_ret (v := .tuple #[.agg #[.slice none 0 0, .slice none 0 0], .int .i64 6]) (by simp [results, Try.results30, go_sem, c0, c1]) rfl ⟨_, _, by rw [Hfin.out.2], by rw [Hfin.out.1]; exact newM_nil _ _, ?_⟩
          exact Mod.toExt ((Ext.mod HXb.out (Since w.heap.size)).trans (mod_same (mod_same (Mod.refl _ _) _ _) _ _) (fun k _ e => by rw [e, ← Hq0.out]; exact Nat.le_refl _))
        · have hd1 : (d != 0) = false := by simp [bne, hd0]
          have hA6 := hE4.blk hA3c id
          have c0 : w4.cell? ⟨q0, 0, none⟩ = some _ := blk_cell hA6 rfl
          have c1 : w4.cell? ⟨q0, 1, none⟩ = some _ := blk_cell hA6 rfl
          have f0 : w4.frozen? ⟨q0, 0, none⟩ = false := blk_free 0 hA6
          have f1 : w4.frozen? ⟨q0, 1, none⟩ = false := blk_free 1 hA6
          have HXb := Lib.hid (Mod.ext hXc hE4)
          clear hA6
          go_wp2
          refine bodyPost_ret (v := .tuple #[.agg #[.slice none 0 0, .slice none 0 0], .int .i64 6]) (by simp [results, Try.results30, go_sem, c0, c1]) rfl ⟨_, _, by rw [Hfin.out.2], by rw [Hfin.out.1]; exact newM_nil _ _, ?_⟩
          exact Mod.toExt ((Ext.mod HXb.out (Since w.heap.size)).trans (mod_same (mod_same (Mod.refl _ _) _ _) _ _) (fun k _ e => by rw [e, ← Hq0.out]; exact Nat.le_refl _))
      · go_wp2_with fail
        refine (s_enc_ok wc _ _ _ _ os ss HNM.out.prs HNM.out.ses hmb).mono ?_
        rintro e w4 ⟨vb, rfl, hNB, hE4⟩
        have hbs := hNB.sl
        have hb4 := hbc.ext hE4
        have hK4 := hE4.blk HK.out id
        have HK4 := Lib.hid hK4
        clear a0 a1 hNB hK4
        go_wp2_with fail
        refine (r_done w4 S rb r (hRd.mod hE4 (fun _ _ => id))).mono ?_
        rintro e w5 ⟨rfl, rfl⟩
        obtain ⟨d, hd⟩ : ∃ d, r.done = d := ⟨_, rfl⟩
        rw [hd]
        rcases hd0 : (d == 0) with _ | _
        · have hd1 : (d != 0) = true := by simp [bne, hd0]
          have Hfin := Lib.hid (dec_bad Hdec.out (.inr (.inl (by rw [hd]; simpa using hd0))))
          clear hd hmb
          have hA6 := hE4.blk hA3c id
          have c0 : w4.cell? ⟨q0, 0, none⟩ = some _ := blk_cell hA6 rfl
          have c1 : w4.cell? ⟨q0, 1, none⟩ = some _ := blk_cell hA6 rfl
          have f0 : w4.frozen? ⟨q0, 0, none⟩ = false := blk_free 0 hA6
          have f1 : w4.frozen? ⟨q0, 1, none⟩ = false := blk_free 1 hA6
          have HXb := Lib.hid (Mod.ext hXc hE4)
          clear hA6
          go_wp2
          refine bodyPost_ret (v := .tuple #[.agg #[.slice none 0 0, .slice none 0 0], .int .i64 6]) (by simp [results, Try.results30, go_sem, c0, c1]) rfl ⟨_, _, by rw [Hfin.out.2], by rw [Hfin.out.1]; exact newM_nil _ _, ?_⟩
          exact Mod.toExt ((Ext.mod HXb.out (Since w.heap.size)).trans (mod_same (mod_same (Mod.refl _ _) _ _) _ _) (fun k _ e => by rw [e, ← Hq0.out]; exact Nat.le_refl _))
        · have hd1 : (d != 0) = false := by simp [bne, hd0]
          have Hd0 : Hid (r.done = 0) := Lib.hid (by rw [hd]; simpa using hd0)
          have Hmb := Lib.hid hmb
          clear hd hmb
          go_wp2_with fail
          refine (b_equal w4 _ _ vb v _ bs hbs hb4).mono ?_
          rintro e w5 ⟨rfl, rfl⟩
          rcases he : (encM ⟨os, ss⟩ == bs) with _ | _
          · have Hfin := Lib.hid (dec_bad Hdec.out (.inr (.inr he)))
            clear he
            have hA6 := hE4.blk hA3c id
            have c0 : w4.cell? ⟨q0, 0, none⟩ = some _ := blk_cell hA6 rfl
            have c1 : w4.cell? ⟨q0, 1, none⟩ = some _ := blk_cell hA6 rfl
            have f0 : w4.frozen? ⟨q0, 0, none⟩ = false := blk_free 0 hA6
            have f1 : w4.frozen? ⟨q0, 1, none⟩ = false := blk_free 1 hA6
            have HXb := Lib.hid (Mod.ext hXc hE4)
            clear hA6
            go_wp2
            refine bodyPost_ret (v := .tuple #[.agg #[.slice none 0 0, .slice none 0 0], .int .i64 6]) (by simp [results, Try.results30, go_sem, c0, c1]) rfl ⟨_, _, by rw [Hfin.out.2], by rw [Hfin.out.1]; exact newM_nil _ _, ?_⟩
            exact Mod.toExt ((Ext.mod HXb.out (Since w.heap.size)).trans (mod_same (mod_same (Mod.refl _ _) _ _) _ _) (fun k _ e => by rw [e, ← Hq0.out]; exact Nat.le_refl _))
          · have Hfin := Lib.hid (dec_good Hdec.out Hmb.out Hd0.out he)
            clear he
            have hA6 := hE4.blk hA3c id
            have c0 : w4.cell? ⟨q0, 0, none⟩ = some _ := blk_cell hA6 rfl
            have c1 : w4.cell? ⟨q0, 1, none⟩ = some _ := blk_cell hA6 rfl
            have f0 : w4.frozen? ⟨q0, 0, none⟩ = false := blk_free 0 hA6
            have f1 : w4.frozen? ⟨q0, 1, none⟩ = false := blk_free 1 hA6
            have a0 : w4.cell? ⟨q0 + 1, 0, none⟩ = some _ := blk_cell HK4.out rfl
            have a1 : w4.cell? ⟨q0 + 1, 1, none⟩ = some _ := blk_cell HK4.out rfl
            have HXb := Lib.hid (Mod.ext hXc hE4)
            have hN6 := newM_mod HNM.out hE4 (fun _ _ => id) (fun _ _ => id)
            have HA6 := Lib.hid hA6
            have HN6 := Lib.hid hN6
            clear hA6 hN6
            go_wp2
            have hMs : Mod (fun k => k = q0) w4 ((w4.setCell ⟨q0, 0, none⟩ (.slice VA os.length vc)).setCell ⟨q0, 1, none⟩ (.slice VB ss.length vd)) := mod_same (mod_same (Mod.refl _ _) _ _) _ _
            refine bodyPost_ret (v := .tuple #[.agg #[.slice VA os.length vc, .slice VB ss.length vd], .int .i64 0]) (by simp [results, Try.results30, go_sem, c0, c1]) rfl ⟨_, _, by rw [Hfin.out.2], by rw [Hfin.out.1]; exact newM_box HN6.out HA6.out hMs (by decide) (by decide), ?_⟩
            exact Mod.toExt ((Ext.mod HXb.out (Since w.heap.size)).trans hMs (fun k _ e => by rw [e, ← Hq0.out]; exact Nat.le_refl _))
end Go.Proofs.Ytplpegjnmlabkaa
