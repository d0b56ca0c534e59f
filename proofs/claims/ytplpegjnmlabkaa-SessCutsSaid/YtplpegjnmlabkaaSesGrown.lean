/-
  The contract of Grown (layer 7). Conditions: as each theorem names them.
-/
import Derived.Test.YtplpegjnmlabkaaSesLib
namespace Go.Proofs.Ytplpegjnmlabkaa
set_option linter.unusedSimpArgs false
open Go.RowKit

/-- A list of calls. -/
def Cas (w : World) (T : Nat → Prop) (v : Value) (l : List ACall) : Prop := Sl w T 10 v l.length (l.flatMap ACall.cells) ∧ ∀ x ∈ l, x.ok
theorem Cas.ext {w w' : World} {T : Nat → Prop} {v : Value} {l : List ACall} (h : Cas w T v l) (hm : Ext w w') : Cas w' T v l := ⟨h.1.ext hm, h.2⟩
theorem Cas.form {w : World} {T : Nat → Prop} {v : Value} {l : List ACall} (h : Cas w T v l) : ∃ A c, v = .slice A l.length c := by
  obtain ⟨⟨_, A, c, e, _⟩, _⟩ := h
  exact ⟨A, c, e⟩
theorem Cas.at {w : World} {T : Nat → Prop} {A : Option Addr} {n c : Nat} {l : List ACall} (h : Cas w T (.slice A n c) l) {i : Nat} (hi : i < n) :
    ∃ g off x, A = some ⟨g, off, none⟩ ∧ T g ∧ l[i]? = some x ∧ x.ok ∧ ∀ j u, x.cells[j]? = some u → w.cell? ⟨g, off + i * 10 + j, none⟩ = some u := by
  obtain ⟨⟨hl, A', c', e, hn, hc, hx⟩, hf⟩ := h
  injection e with e1 e2 e3; subst e1; subst e2; subst e3
  obtain ⟨g, off, rfl, hT, hcell⟩ := hx (by omega)
  have hget : l[i]? = some l[i] := List.getElem?_eq_getElem hi
  refine ⟨g, off, l[i], rfl, hT, hget, hf _ (List.getElem_mem hi), fun j u hu => ?_⟩
  have hj : j < 10 := (List.getElem?_eq_some_iff.1 hu).1
  rw [Nat.add_assoc]
  exact hcell _ u (by rw [flat_get (k := 10) (fun _ => rfl) l i j _ hget hj]; exact hu)

set_option maxRecDepth 100000 in
set_option maxHeartbeats 2000000 in
theorem l_grown7 (w : World) (T : Nat → Prop) (v : Value) (l : List ACall) (h : Cas w T v l) (hl : l.length ≤ 1000) :
    Calls Try.prog 25 #[v] w fun e w' => ∃ pv' v' m, e = .returned (.agg #[pv', v']) ∧ NewM w w' pv' v' m ∧ machB m = true ∧ Ext w w' := by
  obtain ⟨n, hn⟩ : ∃ n, l.length = n := ⟨_, rfl⟩
  obtain ⟨A, c, rfl⟩ := h.form
  rw [hn] at h hl ⊢
  clear hn
  obtain ⟨b, hb⟩ : ∃ b, w.heap.size = b := ⟨_, rfl⟩
  obtain ⟨W, hW⟩ : ∃ W, W = (w.alloc (.cells #[.slice none 0 0, .slice none 0 0] 25)).alloc (.cells #[.slice none 0 0, .slice none 0 0] 25) := ⟨_, rfl⟩
  obtain ⟨hR, hM, hsz⟩ := two_new w (.cells #[.slice none 0 0, .slice none 0 0] 25) (.cells #[.slice none 0 0, .slice none 0 0] 25)
  rw [← hW, hb] at hR hM hsz
  have hE : Ext w W := by rw [hW]; exact ((Mod.refl _ w).alloc _).alloc _
  have HW := Lib.hid hW
  have Hb := Lib.hid hb
  have HE := Lib.hid hE
  have HR := Lib.hid hR
  have HM := Lib.hid hM
  clear hW hb hE hR hM
  go_enter Try.func25, Try.ntmps25
  go_wp2
  rw [← HW.out, Hb.out]
  go_loopw [4] (fun iv wr => ∃ (i : Nat) (m : AMach) (A1 A2 : Option Addr) (c1 c2 : Nat), i ≤ n ∧ i ≤ 200 ∧ iv = .int .i64 i ∧ wr.heap[b + 1]? = some (.cells #[.slice A1 m.pairs.length c1, .slice A2 m.sess.length c2] 25 (0, 0)) ∧ NewM W wr (.slice A1 m.pairs.length c1) (.slice A2 m.sess.length c2) m ∧ machB m = true ∧ Mod (fun k => k = b + 1) W wr) (fun iv _ => n - (intOf iv).toNat)
  case atStart => exact ⟨0, mach0, none, none, 0, 0, by omega, by omega, rfl, HM.out, ⟨⟨World.ownsRow_nil _ _ _ _, by simp [mach0], by simp [Value.ownBlock]⟩, ⟨World.ownsRow_nil _ _ _ _, by simp [mach0], by simp [Value.ownBlock]⟩, by simp [Value.ownBlock]⟩, mach0_right, Mod.refl _ W⟩
  case round =>
    obtain ⟨i, m, A1, A2, c1, c2, hin, hi200, rfl, hB, hN, hr, hm⟩ := hrel
    have hX : Ext w wr := Mod.toExt ((Ext.mod HE.out (Since w.heap.size)).trans hm (fun k _ e => by have := Hb.out; unfold Since; omega))
    have hfar : ∀ g, ((Value.slice A1 m.pairs.length c1).ownBlock = some g ∨ (Value.slice A2 m.sess.length c2).ownBlock = some g) → b + 2 ≤ g := fun g hg => by
      rcases hg with hg | hg
      · have := hN.1.2.2 g hg; omega
      · have := hN.2.1.2.2 g hg; omega
    have HB := Lib.hid hB
    have HN := Lib.hid hN
    have Hr := Lib.hid hr
    have Hm := Lib.hid hm
    have HX := Lib.hid hX
    have Hfar := Lib.hid hfar
    have h2 := h.ext hX
    clear hB hN hr hm hX hfar
    by_cases hi : i < n
    · by_cases h200 : i < 200
      · obtain ⟨g, off, x, rfl, hgT, hx, hxok, hcells⟩ := h2.at hi
        have hi0 : (0 : Int) ≤ (i : Int) := by omega
        have hi1 : (i : Int) < (n : Int) := by omega
        have hlow : g < b := by
          obtain ⟨g', off', x', e, _, _, _, hc'⟩ := h.at hi
          injection e with e
          injection e with e1 e2
          have h9 : g' < w.heap.size := World.block_lt_of_cell? _ _ (hc' 0 _ rfl)
          have := Hb.out
          omega
        have x0 := hcells 0 _ rfl
        have x1 := hcells 1 _ rfl
        have x2 := hcells 2 _ rfl
        have x3 := hcells 3 _ rfl
        have x4 := hcells 4 _ rfl
        have x5 := hcells 5 _ rfl
        have x6 := hcells 6 _ rfl
        have x7 := hcells 7 _ rfl
        have x8 := hcells 8 _ rfl
        have x9 := hcells 9 _ rfl
        rw [Nat.add_zero] at x0
        have z3 := x3
        rw [show off + i * 10 + 3 = off + i * 10 + 2 + 1 by omega] at z3
        have z4 := x4
        rw [show off + i * 10 + 4 = off + i * 10 + 2 + 2 by omega] at z4
        have z5 := x5
        rw [show off + i * 10 + 5 = off + i * 10 + 2 + 3 by omega] at z5
        have z6 := x6
        rw [show off + i * 10 + 6 = off + i * 10 + 2 + 4 by omega] at z6
        have z7 := x7
        rw [show off + i * 10 + 7 = off + i * 10 + 2 + 5 by omega] at z7
        have z8 := x8
        rw [show off + i * 10 + 8 = off + i * 10 + 2 + 6 by omega] at z8
        have z9 := x9
        rw [show off + i * 10 + 9 = off + i * 10 + 2 + 7 by omega] at z9
        have Hxok := Lib.hid hxok
        clear hcells hx h2 hxok
        go_wp2_with fail
        refine (hv_cmd x.cmd _).mono ?_
        rintro e w1 ⟨rfl, hE1⟩
        have y0 := hE1.cell x0 id
        have y1 := hE1.cell x1 id
        have y2 := hE1.cell x2 id
        have y3 := hE1.cell x3 id
        have y4 := hE1.cell x4 id
        have y5 := hE1.cell x5 id
        have y6 := hE1.cell x6 id
        have y7 := hE1.cell x7 id
        have y8 := hE1.cell x8 id
        have y9 := hE1.cell x9 id
        have hB1 := hE1.blk HB.out id
        have hN1 := newM_mod HN.out hE1 (fun _ _ => id) (fun _ _ => id)
        have hm1 := Hm.out.ext hE1
        clear hE1 x0 x1 x2 x3 x4 x5 x6 x7 x8 x9 z3 z4 z5 z6 z7 z8 z9
        rcases hq : heavyCmd x.cmd with _ | _
        · have ngb : ¬ g = b + 1 := by omega
          have nbg : ¬ b + 1 = g := by omega
          have HB1 := Lib.hid hB1
          have HN1 := Lib.hid hN1
          have Hm1 := Lib.hid hm1
          clear hB1 hN1 hm1
          go_wp2_with fail
          rcases hr : onceP m x with ⟨M, r⟩
          have hR := once_right x Hr.out
          rw [hr] at hR
          have HR2 := Lib.hid hR
          have Hon := Lib.hid hr
          clear hR hr
          refine wp_region_held_drew (S := (fun W' => Mod (fun k => k = b + 1) w1 W' ∧ ∃ x y, W'.heap[b + 1]? = some (.cells #[x, y] 25 (0, 0)))) (by kernel_rfl) ⟨(Mod.refl _ w1).drew, _, _, HB1.out⟩ (fun hS => ?_)
          refine tkH 1 (some 25) rfl rfl ?_ hS ?_ ?_; rotate_left; · rintro W' ⟨hm', _⟩; go_simp; try with_reducible rfl
          try simp only [pL]
          refine tkH 2 (some 26) rfl rfl ?_ hS ?_ ?_; rotate_left; · rintro W' ⟨hm', _⟩; go_simp; try with_reducible rfl
          try simp only [pL]
          refine tkH 3 (some 27) rfl rfl ?_ hS ?_ ?_; rotate_left; · rintro W' ⟨hm', _⟩; go_simp; try with_reducible rfl
          try simp only [pL]
          refine takeH (i := 4) (v := ?_) (some 28) rfl rfl (by kernel_rfl) (by kernel_rfl) (by kernel_rfl) (fun _ _ _ h => h) (Or.inl ⟨by kernel_rfl, ?_⟩) hS ?_
          rotate_left
          · rintro W' ⟨hm', _⟩
            have q0 := hm'.cell y0 ngb
            have q1 := hm'.cell y1 ngb
            have q2 := hm'.cell y2 ngb
            have q3 := hm'.cell y3 ngb
            have q4 := hm'.cell y4 ngb
            have q5 := hm'.cell y5 ngb
            have q6 := hm'.cell y6 ngb
            have q7 := hm'.cell y7 ngb
            have q8 := hm'.cell y8 ngb
            have q9 := hm'.cell y9 ngb
            go_simp
            try with_reducible rfl
          try simp only [pL]
          refine wpAnyH_ready (rs := [0]) (by kernel_rfl) (by simp) ?_
          refine AllReadyH.cons rfl (fun K hK => ?_) AllReadyH.nil
          have m0 : w1.cell? ⟨b + 1, 0, none⟩ = some _ := blk_cell (cs := [.slice A1 m.pairs.length c1, .slice A2 m.sess.length c2]) HB1.out rfl
          have m1 : w1.cell? ⟨b + 1, 1, none⟩ = some _ := blk_cell (cs := [.slice A1 m.pairs.length c1, .slice A2 m.sess.length c2]) HB1.out rfl
          go_simp
          refine hK.out _ _ hS (fun hS => ?_)
          clear hK K m0 m1
          try simp only [pL]
          refine wpAnyH_ready (rs := [5]) (by kernel_rfl) (by simp) ?_
          refine AllReadyH.cons rfl (fun K hK => ?_) AllReadyH.nil
          go_simp
          go_wp2_with fail
          refine (r_once_at _ _ _ _ _ m x (HN1.out.prs.ext (Mod.refl _ _).drew) (HN1.out.ses.ext (Mod.refl _ _).drew) (mach_small Hr.out) Hxok.out.2.2.2.2.2 Hon.out).mono ?_
          rintro e w2 ⟨pv2, v2, rfl, hN2, hE2⟩
          obtain ⟨A3, c3, rfl⟩ := own_form hN2.1.1
          obtain ⟨A4, c4, rfl⟩ := own_form hN2.2.1.1
          have hB2 := hE2.blk HB1.out id
          have hX := (⟨hS.1.ext hE2, _, _, hB2⟩ : (fun W' : World => Mod (fun k => k = b + 1) w1 W' ∧ ∃ x y, W'.heap[b + 1]? = some (.cells #[x, y] 25 (0, 0))) w2)
          clear hS
          go_simp
          refine hK.out _ _ hX (fun hS => ?_)
          clear hK K hX
          try simp only [pL]
          refine tkH 6 (some 23) rfl rfl ?_ hS ?_ ?_; rotate_left; · rintro W' ⟨hm', _⟩; go_simp; try with_reducible rfl
          try simp only [pL]
          refine tkH 7 (some 30) rfl rfl ?_ hS ?_ ?_; rotate_left; · rintro W' ⟨hm', _⟩; go_simp; try with_reducible rfl
          try simp only [pL]
          refine tkH 8 (some 31) rfl rfl ?_ hS ?_ ?_; rotate_left; · rintro W' ⟨hm', _⟩; go_simp; try with_reducible rfl
          try simp only [pL]
          refine wpAnyH_ready (rs := [9]) (by kernel_rfl) (by simp) ?_
          refine AllReadyH.cons rfl (fun K hK => ?_) AllReadyH.nil
          have f0 : w2.frozen? ⟨b + 1, 0, none⟩ = false := blk_free 0 hB2
          have f1 : w2.frozen? ⟨b + 1, 1, none⟩ = false := blk_free 1 hB2
          have d0 : w2.cell? ⟨b + 1, 0, none⟩ = some _ := blk_cell (cs := [_, _]) hB2 rfl
          have d1 : w2.cell? ⟨b + 1, 1, none⟩ = some _ := blk_cell (cs := [_, _]) hB2 rfl
          have hB3 : ((w2.setCell ⟨b + 1, 0, none⟩ (.slice A3 M.pairs.length c3)).setCell ⟨b + 1, 1, none⟩ (.slice A4 M.sess.length c4)).heap[b + 1]? = some (.cells #[.slice A3 M.pairs.length c3, .slice A4 M.sess.length c4] 25 (0, 0)) := by simp [World.setCell, Array.getElem?_modify, hB2]
          have hM3 : Mod (fun k => k = b + 1) w2 ((w2.setCell ⟨b + 1, 0, none⟩ (.slice A3 M.pairs.length c3)).setCell ⟨b + 1, 1, none⟩ (.slice A4 M.sess.length c4)) := mod_same (mod_same (Mod.refl _ _) _ _) _ _
          have hX := (⟨hS.1.self hM3, _, _, hB3⟩ : (fun W' : World => Mod (fun k => k = b + 1) w1 W' ∧ ∃ x y, W'.heap[b + 1]? = some (.cells #[x, y] 25 (0, 0))) _)
          go_simp
          refine hK.out _ _ hX (fun hS => ?_)
          clear hK K hX
          refine wpAnyH_done (by kernel_rfl) ?_ _
          have hup := newM_up hN2 (show W.heap.size ≤ _ by have := Hm1.out.size; simpa using this)
          have hN3 := newM_mod hup hM3 (fun k hk e => by have := hup.1.2.2 k hk; omega) (fun k hk e => by have := hup.2.1.2.2 k hk; omega)
          have hm3 : Mod (fun k => k = b + 1) W _ := (Hm1.out.trans hS.1 (fun _ _ e => e))
          have HB3 := Lib.hid hB3
          have HN3 := Lib.hid hN3
          have Hm3 := Lib.hid hm3
          clear hB3 hM3 hup hN3 hm3 hS f0 f1 d0 d1 hB2 hN2 hE2 y0 y1 y2 y3 y4 y5 y6 y7 y8 y9
          go_wp2
          exact ⟨⟨i + 1, M, A3, A4, c3, c4, by omega, by omega, by go_num, HB3.out, HN3.out, HR2.out, Hm3.out⟩, by simp [intOf]; omega⟩
        · clear y0 y1 y2 y3 y4 y5 y6 y7 y8 y9
          have HB1 := Lib.hid hB1
          have HN1 := Lib.hid hN1
          have Hm1 := Lib.hid hm1
          clear hB1 hN1 hm1
          go_wp2
          exact ⟨⟨i + 1, m, A1, A2, c1, c2, by omega, by omega, by go_num, HB1.out, HN1.out, Hr.out, Hm1.out⟩, by simp [intOf]; omega⟩
      · clear h2
        have hR1 : wr.heap[b]? = some _ := Hm.out.blk HR.out (by omega)
        have m0 : wr.cell? ⟨b + 1, 0, none⟩ = some _ := blk_cell (cs := [.slice A1 m.pairs.length c1, .slice A2 m.sess.length c2]) HB.out rfl
        have m1 : wr.cell? ⟨b + 1, 1, none⟩ = some _ := blk_cell (cs := [.slice A1 m.pairs.length c1, .slice A2 m.sess.length c2]) HB.out rfl
        have r0 : wr.cell? ⟨b, 0, none⟩ = some _ := blk_cell (cs := [.slice none 0 0, .slice none 0 0]) hR1 rfl
        have r1 : wr.cell? ⟨b, 1, none⟩ = some _ := blk_cell (cs := [.slice none 0 0, .slice none 0 0]) hR1 rfl
        have f0 : wr.frozen? ⟨b, 0, none⟩ = false := blk_free 0 hR1
        have f1 : wr.frozen? ⟨b, 1, none⟩ = false := blk_free 1 hR1
        clear hR1
        go_wp2
        have hM3 : Mod (fun k => k = b) wr ((wr.setCell ⟨b, 0, none⟩ (.slice A1 m.pairs.length c1)).setCell ⟨b, 1, none⟩ (.slice A2 m.sess.length c2)) := mod_same (mod_same (Mod.refl _ _) _ _) _ _
        refine bodyPost_ret (v := .agg #[.slice A1 m.pairs.length c1, .slice A2 m.sess.length c2]) (by simp [results, Try.results25, go_sem, r0, r1]) rfl ⟨_, _, m, rfl, newM_mod (newM_up HN.out HE.out.size) hM3 (fun k hk e => by have := Hfar.out k (.inl hk); omega) (fun k hk e => by have := Hfar.out k (.inr hk); omega), Hr.out, ?_⟩
        exact Mod.toExt ((Ext.mod HX.out (Since w.heap.size)).trans hM3 (fun k _ e => by have := Hb.out; unfold Since; omega))
    · clear h2
      have hR1 : wr.heap[b]? = some _ := Hm.out.blk HR.out (by omega)
      have m0 : wr.cell? ⟨b + 1, 0, none⟩ = some _ := blk_cell (cs := [.slice A1 m.pairs.length c1, .slice A2 m.sess.length c2]) HB.out rfl
      have m1 : wr.cell? ⟨b + 1, 1, none⟩ = some _ := blk_cell (cs := [.slice A1 m.pairs.length c1, .slice A2 m.sess.length c2]) HB.out rfl
      have r0 : wr.cell? ⟨b, 0, none⟩ = some _ := blk_cell (cs := [.slice none 0 0, .slice none 0 0]) hR1 rfl
      have r1 : wr.cell? ⟨b, 1, none⟩ = some _ := blk_cell (cs := [.slice none 0 0, .slice none 0 0]) hR1 rfl
      have f0 : wr.frozen? ⟨b, 0, none⟩ = false := blk_free 0 hR1
      have f1 : wr.frozen? ⟨b, 1, none⟩ = false := blk_free 1 hR1
      clear hR1
      go_wp2
      have hM3 : Mod (fun k => k = b) wr ((wr.setCell ⟨b, 0, none⟩ (.slice A1 m.pairs.length c1)).setCell ⟨b, 1, none⟩ (.slice A2 m.sess.length c2)) := mod_same (mod_same (Mod.refl _ _) _ _) _ _
      refine bodyPost_ret (v := .agg #[.slice A1 m.pairs.length c1, .slice A2 m.sess.length c2]) (by simp [results, Try.results25, go_sem, r0, r1]) rfl ⟨_, _, m, rfl, newM_mod (newM_up HN.out HE.out.size) hM3 (fun k hk e => by have := Hfar.out k (.inl hk); omega) (fun k hk e => by have := Hfar.out k (.inr hk); omega), Hr.out, ?_⟩
      exact Mod.toExt ((Ext.mod HX.out (Since w.heap.size)).trans hM3 (fun k _ e => by have := Hb.out; unfold Since; omega))
end Go.Proofs.Ytplpegjnmlabkaa
