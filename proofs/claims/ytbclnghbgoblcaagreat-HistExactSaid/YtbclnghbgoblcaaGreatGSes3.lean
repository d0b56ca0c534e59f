/-
 Contracts of skerrylaw07.Heavy and skerrykeep.SpoilMachine. Conditions: as each theorem names them.
 The contract of skerrykeep.Machine. Conditions: as each theorem names them.
 The contract of skerrykeep.SpoilMachine. Conditions: as each theorem names them.
-/
import Derived.Test.YtbclnghbgoblcaaGreatGSes
import Derived.Test.YtbclnghbgoblcaaGreatKvLib
import Derived.Test.YtbclnghbgoblcaaGreatGGet
import Derived.Test.YtbclnghbgoblcaaGreatGSes2
namespace Go.Proofs.YtbclnghbgoblcaaGreat
set_option linter.unusedSimpArgs false
open Go.RowKit

end Go.Proofs.YtbclnghbgoblcaaGreat

namespace Go.Proofs.YtbclnghbgoblcaaGreat
set_option linter.unusedSimpArgs false
open Go.RowKit

def eqSess (a b : ASess) : Bool := a.client == b.client && a.seq == b.seq && eqReply a.reply b.reply
def eqM (a b : AMach) : Bool := eqPrs a.pairs b.pairs && eqL eqSess a.sess b.sess
theorem eqM_no1 {a b : AMach} (h : eqPrs a.pairs b.pairs = false) : eqM a b = false := by unfold eqM; rw [h]; rfl
theorem eqM_no2 {a b : AMach} (h : eqL eqSess a.sess b.sess = false) : eqM a b = false := by unfold eqM; rw [h, Bool.and_false]
theorem eqM_yes {a b : AMach} (h : eqPrs a.pairs b.pairs = true) (h2 : eqL eqSess a.sess b.sess = true) : eqM a b = true := by unfold eqM; rw [h, h2]; rfl

set_option maxRecDepth 100000 in
set_option maxHeartbeats 8000000 in
theorem k_machine (w : World) (T U T' U' : Nat → Prop) (pa pb va vb : Value) (p q : List APair) (la lb : List ASess) (hP : Prs w U pa p) (hQ : Prs w U' pb q) (ha : Ses w T va la) (hb : Ses w T' vb lb) :
  Calls Tryz.prog 10 #[.agg #[pa, va], .agg #[pb, vb]] w fun e w' => e = .returned (.bool (eqM ⟨p, la⟩ ⟨q, lb⟩)) ∧ Ext w w' := by
 obtain ⟨n, hn⟩ : ∃ n, la.length = n := ⟨_, rfl⟩
 obtain ⟨m, hm⟩ : ∃ m, lb.length = m := ⟨_, rfl⟩
 obtain ⟨A, c, rfl⟩ := ha.form
 obtain ⟨A', c', rfl⟩ := hb.form
 have hla := ha.1.le
 have hlb := hb.1.le
 unfold maxLen at hla hlb
 rw [hn] at ha hla ⊢
 rw [hm] at hb hlb ⊢
 have Hn := Lib.hid hn
 have Hm := Lib.hid hm
 clear hn hm
 obtain ⟨b, hb0⟩ : ∃ b, w.heap.size = b := ⟨_, rfl⟩
 obtain ⟨W, hW⟩ : ∃ W, W = (w.alloc (.cells #[pa, .slice A n c] 33)).alloc (.cells #[pb, .slice A' m c'] 33) := ⟨_, rfl⟩
 obtain ⟨hA, hB, hsz⟩ := two_new w (.cells #[pa, .slice A n c] 33) (.cells #[pb, .slice A' m c'] 33)
 rw [← hW, hb0] at hA hB hsz
 have hE : Ext w W := by rw [hW]; exact ((Mod.refl _ w).alloc _).alloc _
 have HW := Lib.hid hW
 have Hb := Lib.hid hb0
 have hP2 := hP.ext hE
 have hQ2 := hQ.ext hE
 have a0 : W.cell? ⟨b, 0, none⟩ = some _ := blk_cell (cs := [pa, .slice A n c]) hA rfl
 have b0 : W.cell? ⟨b + 1, 0, none⟩ = some _ := blk_cell (cs := [pb, .slice A' m c']) hB rfl
 have a1 : W.cell? ⟨b, 1, none⟩ = some (.slice A n c) := blk_cell (cs := [pa, .slice A n c]) hA rfl
 have b1 : W.cell? ⟨b + 1, 1, none⟩ = some (.slice A' m c') := blk_cell (cs := [pb, .slice A' m c']) hB rfl
 clear hA hB hW hb0 hsz
 go_enter Tryz.func10, Tryz.ntmps10
 go_wp2_with fail
 rw [← HW.out, Hb.out]
 refine (k_pairs W U U' pa pb p q hP2 hQ2).mono ?_
 rintro e w1 ⟨rfl, hE1⟩
 have hE2 := Mod.ext hE hE1
 have m1 := hE1.cell a1 id
 have m2 := hE1.cell b1 id
 have ha1 := ha.ext hE2
 have hb1 := hb.ext hE2
 have HE := Lib.hid hE2
 clear a0 b0 a1 b1 hP2 hQ2 hE hE1 hE2 ha hb hP hQ
 rcases hp : eqPrs p q with _ | _
 ·
  have Hf : Hid (eqM ⟨p, la⟩ ⟨q, lb⟩ = false) := Lib.hid (eqM_no1 hp)
  go_wp2
  go_ret
  exact ⟨ret_bool Hf.out.symm, HE.out⟩
 have Hp := Lib.hid hp
 clear hp
 by_cases hnm : n = m
 case neg =>
  have hnb : ((n : Int) != (m : Int)) = true := by simp; omega
  have Hf : Hid (eqM ⟨p, la⟩ ⟨q, lb⟩ = false) := Lib.hid (eqM_no2 (eqL_len (by rw [Hn.out, Hm.out]; exact hnm)))
  go_wp2
  go_ret
  exact ⟨ret_bool Hf.out.symm, HE.out⟩
 subst hnm
 have hnb : ((n : Int) != (n : Int)) = false := by simp
 go_wp2
 go_loopw [5] (fun iv wr => ∃ i : Nat, i ≤ n ∧ iv = .int .i64 i ∧ Ext w1 wr ∧ ∀ j < i, ∀ x y, la[j]? = some x → lb[j]? = some y → eqSess x y = true) (fun iv _ => n - (intOf iv).toNat)
 case atStart => exact ⟨0, by omega, rfl, Mod.refl _ w1, fun j hj => by omega⟩
 case round =>
  obtain ⟨i, hin, rfl, hE, hs⟩ := hrel
  have Hs := Lib.hid hs
  have ha2 := ha1.ext hE
  have hb2 := hb1.ext hE
  have n1 := hE.cell m1 id
  have n2 := hE.cell m2 id
  clear hs
  by_cases hi : i < n
  ·
   obtain ⟨g, off, x, rfl, hgT, hx, hxok, hcells⟩ := ha2.at hi
   obtain ⟨g', off', y, rfl, hgT', hy, hyok, hcells'⟩ := hb2.at hi
   have hi0 : (0 : Int) ≤ (i : Int) := by omega
   have hi1 : (i : Int) < (n : Int) := by omega
   have x0 := hcells 0 _ rfl
   have x1 := hcells 1 _ rfl
   have x2 := hcells 2 _ rfl
   have x3 := hcells 3 _ rfl
   have x4 := hcells 4 _ rfl
   have x5 := hcells 5 _ rfl
   have y0 := hcells' 0 _ rfl
   have y1 := hcells' 1 _ rfl
   have y2 := hcells' 2 _ rfl
   have y3 := hcells' 3 _ rfl
   have y4 := hcells' 4 _ rfl
   have y5 := hcells' 5 _ rfl
   rw [Nat.add_zero] at x0 y0
   have Hx := Lib.hid hx
   have Hy := Lib.hid hy
   clear hcells hcells' hx hy ha2 hb2 hxok hyok ha1 hb1
   go_wp2_with fail
   rcases hk : (x.client == y.client) with _ | _
   ·
    have Hf : Hid (eqM ⟨p, la⟩ ⟨q, lb⟩ = false) := Lib.hid (eqM_no2 (eqL_no Hx.out Hy.out (by unfold eqSess; rw [hk]; rfl)))
    have hk' : (x.client != y.client) = true := by simpa using hk
    refine wp_region_held_drew (S := (fun W' => Ext w1 W' ∧ W'.cell? ⟨b, 1, none⟩ = some (.slice (some ⟨g, off, none⟩) n c) ∧ W'.cell? ⟨b + 1, 1, none⟩ = some (.slice (some ⟨g', off', none⟩) n c') ∧ W'.cell? ⟨g, off + i * 6, none⟩ = some (.int .i64 x.client) ∧ W'.cell? ⟨g, off + i * 6 + 1, none⟩ = some (.int .i64 x.seq) ∧ W'.cell? ⟨g, off + i * 6 + 2, none⟩ = some (.int .i64 x.reply.code) ∧ W'.cell? ⟨g, off + i * 6 + 3, none⟩ = some (.int .i64 x.reply.val.kind) ∧ W'.cell? ⟨g, off + i * 6 + 4, none⟩ = some (.float .f64 x.reply.val.num) ∧ W'.cell? ⟨g, off + i * 6 + 5, none⟩ = some (.string x.reply.val.text) ∧ W'.cell? ⟨g', off' + i * 6, none⟩ = some (.int .i64 y.client) ∧ W'.cell? ⟨g', off' + i * 6 + 1, none⟩ = some (.int .i64 y.seq) ∧ W'.cell? ⟨g', off' + i * 6 + 2, none⟩ = some (.int .i64 y.reply.code) ∧ W'.cell? ⟨g', off' + i * 6 + 3, none⟩ = some (.int .i64 y.reply.val.kind) ∧ W'.cell? ⟨g', off' + i * 6 + 4, none⟩ = some (.float .f64 y.reply.val.num) ∧ W'.cell? ⟨g', off' + i * 6 + 5, none⟩ = some (.string y.reply.val.text))) (by kernel_rfl) ⟨hE.drew, n1, n2, x0, x1, x2, x3, x4, x5, y0, y1, y2, y3, y4, y5⟩ (fun hS => ?_)
    refine tkH 0 (some 28) rfl rfl ?_ hS ?_ ?_; rotate_left; · rintro W' ⟨_,_,_,_,_,_,_,_,_,_,_,_,_,_,_⟩; go_simp; try with_reducible rfl
    try simp only [pL]
    refine tkH 1 (some 29) rfl rfl ?_ hS ?_ ?_; rotate_left; · rintro W' ⟨_,_,_,_,_,_,_,_,_,_,_,_,_,_,_⟩; go_simp; try with_reducible rfl
    try simp only [pL]
    refine tkH 2 (some 30) rfl rfl ?_ hS ?_ ?_; rotate_left; · rintro W' ⟨_,_,_,_,_,_,_,_,_,_,_,_,_,_,_⟩; go_simp; try with_reducible rfl
    try simp only [pL]
    refine tkH 3 (some 31) rfl rfl ?_ hS ?_ ?_; rotate_left; · rintro W' ⟨_,_,_,_,_,_,_,_,_,_,_,_,_,_,_⟩; go_simp; try with_reducible rfl
    try simp only [pL]
    refine tkH 4 (some 32) rfl rfl ?_ hS ?_ ?_; rotate_left; · rintro W' ⟨_,_,_,_,_,_,_,_,_,_,_,_,_,_,_⟩; go_simp; try with_reducible rfl
    try simp only [pL]
    refine tkH 5 (some 33) rfl rfl ?_ hS ?_ ?_; rotate_left; · rintro W' ⟨_,_,_,_,_,_,_,_,_,_,_,_,_,_,_⟩; go_simp; try with_reducible rfl
    try simp only [pL]
    refine tkH 6 (some 34) rfl rfl ?_ hS ?_ ?_; rotate_left; · rintro W' ⟨_,_,_,_,_,_,_,_,_,_,_,_,_,_,_⟩; go_simp; try with_reducible rfl
    try simp only [pL]
    refine tkH 7 (some 35) rfl rfl ?_ hS ?_ ?_; rotate_left; · rintro W' ⟨_,_,_,_,_,_,_,_,_,_,_,_,_,_,_⟩; go_simp; try with_reducible rfl
    try simp only [pL]
    refine tkH 8 (some 36) rfl rfl ?_ hS ?_ ?_; rotate_left; · rintro W' ⟨_,_,_,_,_,_,_,_,_,_,_,_,_,_,_⟩; go_simp; try with_reducible rfl
    try simp only [pL]
    refine tkH 9 (some 37) rfl rfl ?_ hS ?_ ?_; rotate_left; · rintro W' ⟨_,_,_,_,_,_,_,_,_,_,_,_,_,_,_⟩; go_simp; try with_reducible rfl
    try simp only [pL]
    refine tkH 10 (some 38) rfl rfl ?_ hS ?_ ?_; rotate_left; · rintro W' ⟨_,_,_,_,_,_,_,_,_,_,_,_,_,_,_⟩; go_simp; try with_reducible rfl
    try simp only [pL]
    refine tkH 11 (some 39) rfl rfl ?_ hS ?_ ?_; rotate_left; · rintro W' ⟨_,_,_,_,_,_,_,_,_,_,_,_,_,_,_⟩; go_simp; try with_reducible rfl
    try simp only [pL]
    refine tkH 12 (some 40) rfl rfl ?_ hS ?_ ?_; rotate_left; · rintro W' ⟨_,_,_,_,_,_,_,_,_,_,_,_,_,_,_⟩; go_simp; try with_reducible rfl
    try simp only [pL]
    refine tkH 13 (some 41) rfl rfl ?_ hS ?_ ?_; rotate_left; · rintro W' ⟨_,_,_,_,_,_,_,_,_,_,_,_,_,_,_⟩; go_simp; try with_reducible rfl
    try simp only [pL]
    refine tuH 14 (some 42) rfl rfl hS ?_
    try simp only [pL]
    refine tuH 15 (some 43) rfl rfl hS ?_
    try simp only [pL]
    refine tuH 16 (some 44) rfl rfl hS ?_
    try simp only [pL]
    refine tuH 17 (some 45) rfl rfl hS ?_
    try simp only [pL]
    refine tuH 18 (some 46) rfl rfl hS ?_
    try simp only [pL]
    refine tuH 19 (some 47) rfl rfl hS ?_
    try simp only [pL]
    refine tuH 20 (some 48) rfl rfl hS ?_
    try simp only [pL]
    refine tuH 21 (some 49) rfl rfl hS ?_
    try simp only [pL]
    refine tuH 22 (some 50) rfl rfl hS ?_
    try simp only [pL]
    refine tuH 23 (some 51) rfl rfl hS ?_
    try simp only [pL]
    refine tuH 24 (some 52) rfl rfl hS ?_
    try simp only [pL]
    refine tuH 25 (some 53) rfl rfl hS ?_
    try simp only [pL]
    refine tuH 26 (some 54) rfl rfl hS ?_
    try simp only [pL]
    refine tkH 27 (some 55) rfl rfl ?_ hS ?_ ?_; rotate_left; · rintro W' ⟨_,_,_,_,_,_,_,_,_,_,_,_,_,_,_⟩; go_simp; try with_reducible rfl
    try simp only [pL]
    refine tkH 28 (some 56) rfl rfl ?_ hS ?_ ?_; rotate_left; · rintro W' ⟨_,_,_,_,_,_,_,_,_,_,_,_,_,_,_⟩; go_simp; try with_reducible rfl
    try simp only [pL]
    refine tuH 29 (some 57) rfl rfl hS ?_
    try simp only [pL]
    refine tuH 30 (some 58) rfl rfl hS ?_
    try simp only [pL]
    refine tuH 31 (some 59) rfl rfl hS ?_
    try simp only [pL]
    refine tuH 32 (some 60) rfl rfl hS ?_
    try simp only [pL]
    refine tuH 33 (some 61) rfl rfl hS ?_
    try simp only [pL]
    refine tuH 34 (some 62) rfl rfl hS ?_
    try simp only [pL]
    refine tuH 35 (some 63) rfl rfl hS ?_
    try simp only [pL]
    refine tuH 36 (some 64) rfl rfl hS ?_
    try simp only [pL]
    refine tuH 37 (some 65) rfl rfl hS ?_
    try simp only [pL]
    refine tuH 38 (some 66) rfl rfl hS ?_
    try simp only [pL]
    refine tuH 39 (some 67) rfl rfl hS ?_
    try simp only [pL]
    refine tuH 40 (some 68) rfl rfl hS ?_
    try simp only [pL]
    refine tuH 41 (some 69) rfl rfl hS ?_
    try simp only [pL]
    refine tuH 42 (some 70) rfl rfl hS ?_
    try simp only [pL]
    refine tkH 43 (some 71) rfl rfl ?_ hS ?_ ?_; rotate_left; · rintro W' ⟨_,_,_,_,_,_,_,_,_,_,_,_,_,_,_⟩; go_simp; try with_reducible rfl
    try simp only [pL]
    refine wpAnyH_done (by kernel_rfl) ?_ _
    go_wp2
    go_ret
    exact ⟨ret_bool Hf.out.symm, Mod.ext HE.out hS.1⟩
   have hk' : (x.client != y.client) = false := by simpa using hk
   rcases hk2 : (x.seq == y.seq) with _ | _
   ·
    have Hf : Hid (eqM ⟨p, la⟩ ⟨q, lb⟩ = false) := Lib.hid (eqM_no2 (eqL_no Hx.out Hy.out (by unfold eqSess; rw [hk2]; simp)))
    have hk2' : (x.seq != y.seq) = true := by simpa using hk2
    refine wp_region_held_drew (S := (fun W' => Ext w1 W' ∧ W'.cell? ⟨b, 1, none⟩ = some (.slice (some ⟨g, off, none⟩) n c) ∧ W'.cell? ⟨b + 1, 1, none⟩ = some (.slice (some ⟨g', off', none⟩) n c') ∧ W'.cell? ⟨g, off + i * 6, none⟩ = some (.int .i64 x.client) ∧ W'.cell? ⟨g, off + i * 6 + 1, none⟩ = some (.int .i64 x.seq) ∧ W'.cell? ⟨g, off + i * 6 + 2, none⟩ = some (.int .i64 x.reply.code) ∧ W'.cell? ⟨g, off + i * 6 + 3, none⟩ = some (.int .i64 x.reply.val.kind) ∧ W'.cell? ⟨g, off + i * 6 + 4, none⟩ = some (.float .f64 x.reply.val.num) ∧ W'.cell? ⟨g, off + i * 6 + 5, none⟩ = some (.string x.reply.val.text) ∧ W'.cell? ⟨g', off' + i * 6, none⟩ = some (.int .i64 y.client) ∧ W'.cell? ⟨g', off' + i * 6 + 1, none⟩ = some (.int .i64 y.seq) ∧ W'.cell? ⟨g', off' + i * 6 + 2, none⟩ = some (.int .i64 y.reply.code) ∧ W'.cell? ⟨g', off' + i * 6 + 3, none⟩ = some (.int .i64 y.reply.val.kind) ∧ W'.cell? ⟨g', off' + i * 6 + 4, none⟩ = some (.float .f64 y.reply.val.num) ∧ W'.cell? ⟨g', off' + i * 6 + 5, none⟩ = some (.string y.reply.val.text))) (by kernel_rfl) ⟨hE.drew, n1, n2, x0, x1, x2, x3, x4, x5, y0, y1, y2, y3, y4, y5⟩ (fun hS => ?_)
    refine tkH 0 (some 28) rfl rfl ?_ hS ?_ ?_; rotate_left; · rintro W' ⟨_,_,_,_,_,_,_,_,_,_,_,_,_,_,_⟩; go_simp; try with_reducible rfl
    try simp only [pL]
    refine tkH 1 (some 29) rfl rfl ?_ hS ?_ ?_; rotate_left; · rintro W' ⟨_,_,_,_,_,_,_,_,_,_,_,_,_,_,_⟩; go_simp; try with_reducible rfl
    try simp only [pL]
    refine tkH 2 (some 30) rfl rfl ?_ hS ?_ ?_; rotate_left; · rintro W' ⟨_,_,_,_,_,_,_,_,_,_,_,_,_,_,_⟩; go_simp; try with_reducible rfl
    try simp only [pL]
    refine tkH 3 (some 31) rfl rfl ?_ hS ?_ ?_; rotate_left; · rintro W' ⟨_,_,_,_,_,_,_,_,_,_,_,_,_,_,_⟩; go_simp; try with_reducible rfl
    try simp only [pL]
    refine tkH 4 (some 32) rfl rfl ?_ hS ?_ ?_; rotate_left; · rintro W' ⟨_,_,_,_,_,_,_,_,_,_,_,_,_,_,_⟩; go_simp; try with_reducible rfl
    try simp only [pL]
    refine tkH 5 (some 33) rfl rfl ?_ hS ?_ ?_; rotate_left; · rintro W' ⟨_,_,_,_,_,_,_,_,_,_,_,_,_,_,_⟩; go_simp; try with_reducible rfl
    try simp only [pL]
    refine tkH 6 (some 34) rfl rfl ?_ hS ?_ ?_; rotate_left; · rintro W' ⟨_,_,_,_,_,_,_,_,_,_,_,_,_,_,_⟩; go_simp; try with_reducible rfl
    try simp only [pL]
    refine tkH 7 (some 35) rfl rfl ?_ hS ?_ ?_; rotate_left; · rintro W' ⟨_,_,_,_,_,_,_,_,_,_,_,_,_,_,_⟩; go_simp; try with_reducible rfl
    try simp only [pL]
    refine tkH 8 (some 36) rfl rfl ?_ hS ?_ ?_; rotate_left; · rintro W' ⟨_,_,_,_,_,_,_,_,_,_,_,_,_,_,_⟩; go_simp; try with_reducible rfl
    try simp only [pL]
    refine tkH 9 (some 37) rfl rfl ?_ hS ?_ ?_; rotate_left; · rintro W' ⟨_,_,_,_,_,_,_,_,_,_,_,_,_,_,_⟩; go_simp; try with_reducible rfl
    try simp only [pL]
    refine tkH 10 (some 38) rfl rfl ?_ hS ?_ ?_; rotate_left; · rintro W' ⟨_,_,_,_,_,_,_,_,_,_,_,_,_,_,_⟩; go_simp; try with_reducible rfl
    try simp only [pL]
    refine tkH 11 (some 39) rfl rfl ?_ hS ?_ ?_; rotate_left; · rintro W' ⟨_,_,_,_,_,_,_,_,_,_,_,_,_,_,_⟩; go_simp; try with_reducible rfl
    try simp only [pL]
    refine tkH 12 (some 40) rfl rfl ?_ hS ?_ ?_; rotate_left; · rintro W' ⟨_,_,_,_,_,_,_,_,_,_,_,_,_,_,_⟩; go_simp; try with_reducible rfl
    try simp only [pL]
    refine tkH 13 (some 41) rfl rfl ?_ hS ?_ ?_; rotate_left; · rintro W' ⟨_,_,_,_,_,_,_,_,_,_,_,_,_,_,_⟩; go_simp; try with_reducible rfl
    try simp only [pL]
    refine tkH 14 (some 42) rfl rfl ?_ hS ?_ ?_; rotate_left; · rintro W' ⟨_,_,_,_,_,_,_,_,_,_,_,_,_,_,_⟩; go_simp; try with_reducible rfl
    try simp only [pL]
    refine tkH 15 (some 43) rfl rfl ?_ hS ?_ ?_; rotate_left; · rintro W' ⟨_,_,_,_,_,_,_,_,_,_,_,_,_,_,_⟩; go_simp; try with_reducible rfl
    try simp only [pL]
    refine tkH 16 (some 44) rfl rfl ?_ hS ?_ ?_; rotate_left; · rintro W' ⟨_,_,_,_,_,_,_,_,_,_,_,_,_,_,_⟩; go_simp; try with_reducible rfl
    try simp only [pL]
    refine tkH 17 (some 45) rfl rfl ?_ hS ?_ ?_; rotate_left; · rintro W' ⟨_,_,_,_,_,_,_,_,_,_,_,_,_,_,_⟩; go_simp; try with_reducible rfl
    try simp only [pL]
    refine tkH 18 (some 46) rfl rfl ?_ hS ?_ ?_; rotate_left; · rintro W' ⟨_,_,_,_,_,_,_,_,_,_,_,_,_,_,_⟩; go_simp; try with_reducible rfl
    try simp only [pL]
    refine tkH 19 (some 47) rfl rfl ?_ hS ?_ ?_; rotate_left; · rintro W' ⟨_,_,_,_,_,_,_,_,_,_,_,_,_,_,_⟩; go_simp; try with_reducible rfl
    try simp only [pL]
    refine tkH 20 (some 48) rfl rfl ?_ hS ?_ ?_; rotate_left; · rintro W' ⟨_,_,_,_,_,_,_,_,_,_,_,_,_,_,_⟩; go_simp; try with_reducible rfl
    try simp only [pL]
    refine tkH 21 (some 49) rfl rfl ?_ hS ?_ ?_; rotate_left; · rintro W' ⟨_,_,_,_,_,_,_,_,_,_,_,_,_,_,_⟩; go_simp; try with_reducible rfl
    try simp only [pL]
    refine tkH 22 (some 50) rfl rfl ?_ hS ?_ ?_; rotate_left; · rintro W' ⟨_,_,_,_,_,_,_,_,_,_,_,_,_,_,_⟩; go_simp; try with_reducible rfl
    try simp only [pL]
    refine tkH 23 (some 51) rfl rfl ?_ hS ?_ ?_; rotate_left; · rintro W' ⟨_,_,_,_,_,_,_,_,_,_,_,_,_,_,_⟩; go_simp; try with_reducible rfl
    try simp only [pL]
    refine tkH 24 (some 52) rfl rfl ?_ hS ?_ ?_; rotate_left; · rintro W' ⟨_,_,_,_,_,_,_,_,_,_,_,_,_,_,_⟩; go_simp; try with_reducible rfl
    try simp only [pL]
    refine tkH 25 (some 53) rfl rfl ?_ hS ?_ ?_; rotate_left; · rintro W' ⟨_,_,_,_,_,_,_,_,_,_,_,_,_,_,_⟩; go_simp; try with_reducible rfl
    try simp only [pL]
    refine tkH 26 (some 54) rfl rfl ?_ hS ?_ ?_; rotate_left; · rintro W' ⟨_,_,_,_,_,_,_,_,_,_,_,_,_,_,_⟩; go_simp; try with_reducible rfl
    try simp only [pL]
    refine tkH 27 (some 55) rfl rfl ?_ hS ?_ ?_; rotate_left; · rintro W' ⟨_,_,_,_,_,_,_,_,_,_,_,_,_,_,_⟩; go_simp; try with_reducible rfl
    try simp only [pL]
    refine tkH 28 (some 56) rfl rfl ?_ hS ?_ ?_; rotate_left; · rintro W' ⟨_,_,_,_,_,_,_,_,_,_,_,_,_,_,_⟩; go_simp; try with_reducible rfl
    try simp only [pL]
    refine tuH 29 (some 57) rfl rfl hS ?_
    try simp only [pL]
    refine tuH 30 (some 58) rfl rfl hS ?_
    try simp only [pL]
    refine tuH 31 (some 59) rfl rfl hS ?_
    try simp only [pL]
    refine tuH 32 (some 60) rfl rfl hS ?_
    try simp only [pL]
    refine tuH 33 (some 61) rfl rfl hS ?_
    try simp only [pL]
    refine tuH 34 (some 62) rfl rfl hS ?_
    try simp only [pL]
    refine tuH 35 (some 63) rfl rfl hS ?_
    try simp only [pL]
    refine tuH 36 (some 64) rfl rfl hS ?_
    try simp only [pL]
    refine tuH 37 (some 65) rfl rfl hS ?_
    try simp only [pL]
    refine tuH 38 (some 66) rfl rfl hS ?_
    try simp only [pL]
    refine tuH 39 (some 67) rfl rfl hS ?_
    try simp only [pL]
    refine tuH 40 (some 68) rfl rfl hS ?_
    try simp only [pL]
    refine tuH 41 (some 69) rfl rfl hS ?_
    try simp only [pL]
    refine tuH 42 (some 70) rfl rfl hS ?_
    try simp only [pL]
    refine tkH 43 (some 71) rfl rfl ?_ hS ?_ ?_; rotate_left; · rintro W' ⟨_,_,_,_,_,_,_,_,_,_,_,_,_,_,_⟩; go_simp; try with_reducible rfl
    try simp only [pL]
    refine wpAnyH_done (by kernel_rfl) ?_ _
    go_wp2
    go_ret
    exact ⟨ret_bool Hf.out.symm, Mod.ext HE.out hS.1⟩
   have hk2' : (x.seq != y.seq) = false := by simpa using hk2
   rcases hq : eqReply x.reply y.reply with _ | _
   ·
    have Hf : Hid (eqM ⟨p, la⟩ ⟨q, lb⟩ = false) := Lib.hid (eqM_no2 (eqL_no Hx.out Hy.out (by unfold eqSess; rw [hk, hk2, hq]; rfl)))
    refine wp_region_held_drew (S := (fun W' => Ext w1 W' ∧ W'.cell? ⟨b, 1, none⟩ = some (.slice (some ⟨g, off, none⟩) n c) ∧ W'.cell? ⟨b + 1, 1, none⟩ = some (.slice (some ⟨g', off', none⟩) n c') ∧ W'.cell? ⟨g, off + i * 6, none⟩ = some (.int .i64 x.client) ∧ W'.cell? ⟨g, off + i * 6 + 1, none⟩ = some (.int .i64 x.seq) ∧ W'.cell? ⟨g, off + i * 6 + 2, none⟩ = some (.int .i64 x.reply.code) ∧ W'.cell? ⟨g, off + i * 6 + 3, none⟩ = some (.int .i64 x.reply.val.kind) ∧ W'.cell? ⟨g, off + i * 6 + 4, none⟩ = some (.float .f64 x.reply.val.num) ∧ W'.cell? ⟨g, off + i * 6 + 5, none⟩ = some (.string x.reply.val.text) ∧ W'.cell? ⟨g', off' + i * 6, none⟩ = some (.int .i64 y.client) ∧ W'.cell? ⟨g', off' + i * 6 + 1, none⟩ = some (.int .i64 y.seq) ∧ W'.cell? ⟨g', off' + i * 6 + 2, none⟩ = some (.int .i64 y.reply.code) ∧ W'.cell? ⟨g', off' + i * 6 + 3, none⟩ = some (.int .i64 y.reply.val.kind) ∧ W'.cell? ⟨g', off' + i * 6 + 4, none⟩ = some (.float .f64 y.reply.val.num) ∧ W'.cell? ⟨g', off' + i * 6 + 5, none⟩ = some (.string y.reply.val.text))) (by kernel_rfl) ⟨hE.drew, n1, n2, x0, x1, x2, x3, x4, x5, y0, y1, y2, y3, y4, y5⟩ (fun hS => ?_)
    refine tkH 0 (some 28) rfl rfl ?_ hS ?_ ?_; rotate_left; · rintro W' ⟨_,_,_,_,_,_,_,_,_,_,_,_,_,_,_⟩; go_simp; try with_reducible rfl
    try simp only [pL]
    refine tkH 1 (some 29) rfl rfl ?_ hS ?_ ?_; rotate_left; · rintro W' ⟨_,_,_,_,_,_,_,_,_,_,_,_,_,_,_⟩; go_simp; try with_reducible rfl
    try simp only [pL]
    refine tkH 2 (some 30) rfl rfl ?_ hS ?_ ?_; rotate_left; · rintro W' ⟨_,_,_,_,_,_,_,_,_,_,_,_,_,_,_⟩; go_simp; try with_reducible rfl
    try simp only [pL]
    refine tkH 3 (some 31) rfl rfl ?_ hS ?_ ?_; rotate_left; · rintro W' ⟨_,_,_,_,_,_,_,_,_,_,_,_,_,_,_⟩; go_simp; try with_reducible rfl
    try simp only [pL]
    refine tkH 4 (some 32) rfl rfl ?_ hS ?_ ?_; rotate_left; · rintro W' ⟨_,_,_,_,_,_,_,_,_,_,_,_,_,_,_⟩; go_simp; try with_reducible rfl
    try simp only [pL]
    refine tkH 5 (some 33) rfl rfl ?_ hS ?_ ?_; rotate_left; · rintro W' ⟨_,_,_,_,_,_,_,_,_,_,_,_,_,_,_⟩; go_simp; try with_reducible rfl
    try simp only [pL]
    refine tkH 6 (some 34) rfl rfl ?_ hS ?_ ?_; rotate_left; · rintro W' ⟨_,_,_,_,_,_,_,_,_,_,_,_,_,_,_⟩; go_simp; try with_reducible rfl
    try simp only [pL]
    refine tkH 7 (some 35) rfl rfl ?_ hS ?_ ?_; rotate_left; · rintro W' ⟨_,_,_,_,_,_,_,_,_,_,_,_,_,_,_⟩; go_simp; try with_reducible rfl
    try simp only [pL]
    refine tkH 8 (some 36) rfl rfl ?_ hS ?_ ?_; rotate_left; · rintro W' ⟨_,_,_,_,_,_,_,_,_,_,_,_,_,_,_⟩; go_simp; try with_reducible rfl
    try simp only [pL]
    refine tkH 9 (some 37) rfl rfl ?_ hS ?_ ?_; rotate_left; · rintro W' ⟨_,_,_,_,_,_,_,_,_,_,_,_,_,_,_⟩; go_simp; try with_reducible rfl
    try simp only [pL]
    refine tkH 10 (some 38) rfl rfl ?_ hS ?_ ?_; rotate_left; · rintro W' ⟨_,_,_,_,_,_,_,_,_,_,_,_,_,_,_⟩; go_simp; try with_reducible rfl
    try simp only [pL]
    refine tkH 11 (some 39) rfl rfl ?_ hS ?_ ?_; rotate_left; · rintro W' ⟨_,_,_,_,_,_,_,_,_,_,_,_,_,_,_⟩; go_simp; try with_reducible rfl
    try simp only [pL]
    refine tkH 12 (some 40) rfl rfl ?_ hS ?_ ?_; rotate_left; · rintro W' ⟨_,_,_,_,_,_,_,_,_,_,_,_,_,_,_⟩; go_simp; try with_reducible rfl
    try simp only [pL]
    refine tkH 13 (some 41) rfl rfl ?_ hS ?_ ?_; rotate_left; · rintro W' ⟨_,_,_,_,_,_,_,_,_,_,_,_,_,_,_⟩; go_simp; try with_reducible rfl
    try simp only [pL]
    refine tkH 14 (some 42) rfl rfl ?_ hS ?_ ?_; rotate_left; · rintro W' ⟨_,_,_,_,_,_,_,_,_,_,_,_,_,_,_⟩; go_simp; try with_reducible rfl
    try simp only [pL]
    refine tkH 15 (some 43) rfl rfl ?_ hS ?_ ?_; rotate_left; · rintro W' ⟨_,_,_,_,_,_,_,_,_,_,_,_,_,_,_⟩; go_simp; try with_reducible rfl
    try simp only [pL]
    refine tkH 16 (some 44) rfl rfl ?_ hS ?_ ?_; rotate_left; · rintro W' ⟨_,_,_,_,_,_,_,_,_,_,_,_,_,_,_⟩; go_simp; try with_reducible rfl
    try simp only [pL]
    refine tkH 17 (some 45) rfl rfl ?_ hS ?_ ?_; rotate_left; · rintro W' ⟨_,_,_,_,_,_,_,_,_,_,_,_,_,_,_⟩; go_simp; try with_reducible rfl
    try simp only [pL]
    refine tkH 18 (some 46) rfl rfl ?_ hS ?_ ?_; rotate_left; · rintro W' ⟨_,_,_,_,_,_,_,_,_,_,_,_,_,_,_⟩; go_simp; try with_reducible rfl
    try simp only [pL]
    refine tkH 19 (some 47) rfl rfl ?_ hS ?_ ?_; rotate_left; · rintro W' ⟨_,_,_,_,_,_,_,_,_,_,_,_,_,_,_⟩; go_simp; try with_reducible rfl
    try simp only [pL]
    refine tkH 20 (some 48) rfl rfl ?_ hS ?_ ?_; rotate_left; · rintro W' ⟨_,_,_,_,_,_,_,_,_,_,_,_,_,_,_⟩; go_simp; try with_reducible rfl
    try simp only [pL]
    refine tkH 21 (some 49) rfl rfl ?_ hS ?_ ?_; rotate_left; · rintro W' ⟨_,_,_,_,_,_,_,_,_,_,_,_,_,_,_⟩; go_simp; try with_reducible rfl
    try simp only [pL]
    refine tkH 22 (some 50) rfl rfl ?_ hS ?_ ?_; rotate_left; · rintro W' ⟨_,_,_,_,_,_,_,_,_,_,_,_,_,_,_⟩; go_simp; try with_reducible rfl
    try simp only [pL]
    refine tkH 23 (some 51) rfl rfl ?_ hS ?_ ?_; rotate_left; · rintro W' ⟨_,_,_,_,_,_,_,_,_,_,_,_,_,_,_⟩; go_simp; try with_reducible rfl
    try simp only [pL]
    refine tkH 24 (some 52) rfl rfl ?_ hS ?_ ?_; rotate_left; · rintro W' ⟨_,_,_,_,_,_,_,_,_,_,_,_,_,_,_⟩; go_simp; try with_reducible rfl
    try simp only [pL]
    refine tkH 25 (some 53) rfl rfl ?_ hS ?_ ?_; rotate_left; · rintro W' ⟨_,_,_,_,_,_,_,_,_,_,_,_,_,_,_⟩; go_simp; try with_reducible rfl
    try simp only [pL]
    refine tkH 26 (some 54) rfl rfl ?_ hS ?_ ?_; rotate_left; · rintro W' ⟨_,_,_,_,_,_,_,_,_,_,_,_,_,_,_⟩; go_simp; try with_reducible rfl
    try simp only [pL]
    refine tkH 27 (some 55) rfl rfl ?_ hS ?_ ?_; rotate_left; · rintro W' ⟨_,_,_,_,_,_,_,_,_,_,_,_,_,_,_⟩; go_simp; try with_reducible rfl
    try simp only [pL]
    refine tkH 28 (some 56) rfl rfl ?_ hS ?_ ?_; rotate_left; · rintro W' ⟨_,_,_,_,_,_,_,_,_,_,_,_,_,_,_⟩; go_simp; try with_reducible rfl
    try simp only [pL]
    refine tkH 29 (some 57) rfl rfl ?_ hS ?_ ?_; rotate_left; · rintro W' ⟨_,_,_,_,_,_,_,_,_,_,_,_,_,_,_⟩; go_simp; try with_reducible rfl
    try simp only [pL]
    refine tkH 30 (some 58) rfl rfl ?_ hS ?_ ?_; rotate_left; · rintro W' ⟨_,_,_,_,_,_,_,_,_,_,_,_,_,_,_⟩; go_simp; try with_reducible rfl
    try simp only [pL]
    refine tkH 31 (some 59) rfl rfl ?_ hS ?_ ?_; rotate_left; · rintro W' ⟨_,_,_,_,_,_,_,_,_,_,_,_,_,_,_⟩; go_simp; try with_reducible rfl
    try simp only [pL]
    refine tkH 32 (some 60) rfl rfl ?_ hS ?_ ?_; rotate_left; · rintro W' ⟨_,_,_,_,_,_,_,_,_,_,_,_,_,_,_⟩; go_simp; try with_reducible rfl
    try simp only [pL]
    refine tkH 33 (some 61) rfl rfl ?_ hS ?_ ?_; rotate_left; · rintro W' ⟨_,_,_,_,_,_,_,_,_,_,_,_,_,_,_⟩; go_simp; try with_reducible rfl
    try simp only [pL]
    refine tkH 34 (some 62) rfl rfl ?_ hS ?_ ?_; rotate_left; · rintro W' ⟨_,_,_,_,_,_,_,_,_,_,_,_,_,_,_⟩; go_simp; try with_reducible rfl
    try simp only [pL]
    refine tkH 35 (some 63) rfl rfl ?_ hS ?_ ?_; rotate_left; · rintro W' ⟨_,_,_,_,_,_,_,_,_,_,_,_,_,_,_⟩; go_simp; try with_reducible rfl
    try simp only [pL]
    refine tkH 36 (some 64) rfl rfl ?_ hS ?_ ?_; rotate_left; · rintro W' ⟨_,_,_,_,_,_,_,_,_,_,_,_,_,_,_⟩; go_simp; try with_reducible rfl
    try simp only [pL]
    refine tkH 37 (some 65) rfl rfl ?_ hS ?_ ?_; rotate_left; · rintro W' ⟨_,_,_,_,_,_,_,_,_,_,_,_,_,_,_⟩; go_simp; try with_reducible rfl
    try simp only [pL]
    refine tkH 38 (some 66) rfl rfl ?_ hS ?_ ?_; rotate_left; · rintro W' ⟨_,_,_,_,_,_,_,_,_,_,_,_,_,_,_⟩; go_simp; try with_reducible rfl
    try simp only [pL]
    refine tkH 39 (some 67) rfl rfl ?_ hS ?_ ?_; rotate_left; · rintro W' ⟨_,_,_,_,_,_,_,_,_,_,_,_,_,_,_⟩; go_simp; try with_reducible rfl
    try simp only [pL]
    refine tkH 40 (some 68) rfl rfl ?_ hS ?_ ?_; rotate_left; · rintro W' ⟨_,_,_,_,_,_,_,_,_,_,_,_,_,_,_⟩; go_simp; try with_reducible rfl
    try simp only [pL]
    refine wpAnyH_ready (rs := [41]) (by kernel_rfl) (by simp) ?_
    refine AllReadyH.cons rfl (fun K hK => ?_) AllReadyH.nil
    go_simp
    go_wp2_with fail
    refine (k_reply x.reply y.reply _).mono ?_
    rintro e w2 ⟨rfl, hE1⟩
    rw [hq]
    have hX := (⟨Mod.ext hS.1 hE1, hE1.cell hS.2.1 id, hE1.cell hS.2.2.1 id, hE1.cell hS.2.2.2.1 id, hE1.cell hS.2.2.2.2.1 id, hE1.cell hS.2.2.2.2.2.1 id, hE1.cell hS.2.2.2.2.2.2.1 id, hE1.cell hS.2.2.2.2.2.2.2.1 id, hE1.cell hS.2.2.2.2.2.2.2.2.1 id, hE1.cell hS.2.2.2.2.2.2.2.2.2.1 id, hE1.cell hS.2.2.2.2.2.2.2.2.2.2.1 id, hE1.cell hS.2.2.2.2.2.2.2.2.2.2.2.1 id, hE1.cell hS.2.2.2.2.2.2.2.2.2.2.2.2.1 id, hE1.cell hS.2.2.2.2.2.2.2.2.2.2.2.2.2.1 id, hE1.cell hS.2.2.2.2.2.2.2.2.2.2.2.2.2.2 id⟩ : Ext w1 w2 ∧ _ ∧ _ ∧ _ ∧ _ ∧ _ ∧ _ ∧ _ ∧ _ ∧ _ ∧ _ ∧ _ ∧ _ ∧ _ ∧ _)
    go_simp
    refine hK.out _ _ hX (fun hS => ?_)
    clear hK K
    refine tkH 42 (some 70) rfl rfl ?_ hS ?_ ?_; rotate_left; · rintro W' ⟨_,_,_,_,_,_,_,_,_,_,_,_,_,_,_⟩; go_simp; try with_reducible rfl
    try simp only [pL]
    refine tkH 43 (some 71) rfl rfl ?_ hS ?_ ?_; rotate_left; · rintro W' ⟨_,_,_,_,_,_,_,_,_,_,_,_,_,_,_⟩; go_simp; try with_reducible rfl
    try simp only [pL]
    refine wpAnyH_done (by kernel_rfl) ?_ _
    go_wp2
    go_ret
    exact ⟨ret_bool Hf.out.symm, Mod.ext HE.out hS.1⟩
   ·
    have Hq : Hid (eqSess x y = true) := Lib.hid (by unfold eqSess; rw [hk, hk2, hq]; rfl)
    refine wp_region_held_drew (S := (fun W' => Ext w1 W' ∧ W'.cell? ⟨b, 1, none⟩ = some (.slice (some ⟨g, off, none⟩) n c) ∧ W'.cell? ⟨b + 1, 1, none⟩ = some (.slice (some ⟨g', off', none⟩) n c') ∧ W'.cell? ⟨g, off + i * 6, none⟩ = some (.int .i64 x.client) ∧ W'.cell? ⟨g, off + i * 6 + 1, none⟩ = some (.int .i64 x.seq) ∧ W'.cell? ⟨g, off + i * 6 + 2, none⟩ = some (.int .i64 x.reply.code) ∧ W'.cell? ⟨g, off + i * 6 + 3, none⟩ = some (.int .i64 x.reply.val.kind) ∧ W'.cell? ⟨g, off + i * 6 + 4, none⟩ = some (.float .f64 x.reply.val.num) ∧ W'.cell? ⟨g, off + i * 6 + 5, none⟩ = some (.string x.reply.val.text) ∧ W'.cell? ⟨g', off' + i * 6, none⟩ = some (.int .i64 y.client) ∧ W'.cell? ⟨g', off' + i * 6 + 1, none⟩ = some (.int .i64 y.seq) ∧ W'.cell? ⟨g', off' + i * 6 + 2, none⟩ = some (.int .i64 y.reply.code) ∧ W'.cell? ⟨g', off' + i * 6 + 3, none⟩ = some (.int .i64 y.reply.val.kind) ∧ W'.cell? ⟨g', off' + i * 6 + 4, none⟩ = some (.float .f64 y.reply.val.num) ∧ W'.cell? ⟨g', off' + i * 6 + 5, none⟩ = some (.string y.reply.val.text))) (by kernel_rfl) ⟨hE.drew, n1, n2, x0, x1, x2, x3, x4, x5, y0, y1, y2, y3, y4, y5⟩ (fun hS => ?_)
    refine tkH 0 (some 28) rfl rfl ?_ hS ?_ ?_; rotate_left; · rintro W' ⟨_,_,_,_,_,_,_,_,_,_,_,_,_,_,_⟩; go_simp; try with_reducible rfl
    try simp only [pL]
    refine tkH 1 (some 29) rfl rfl ?_ hS ?_ ?_; rotate_left; · rintro W' ⟨_,_,_,_,_,_,_,_,_,_,_,_,_,_,_⟩; go_simp; try with_reducible rfl
    try simp only [pL]
    refine tkH 2 (some 30) rfl rfl ?_ hS ?_ ?_; rotate_left; · rintro W' ⟨_,_,_,_,_,_,_,_,_,_,_,_,_,_,_⟩; go_simp; try with_reducible rfl
    try simp only [pL]
    refine tkH 3 (some 31) rfl rfl ?_ hS ?_ ?_; rotate_left; · rintro W' ⟨_,_,_,_,_,_,_,_,_,_,_,_,_,_,_⟩; go_simp; try with_reducible rfl
    try simp only [pL]
    refine tkH 4 (some 32) rfl rfl ?_ hS ?_ ?_; rotate_left; · rintro W' ⟨_,_,_,_,_,_,_,_,_,_,_,_,_,_,_⟩; go_simp; try with_reducible rfl
    try simp only [pL]
    refine tkH 5 (some 33) rfl rfl ?_ hS ?_ ?_; rotate_left; · rintro W' ⟨_,_,_,_,_,_,_,_,_,_,_,_,_,_,_⟩; go_simp; try with_reducible rfl
    try simp only [pL]
    refine tkH 6 (some 34) rfl rfl ?_ hS ?_ ?_; rotate_left; · rintro W' ⟨_,_,_,_,_,_,_,_,_,_,_,_,_,_,_⟩; go_simp; try with_reducible rfl
    try simp only [pL]
    refine tkH 7 (some 35) rfl rfl ?_ hS ?_ ?_; rotate_left; · rintro W' ⟨_,_,_,_,_,_,_,_,_,_,_,_,_,_,_⟩; go_simp; try with_reducible rfl
    try simp only [pL]
    refine tkH 8 (some 36) rfl rfl ?_ hS ?_ ?_; rotate_left; · rintro W' ⟨_,_,_,_,_,_,_,_,_,_,_,_,_,_,_⟩; go_simp; try with_reducible rfl
    try simp only [pL]
    refine tkH 9 (some 37) rfl rfl ?_ hS ?_ ?_; rotate_left; · rintro W' ⟨_,_,_,_,_,_,_,_,_,_,_,_,_,_,_⟩; go_simp; try with_reducible rfl
    try simp only [pL]
    refine tkH 10 (some 38) rfl rfl ?_ hS ?_ ?_; rotate_left; · rintro W' ⟨_,_,_,_,_,_,_,_,_,_,_,_,_,_,_⟩; go_simp; try with_reducible rfl
    try simp only [pL]
    refine tkH 11 (some 39) rfl rfl ?_ hS ?_ ?_; rotate_left; · rintro W' ⟨_,_,_,_,_,_,_,_,_,_,_,_,_,_,_⟩; go_simp; try with_reducible rfl
    try simp only [pL]
    refine tkH 12 (some 40) rfl rfl ?_ hS ?_ ?_; rotate_left; · rintro W' ⟨_,_,_,_,_,_,_,_,_,_,_,_,_,_,_⟩; go_simp; try with_reducible rfl
    try simp only [pL]
    refine tkH 13 (some 41) rfl rfl ?_ hS ?_ ?_; rotate_left; · rintro W' ⟨_,_,_,_,_,_,_,_,_,_,_,_,_,_,_⟩; go_simp; try with_reducible rfl
    try simp only [pL]
    refine tkH 14 (some 42) rfl rfl ?_ hS ?_ ?_; rotate_left; · rintro W' ⟨_,_,_,_,_,_,_,_,_,_,_,_,_,_,_⟩; go_simp; try with_reducible rfl
    try simp only [pL]
    refine tkH 15 (some 43) rfl rfl ?_ hS ?_ ?_; rotate_left; · rintro W' ⟨_,_,_,_,_,_,_,_,_,_,_,_,_,_,_⟩; go_simp; try with_reducible rfl
    try simp only [pL]
    refine tkH 16 (some 44) rfl rfl ?_ hS ?_ ?_; rotate_left; · rintro W' ⟨_,_,_,_,_,_,_,_,_,_,_,_,_,_,_⟩; go_simp; try with_reducible rfl
    try simp only [pL]
    refine tkH 17 (some 45) rfl rfl ?_ hS ?_ ?_; rotate_left; · rintro W' ⟨_,_,_,_,_,_,_,_,_,_,_,_,_,_,_⟩; go_simp; try with_reducible rfl
    try simp only [pL]
    refine tkH 18 (some 46) rfl rfl ?_ hS ?_ ?_; rotate_left; · rintro W' ⟨_,_,_,_,_,_,_,_,_,_,_,_,_,_,_⟩; go_simp; try with_reducible rfl
    try simp only [pL]
    refine tkH 19 (some 47) rfl rfl ?_ hS ?_ ?_; rotate_left; · rintro W' ⟨_,_,_,_,_,_,_,_,_,_,_,_,_,_,_⟩; go_simp; try with_reducible rfl
    try simp only [pL]
    refine tkH 20 (some 48) rfl rfl ?_ hS ?_ ?_; rotate_left; · rintro W' ⟨_,_,_,_,_,_,_,_,_,_,_,_,_,_,_⟩; go_simp; try with_reducible rfl
    try simp only [pL]
    refine tkH 21 (some 49) rfl rfl ?_ hS ?_ ?_; rotate_left; · rintro W' ⟨_,_,_,_,_,_,_,_,_,_,_,_,_,_,_⟩; go_simp; try with_reducible rfl
    try simp only [pL]
    refine tkH 22 (some 50) rfl rfl ?_ hS ?_ ?_; rotate_left; · rintro W' ⟨_,_,_,_,_,_,_,_,_,_,_,_,_,_,_⟩; go_simp; try with_reducible rfl
    try simp only [pL]
    refine tkH 23 (some 51) rfl rfl ?_ hS ?_ ?_; rotate_left; · rintro W' ⟨_,_,_,_,_,_,_,_,_,_,_,_,_,_,_⟩; go_simp; try with_reducible rfl
    try simp only [pL]
    refine tkH 24 (some 52) rfl rfl ?_ hS ?_ ?_; rotate_left; · rintro W' ⟨_,_,_,_,_,_,_,_,_,_,_,_,_,_,_⟩; go_simp; try with_reducible rfl
    try simp only [pL]
    refine tkH 25 (some 53) rfl rfl ?_ hS ?_ ?_; rotate_left; · rintro W' ⟨_,_,_,_,_,_,_,_,_,_,_,_,_,_,_⟩; go_simp; try with_reducible rfl
    try simp only [pL]
    refine tkH 26 (some 54) rfl rfl ?_ hS ?_ ?_; rotate_left; · rintro W' ⟨_,_,_,_,_,_,_,_,_,_,_,_,_,_,_⟩; go_simp; try with_reducible rfl
    try simp only [pL]
    refine tkH 27 (some 55) rfl rfl ?_ hS ?_ ?_; rotate_left; · rintro W' ⟨_,_,_,_,_,_,_,_,_,_,_,_,_,_,_⟩; go_simp; try with_reducible rfl
    try simp only [pL]
    refine tkH 28 (some 56) rfl rfl ?_ hS ?_ ?_; rotate_left; · rintro W' ⟨_,_,_,_,_,_,_,_,_,_,_,_,_,_,_⟩; go_simp; try with_reducible rfl
    try simp only [pL]
    refine tkH 29 (some 57) rfl rfl ?_ hS ?_ ?_; rotate_left; · rintro W' ⟨_,_,_,_,_,_,_,_,_,_,_,_,_,_,_⟩; go_simp; try with_reducible rfl
    try simp only [pL]
    refine tkH 30 (some 58) rfl rfl ?_ hS ?_ ?_; rotate_left; · rintro W' ⟨_,_,_,_,_,_,_,_,_,_,_,_,_,_,_⟩; go_simp; try with_reducible rfl
    try simp only [pL]
    refine tkH 31 (some 59) rfl rfl ?_ hS ?_ ?_; rotate_left; · rintro W' ⟨_,_,_,_,_,_,_,_,_,_,_,_,_,_,_⟩; go_simp; try with_reducible rfl
    try simp only [pL]
    refine tkH 32 (some 60) rfl rfl ?_ hS ?_ ?_; rotate_left; · rintro W' ⟨_,_,_,_,_,_,_,_,_,_,_,_,_,_,_⟩; go_simp; try with_reducible rfl
    try simp only [pL]
    refine tkH 33 (some 61) rfl rfl ?_ hS ?_ ?_; rotate_left; · rintro W' ⟨_,_,_,_,_,_,_,_,_,_,_,_,_,_,_⟩; go_simp; try with_reducible rfl
    try simp only [pL]
    refine tkH 34 (some 62) rfl rfl ?_ hS ?_ ?_; rotate_left; · rintro W' ⟨_,_,_,_,_,_,_,_,_,_,_,_,_,_,_⟩; go_simp; try with_reducible rfl
    try simp only [pL]
    refine tkH 35 (some 63) rfl rfl ?_ hS ?_ ?_; rotate_left; · rintro W' ⟨_,_,_,_,_,_,_,_,_,_,_,_,_,_,_⟩; go_simp; try with_reducible rfl
    try simp only [pL]
    refine tkH 36 (some 64) rfl rfl ?_ hS ?_ ?_; rotate_left; · rintro W' ⟨_,_,_,_,_,_,_,_,_,_,_,_,_,_,_⟩; go_simp; try with_reducible rfl
    try simp only [pL]
    refine tkH 37 (some 65) rfl rfl ?_ hS ?_ ?_; rotate_left; · rintro W' ⟨_,_,_,_,_,_,_,_,_,_,_,_,_,_,_⟩; go_simp; try with_reducible rfl
    try simp only [pL]
    refine tkH 38 (some 66) rfl rfl ?_ hS ?_ ?_; rotate_left; · rintro W' ⟨_,_,_,_,_,_,_,_,_,_,_,_,_,_,_⟩; go_simp; try with_reducible rfl
    try simp only [pL]
    refine tkH 39 (some 67) rfl rfl ?_ hS ?_ ?_; rotate_left; · rintro W' ⟨_,_,_,_,_,_,_,_,_,_,_,_,_,_,_⟩; go_simp; try with_reducible rfl
    try simp only [pL]
    refine tkH 40 (some 68) rfl rfl ?_ hS ?_ ?_; rotate_left; · rintro W' ⟨_,_,_,_,_,_,_,_,_,_,_,_,_,_,_⟩; go_simp; try with_reducible rfl
    try simp only [pL]
    refine wpAnyH_ready (rs := [41]) (by kernel_rfl) (by simp) ?_
    refine AllReadyH.cons rfl (fun K hK => ?_) AllReadyH.nil
    go_simp
    go_wp2_with fail
    refine (k_reply x.reply y.reply _).mono ?_
    rintro e w2 ⟨rfl, hE1⟩
    rw [hq]
    have hX := (⟨Mod.ext hS.1 hE1, hE1.cell hS.2.1 id, hE1.cell hS.2.2.1 id, hE1.cell hS.2.2.2.1 id, hE1.cell hS.2.2.2.2.1 id, hE1.cell hS.2.2.2.2.2.1 id, hE1.cell hS.2.2.2.2.2.2.1 id, hE1.cell hS.2.2.2.2.2.2.2.1 id, hE1.cell hS.2.2.2.2.2.2.2.2.1 id, hE1.cell hS.2.2.2.2.2.2.2.2.2.1 id, hE1.cell hS.2.2.2.2.2.2.2.2.2.2.1 id, hE1.cell hS.2.2.2.2.2.2.2.2.2.2.2.1 id, hE1.cell hS.2.2.2.2.2.2.2.2.2.2.2.2.1 id, hE1.cell hS.2.2.2.2.2.2.2.2.2.2.2.2.2.1 id, hE1.cell hS.2.2.2.2.2.2.2.2.2.2.2.2.2.2 id⟩ : Ext w1 w2 ∧ _ ∧ _ ∧ _ ∧ _ ∧ _ ∧ _ ∧ _ ∧ _ ∧ _ ∧ _ ∧ _ ∧ _ ∧ _ ∧ _)
    go_simp
    refine hK.out _ _ hX (fun hS => ?_)
    clear hK K
    refine tkH 42 (some 70) rfl rfl ?_ hS ?_ ?_; rotate_left; · rintro W' ⟨_,_,_,_,_,_,_,_,_,_,_,_,_,_,_⟩; go_simp; try with_reducible rfl
    try simp only [pL]
    refine tkH 43 (some 71) rfl rfl ?_ hS ?_ ?_; rotate_left; · rintro W' ⟨_,_,_,_,_,_,_,_,_,_,_,_,_,_,_⟩; go_simp; try with_reducible rfl
    try simp only [pL]
    refine wpAnyH_done (by kernel_rfl) ?_ _
    go_wp2
    exact ⟨⟨i + 1, by omega, by go_num, hS.1, eqL_step Hs.out Hx.out Hy.out Hq.out⟩, by simp [intOf]; omega⟩
  ·
   have Hf : Hid (eqM ⟨p, la⟩ ⟨q, lb⟩ = true) := Lib.hid (eqM_yes Hp.out (eqL_yes (n := n) (fun j hj => Hs.out j (by omega)) Hn.out Hm.out))
   go_wp2
   go_ret
   exact ⟨ret_bool Hf.out.symm, Mod.ext HE.out hE⟩
end Go.Proofs.YtbclnghbgoblcaaGreat

namespace Go.Proofs.YtbclnghbgoblcaaGreat
set_option linter.unusedSimpArgs false
open Go.RowKit

set_option maxRecDepth 100000 in
set_option maxHeartbeats 1000000 in
theorem k_spoilM (w0 w : World) (pv v : Value) (m : AMach) (h : NewM w0 w pv v m) :
  Calls Tryz.prog 12 #[.agg #[pv, v]] w fun e w' => e = .returned (.tuple #[]) ∧ Mod (fun k => pv.ownBlock = some k ∨ v.ownBlock = some k) w w' := by
 obtain ⟨p, l⟩ := m
 obtain ⟨hP, hS, hd⟩ := h
 obtain ⟨A, c, rfl⟩ := own_form hS.1
 obtain ⟨n, hn⟩ : ∃ n, l.length = n := ⟨_, rfl⟩
 obtain ⟨b, hb⟩ : ∃ b, w.heap.size = b := ⟨_, rfl⟩
 obtain ⟨W, hW⟩ : ∃ W, W = w.alloc (.cells #[pv, .slice A l.length c] 33) := ⟨_, rfl⟩
 have hE : Ext w W := by rw [hW]; exact (Mod.refl _ w).alloc _
 have hA : W.heap[b]? = some (.cells #[pv, .slice A l.length c] 33 (0, 0)) := by rw [hW, ← hb]; exact heap_alloc_new w _
 have hPW : Own W pv p := ⟨own_mod hP.1 hE (fun _ _ => id), hP.2.1⟩
 have hlt := fun g hg => (hP.1.lt g hg).2
 have hlt2 := fun g hg => (hS.1.lt g hg).2
 have HW := Lib.hid hW
 have Hb := Lib.hid hb
 have Hn := Lib.hid hn
 clear hW hb hn
 have HE := Lib.hid hE
 go_enter Tryz.func12, Tryz.ntmps12
 go_wp2_with fail
 rw [← HW.out, Hb.out]
 refine (k_spoil W pv p hPW).mono ?_
 rintro e w1 ⟨rfl, hM1⟩
 have hA1 := hM1.blk hA (fun e => by have := hlt _ e; have := Hb.out; omega)
 have hS1 : w1.ownsRow 0 72 6 (.slice A l.length c) l.length (flS l) := own_mod (own_mod hS.1 hE (fun _ _ => id)) hM1 (fun g hg e => hd g e hg)
 have m1 : w1.cell? ⟨b, 1, none⟩ = some _ := blk_cell (cs := [pv, .slice A l.length c]) hA1 rfl
 have HM1 : Hid (Mod (fun k => pv.ownBlock = some k ∨ (Value.slice A l.length c).ownBlock = some k) w w1) := Lib.hid ((Ext.mod HE.out _).trans hM1 (fun k _ e => .inl e))
 clear hA hA1 hPW hM1 hE
 rcases row_of_own hS1 with ⟨he, h0⟩ | ⟨g, cap, cur, he, hR, hc, h1, h2, ht⟩
 ·
  injection he with e1 e2 e3
  subst e1; subst e3
  rw [h0] at m1 HM1 ⊢
  clear hS hS1 hd hlt hlt2
  go_wp2_with fail
  refine wp_loop_rounds 1 ?_
  rw [rounds_succ]
  go_wp2
  go_end0
  exact ⟨rfl, HM1.out⟩
 ·
  injection he with e1 e2 e3
  subst e1; subst e3
  have hgb : g < b := by rw [← Hb.out]; exact hlt2 g rfl
  have hne : ¬ b = g := by omega
  unfold maxLen at h2
  rw [Hn.out] at m1 h1 HM1 ⊢
  clear hS hS1 hd hlt hlt2 hgb
  go_wp2
  go_loopw [2] (fun iv wr => ∃ (i : Nat) (cur' : List Value), i ≤ n ∧ iv = .int .i64 i ∧ Row wr g 72 cur' ∧ cur'.length = c * 6 ∧ Mod (fun k => k = g) w1 wr) (fun iv _ => n - (intOf iv).toNat)
  case atStart => exact ⟨0, cur, by omega, rfl, hR, hc, Mod.refl _ w1⟩
  case round =>
   obtain ⟨i, cur', hin, rfl, hR', hl', hm⟩ := hrel
   have n1 := hm.cell m1 hne
   by_cases hi : i < n
   ·
    have hi0 : (0 : Int) ≤ (i : Int) := by omega
    have hi1 : (i : Int) < (n : Int) := by omega
    have hlt : i * 6 < cur'.length := by omega
    have hc0 : wr.cell? ⟨g, i * 6, none⟩ = some cur'[i * 6] := hR'.cell (List.getElem?_eq_getElem hlt)
    have hf0 : wr.frozen? ⟨g, i * 6, none⟩ = false := hR'.free _
    obtain ⟨u, hu⟩ : ∃ u, cur'[i * 6] = u := ⟨_, rfl⟩
    rw [hu] at hc0
    have Hnew : Hid (Row (wr.setCell ⟨g, i * 6, none⟩ (.int .i64 (-77))) g 72 (cur'.set (i * 6) (.int .i64 (-77))) ∧ (cur'.set (i * 6) (.int .i64 (-77))).length = c * 6 ∧ Mod (fun k => k = g) w1 (wr.setCell ⟨g, i * 6, none⟩ (.int .i64 (-77)))) :=
     Lib.hid ⟨row_set _ hR', by rw [List.length_set]; exact hl', mod_same hm _ _⟩
    clear hR' hl' hm hu hlt hR hc
    go_wp2
    exact ⟨⟨i + 1, _, by omega, by go_num, Hnew.out.1, Hnew.out.2.1, Hnew.out.2.2⟩, by simp [intOf]; omega⟩
   ·
    have Hm := Lib.hid (HM1.out.trans hm (fun k _ e => .inr (by rw [e]; rfl)))
    clear hR' hl' hm hR hc
    go_wp2
    go_end0
    exact ⟨rfl, Hm.out⟩
end Go.Proofs.YtbclnghbgoblcaaGreat
