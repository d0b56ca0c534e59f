/-
 Contracts of the verifier's comparison of pairs, of kv.Check and the page's Pairs. Conditions: as each theorem names them.
 Contracts of kv.Check and of the page's Pairs. Conditions: as each theorem names them.
 The contract of the page's Get. Conditions: as each theorem names them.
 Contracts of kv.place and kv.Get (slices.IndexFunc with a closure), and of skerrykeep.TwinPairs. Conditions: as each theorem names them.
 Contracts of skerrykeep.TwinPairs and slices.Clone. Conditions: as each theorem names them.
 Contracts of skerrykeep.Reply, kv.throw and skerrylaw06.HeavyCmd. Conditions: as each theorem names them.
 Contracts of the page's Pairs and Get. Conditions: as each theorem names them.
 Plain steps of setP, for the page's set. No program is walked here. Conditions: as each theorem names them.
-/
import Derived.Test.YtbclnghbgoblcaaGreatGCmd
import Derived.Test.YtbclnghbgoblcaaGreatGOpen
import Derived.Test.YtbclnghbgoblcaaGreatGSpec
namespace Go.Proofs.YtbclnghbgoblcaaGreat
set_option linter.unusedSimpArgs false
open Go.RowKit

def eqPrs (l m : List APair) : Bool := eqL eqPair l m

set_option maxRecDepth 100000 in
set_option maxHeartbeats 4000000 in
theorem k_pairs (w : World) (T U : Nat → Prop) (va vb : Value) (la lb : List APair) (ha : Prs w T va la) (hb : Prs w U vb lb) :
  Calls Tryz.prog 29 #[va, vb] w fun e w' => e = .returned (.bool (eqPrs la lb)) ∧ Ext w w' := by
 obtain ⟨n, hn⟩ : ∃ n, la.length = n := ⟨_, rfl⟩
 obtain ⟨m, hm⟩ : ∃ m, lb.length = m := ⟨_, rfl⟩
 obtain ⟨A, c, rfl⟩ := ha.form
 obtain ⟨A', c', rfl⟩ := hb.form
 have hla := ha.1.le
 have hlb := hb.1.le
 unfold maxLen at hla hlb
 rw [hn] at ha hla ⊢
 rw [hm] at hb hlb ⊢
 by_cases hnm : n = m
 case neg =>
  have hnb : ((n : Int) != (m : Int)) = true := by simp; omega
  have Hf : Hid (eqPrs la lb = false) := Lib.hid (eqL_len (by omega))
  clear hn hm
  go_enter Tryz.func29, Tryz.ntmps29
  go_wp2
  go_ret
  exact ⟨ret_bool Hf.out.symm, Mod.refl _ w⟩
 subst hnm
 have hnb : ((n : Int) != (n : Int)) = false := by simp
 have Hn := Lib.hid hn
 have Hm := Lib.hid hm
 clear hn hm
 go_enter Tryz.func29, Tryz.ntmps29
 go_wp2
 go_loopw [5] (fun iv wr => ∃ i : Nat, i ≤ n ∧ iv = .int .i64 i ∧ Ext w wr ∧ ∀ j < i, ∀ x y, la[j]? = some x → lb[j]? = some y → eqPair x y = true) (fun iv _ => n - (intOf iv).toNat)
 case atStart => exact ⟨0, by omega, rfl, Mod.refl _ w, fun j hj => by omega⟩
 case round =>
  obtain ⟨i, hin, rfl, hE, hs⟩ := hrel
  have Hs := Lib.hid hs
  have ha2 := ha.ext hE
  have hb2 := hb.ext hE
  clear hs
  by_cases hi : i < n
  ·
   obtain ⟨g, off, x, rfl, hgT, hx, hxok, hcells⟩ := ha2.at hi
   obtain ⟨g', off', y, rfl, hgT', hy, hyok, hcells'⟩ := hb2.at hi
   have hi0 : (0 : Int) ≤ (i : Int) := by omega
   have hi1 : (i : Int) < (n : Int) := by omega
   have x0 := hcells 0 _ rfl
   have x1 := hcells 1 _ rfl
   have x2 := hcells 2 _ rfl
   have x3 := hcells 3 _ rfl
   have y0 := hcells' 0 _ rfl
   have y1 := hcells' 1 _ rfl
   have y2 := hcells' 2 _ rfl
   have y3 := hcells' 3 _ rfl
   rw [Nat.add_zero] at x0 y0
   have Hx := Lib.hid hx
   have Hy := Lib.hid hy
   clear hcells hcells' hx hy ha2 hb2 hxok hyok
   have hT : (x.key.toList == y.key.toList) = eqT x.key y.key := rfl
   go_wp2_with fail
   rcases hk : eqT x.key y.key with _ | _
   ·
    have Hf : Hid (eqPrs la lb = false) := Lib.hid (eqL_no Hx.out Hy.out (by unfold eqPair; rw [hk]; rfl))
    rw [hk] at hT
    refine wp_region_held_drew (S := (fun W' => Ext w W' ∧ W'.cell? ⟨g, off + i * 4, none⟩ = some (.string x.key) ∧ W'.cell? ⟨g, off + i * 4 + 1, none⟩ = some (.int .i64 x.val.kind) ∧ W'.cell? ⟨g, off + i * 4 + 2, none⟩ = some (.float .f64 x.val.num) ∧ W'.cell? ⟨g, off + i * 4 + 3, none⟩ = some (.string x.val.text) ∧ W'.cell? ⟨g', off' + i * 4, none⟩ = some (.string y.key) ∧ W'.cell? ⟨g', off' + i * 4 + 1, none⟩ = some (.int .i64 y.val.kind) ∧ W'.cell? ⟨g', off' + i * 4 + 2, none⟩ = some (.float .f64 y.val.num) ∧ W'.cell? ⟨g', off' + i * 4 + 3, none⟩ = some (.string y.val.text))) (by kernel_rfl) ⟨hE.drew, x0, x1, x2, x3, y0, y1, y2, y3⟩ (fun hS => ?_)
    refine tkH 0 (some 17) rfl rfl ?_ hS ?_ ?_; rotate_left; · rintro W' ⟨_,_,_,_,_,_,_,_,_⟩; go_simp; try with_reducible rfl
    try simp only [pL]
    refine tkH 1 (some 18) rfl rfl ?_ hS ?_ ?_; rotate_left; · rintro W' ⟨_,_,_,_,_,_,_,_,_⟩; go_simp; try with_reducible rfl
    try simp only [pL]
    refine tkH 2 (some 19) rfl rfl ?_ hS ?_ ?_; rotate_left; · rintro W' ⟨_,_,_,_,_,_,_,_,_⟩; go_simp; try with_reducible rfl
    try simp only [pL]
    refine tkH 3 (some 20) rfl rfl ?_ hS ?_ ?_; rotate_left; · rintro W' ⟨_,_,_,_,_,_,_,_,_⟩; go_simp; try with_reducible rfl
    try simp only [pL]
    refine tkH 4 (some 21) rfl rfl ?_ hS ?_ ?_; rotate_left; · rintro W' ⟨_,_,_,_,_,_,_,_,_⟩; go_simp; try with_reducible rfl
    try simp only [pL]
    refine tkH 5 (some 22) rfl rfl ?_ hS ?_ ?_; rotate_left; · rintro W' ⟨_,_,_,_,_,_,_,_,_⟩; go_simp; try with_reducible rfl
    try simp only [pL]
    refine tkH 6 (some 23) rfl rfl ?_ hS ?_ ?_; rotate_left; · rintro W' ⟨_,_,_,_,_,_,_,_,_⟩; go_simp; try with_reducible rfl
    try simp only [pL]
    refine tkH 7 (some 24) rfl rfl ?_ hS ?_ ?_; rotate_left; · rintro W' ⟨_,_,_,_,_,_,_,_,_⟩; go_simp; try with_reducible rfl
    try simp only [pL]
    refine tkH 8 (some 25) rfl rfl ?_ hS ?_ ?_; rotate_left; · rintro W' ⟨_,_,_,_,_,_,_,_,_⟩; go_simp; try with_reducible rfl
    try simp only [pL]
    refine tkH 9 (some 26) rfl rfl ?_ hS ?_ ?_; rotate_left; · rintro W' ⟨_,_,_,_,_,_,_,_,_⟩; go_simp; try with_reducible rfl
    try simp only [pL]
    refine tkH 10 (some 27) rfl rfl ?_ hS ?_ ?_; rotate_left; · rintro W' ⟨_,_,_,_,_,_,_,_,_⟩; go_simp; try with_reducible rfl
    try simp only [pL]
    refine tkH 11 (some 28) rfl rfl ?_ hS ?_ ?_; rotate_left; · rintro W' ⟨_,_,_,_,_,_,_,_,_⟩; go_simp; try with_reducible rfl
    try simp only [pL]
    refine tuH 12 (some 29) rfl rfl hS ?_
    try simp only [pL]
    refine tuH 13 (some 30) rfl rfl hS ?_
    try simp only [pL]
    refine tuH 14 (some 31) rfl rfl hS ?_
    try simp only [pL]
    refine tuH 15 (some 32) rfl rfl hS ?_
    try simp only [pL]
    refine tuH 16 (some 33) rfl rfl hS ?_
    try simp only [pL]
    refine tuH 17 (some 34) rfl rfl hS ?_
    try simp only [pL]
    refine tuH 18 (some 35) rfl rfl hS ?_
    try simp only [pL]
    refine tuH 19 (some 36) rfl rfl hS ?_
    try simp only [pL]
    refine tuH 20 (some 37) rfl rfl hS ?_
    try simp only [pL]
    refine tuH 21 (some 38) rfl rfl hS ?_
    try simp only [pL]
    refine tuH 22 (some 39) rfl rfl hS ?_
    try simp only [pL]
    refine tuH 23 (some 40) rfl rfl hS ?_
    try simp only [pL]
    refine tkH 24 (some 41) rfl rfl ?_ hS ?_ ?_; rotate_left; · rintro W' ⟨_,_,_,_,_,_,_,_,_⟩; go_simp; try with_reducible rfl
    try simp only [pL]
    refine wpAnyH_done (by kernel_rfl) ?_ _
    go_wp2
    go_ret
    exact ⟨ret_bool Hf.out.symm, hS.1⟩
   ·
    rw [hk] at hT
    rcases hq : eqVal x.val y.val with _ | _
    ·
     have Hf : Hid (eqPrs la lb = false) := Lib.hid (eqL_no Hx.out Hy.out (by unfold eqPair; rw [hk, hq]; rfl))
     refine wp_region_held_drew (S := (fun W' => Ext w W' ∧ W'.cell? ⟨g, off + i * 4, none⟩ = some (.string x.key) ∧ W'.cell? ⟨g, off + i * 4 + 1, none⟩ = some (.int .i64 x.val.kind) ∧ W'.cell? ⟨g, off + i * 4 + 2, none⟩ = some (.float .f64 x.val.num) ∧ W'.cell? ⟨g, off + i * 4 + 3, none⟩ = some (.string x.val.text) ∧ W'.cell? ⟨g', off' + i * 4, none⟩ = some (.string y.key) ∧ W'.cell? ⟨g', off' + i * 4 + 1, none⟩ = some (.int .i64 y.val.kind) ∧ W'.cell? ⟨g', off' + i * 4 + 2, none⟩ = some (.float .f64 y.val.num) ∧ W'.cell? ⟨g', off' + i * 4 + 3, none⟩ = some (.string y.val.text))) (by kernel_rfl) ⟨hE.drew, x0, x1, x2, x3, y0, y1, y2, y3⟩ (fun hS => ?_)
     refine tkH 0 (some 17) rfl rfl ?_ hS ?_ ?_; rotate_left; · rintro W' ⟨_,_,_,_,_,_,_,_,_⟩; go_simp; try with_reducible rfl
     try simp only [pL]
     refine tkH 1 (some 18) rfl rfl ?_ hS ?_ ?_; rotate_left; · rintro W' ⟨_,_,_,_,_,_,_,_,_⟩; go_simp; try with_reducible rfl
     try simp only [pL]
     refine tkH 2 (some 19) rfl rfl ?_ hS ?_ ?_; rotate_left; · rintro W' ⟨_,_,_,_,_,_,_,_,_⟩; go_simp; try with_reducible rfl
     try simp only [pL]
     refine tkH 3 (some 20) rfl rfl ?_ hS ?_ ?_; rotate_left; · rintro W' ⟨_,_,_,_,_,_,_,_,_⟩; go_simp; try with_reducible rfl
     try simp only [pL]
     refine tkH 4 (some 21) rfl rfl ?_ hS ?_ ?_; rotate_left; · rintro W' ⟨_,_,_,_,_,_,_,_,_⟩; go_simp; try with_reducible rfl
     try simp only [pL]
     refine tkH 5 (some 22) rfl rfl ?_ hS ?_ ?_; rotate_left; · rintro W' ⟨_,_,_,_,_,_,_,_,_⟩; go_simp; try with_reducible rfl
     try simp only [pL]
     refine tkH 6 (some 23) rfl rfl ?_ hS ?_ ?_; rotate_left; · rintro W' ⟨_,_,_,_,_,_,_,_,_⟩; go_simp; try with_reducible rfl
     try simp only [pL]
     refine tkH 7 (some 24) rfl rfl ?_ hS ?_ ?_; rotate_left; · rintro W' ⟨_,_,_,_,_,_,_,_,_⟩; go_simp; try with_reducible rfl
     try simp only [pL]
     refine tkH 8 (some 25) rfl rfl ?_ hS ?_ ?_; rotate_left; · rintro W' ⟨_,_,_,_,_,_,_,_,_⟩; go_simp; try with_reducible rfl
     try simp only [pL]
     refine tkH 9 (some 26) rfl rfl ?_ hS ?_ ?_; rotate_left; · rintro W' ⟨_,_,_,_,_,_,_,_,_⟩; go_simp; try with_reducible rfl
     try simp only [pL]
     refine tkH 10 (some 27) rfl rfl ?_ hS ?_ ?_; rotate_left; · rintro W' ⟨_,_,_,_,_,_,_,_,_⟩; go_simp; try with_reducible rfl
     try simp only [pL]
     refine tkH 11 (some 28) rfl rfl ?_ hS ?_ ?_; rotate_left; · rintro W' ⟨_,_,_,_,_,_,_,_,_⟩; go_simp; try with_reducible rfl
     try simp only [pL]
     refine tkH 12 (some 29) rfl rfl ?_ hS ?_ ?_; rotate_left; · rintro W' ⟨_,_,_,_,_,_,_,_,_⟩; go_simp; try with_reducible rfl
     try simp only [pL]
     refine tkH 13 (some 30) rfl rfl ?_ hS ?_ ?_; rotate_left; · rintro W' ⟨_,_,_,_,_,_,_,_,_⟩; go_simp; try with_reducible rfl
     try simp only [pL]
     refine tkH 14 (some 31) rfl rfl ?_ hS ?_ ?_; rotate_left; · rintro W' ⟨_,_,_,_,_,_,_,_,_⟩; go_simp; try with_reducible rfl
     try simp only [pL]
     refine tkH 15 (some 32) rfl rfl ?_ hS ?_ ?_; rotate_left; · rintro W' ⟨_,_,_,_,_,_,_,_,_⟩; go_simp; try with_reducible rfl
     try simp only [pL]
     refine tkH 16 (some 33) rfl rfl ?_ hS ?_ ?_; rotate_left; · rintro W' ⟨_,_,_,_,_,_,_,_,_⟩; go_simp; try with_reducible rfl
     try simp only [pL]
     refine tkH 17 (some 34) rfl rfl ?_ hS ?_ ?_; rotate_left; · rintro W' ⟨_,_,_,_,_,_,_,_,_⟩; go_simp; try with_reducible rfl
     try simp only [pL]
     refine tkH 18 (some 35) rfl rfl ?_ hS ?_ ?_; rotate_left; · rintro W' ⟨_,_,_,_,_,_,_,_,_⟩; go_simp; try with_reducible rfl
     try simp only [pL]
     refine tkH 19 (some 36) rfl rfl ?_ hS ?_ ?_; rotate_left; · rintro W' ⟨_,_,_,_,_,_,_,_,_⟩; go_simp; try with_reducible rfl
     try simp only [pL]
     refine tkH 20 (some 37) rfl rfl ?_ hS ?_ ?_; rotate_left; · rintro W' ⟨_,_,_,_,_,_,_,_,_⟩; go_simp; try with_reducible rfl
     try simp only [pL]
     refine tkH 21 (some 38) rfl rfl ?_ hS ?_ ?_; rotate_left; · rintro W' ⟨_,_,_,_,_,_,_,_,_⟩; go_simp; try with_reducible rfl
     try simp only [pL]
     refine wpAnyH_ready (rs := [22]) (by kernel_rfl) (by simp) ?_
     refine AllReadyH.cons rfl (fun K hK => ?_) AllReadyH.nil
     go_simp
     go_wp2_with fail
     refine (k_value x.val y.val _).mono ?_
     rintro e w1 ⟨rfl, hE1⟩
     rw [hq]
     have hX := (⟨Mod.ext hS.1 hE1, hE1.cell hS.2.1 id, hE1.cell hS.2.2.1 id, hE1.cell hS.2.2.2.1 id, hE1.cell hS.2.2.2.2.1 id, hE1.cell hS.2.2.2.2.2.1 id, hE1.cell hS.2.2.2.2.2.2.1 id, hE1.cell hS.2.2.2.2.2.2.2.1 id, hE1.cell hS.2.2.2.2.2.2.2.2 id⟩ : Ext w w1 ∧ _ ∧ _ ∧ _ ∧ _ ∧ _ ∧ _ ∧ _ ∧ _)
     go_simp
     refine hK.out _ _ hX (fun hS => ?_)
     clear hK K
     refine tkH 23 (some 40) rfl rfl ?_ hS ?_ ?_; rotate_left; · rintro W' ⟨_,_,_,_,_,_,_,_,_⟩; go_simp; try with_reducible rfl
     try simp only [pL]
     refine tkH 24 (some 41) rfl rfl ?_ hS ?_ ?_; rotate_left; · rintro W' ⟨_,_,_,_,_,_,_,_,_⟩; go_simp; try with_reducible rfl
     try simp only [pL]
     refine wpAnyH_done (by kernel_rfl) ?_ _
     go_wp2
     go_ret
     exact ⟨ret_bool Hf.out.symm, hS.1⟩
    ·
     have Hq : Hid (eqPair x y = true) := Lib.hid (by unfold eqPair; rw [hk, hq]; rfl)
     refine wp_region_held_drew (S := (fun W' => Ext w W' ∧ W'.cell? ⟨g, off + i * 4, none⟩ = some (.string x.key) ∧ W'.cell? ⟨g, off + i * 4 + 1, none⟩ = some (.int .i64 x.val.kind) ∧ W'.cell? ⟨g, off + i * 4 + 2, none⟩ = some (.float .f64 x.val.num) ∧ W'.cell? ⟨g, off + i * 4 + 3, none⟩ = some (.string x.val.text) ∧ W'.cell? ⟨g', off' + i * 4, none⟩ = some (.string y.key) ∧ W'.cell? ⟨g', off' + i * 4 + 1, none⟩ = some (.int .i64 y.val.kind) ∧ W'.cell? ⟨g', off' + i * 4 + 2, none⟩ = some (.float .f64 y.val.num) ∧ W'.cell? ⟨g', off' + i * 4 + 3, none⟩ = some (.string y.val.text))) (by kernel_rfl) ⟨hE.drew, x0, x1, x2, x3, y0, y1, y2, y3⟩ (fun hS => ?_)
     refine tkH 0 (some 17) rfl rfl ?_ hS ?_ ?_; rotate_left; · rintro W' ⟨_,_,_,_,_,_,_,_,_⟩; go_simp; try with_reducible rfl
     try simp only [pL]
     refine tkH 1 (some 18) rfl rfl ?_ hS ?_ ?_; rotate_left; · rintro W' ⟨_,_,_,_,_,_,_,_,_⟩; go_simp; try with_reducible rfl
     try simp only [pL]
     refine tkH 2 (some 19) rfl rfl ?_ hS ?_ ?_; rotate_left; · rintro W' ⟨_,_,_,_,_,_,_,_,_⟩; go_simp; try with_reducible rfl
     try simp only [pL]
     refine tkH 3 (some 20) rfl rfl ?_ hS ?_ ?_; rotate_left; · rintro W' ⟨_,_,_,_,_,_,_,_,_⟩; go_simp; try with_reducible rfl
     try simp only [pL]
     refine tkH 4 (some 21) rfl rfl ?_ hS ?_ ?_; rotate_left; · rintro W' ⟨_,_,_,_,_,_,_,_,_⟩; go_simp; try with_reducible rfl
     try simp only [pL]
     refine tkH 5 (some 22) rfl rfl ?_ hS ?_ ?_; rotate_left; · rintro W' ⟨_,_,_,_,_,_,_,_,_⟩; go_simp; try with_reducible rfl
     try simp only [pL]
     refine tkH 6 (some 23) rfl rfl ?_ hS ?_ ?_; rotate_left; · rintro W' ⟨_,_,_,_,_,_,_,_,_⟩; go_simp; try with_reducible rfl
     try simp only [pL]
     refine tkH 7 (some 24) rfl rfl ?_ hS ?_ ?_; rotate_left; · rintro W' ⟨_,_,_,_,_,_,_,_,_⟩; go_simp; try with_reducible rfl
     try simp only [pL]
     refine tkH 8 (some 25) rfl rfl ?_ hS ?_ ?_; rotate_left; · rintro W' ⟨_,_,_,_,_,_,_,_,_⟩; go_simp; try with_reducible rfl
     try simp only [pL]
     refine tkH 9 (some 26) rfl rfl ?_ hS ?_ ?_; rotate_left; · rintro W' ⟨_,_,_,_,_,_,_,_,_⟩; go_simp; try with_reducible rfl
     try simp only [pL]
     refine tkH 10 (some 27) rfl rfl ?_ hS ?_ ?_; rotate_left; · rintro W' ⟨_,_,_,_,_,_,_,_,_⟩; go_simp; try with_reducible rfl
     try simp only [pL]
     refine tkH 11 (some 28) rfl rfl ?_ hS ?_ ?_; rotate_left; · rintro W' ⟨_,_,_,_,_,_,_,_,_⟩; go_simp; try with_reducible rfl
     try simp only [pL]
     refine tkH 12 (some 29) rfl rfl ?_ hS ?_ ?_; rotate_left; · rintro W' ⟨_,_,_,_,_,_,_,_,_⟩; go_simp; try with_reducible rfl
     try simp only [pL]
     refine tkH 13 (some 30) rfl rfl ?_ hS ?_ ?_; rotate_left; · rintro W' ⟨_,_,_,_,_,_,_,_,_⟩; go_simp; try with_reducible rfl
     try simp only [pL]
     refine tkH 14 (some 31) rfl rfl ?_ hS ?_ ?_; rotate_left; · rintro W' ⟨_,_,_,_,_,_,_,_,_⟩; go_simp; try with_reducible rfl
     try simp only [pL]
     refine tkH 15 (some 32) rfl rfl ?_ hS ?_ ?_; rotate_left; · rintro W' ⟨_,_,_,_,_,_,_,_,_⟩; go_simp; try with_reducible rfl
     try simp only [pL]
     refine tkH 16 (some 33) rfl rfl ?_ hS ?_ ?_; rotate_left; · rintro W' ⟨_,_,_,_,_,_,_,_,_⟩; go_simp; try with_reducible rfl
     try simp only [pL]
     refine tkH 17 (some 34) rfl rfl ?_ hS ?_ ?_; rotate_left; · rintro W' ⟨_,_,_,_,_,_,_,_,_⟩; go_simp; try with_reducible rfl
     try simp only [pL]
     refine tkH 18 (some 35) rfl rfl ?_ hS ?_ ?_; rotate_left; · rintro W' ⟨_,_,_,_,_,_,_,_,_⟩; go_simp; try with_reducible rfl
     try simp only [pL]
     refine tkH 19 (some 36) rfl rfl ?_ hS ?_ ?_; rotate_left; · rintro W' ⟨_,_,_,_,_,_,_,_,_⟩; go_simp; try with_reducible rfl
     try simp only [pL]
     refine tkH 20 (some 37) rfl rfl ?_ hS ?_ ?_; rotate_left; · rintro W' ⟨_,_,_,_,_,_,_,_,_⟩; go_simp; try with_reducible rfl
     try simp only [pL]
     refine tkH 21 (some 38) rfl rfl ?_ hS ?_ ?_; rotate_left; · rintro W' ⟨_,_,_,_,_,_,_,_,_⟩; go_simp; try with_reducible rfl
     try simp only [pL]
     refine wpAnyH_ready (rs := [22]) (by kernel_rfl) (by simp) ?_
     refine AllReadyH.cons rfl (fun K hK => ?_) AllReadyH.nil
     go_simp
     go_wp2_with fail
     refine (k_value x.val y.val _).mono ?_
     rintro e w1 ⟨rfl, hE1⟩
     rw [hq]
     have hX := (⟨Mod.ext hS.1 hE1, hE1.cell hS.2.1 id, hE1.cell hS.2.2.1 id, hE1.cell hS.2.2.2.1 id, hE1.cell hS.2.2.2.2.1 id, hE1.cell hS.2.2.2.2.2.1 id, hE1.cell hS.2.2.2.2.2.2.1 id, hE1.cell hS.2.2.2.2.2.2.2.1 id, hE1.cell hS.2.2.2.2.2.2.2.2 id⟩ : Ext w w1 ∧ _ ∧ _ ∧ _ ∧ _ ∧ _ ∧ _ ∧ _ ∧ _)
     go_simp
     refine hK.out _ _ hX (fun hS => ?_)
     clear hK K
     refine tkH 23 (some 40) rfl rfl ?_ hS ?_ ?_; rotate_left; · rintro W' ⟨_,_,_,_,_,_,_,_,_⟩; go_simp; try with_reducible rfl
     try simp only [pL]
     refine tkH 24 (some 41) rfl rfl ?_ hS ?_ ?_; rotate_left; · rintro W' ⟨_,_,_,_,_,_,_,_,_⟩; go_simp; try with_reducible rfl
     try simp only [pL]
     refine wpAnyH_done (by kernel_rfl) ?_ _
     go_wp2
     exact ⟨⟨i + 1, by omega, by go_num, hS.1, eqL_step Hs.out Hx.out Hy.out Hq.out⟩, by simp [intOf]; omega⟩
  ·
   have Hf : Hid (eqPrs la lb = true) := Lib.hid (eqL_yes (n := n) (fun j hj => Hs.out j (by omega)) Hn.out Hm.out)
   go_wp2
   go_ret
   exact ⟨ret_bool Hf.out.symm, hE⟩
end Go.Proofs.YtbclnghbgoblcaaGreat

namespace Go.Proofs.YtbclnghbgoblcaaGreat
set_option linter.unusedSimpArgs false
open Go.RowKit

/-- Right so far. -/
def Good (l : List APair) (i : Nat) : Prop := ∀ j x, j < i → l[j]? = some x → pairOk x = true ∧ ∀ k p, j = k + 1 → l[k]? = some p → ltT p.key x.key = true
theorem Good.zero (l : List APair) : Good l 0 := fun j x h => by omega
theorem Good.step {l : List APair} {i : Nat} {x : APair} (h : Good l i) (hx : l[i]? = some x) (h1 : pairOk x = true) (h2 : ∀ k p, i = k + 1 → l[k]? = some p → ltT p.key x.key = true) : Good l (i + 1) := by
 intro j y hj hy
 by_cases e : j = i
 ·
  subst e; rw [hx] at hy; cases hy; exact ⟨h1, h2⟩
 ·
  exact h j y (by omega) hy
theorem Good.all {l : List APair} (h : Good l l.length) : (∀ p ∈ l, pairOk p = true) ∧ sortedB l = true := by
 refine ⟨fun p hp => ?_, ?_⟩
 ·
  obtain ⟨j, hj⟩ := List.mem_iff_getElem?.1 hp
  exact (h j p (List.getElem?_eq_some_iff.1 hj).1 hj).1
 ·
  induction l with
  | nil => rfl
  | cons a l ih =>
   cases l with
   | nil => rfl
   | cons b l =>
    rw [sortedB, Bool.and_eq_true]
    refine ⟨(h 1 b (by simp) rfl).2 0 a rfl rfl, ih fun j x hj hx => ?_⟩
    have := h (j + 1) x (by simp at hj ⊢; omega) (by simpa using hx)
    exact ⟨this.1, fun k p e hp => this.2 (k + 1) p (by omega) (by simpa using hp)⟩
theorem pairs_good {l : List APair} (h : Good l l.length) (hl : l.length ≤ 32) : pairsB l = true := by
 unfold pairsB
 have := h.all
 rw [Bool.and_eq_true, Bool.and_eq_true, decide_eq_true_iff, List.all_eq_true]
 exact ⟨⟨hl, this.1⟩, this.2⟩
theorem pairs_bad {l : List APair} {i : Nat} {x : APair} (hx : l[i]? = some x) (h : pairOk x = false) : pairsB l = false := by
 rw [← Bool.not_eq_true, pairsB_iff]
 rintro ⟨_, h2, _⟩
 have := h2 x (List.mem_of_getElem? hx)
 rw [h] at this; cases this
theorem pairs_bad2 {l : List APair} {k : Nat} {p x : APair} (hp : l[k]? = some p) (hx : l[k + 1]? = some x) (h : ltT p.key x.key = false) : pairsB l = false := by
 rw [← Bool.not_eq_true, pairsB_iff]
 rintro ⟨_, _, h3⟩
 obtain ⟨h4, rfl⟩ := List.getElem?_eq_some_iff.1 hp
 obtain ⟨h5, rfl⟩ := List.getElem?_eq_some_iff.1 hx
 have := List.pairwise_iff_getElem.1 h3 k (k + 1) h4 h5 (by omega)
 rw [h] at this; cases this
theorem pairs_long {l : List APair} (h : 32 < l.length) : pairsB l = false := by
 rw [← Bool.not_eq_true, pairsB_iff]
 rintro ⟨h1, _⟩
 omega
def chkP (l : List APair) : Int := if pairsB l = true then 0 else 6
theorem chkP_yes {l : List APair} (h : pairsB l = true) : chkP l = 0 := by unfold chkP; rw [if_pos h]
theorem chkP_no {l : List APair} (h : pairsB l = false) : chkP l = 6 := by unfold chkP; rw [h]; rfl

set_option maxRecDepth 100000 in
set_option maxHeartbeats 4000000 in
theorem kv_check (w : World) (T : Nat → Prop) (v : Value) (l : List APair) (h : Prs w T v l) :
  Calls Tryz.prog 59 #[v] w fun e w' => e = .returned (.int .i64 (chkP l)) ∧ Ext w w' := by
 obtain ⟨n, hn⟩ : ∃ n, l.length = n := ⟨_, rfl⟩
 obtain ⟨A, c, rfl⟩ := h.form
 have hl := h.1.le
 unfold maxLen at hl
 rw [hn] at h hl ⊢
 by_cases h32 : 32 < n
 ·
  have d : decide ((32 : Int) < (n : Int)) = true := by simp; omega
  have Hf : Hid (chkP l = 6) := Lib.hid (chkP_no (pairs_long (by omega)))
  clear hn
  go_enter Tryz.func59, Tryz.ntmps59
  go_wp2
  go_ret
  exact ⟨ret_int Hf.out.symm, Mod.refl _ w⟩
 have d : decide ((32 : Int) < (n : Int)) = false := by simp; omega
 have Hn := Lib.hid hn
 clear hn
 go_enter Tryz.func59, Tryz.ntmps59
 go_wp2
 go_loopw [10] (fun iv wr => ∃ i : Nat, i ≤ n ∧ iv = .int .i64 i ∧ Ext w wr ∧ Good l i) (fun iv _ => n - (intOf iv).toNat)
 case atStart => exact ⟨0, by omega, rfl, Mod.refl _ w, Good.zero l⟩
 case round =>
  obtain ⟨i, hin, rfl, hE, hg⟩ := hrel
  have Hg := Lib.hid hg
  have h2 := h.ext hE
  clear hg
  by_cases hi : i < n
  ·
   obtain ⟨g, off, x, rfl, hgT, hx, hxok, hcells⟩ := h2.at hi
   have hi0 : (0 : Int) ≤ (i : Int) := by omega
   have hi1 : (i : Int) < (n : Int) := by omega
   have x0 := hcells 0 _ rfl
   have x1 := hcells 1 _ rfl
   have x2 := hcells 2 _ rfl
   have x3 := hcells 3 _ rfl
   rw [Nat.add_zero] at x0
   have Hx := Lib.hid hx
   have H2 := Lib.hid h2
   clear hcells hx h2 hxok
   obtain ⟨W, hW⟩ : ∃ W, W = wr.alloc (.cells #[.string x.key, .int .i64 x.val.kind, .float .f64 x.val.num, .string x.val.text] 94) := ⟨_, rfl⟩
   have hEW : Ext wr W := by rw [hW]; exact (Mod.refl _ wr).alloc _
   have hF : Ext w W := Mod.ext hE hEW
   have hcs : ∀ j u, x.cells[j]? = some u → W.cell? ⟨wr.heap.size, j, none⟩ = some u := by
    intro j u hu
    rw [hW, cell_of_row _ _ _ _ _ _ (heap_alloc_new wr _)]
    simpa using hu
   have b0 := hcs 0 _ rfl
   have b1 := hcs 1 _ rfl
   have b2 := hcs 2 _ rfl
   have b3 := hcs 3 _ rfl
   have HW := Lib.hid hW
   clear hW hcs
   go_wp2_with fail
   rw [← HW.out]
   clear x0 x1 x2 x3
   rcases hr : rightKeyB x.key with _ | _
   ·
    have Hf : Hid (chkP l = 6) := Lib.hid (chkP_no (pairs_bad Hx.out (by unfold pairOk; rw [hr]; rfl)))
    refine wp_region_held_drew (S := (fun W' => Ext w W' ∧ W'.cell? ⟨wr.heap.size, 0, none⟩ = some (.string x.key) ∧ W'.cell? ⟨wr.heap.size, 1, none⟩ = some (.int .i64 x.val.kind) ∧ W'.cell? ⟨wr.heap.size, 2, none⟩ = some (.float .f64 x.val.num) ∧ W'.cell? ⟨wr.heap.size, 3, none⟩ = some (.string x.val.text))) (by kernel_rfl) ⟨hF.drew, b0, b1, b2, b3⟩ (fun hS => ?_)
    refine tkH 0 (some 15) rfl rfl ?_ hS ?_ ?_; rotate_left; · rintro W' ⟨_,_,_,_,_⟩; go_simp; try with_reducible rfl
    try simp only [pL]
    refine tkH 1 (some 16) rfl rfl ?_ hS ?_ ?_; rotate_left; · rintro W' ⟨_,_,_,_,_⟩; go_simp; try with_reducible rfl
    try simp only [pL]
    refine wpAnyH_ready (rs := [2]) (by kernel_rfl) (by simp) ?_
    refine AllReadyH.cons rfl (fun K hK => ?_) AllReadyH.nil
    go_simp
    go_wp2_with fail
    refine (kv_rightKey x.key _).mono ?_
    rintro e w1 ⟨rfl, rfl⟩
    rw [hr]
    have hX := hS
    go_simp
    refine hK.out _ _ hX (fun hS => ?_)
    clear hK K
    refine tkH 3 (some 18) rfl rfl ?_ hS ?_ ?_; rotate_left; · rintro W' ⟨_,_,_,_,_⟩; go_simp; try with_reducible rfl
    try simp only [pL]
    refine tkH 4 (some 19) rfl rfl ?_ hS ?_ ?_; rotate_left; · rintro W' ⟨_,_,_,_,_⟩; go_simp; try with_reducible rfl
    try simp only [pL]
    refine tuH 5 (some 20) rfl rfl hS ?_
    try simp only [pL]
    refine tuH 6 (some 21) rfl rfl hS ?_
    try simp only [pL]
    refine tuH 7 (some 22) rfl rfl hS ?_
    try simp only [pL]
    refine tuH 8 (some 23) rfl rfl hS ?_
    try simp only [pL]
    refine tkH 9 (some 24) rfl rfl ?_ hS ?_ ?_; rotate_left; · rintro W' ⟨_,_,_,_,_⟩; go_simp; try with_reducible rfl
    try simp only [pL]
    refine tkH 10 (some 25) rfl rfl ?_ hS ?_ ?_; rotate_left; · rintro W' ⟨_,_,_,_,_⟩; go_simp; try with_reducible rfl
    try simp only [pL]
    refine tuH 11 (some 26) rfl rfl hS ?_
    try simp only [pL]
    refine tuH 12 (some 27) rfl rfl hS ?_
    try simp only [pL]
    refine tuH 13 (some 28) rfl rfl hS ?_
    try simp only [pL]
    refine tuH 14 (some 29) rfl rfl hS ?_
    try simp only [pL]
    refine tkH 15 (some 30) rfl rfl ?_ hS ?_ ?_; rotate_left; · rintro W' ⟨_,_,_,_,_⟩; go_simp; try with_reducible rfl
    try simp only [pL]
    refine tkH 16 (some 31) rfl rfl ?_ hS ?_ ?_; rotate_left; · rintro W' ⟨_,_,_,_,_⟩; go_simp; try with_reducible rfl
    try simp only [pL]
    refine tuH 17 (some 32) rfl rfl hS ?_
    try simp only [pL]
    refine tuH 18 (some 33) rfl rfl hS ?_
    try simp only [pL]
    refine tuH 19 (some 34) rfl rfl hS ?_
    try simp only [pL]
    refine tuH 20 (some 35) rfl rfl hS ?_
    try simp only [pL]
    refine tuH 21 (some 36) rfl rfl hS ?_
    try simp only [pL]
    refine tuH 22 (some 37) rfl rfl hS ?_
    try simp only [pL]
    refine tuH 23 (some 38) rfl rfl hS ?_
    try simp only [pL]
    refine tuH 24 (some 39) rfl rfl hS ?_
    try simp only [pL]
    refine tuH 25 (some 40) rfl rfl hS ?_
    try simp only [pL]
    refine tuH 26 (some 41) rfl rfl hS ?_
    try simp only [pL]
    refine tuH 27 (some 42) rfl rfl hS ?_
    try simp only [pL]
    refine tuH 28 (some 43) rfl rfl hS ?_
    try simp only [pL]
    refine tuH 29 (some 44) rfl rfl hS ?_
    try simp only [pL]
    refine tkH 30 (some 45) rfl rfl ?_ hS ?_ ?_; rotate_left; · rintro W' ⟨_,_,_,_,_⟩; go_simp; try with_reducible rfl
    try simp only [pL]
    refine wpAnyH_done (by kernel_rfl) ?_ _
    go_wp2
    go_ret
    exact ⟨ret_int Hf.out.symm, hS.1⟩
   rcases hk : (x.val.kind == 0) with _ | _
   case true =>
    have Hf : Hid (chkP l = 6) := Lib.hid (chkP_no (pairs_bad Hx.out (by unfold pairOk; rw [show (x.val.kind != 0) = false from by simpa using hk]; simp)))
    refine wp_region_held_drew (S := (fun W' => Ext w W' ∧ W'.cell? ⟨wr.heap.size, 0, none⟩ = some (.string x.key) ∧ W'.cell? ⟨wr.heap.size, 1, none⟩ = some (.int .i64 x.val.kind) ∧ W'.cell? ⟨wr.heap.size, 2, none⟩ = some (.float .f64 x.val.num) ∧ W'.cell? ⟨wr.heap.size, 3, none⟩ = some (.string x.val.text))) (by kernel_rfl) ⟨hF.drew, b0, b1, b2, b3⟩ (fun hS => ?_)
    refine tkH 0 (some 15) rfl rfl ?_ hS ?_ ?_; rotate_left; · rintro W' ⟨_,_,_,_,_⟩; go_simp; try with_reducible rfl
    try simp only [pL]
    refine tkH 1 (some 16) rfl rfl ?_ hS ?_ ?_; rotate_left; · rintro W' ⟨_,_,_,_,_⟩; go_simp; try with_reducible rfl
    try simp only [pL]
    refine wpAnyH_ready (rs := [2]) (by kernel_rfl) (by simp) ?_
    refine AllReadyH.cons rfl (fun K hK => ?_) AllReadyH.nil
    go_simp
    go_wp2_with fail
    refine (kv_rightKey x.key _).mono ?_
    rintro e w1 ⟨rfl, rfl⟩
    rw [hr]
    have hX := hS
    go_simp
    refine hK.out _ _ hX (fun hS => ?_)
    clear hK K
    refine tkH 3 (some 18) rfl rfl ?_ hS ?_ ?_; rotate_left; · rintro W' ⟨_,_,_,_,_⟩; go_simp; try with_reducible rfl
    try simp only [pL]
    refine tkH 4 (some 19) rfl rfl ?_ hS ?_ ?_; rotate_left; · rintro W' ⟨_,_,_,_,_⟩; go_simp; try with_reducible rfl
    try simp only [pL]
    refine tkH 5 (some 20) rfl rfl ?_ hS ?_ ?_; rotate_left; · rintro W' ⟨_,_,_,_,_⟩; go_simp; try with_reducible rfl
    try simp only [pL]
    refine tkH 6 (some 21) rfl rfl ?_ hS ?_ ?_; rotate_left; · rintro W' ⟨_,_,_,_,_⟩; go_simp; try with_reducible rfl
    try simp only [pL]
    refine tkH 7 (some 22) rfl rfl ?_ hS ?_ ?_; rotate_left; · rintro W' ⟨_,_,_,_,_⟩; go_simp; try with_reducible rfl
    try simp only [pL]
    refine tkH 8 (some 23) rfl rfl ?_ hS ?_ ?_; rotate_left; · rintro W' ⟨_,_,_,_,_⟩; go_simp; try with_reducible rfl
    try simp only [pL]
    refine tkH 9 (some 24) rfl rfl ?_ hS ?_ ?_; rotate_left; · rintro W' ⟨_,_,_,_,_⟩; go_simp; try with_reducible rfl
    try simp only [pL]
    refine tkH 10 (some 25) rfl rfl ?_ hS ?_ ?_; rotate_left; · rintro W' ⟨_,_,_,_,_⟩; go_simp; try with_reducible rfl
    try simp only [pL]
    refine tuH 11 (some 26) rfl rfl hS ?_
    try simp only [pL]
    refine tuH 12 (some 27) rfl rfl hS ?_
    try simp only [pL]
    refine tuH 13 (some 28) rfl rfl hS ?_
    try simp only [pL]
    refine tuH 14 (some 29) rfl rfl hS ?_
    try simp only [pL]
    refine tkH 15 (some 30) rfl rfl ?_ hS ?_ ?_; rotate_left; · rintro W' ⟨_,_,_,_,_⟩; go_simp; try with_reducible rfl
    try simp only [pL]
    refine tkH 16 (some 31) rfl rfl ?_ hS ?_ ?_; rotate_left; · rintro W' ⟨_,_,_,_,_⟩; go_simp; try with_reducible rfl
    try simp only [pL]
    refine tuH 17 (some 32) rfl rfl hS ?_
    try simp only [pL]
    refine tuH 18 (some 33) rfl rfl hS ?_
    try simp only [pL]
    refine tuH 19 (some 34) rfl rfl hS ?_
    try simp only [pL]
    refine tuH 20 (some 35) rfl rfl hS ?_
    try simp only [pL]
    refine tuH 21 (some 36) rfl rfl hS ?_
    try simp only [pL]
    refine tuH 22 (some 37) rfl rfl hS ?_
    try simp only [pL]
    refine tuH 23 (some 38) rfl rfl hS ?_
    try simp only [pL]
    refine tuH 24 (some 39) rfl rfl hS ?_
    try simp only [pL]
    refine tuH 25 (some 40) rfl rfl hS ?_
    try simp only [pL]
    refine tuH 26 (some 41) rfl rfl hS ?_
    try simp only [pL]
    refine tuH 27 (some 42) rfl rfl hS ?_
    try simp only [pL]
    refine tuH 28 (some 43) rfl rfl hS ?_
    try simp only [pL]
    refine tuH 29 (some 44) rfl rfl hS ?_
    try simp only [pL]
    refine tkH 30 (some 45) rfl rfl ?_ hS ?_ ?_; rotate_left; · rintro W' ⟨_,_,_,_,_⟩; go_simp; try with_reducible rfl
    try simp only [pL]
    refine wpAnyH_done (by kernel_rfl) ?_ _
    go_wp2
    go_ret
    exact ⟨ret_int Hf.out.symm, hS.1⟩
   by_cases hc : chk x.val = 0
   case neg =>
    have hc' : (chk x.val != 0) = true := by simpa using hc
    have Hf : Hid (chkP l = 6) := Lib.hid (chkP_no (pairs_bad Hx.out (by unfold pairOk; rw [show (chk x.val == 0) = false from by simpa using hc]; simp)))
    clear hc
    refine wp_region_held_drew (S := (fun W' => Ext w W' ∧ W'.cell? ⟨wr.heap.size, 0, none⟩ = some (.string x.key) ∧ W'.cell? ⟨wr.heap.size, 1, none⟩ = some (.int .i64 x.val.kind) ∧ W'.cell? ⟨wr.heap.size, 2, none⟩ = some (.float .f64 x.val.num) ∧ W'.cell? ⟨wr.heap.size, 3, none⟩ = some (.string x.val.text))) (by kernel_rfl) ⟨hF.drew, b0, b1, b2, b3⟩ (fun hS => ?_)
    refine tkH 0 (some 15) rfl rfl ?_ hS ?_ ?_; rotate_left; · rintro W' ⟨_,_,_,_,_⟩; go_simp; try with_reducible rfl
    try simp only [pL]
    refine tkH 1 (some 16) rfl rfl ?_ hS ?_ ?_; rotate_left; · rintro W' ⟨_,_,_,_,_⟩; go_simp; try with_reducible rfl
    try simp only [pL]
    refine wpAnyH_ready (rs := [2]) (by kernel_rfl) (by simp) ?_
    refine AllReadyH.cons rfl (fun K hK => ?_) AllReadyH.nil
    go_simp
    go_wp2_with fail
    refine (kv_rightKey x.key _).mono ?_
    rintro e w1 ⟨rfl, rfl⟩
    rw [hr]
    have hX := hS
    go_simp
    refine hK.out _ _ hX (fun hS => ?_)
    clear hK K
    refine tkH 3 (some 18) rfl rfl ?_ hS ?_ ?_; rotate_left; · rintro W' ⟨_,_,_,_,_⟩; go_simp; try with_reducible rfl
    try simp only [pL]
    refine tkH 4 (some 19) rfl rfl ?_ hS ?_ ?_; rotate_left; · rintro W' ⟨_,_,_,_,_⟩; go_simp; try with_reducible rfl
    try simp only [pL]
    refine tkH 5 (some 20) rfl rfl ?_ hS ?_ ?_; rotate_left; · rintro W' ⟨_,_,_,_,_⟩; go_simp; try with_reducible rfl
    try simp only [pL]
    refine tkH 6 (some 21) rfl rfl ?_ hS ?_ ?_; rotate_left; · rintro W' ⟨_,_,_,_,_⟩; go_simp; try with_reducible rfl
    try simp only [pL]
    refine tkH 7 (some 22) rfl rfl ?_ hS ?_ ?_; rotate_left; · rintro W' ⟨_,_,_,_,_⟩; go_simp; try with_reducible rfl
    try simp only [pL]
    refine tkH 8 (some 23) rfl rfl ?_ hS ?_ ?_; rotate_left; · rintro W' ⟨_,_,_,_,_⟩; go_simp; try with_reducible rfl
    try simp only [pL]
    refine tkH 9 (some 24) rfl rfl ?_ hS ?_ ?_; rotate_left; · rintro W' ⟨_,_,_,_,_⟩; go_simp; try with_reducible rfl
    try simp only [pL]
    refine tkH 10 (some 25) rfl rfl ?_ hS ?_ ?_; rotate_left; · rintro W' ⟨_,_,_,_,_⟩; go_simp; try with_reducible rfl
    try simp only [pL]
    refine tkH 11 (some 26) rfl rfl ?_ hS ?_ ?_; rotate_left; · rintro W' ⟨_,_,_,_,_⟩; go_simp; try with_reducible rfl
    try simp only [pL]
    refine tkH 12 (some 27) rfl rfl ?_ hS ?_ ?_; rotate_left; · rintro W' ⟨_,_,_,_,_⟩; go_simp; try with_reducible rfl
    try simp only [pL]
    refine wpAnyH_ready (rs := [13]) (by kernel_rfl) (by simp) ?_
    refine AllReadyH.cons rfl (fun K hK => ?_) AllReadyH.nil
    go_simp
    go_wp2_with fail
    refine (v_check x.val _).mono ?_
    rintro e w1 ⟨rfl, hE1⟩
    have hX := (⟨Mod.ext hS.1 hE1, hE1.cell hS.2.1 id, hE1.cell hS.2.2.1 id, hE1.cell hS.2.2.2.1 id, hE1.cell hS.2.2.2.2 id⟩ : Ext w w1 ∧ _ ∧ _ ∧ _ ∧ _)
    go_simp
    refine hK.out _ _ hX (fun hS => ?_)
    clear hK K
    refine tkH 14 (some 29) rfl rfl ?_ hS ?_ ?_; rotate_left; · rintro W' ⟨_,_,_,_,_⟩; go_simp; try with_reducible rfl
    try simp only [pL]
    refine tkH 15 (some 30) rfl rfl ?_ hS ?_ ?_; rotate_left; · rintro W' ⟨_,_,_,_,_⟩; go_simp; try with_reducible rfl
    try simp only [pL]
    refine tkH 16 (some 31) rfl rfl ?_ hS ?_ ?_; rotate_left; · rintro W' ⟨_,_,_,_,_⟩; go_simp; try with_reducible rfl
    try simp only [pL]
    refine tuH 17 (some 32) rfl rfl hS ?_
    try simp only [pL]
    refine tuH 18 (some 33) rfl rfl hS ?_
    try simp only [pL]
    refine tuH 19 (some 34) rfl rfl hS ?_
    try simp only [pL]
    refine tuH 20 (some 35) rfl rfl hS ?_
    try simp only [pL]
    refine tuH 21 (some 36) rfl rfl hS ?_
    try simp only [pL]
    refine tuH 22 (some 37) rfl rfl hS ?_
    try simp only [pL]
    refine tuH 23 (some 38) rfl rfl hS ?_
    try simp only [pL]
    refine tuH 24 (some 39) rfl rfl hS ?_
    try simp only [pL]
    refine tuH 25 (some 40) rfl rfl hS ?_
    try simp only [pL]
    refine tuH 26 (some 41) rfl rfl hS ?_
    try simp only [pL]
    refine tuH 27 (some 42) rfl rfl hS ?_
    try simp only [pL]
    refine tuH 28 (some 43) rfl rfl hS ?_
    try simp only [pL]
    refine tuH 29 (some 44) rfl rfl hS ?_
    try simp only [pL]
    refine tkH 30 (some 45) rfl rfl ?_ hS ?_ ?_; rotate_left; · rintro W' ⟨_,_,_,_,_⟩; go_simp; try with_reducible rfl
    try simp only [pL]
    refine wpAnyH_done (by kernel_rfl) ?_ _
    go_wp2
    go_ret
    exact ⟨ret_int Hf.out.symm, hS.1⟩
   have hc' : (chk x.val != 0) = false := by simpa using hc
   have Hok : Hid (pairOk x = true) := Lib.hid (by unfold pairOk; rw [hr, show (x.val.kind != 0) = true from by simpa using hk, hc]; rfl)
   clear hc
   rcases i with _ | k
   ·
    have Hst := Lib.hid (Hg.out.step Hx.out Hok.out (fun k p e => by omega))
    have z0 : decide ((0 : Int) < ((0 : Nat) : Int)) = false := by simp
    refine wp_region_held_drew (S := (fun W' => Ext w W' ∧ W'.cell? ⟨wr.heap.size, 0, none⟩ = some (.string x.key) ∧ W'.cell? ⟨wr.heap.size, 1, none⟩ = some (.int .i64 x.val.kind) ∧ W'.cell? ⟨wr.heap.size, 2, none⟩ = some (.float .f64 x.val.num) ∧ W'.cell? ⟨wr.heap.size, 3, none⟩ = some (.string x.val.text))) (by kernel_rfl) ⟨hF.drew, b0, b1, b2, b3⟩ (fun hS => ?_)
    refine tkH 0 (some 15) rfl rfl ?_ hS ?_ ?_; rotate_left; · rintro W' ⟨_,_,_,_,_⟩; go_simp; try with_reducible rfl
    try simp only [pL]
    refine tkH 1 (some 16) rfl rfl ?_ hS ?_ ?_; rotate_left; · rintro W' ⟨_,_,_,_,_⟩; go_simp; try with_reducible rfl
    try simp only [pL]
    refine wpAnyH_ready (rs := [2]) (by kernel_rfl) (by simp) ?_
    refine AllReadyH.cons rfl (fun K hK => ?_) AllReadyH.nil
    go_simp
    go_wp2_with fail
    refine (kv_rightKey x.key _).mono ?_
    rintro e w1 ⟨rfl, rfl⟩
    rw [hr]
    have hX := hS
    go_simp
    refine hK.out _ _ hX (fun hS => ?_)
    clear hK K
    refine tkH 3 (some 18) rfl rfl ?_ hS ?_ ?_; rotate_left; · rintro W' ⟨_,_,_,_,_⟩; go_simp; try with_reducible rfl
    try simp only [pL]
    refine tkH 4 (some 19) rfl rfl ?_ hS ?_ ?_; rotate_left; · rintro W' ⟨_,_,_,_,_⟩; go_simp; try with_reducible rfl
    try simp only [pL]
    refine tkH 5 (some 20) rfl rfl ?_ hS ?_ ?_; rotate_left; · rintro W' ⟨_,_,_,_,_⟩; go_simp; try with_reducible rfl
    try simp only [pL]
    refine tkH 6 (some 21) rfl rfl ?_ hS ?_ ?_; rotate_left; · rintro W' ⟨_,_,_,_,_⟩; go_simp; try with_reducible rfl
    try simp only [pL]
    refine tkH 7 (some 22) rfl rfl ?_ hS ?_ ?_; rotate_left; · rintro W' ⟨_,_,_,_,_⟩; go_simp; try with_reducible rfl
    try simp only [pL]
    refine tkH 8 (some 23) rfl rfl ?_ hS ?_ ?_; rotate_left; · rintro W' ⟨_,_,_,_,_⟩; go_simp; try with_reducible rfl
    try simp only [pL]
    refine tkH 9 (some 24) rfl rfl ?_ hS ?_ ?_; rotate_left; · rintro W' ⟨_,_,_,_,_⟩; go_simp; try with_reducible rfl
    try simp only [pL]
    refine tkH 10 (some 25) rfl rfl ?_ hS ?_ ?_; rotate_left; · rintro W' ⟨_,_,_,_,_⟩; go_simp; try with_reducible rfl
    try simp only [pL]
    refine tkH 11 (some 26) rfl rfl ?_ hS ?_ ?_; rotate_left; · rintro W' ⟨_,_,_,_,_⟩; go_simp; try with_reducible rfl
    try simp only [pL]
    refine tkH 12 (some 27) rfl rfl ?_ hS ?_ ?_; rotate_left; · rintro W' ⟨_,_,_,_,_⟩; go_simp; try with_reducible rfl
    try simp only [pL]
    refine wpAnyH_ready (rs := [13]) (by kernel_rfl) (by simp) ?_
    refine AllReadyH.cons rfl (fun K hK => ?_) AllReadyH.nil
    go_simp
    go_wp2_with fail
    refine (v_check x.val _).mono ?_
    rintro e w1 ⟨rfl, hE1⟩
    have hX := (⟨Mod.ext hS.1 hE1, hE1.cell hS.2.1 id, hE1.cell hS.2.2.1 id, hE1.cell hS.2.2.2.1 id, hE1.cell hS.2.2.2.2 id⟩ : Ext w w1 ∧ _ ∧ _ ∧ _ ∧ _)
    go_simp
    refine hK.out _ _ hX (fun hS => ?_)
    clear hK K
    refine tkH 14 (some 29) rfl rfl ?_ hS ?_ ?_; rotate_left; · rintro W' ⟨_,_,_,_,_⟩; go_simp; try with_reducible rfl
    try simp only [pL]
    refine tkH 15 (some 30) rfl rfl ?_ hS ?_ ?_; rotate_left; · rintro W' ⟨_,_,_,_,_⟩; go_simp; try with_reducible rfl
    try simp only [pL]
    refine tkH 16 (some 31) rfl rfl ?_ hS ?_ ?_; rotate_left; · rintro W' ⟨_,_,_,_,_⟩; go_simp; try with_reducible rfl
    try simp only [pL]
    refine tkH 17 (some 32) rfl rfl ?_ hS ?_ ?_; rotate_left; · rintro W' ⟨_,_,_,_,_⟩; go_simp; try with_reducible rfl
    try simp only [pL]
    refine tkH 18 (some 33) rfl rfl ?_ hS ?_ ?_; rotate_left; · rintro W' ⟨_,_,_,_,_⟩; go_simp; try with_reducible rfl
    try simp only [pL]
    refine tkH 19 (some 34) rfl rfl ?_ hS ?_ ?_; rotate_left; · rintro W' ⟨_,_,_,_,_⟩; go_simp; try with_reducible rfl
    try simp only [pL]
    refine tuH 20 (some 35) rfl rfl hS ?_
    try simp only [pL]
    refine tuH 21 (some 36) rfl rfl hS ?_
    try simp only [pL]
    refine tuH 22 (some 37) rfl rfl hS ?_
    try simp only [pL]
    refine tuH 23 (some 38) rfl rfl hS ?_
    try simp only [pL]
    refine tuH 24 (some 39) rfl rfl hS ?_
    try simp only [pL]
    refine tuH 25 (some 40) rfl rfl hS ?_
    try simp only [pL]
    refine tuH 26 (some 41) rfl rfl hS ?_
    try simp only [pL]
    refine tuH 27 (some 42) rfl rfl hS ?_
    try simp only [pL]
    refine tuH 28 (some 43) rfl rfl hS ?_
    try simp only [pL]
    refine tkH 29 (some 44) rfl rfl ?_ hS ?_ ?_; rotate_left; · rintro W' ⟨_,_,_,_,_⟩; go_simp; try with_reducible rfl
    try simp only [pL]
    refine tkH 30 (some 45) rfl rfl ?_ hS ?_ ?_; rotate_left; · rintro W' ⟨_,_,_,_,_⟩; go_simp; try with_reducible rfl
    try simp only [pL]
    refine wpAnyH_done (by kernel_rfl) ?_ _
    go_wp2
    exact ⟨⟨0 + 1, by omega, by go_num, hS.1, Hst.out⟩, by simp [intOf]; omega⟩
   ·
    obtain ⟨g', off', p, hA, _, hp, _, hcells⟩ := H2.out.at (i := k) (by omega)
    injection hA with hA; injection hA with hA1 hA2; subst hA1; subst hA2
    have p0 := hEW.cell (hcells 0 _ rfl) id
    rw [Nat.add_zero] at p0
    have z0 : decide ((0 : Int) < ((k + 1 : Nat) : Int)) = true := by simp
    have z1 : ((k + 1 : Nat) : Int) - 1 = (k : Int) := by omega
    have z2 : (0 : Int) ≤ (k : Int) := by omega
    have z3 : (k : Int) < (n : Int) := by omega
    have z4 : IntKind.i64.wrap (k : Int) = (k : Int) := IntWalk.i64_in _ (by omega)
    have Hp := Lib.hid hp
    have Hrel : Hid (k + 1 ≤ n ∧ k + 1 < n) := Lib.hid ⟨by omega, by omega⟩
    clear hcells hp
    rcases hlt : ltT p.key x.key with _ | _
    ·
     have Hf : Hid (chkP l = 6) := Lib.hid (chkP_no (pairs_bad2 Hp.out Hx.out hlt))
     have hbl : Op.bytesLess p.key.toList x.key.toList = false := hlt
     refine wp_region_held_drew (S := (fun W' => Ext w W' ∧ W'.cell? ⟨wr.heap.size, 0, none⟩ = some (.string x.key) ∧ W'.cell? ⟨wr.heap.size, 1, none⟩ = some (.int .i64 x.val.kind) ∧ W'.cell? ⟨wr.heap.size, 2, none⟩ = some (.float .f64 x.val.num) ∧ W'.cell? ⟨wr.heap.size, 3, none⟩ = some (.string x.val.text) ∧ W'.cell? ⟨g, off + k * 4, none⟩ = some (.string p.key))) (by kernel_rfl) ⟨hF.drew, b0, b1, b2, b3, p0⟩ (fun hS => ?_)
     refine tkH 0 (some 15) rfl rfl ?_ hS ?_ ?_; rotate_left; · rintro W' ⟨_,_,_,_,_,_⟩; go_simp; try with_reducible rfl
     try simp only [pL]
     refine tkH 1 (some 16) rfl rfl ?_ hS ?_ ?_; rotate_left; · rintro W' ⟨_,_,_,_,_,_⟩; go_simp; try with_reducible rfl
     try simp only [pL]
     refine wpAnyH_ready (rs := [2]) (by kernel_rfl) (by simp) ?_
     refine AllReadyH.cons rfl (fun K hK => ?_) AllReadyH.nil
     go_simp
     go_wp2_with fail
     refine (kv_rightKey x.key _).mono ?_
     rintro e w1 ⟨rfl, rfl⟩
     rw [hr]
     have hX := hS
     go_simp
     refine hK.out _ _ hX (fun hS => ?_)
     clear hK K
     refine tkH 3 (some 18) rfl rfl ?_ hS ?_ ?_; rotate_left; · rintro W' ⟨_,_,_,_,_,_⟩; go_simp; try with_reducible rfl
     try simp only [pL]
     refine tkH 4 (some 19) rfl rfl ?_ hS ?_ ?_; rotate_left; · rintro W' ⟨_,_,_,_,_,_⟩; go_simp; try with_reducible rfl
     try simp only [pL]
     refine tkH 5 (some 20) rfl rfl ?_ hS ?_ ?_; rotate_left; · rintro W' ⟨_,_,_,_,_,_⟩; go_simp; try with_reducible rfl
     try simp only [pL]
     refine tkH 6 (some 21) rfl rfl ?_ hS ?_ ?_; rotate_left; · rintro W' ⟨_,_,_,_,_,_⟩; go_simp; try with_reducible rfl
     try simp only [pL]
     refine tkH 7 (some 22) rfl rfl ?_ hS ?_ ?_; rotate_left; · rintro W' ⟨_,_,_,_,_,_⟩; go_simp; try with_reducible rfl
     try simp only [pL]
     refine tkH 8 (some 23) rfl rfl ?_ hS ?_ ?_; rotate_left; · rintro W' ⟨_,_,_,_,_,_⟩; go_simp; try with_reducible rfl
     try simp only [pL]
     refine tkH 9 (some 24) rfl rfl ?_ hS ?_ ?_; rotate_left; · rintro W' ⟨_,_,_,_,_,_⟩; go_simp; try with_reducible rfl
     try simp only [pL]
     refine tkH 10 (some 25) rfl rfl ?_ hS ?_ ?_; rotate_left; · rintro W' ⟨_,_,_,_,_,_⟩; go_simp; try with_reducible rfl
     try simp only [pL]
     refine tkH 11 (some 26) rfl rfl ?_ hS ?_ ?_; rotate_left; · rintro W' ⟨_,_,_,_,_,_⟩; go_simp; try with_reducible rfl
     try simp only [pL]
     refine tkH 12 (some 27) rfl rfl ?_ hS ?_ ?_; rotate_left; · rintro W' ⟨_,_,_,_,_,_⟩; go_simp; try with_reducible rfl
     try simp only [pL]
     refine wpAnyH_ready (rs := [13]) (by kernel_rfl) (by simp) ?_
     refine AllReadyH.cons rfl (fun K hK => ?_) AllReadyH.nil
     go_simp
     go_wp2_with fail
     refine (v_check x.val _).mono ?_
     rintro e w1 ⟨rfl, hE1⟩
     have hX := (⟨Mod.ext hS.1 hE1, hE1.cell hS.2.1 id, hE1.cell hS.2.2.1 id, hE1.cell hS.2.2.2.1 id, hE1.cell hS.2.2.2.2.1 id, hE1.cell hS.2.2.2.2.2 id⟩ : Ext w w1 ∧ _ ∧ _ ∧ _ ∧ _ ∧ _)
     go_simp
     refine hK.out _ _ hX (fun hS => ?_)
     clear hK K
     refine tkH 14 (some 29) rfl rfl ?_ hS ?_ ?_; rotate_left; · rintro W' ⟨_,_,_,_,_,_⟩; go_simp; try with_reducible rfl
     try simp only [pL]
     refine tkH 15 (some 30) rfl rfl ?_ hS ?_ ?_; rotate_left; · rintro W' ⟨_,_,_,_,_,_⟩; go_simp; try with_reducible rfl
     try simp only [pL]
     refine tkH 16 (some 31) rfl rfl ?_ hS ?_ ?_; rotate_left; · rintro W' ⟨_,_,_,_,_,_⟩; go_simp; try with_reducible rfl
     try simp only [pL]
     refine tkH 17 (some 32) rfl rfl ?_ hS ?_ ?_; rotate_left; · rintro W' ⟨_,_,_,_,_,_⟩; go_simp; try with_reducible rfl
     try simp only [pL]
     refine tkH 18 (some 33) rfl rfl ?_ hS ?_ ?_; rotate_left; · rintro W' ⟨_,_,_,_,_,_⟩; go_simp; try with_reducible rfl
     try simp only [pL]
     refine tkH 19 (some 34) rfl rfl ?_ hS ?_ ?_; rotate_left; · rintro W' ⟨_,_,_,_,_,_⟩; go_simp; try with_reducible rfl
     try simp only [pL]
     refine tkH 20 (some 35) rfl rfl ?_ hS ?_ ?_; rotate_left; · rintro W' ⟨_,_,_,_,_,_⟩; go_simp; try with_reducible rfl
     try simp only [pL]
     refine tkH 21 (some 36) rfl rfl ?_ hS ?_ ?_; rotate_left; · rintro W' ⟨_,_,_,_,_,_⟩; go_simp; try with_reducible rfl
     try simp only [pL]
     refine tkH 22 (some 37) rfl rfl ?_ hS ?_ ?_; rotate_left; · rintro W' ⟨_,_,_,_,_,_⟩; go_simp; try with_reducible rfl
     try simp only [pL]
     refine tkH 23 (some 38) rfl rfl ?_ hS ?_ ?_; rotate_left; · rintro W' ⟨_,_,_,_,_,_⟩; go_simp; try with_reducible rfl
     try simp only [pL]
     refine tkH 24 (some 39) rfl rfl ?_ hS ?_ ?_; rotate_left; · rintro W' ⟨_,_,_,_,_,_⟩; go_simp; try with_reducible rfl
     try simp only [pL]
     refine tkH 25 (some 40) rfl rfl ?_ hS ?_ ?_; rotate_left; · rintro W' ⟨_,_,_,_,_,_⟩; go_simp; try with_reducible rfl
     try simp only [pL]
     refine tkH 26 (some 41) rfl rfl ?_ hS ?_ ?_; rotate_left; · rintro W' ⟨_,_,_,_,_,_⟩; go_simp; try with_reducible rfl
     try simp only [pL]
     refine tkH 27 (some 42) rfl rfl ?_ hS ?_ ?_; rotate_left; · rintro W' ⟨_,_,_,_,_,_⟩; go_simp; try with_reducible rfl
     try simp only [pL]
     refine tkH 28 (some 43) rfl rfl ?_ hS ?_ ?_; rotate_left; · rintro W' ⟨_,_,_,_,_,_⟩; go_simp; try with_reducible rfl
     try simp only [pL]
     refine tkH 29 (some 44) rfl rfl ?_ hS ?_ ?_; rotate_left; · rintro W' ⟨_,_,_,_,_,_⟩; go_simp; try with_reducible rfl
     try simp only [pL]
     refine tkH 30 (some 45) rfl rfl ?_ hS ?_ ?_; rotate_left; · rintro W' ⟨_,_,_,_,_,_⟩; go_simp; try with_reducible rfl
     try simp only [pL]
     refine wpAnyH_done (by kernel_rfl) ?_ _
     go_wp2
     go_ret
     exact ⟨ret_int Hf.out.symm, hS.1⟩
    ·
     have Hst := Lib.hid (Hg.out.step Hx.out Hok.out (fun k' p' e hp' => by
      obtain rfl : k = k' := by omega
      rw [Hp.out] at hp'; cases hp'; exact hlt))
     have hbl : Op.bytesLess p.key.toList x.key.toList = true := hlt
     refine wp_region_held_drew (S := (fun W' => Ext w W' ∧ W'.cell? ⟨wr.heap.size, 0, none⟩ = some (.string x.key) ∧ W'.cell? ⟨wr.heap.size, 1, none⟩ = some (.int .i64 x.val.kind) ∧ W'.cell? ⟨wr.heap.size, 2, none⟩ = some (.float .f64 x.val.num) ∧ W'.cell? ⟨wr.heap.size, 3, none⟩ = some (.string x.val.text) ∧ W'.cell? ⟨g, off + k * 4, none⟩ = some (.string p.key))) (by kernel_rfl) ⟨hF.drew, b0, b1, b2, b3, p0⟩ (fun hS => ?_)
     refine tkH 0 (some 15) rfl rfl ?_ hS ?_ ?_; rotate_left; · rintro W' ⟨_,_,_,_,_,_⟩; go_simp; try with_reducible rfl
     try simp only [pL]
     refine tkH 1 (some 16) rfl rfl ?_ hS ?_ ?_; rotate_left; · rintro W' ⟨_,_,_,_,_,_⟩; go_simp; try with_reducible rfl
     try simp only [pL]
     refine wpAnyH_ready (rs := [2]) (by kernel_rfl) (by simp) ?_
     refine AllReadyH.cons rfl (fun K hK => ?_) AllReadyH.nil
     go_simp
     go_wp2_with fail
     refine (kv_rightKey x.key _).mono ?_
     rintro e w1 ⟨rfl, rfl⟩
     rw [hr]
     have hX := hS
     go_simp
     refine hK.out _ _ hX (fun hS => ?_)
     clear hK K
     refine tkH 3 (some 18) rfl rfl ?_ hS ?_ ?_; rotate_left; · rintro W' ⟨_,_,_,_,_,_⟩; go_simp; try with_reducible rfl
     try simp only [pL]
     refine tkH 4 (some 19) rfl rfl ?_ hS ?_ ?_; rotate_left; · rintro W' ⟨_,_,_,_,_,_⟩; go_simp; try with_reducible rfl
     try simp only [pL]
     refine tkH 5 (some 20) rfl rfl ?_ hS ?_ ?_; rotate_left; · rintro W' ⟨_,_,_,_,_,_⟩; go_simp; try with_reducible rfl
     try simp only [pL]
     refine tkH 6 (some 21) rfl rfl ?_ hS ?_ ?_; rotate_left; · rintro W' ⟨_,_,_,_,_,_⟩; go_simp; try with_reducible rfl
     try simp only [pL]
     refine tkH 7 (some 22) rfl rfl ?_ hS ?_ ?_; rotate_left; · rintro W' ⟨_,_,_,_,_,_⟩; go_simp; try with_reducible rfl
     try simp only [pL]
     refine tkH 8 (some 23) rfl rfl ?_ hS ?_ ?_; rotate_left; · rintro W' ⟨_,_,_,_,_,_⟩; go_simp; try with_reducible rfl
     try simp only [pL]
     refine tkH 9 (some 24) rfl rfl ?_ hS ?_ ?_; rotate_left; · rintro W' ⟨_,_,_,_,_,_⟩; go_simp; try with_reducible rfl
     try simp only [pL]
     refine tkH 10 (some 25) rfl rfl ?_ hS ?_ ?_; rotate_left; · rintro W' ⟨_,_,_,_,_,_⟩; go_simp; try with_reducible rfl
     try simp only [pL]
     refine tkH 11 (some 26) rfl rfl ?_ hS ?_ ?_; rotate_left; · rintro W' ⟨_,_,_,_,_,_⟩; go_simp; try with_reducible rfl
     try simp only [pL]
     refine tkH 12 (some 27) rfl rfl ?_ hS ?_ ?_; rotate_left; · rintro W' ⟨_,_,_,_,_,_⟩; go_simp; try with_reducible rfl
     try simp only [pL]
     refine wpAnyH_ready (rs := [13]) (by kernel_rfl) (by simp) ?_
     refine AllReadyH.cons rfl (fun K hK => ?_) AllReadyH.nil
     go_simp
     go_wp2_with fail
     refine (v_check x.val _).mono ?_
     rintro e w1 ⟨rfl, hE1⟩
     have hX := (⟨Mod.ext hS.1 hE1, hE1.cell hS.2.1 id, hE1.cell hS.2.2.1 id, hE1.cell hS.2.2.2.1 id, hE1.cell hS.2.2.2.2.1 id, hE1.cell hS.2.2.2.2.2 id⟩ : Ext w w1 ∧ _ ∧ _ ∧ _ ∧ _ ∧ _)
     go_simp
     refine hK.out _ _ hX (fun hS => ?_)
     clear hK K
     refine tkH 14 (some 29) rfl rfl ?_ hS ?_ ?_; rotate_left; · rintro W' ⟨_,_,_,_,_,_⟩; go_simp; try with_reducible rfl
     try simp only [pL]
     refine tkH 15 (some 30) rfl rfl ?_ hS ?_ ?_; rotate_left; · rintro W' ⟨_,_,_,_,_,_⟩; go_simp; try with_reducible rfl
     try simp only [pL]
     refine tkH 16 (some 31) rfl rfl ?_ hS ?_ ?_; rotate_left; · rintro W' ⟨_,_,_,_,_,_⟩; go_simp; try with_reducible rfl
     try simp only [pL]
     refine tkH 17 (some 32) rfl rfl ?_ hS ?_ ?_; rotate_left; · rintro W' ⟨_,_,_,_,_,_⟩; go_simp; try with_reducible rfl
     try simp only [pL]
     refine tkH 18 (some 33) rfl rfl ?_ hS ?_ ?_; rotate_left; · rintro W' ⟨_,_,_,_,_,_⟩; go_simp; try with_reducible rfl
     try simp only [pL]
     refine tkH 19 (some 34) rfl rfl ?_ hS ?_ ?_; rotate_left; · rintro W' ⟨_,_,_,_,_,_⟩; go_simp; try with_reducible rfl
     try simp only [pL]
     refine tkH 20 (some 35) rfl rfl ?_ hS ?_ ?_; rotate_left; · rintro W' ⟨_,_,_,_,_,_⟩; go_simp; try with_reducible rfl
     try simp only [pL]
     refine tkH 21 (some 36) rfl rfl ?_ hS ?_ ?_; rotate_left; · rintro W' ⟨_,_,_,_,_,_⟩; go_simp; try with_reducible rfl
     try simp only [pL]
     refine tkH 22 (some 37) rfl rfl ?_ hS ?_ ?_; rotate_left; · rintro W' ⟨_,_,_,_,_,_⟩; go_simp; try with_reducible rfl
     try simp only [pL]
     refine tkH 23 (some 38) rfl rfl ?_ hS ?_ ?_; rotate_left; · rintro W' ⟨_,_,_,_,_,_⟩; go_simp; try with_reducible rfl
     try simp only [pL]
     refine tkH 24 (some 39) rfl rfl ?_ hS ?_ ?_; rotate_left; · rintro W' ⟨_,_,_,_,_,_⟩; go_simp; try with_reducible rfl
     try simp only [pL]
     refine tkH 25 (some 40) rfl rfl ?_ hS ?_ ?_; rotate_left; · rintro W' ⟨_,_,_,_,_,_⟩; go_simp; try with_reducible rfl
     try simp only [pL]
     refine tkH 26 (some 41) rfl rfl ?_ hS ?_ ?_; rotate_left; · rintro W' ⟨_,_,_,_,_,_⟩; go_simp; try with_reducible rfl
     try simp only [pL]
     refine tkH 27 (some 42) rfl rfl ?_ hS ?_ ?_; rotate_left; · rintro W' ⟨_,_,_,_,_,_⟩; go_simp; try with_reducible rfl
     try simp only [pL]
     refine tkH 28 (some 43) rfl rfl ?_ hS ?_ ?_; rotate_left; · rintro W' ⟨_,_,_,_,_,_⟩; go_simp; try with_reducible rfl
     try simp only [pL]
     refine tkH 29 (some 44) rfl rfl ?_ hS ?_ ?_; rotate_left; · rintro W' ⟨_,_,_,_,_,_⟩; go_simp; try with_reducible rfl
     try simp only [pL]
     refine tkH 30 (some 45) rfl rfl ?_ hS ?_ ?_; rotate_left; · rintro W' ⟨_,_,_,_,_,_⟩; go_simp; try with_reducible rfl
     try simp only [pL]
     refine wpAnyH_done (by kernel_rfl) ?_ _
     go_wp2
     clear z4
     exact ⟨⟨k + 1 + 1, by have := Hrel.out; omega, by go_num, hS.1, Hst.out⟩, by have := Hrel.out; simp [intOf]; omega⟩
  ·
   have Hf : Hid (chkP l = 0) := Lib.hid (chkP_yes (pairs_good (by rw [Hn.out, show n = i from by omega]; exact Hg.out) (by rw [Hn.out]; omega)))
   go_wp2
   go_ret
   exact ⟨ret_int Hf.out.symm, hE⟩
end Go.Proofs.YtbclnghbgoblcaaGreat

namespace Go.Proofs.YtbclnghbgoblcaaGreat
set_option linter.unusedSimpArgs false
open Go.RowKit

theorem getP_drop {l : List APair} {i : Nat} {x : APair} (k : ByteArray) (h : l[i]? = some x) : getP (l.drop i) k = if eqT x.key k then x.val else getP (l.drop (i + 1)) k := by
 obtain ⟨hi, rfl⟩ := List.getElem?_eq_some_iff.1 h
 rw [List.drop_eq_getElem_cons hi]
 rfl

set_option maxRecDepth 100000 in
set_option maxHeartbeats 1000000 in
theorem r_get (w : World) (T : Nat → Prop) (v : Value) (l : List APair) (key : ByteArray) (h : Prs w T v l) :
  Calls Tryz.prog 63 #[v, .string key] w fun e w' => e = .returned (.agg #[.int .i64 (getP l key).kind, .float .f64 (getP l key).num, .string (getP l key).text]) ∧ Ext w w' := by
 obtain ⟨n, hn⟩ : ∃ n, l.length = n := ⟨_, rfl⟩
 obtain ⟨A, c, rfl⟩ := h.form
 have hl := h.1.le
 unfold maxLen at hl
 rw [hn] at h hl ⊢
 have Hn := Lib.hid hn
 clear hn
 obtain ⟨r, hr⟩ : ∃ r, getP l key = r := ⟨_, rfl⟩
 rw [hr]
 have Hr := Lib.hid hr
 clear hr
 have hE : Ext w (w.alloc (.cells #[.int .i64 0, .float .f64 0, .string ⟨#[]⟩] 40)) := (Mod.refl _ w).alloc _
 have h2 := h.ext hE
 go_enter Tryz.func63, Tryz.ntmps63
 go_wp2
 go_loop [5] (fun iv => ∃ i : Nat, i ≤ n ∧ iv = .int .i64 i ∧ getP (l.drop i) key = r) (fun iv => n - (intOf iv).toNat)
 case atStart => exact ⟨0, by omega, rfl, by simpa using Hr.out⟩
 case round =>
  obtain ⟨i, hin, rfl, hg⟩ := hrel
  have Hg := Lib.hid hg
  clear hg
  by_cases hi : i < n
  ·
   obtain ⟨g, off, x, rfl, hgT, hx, hxok, hcells⟩ := h2.at hi
   have hi0 : (0 : Int) ≤ (i : Int) := by omega
   have hi1 : (i : Int) < (n : Int) := by omega
   have x0 := hcells 0 _ rfl
   have x1 := hcells 1 _ rfl
   have x2 := hcells 2 _ rfl
   have x3 := hcells 3 _ rfl
   rw [Nat.add_zero] at x0
   have hd := getP_drop key hx
   have Hd := Lib.hid hd
   clear hcells hx hxok hd
   have hT : (x.key.toList == key.toList) = eqT x.key key := rfl
   rcases hk : eqT x.key key with _ | _
   ·
    rw [hk] at hT
    have Hn2 : Hid (getP (l.drop (i + 1)) key = r) := Lib.hid (by have := Hd.out; rw [hk, Hg.out] at this; exact this.symm)
    go_wp2
    exact ⟨⟨i + 1, by omega, by go_num, Hn2.out⟩, by simp [intOf]; omega⟩
   ·
    rw [hk] at hT
    have e : x.val = r := by have := Hd.out; rw [hk, Hg.out] at this; exact this.symm
    have He := Lib.hid e
    clear e
    go_wp2
    refine bodyPost_ret (v := .agg #[.int .i64 x.val.kind, .float .f64 x.val.num, .string x.val.text]) (by simp [results, Tryz.results63, go_sem]) rfl ⟨by rw [He.out], ?_⟩
    refine Mod.toExt ?_
    repeat (first | exact Mod.refl _ _ | (refine Mod.setCell ?_ (.inl (by first | omega | (simp <;> omega))) _) | refine Mod.alloc ?_ _)
  ·
   have e : AVal.zero = r := by
    have := Hg.out
    rw [List.drop_eq_nil_of_le (by rw [Hn.out]; omega)] at this
    exact this
   have He := Lib.hid e
   clear e
   go_wp2
   refine bodyPost_ret (v := .agg #[.int .i64 0, .float .f64 0, .string ⟨#[]⟩]) (by simp [results, Tryz.results63, go_sem]) rfl ⟨by rw [← He.out]; rfl, ?_⟩
   refine Mod.toExt ?_
   repeat (first | exact Mod.refl _ _ | (refine Mod.setCell ?_ (.inl (by first | omega | (simp <;> omega))) _) | refine Mod.alloc ?_ _)
end Go.Proofs.YtbclnghbgoblcaaGreat

namespace Go.Proofs.YtbclnghbgoblcaaGreat
set_option linter.unusedSimpArgs false
open Go.RowKit

/-- Where the first pair of a key stands; -1: there is none. -/
def placeP : List APair → ByteArray → Int
 | [], _ => -1
 | p :: l, k => if eqT p.key k then 0 else (let r := placeP l k; if r < 0 then -1 else r + 1)
theorem placeP_lo (l : List APair) (k : ByteArray) : -1 ≤ placeP l k ∧ placeP l k < l.length := by
 induction l with
 | nil => simp [placeP]
 | cons p l ih =>
  rw [placeP]
  split
  ·
   simp <;> omega
  ·
   simp only
   split
   ·
    simp <;> omega
   ·
    simp <;> omega
theorem getP_place (l : List APair) (k : ByteArray) : (placeP l k < 0 → getP l k = AVal.zero) ∧ (∀ j : Nat, placeP l k = j → ∃ x, l[j]? = some x ∧ getP l k = x.val) := by
 induction l with
 | nil => exact ⟨fun _ => rfl, fun j h => by simp [placeP] at h <;> omega⟩
 | cons p l ih =>
  rw [placeP, getP_cons]
  by_cases h : eqT p.key k = true
  ·
   rw [if_pos h, if_pos h]
   refine ⟨fun h => by omega, fun j hj => ?_⟩
   obtain rfl : j = 0 := by omega
   exact ⟨p, rfl, rfl⟩
  ·
   rw [if_neg h, if_neg h]
   simp only
   by_cases h2 : placeP l k < 0
   ·
    rw [if_pos h2]
    exact ⟨fun _ => ih.1 h2, fun j hj => by omega⟩
   ·
    rw [if_neg h2]
    refine ⟨fun h3 => by omega, fun j hj => ?_⟩
    obtain ⟨j', rfl⟩ : ∃ j', j = j' + 1 := ⟨j - 1, by omega⟩
    obtain ⟨x, h4, h5⟩ := ih.2 j' (by omega)
    exact ⟨x, by simpa using h4, h5⟩
/-- The first one from i on. -/
theorem placeP_found {l : List APair} {i : Nat} {x : APair} {k : ByteArray} (h : l[i]? = some x) (hx : eqT x.key k = true) (hb : ∀ j y, j < i → l[j]? = some y → eqT y.key k = false) : placeP l k = i := by
 induction l generalizing i with
 | nil => simp at h
 | cons p l ih =>
  rw [placeP]
  cases i with
  | zero => simp at h; subst h; rw [if_pos hx]; rfl
  | succ i =>
   rw [if_neg (by rw [hb 0 p (by omega) rfl]; simp)]
   have := ih (i := i) (by simpa using h) (fun j y hj hy => hb (j + 1) y (by omega) (by simpa using hy))
   simp only [this]
   rw [if_neg (by omega)]
   omega
theorem placeP_none {l : List APair} {k : ByteArray} (hb : ∀ (j : Nat) y, l[j]? = some y → eqT y.key k = false) : placeP l k = -1 := by
 induction l with
 | nil => rfl
 | cons p l ih =>
  rw [placeP, if_neg (by rw [hb 0 p rfl]; simp)]
  have := ih (fun j y hy => hb (j + 1) y (by simpa using hy))
  simp only [this]
  rfl

set_option maxRecDepth 100000 in
set_option maxHeartbeats 400000 in
theorem kv_place1 (x : APair) (key : ByteArray) (b : Nat) (w : World) (hb : w.cell? ⟨b, 0, none⟩ = some (.string key)) :
  Calls Tryz.prog 104 #[.agg #[.string x.key, .int .i64 x.val.kind, .float .f64 x.val.num, .string x.val.text], .pointer (some ⟨b, 0, none⟩)] w fun e w' => e = .returned (.bool (eqT x.key key)) ∧ Ext w w' := by
 have hT : (x.key.toList == key.toList) = eqT x.key key := rfl
 have hlt : b < w.heap.size := World.block_lt_of_cell? _ _ hb
 go_enter Tryz.func104, Tryz.ntmps104
 go_wp2
 go_ret
 exact ⟨rfl, (Mod.refl _ w).alloc _⟩

set_option maxRecDepth 100000 in
set_option maxHeartbeats 1000000 in
theorem sl_index (w : World) (T : Nat → Prop) (v : Value) (l : List APair) (key : ByteArray) (b : Nat) (h : Prs w T v l) (hb : w.cell? ⟨b, 0, none⟩ = some (.string key)) :
  Calls Tryz.prog 103 #[v, .func (Fn.func 104) #[] #[.pointer (some ⟨b, 0, none⟩)]] w fun e w' => e = .returned (.int .i64 (placeP l key)) ∧ Ext w w' := by
 obtain ⟨n, hn⟩ : ∃ n, l.length = n := ⟨_, rfl⟩
 obtain ⟨A, c, rfl⟩ := h.form
 have hl := h.1.le
 unfold maxLen at hl
 rw [hn] at h hl ⊢
 have Hn := Lib.hid hn
 clear hn
 go_enter Tryz.func103, Tryz.ntmps103
 go_wp2
 go_loopw [8] (fun iv wr => ∃ i : Nat, i ≤ n ∧ iv = .int .i64 i ∧ Ext w wr ∧ ∀ j y, j < i → l[j]? = some y → eqT y.key key = false) (fun iv _ => n - (intOf iv).toNat)
 case atStart => exact ⟨0, by omega, rfl, Mod.refl _ w, fun j y hj => by omega⟩
 case round =>
  obtain ⟨i, hin, rfl, hE, hg⟩ := hrel
  have Hg := Lib.hid hg
  have h2 := h.ext hE
  clear hg
  by_cases hi : i < n
  ·
   obtain ⟨g, off, x, rfl, hgT, hx, hxok, hcells⟩ := h2.at hi
   have hi0 : (0 : Int) ≤ (i : Int) := by omega
   have hi1 : (i : Int) < (n : Int) := by omega
   have x0 := hcells 0 _ rfl
   have x1 := hcells 1 _ rfl
   have x2 := hcells 2 _ rfl
   have x3 := hcells 3 _ rfl
   rw [Nat.add_zero] at x0
   have Hx := Lib.hid hx
   clear hcells hx h2 hxok
   go_wp2_with fail
   refine (kv_place1 x key b _ (hE.cell hb id)).mono ?_
   rintro e w1 ⟨rfl, hE1⟩
   have hF := Mod.ext hE hE1
   clear hE1 x0 x1 x2 x3
   rcases hk : eqT x.key key with _ | _
   ·
    have Hst : Hid (∀ j y, j < i + 1 → l[j]? = some y → eqT y.key key = false) := Lib.hid (fun j y hj hy => by
     by_cases e : j = i
     ·
      subst e; rw [Hx.out] at hy; cases hy; exact hk
     ·
      exact Hg.out j y (by omega) hy)
    go_wp2
    exact ⟨⟨i + 1, by omega, by go_num, hF, Hst.out⟩, by simp [intOf]; omega⟩
   ·
    have Hf : Hid (placeP l key = i) := Lib.hid (placeP_found Hx.out hk Hg.out)
    go_wp2
    go_ret
    exact ⟨ret_int Hf.out.symm, hF⟩
  ·
   have Hf : Hid (placeP l key = -1) := Lib.hid (placeP_none (fun j y hy => Hg.out j y (by have := (List.getElem?_eq_some_iff.1 hy).1; have := Hn.out; omega) hy))
   go_wp2
   go_ret
   exact ⟨ret_int Hf.out.symm, hE⟩
set_option maxRecDepth 100000 in
set_option maxHeartbeats 1000000 in
theorem kv_place (w : World) (T : Nat → Prop) (v : Value) (l : List APair) (key : ByteArray) (h : Prs w T v l) :
  Calls Tryz.prog 89 #[v, .string key] w fun e w' => e = .returned (.int .i64 (placeP l key)) ∧ Ext w w' := by
 have hmf : ∀ (fn : Fn) (first cap : Array Value) (w : World), (Instr.makeFunc fn first cap).run Tryz.prog w = .ok (.func fn first cap) w := fun _ _ _ _ => rfl
 have hE : Ext w (w.alloc (.cells #[.string key] 9)) := (Mod.refl _ w).alloc _
 go_enter Tryz.func89, Tryz.ntmps89
 go_wp2_with fail
 refine (sl_index _ T v l key w.heap.size (h.ext hE) (by simp)).mono ?_
 rintro e w1 ⟨rfl, hE1⟩
 have HE := Lib.hid (Mod.ext hE hE1)
 clear hE1 hE
 go_wp2
 go_ret
 exact ⟨rfl, HE.out⟩
set_option maxRecDepth 100000 in
set_option maxHeartbeats 1000000 in
theorem kv_get (w : World) (T : Nat → Prop) (v : Value) (l : List APair) (key : ByteArray) (h : Prs w T v l) :
  Calls Tryz.prog 77 #[v, .string key] w fun e w' => e = .returned (.agg #[.int .i64 (getP l key).kind, .float .f64 (getP l key).num, .string (getP l key).text]) ∧ Ext w w' := by
 have hE : Ext w (w.alloc (.cells #[.int .i64 0, .float .f64 0, .string ⟨#[]⟩] 40)) := (Mod.refl _ w).alloc _
 have hp := getP_place l key
 have hlo := placeP_lo l key
 obtain ⟨n, hn⟩ : ∃ n, l.length = n := ⟨_, rfl⟩
 obtain ⟨A, c, rfl⟩ := h.form
 rw [hn] at h hlo ⊢
 have hl := h.len.2
 unfold maxLen at hl
 go_enter Tryz.func77, Tryz.ntmps77
 go_wp2_with fail
 refine (kv_place _ T _ l key (h.ext hE)).mono ?_
 rintro e w1 ⟨rfl, hE1⟩
 have h2 := h.ext (Mod.ext hE hE1)
 obtain ⟨hc1, hf1⟩ := bcell hE1
 have hz1 := hE1.size
 simp at hz1
 have q : w.heap.size < w1.heap.size := by omega
 have HM : Hid (Mod (Since w.heap.size) w w1) := Lib.hid (((Mod.refl (Since w.heap.size) w).alloc _).ext hE1)
 clear hE1 hE h
 by_cases hneg : placeP l key < 0
 ·
  have d : decide (placeP l key < 0) = true := by simpa using hneg
  have Hv := Lib.hid (hp.1 hneg)
  clear hp hlo hn h2 hneg
  go_wp2
  refine bodyPost_ret (v := .agg #[.int .i64 0, .float .f64 0, .string ⟨#[]⟩]) (by simp [results, Tryz.results77, go_sem, hc1, q]) rfl ⟨by rw [Hv.out]; rfl, ?_⟩
  refine Mod.toExt ?_
  repeat (first | exact HM.out | (refine Mod.setCell ?_ (.inl (by first | omega | (simp <;> omega))) _) | refine Mod.alloc ?_ _)
 ·
  obtain ⟨j, hj⟩ : ∃ j : Nat, placeP l key = j := ⟨(placeP l key).toNat, by omega⟩
  obtain ⟨x, hx, hv⟩ := hp.2 j hj
  have hjn : j < n := by rw [hj] at hlo; omega
  obtain ⟨g, off, y, rfl, hgT, hy, _, hcells⟩ := h2.at hjn
  rw [hx] at hy
  cases hy
  have hi0 : (0 : Int) ≤ (j : Int) := by omega
  have hi1 : (j : Int) < (n : Int) := by omega
  have d : decide ((j : Int) < 0) = false := by simp
  have x0 := hcells 0 _ rfl
  have x1 := hcells 1 _ rfl
  have x2 := hcells 2 _ rfl
  have x3 := hcells 3 _ rfl
  have Hv := Lib.hid hv
  rw [hj]
  clear hcells hp hlo hn h2 hneg hj hx hv
  go_wp2
  refine bodyPost_ret (v := .agg #[.int .i64 x.val.kind, .float .f64 x.val.num, .string x.val.text]) (by simp [results, Tryz.results77, go_sem, hc1, q]) rfl ⟨by rw [Hv.out], ?_⟩
  refine Mod.toExt ?_
  repeat (first | exact HM.out | (refine Mod.setCell ?_ (.inl (by first | omega | (simp <;> omega))) _) | refine Mod.alloc ?_ _)
end Go.Proofs.YtbclnghbgoblcaaGreat

namespace Go.Proofs.YtbclnghbgoblcaaGreat
set_option linter.unusedSimpArgs false
open Go.RowKit

theorem info_pair : (Tryz.prog.info? 94).map (fun i => (i.zero, i.size, i.bytes)) = some (some (.agg #[.string ⟨#[]⟩, .int .i64 0, .float .f64 0, .string ⟨#[]⟩]), 4, 48) := by kernel_rfl
theorem pair_one (l : List APair) : ∀ u ∈ l.flatMap APair.cells, u.oneCell' = true := by
 intro u hu
 obtain ⟨p, _, hp⟩ := List.mem_flatMap.1 hu
 simp only [APair.cells, List.mem_cons, List.not_mem_nil, or_false] at hp
 rcases hp with rfl | rfl | rfl | rfl <;> rfl

set_option maxRecDepth 100000 in
set_option maxHeartbeats 400000 in
theorem k_twinPairs (w : World) (T : Nat → Prop) (v : Value) (l : List APair) (h : Prs w T v l) (hl : l.length ≤ 1000000) :
  Calls Tryz.prog 61 #[v] w fun e w' => ∃ v', e = .returned v' ∧ NewP w w' v' l ∧ Ext w w' := by
 obtain ⟨i0, hi, hz0, hz1, hz2⟩ := info_parts info_pair
 obtain ⟨n, hn⟩ : ∃ n, l.length = n := ⟨_, rfl⟩
 obtain ⟨A, c, rfl⟩ := h.form
 obtain ⟨h1, h2⟩ := h
 rw [hn] at hl h1 ⊢
 have Hn := Lib.hid hn
 have H2 := Lib.hid h2
 clear hn h2
 go_enter Tryz.func61, Tryz.ntmps61
 go_wp2_with (at_builtin; refine wpList_app _ rfl _ _ 30 rfl 94 i0 _ 4 48 Tryz.underlying30 hi hz0 hz1 hz2 rfl (by omega) _ 0 [] rfl (World.ownsRow_nil _ _ _ _) T _ n (l.flatMap APair.cells) rfl h1 (pair_one l) (by simp only [maxLen]; omega) (by omega) ?_)
 intro v' w1 ho hgr hat
 have hE : Ext w w1 := (Mod.refl _ w).grown hgr (by simp [Value.ownBlock])
 have hN : NewP w w1 v' l := by
  refine ⟨by rw [Hn.out]; simpa using ho, H2.out, fun g hgg => ?_⟩
  rcases hat with e | e <;> rw [e] at hgg <;> simp [Value.ownBlock] at hgg <;> omega
 go_wp2
 go_ret
 exact ⟨v', rfl, hN, hE⟩

set_option maxRecDepth 100000 in
set_option maxHeartbeats 400000 in
theorem sl_clone (w : World) (T : Nat → Prop) (v : Value) (l : List APair) (h : Prs w T v l) (hl : l.length ≤ 1000000) :
  Calls Tryz.prog 57 #[v] w fun e w' => ∃ v', e = .returned v' ∧ NewP w w' v' l ∧ Ext w w' := by
 obtain ⟨i0, hi, hz0, hz1, hz2⟩ := info_parts info_pair
 obtain ⟨n, hn⟩ : ∃ n, l.length = n := ⟨_, rfl⟩
 obtain ⟨A, c, rfl⟩ := h.form
 obtain ⟨h1, h2⟩ := h
 rw [hn] at hl h1 ⊢
 have Hn := Lib.hid hn
 have H2 := Lib.hid h2
 clear hn h2
 have heq := fun (w : World) (a : Option Addr) (n c n' c' : Nat) => Lib.run_eql_slice_nil (P := Tryz.prog) w 30 94 a n c n' c' Tryz.underlying30
 rcases A with _ | A
 ·
  have hn0 : n = 0 := by
   rcases Nat.eq_zero_or_pos n with h0 | h0
   ·
    exact h0
   ·
    obtain ⟨_, A', c', e, _, _, hx⟩ := h1
    injection e with e1 _ _
    obtain ⟨g, off, hA, _⟩ := hx h0
    rw [← e1] at hA; cases hA
  have hl0 : l = [] := List.eq_nil_of_length_eq_zero (by rw [Hn.out]; exact hn0)
  subst hl0
  clear h1
  go_enter Tryz.func57, Tryz.ntmps57
  go_wp2
  go_ret
  exact ⟨_, rfl, ⟨World.ownsRow_nil _ _ _ _, by simp, by simp [Value.ownBlock]⟩, Mod.refl _ w⟩
 ·
  have hEa : Ext w (w.alloc (.cells #[] 94)) := (Mod.refl _ w).alloc _
  have h3 := h1.ext hEa
  have hown : (w.alloc (.cells #[] 94)).ownsRow 0 94 4 (.slice (some ⟨w.heap.size, 0, none⟩) 0 0) 0 [] := World.ownsRow_made w #[] 0 (Nat.zero_le _) (by simp [maxLen]) rfl
  go_enter Tryz.func57, Tryz.ntmps57
  go_wp2_with (at_builtin; refine wpList_app _ rfl _ _ 30 rfl 94 i0 _ 4 48 Tryz.underlying30 hi hz0 hz1 hz2 rfl (by omega) _ 0 [] rfl hown T _ n (l.flatMap APair.cells) rfl h3 (pair_one l) (by simp only [maxLen]; omega) (by omega) ?_)
  intro v' w1 ho hgr hat
  have hM : Mod (Since w.heap.size) w w1 := (((Mod.refl (Since w.heap.size) w).alloc _).grown hgr (fun k hk => by
   simp [Value.ownBlock] at hk; subst hk; exact .inl (Nat.le_refl _)))
  have hN : NewP w w1 v' l := by
   refine ⟨by rw [Hn.out]; simpa using ho, H2.out, fun g hgg => ?_⟩
   rcases hat with e | e <;> rw [e] at hgg <;> simp [Value.ownBlock] at hgg <;> omega
  go_wp2
  go_ret
  exact ⟨v', rfl, hN, hM.toExt⟩
end Go.Proofs.YtbclnghbgoblcaaGreat

namespace Go.Proofs.YtbclnghbgoblcaaGreat
set_option linter.unusedSimpArgs false
open Go.RowKit

def eqReply (a b : AReply) : Bool := a.code == b.code && eqVal a.val b.val
set_option maxRecDepth 100000 in
set_option maxHeartbeats 400000 in
theorem k_reply (a b : AReply) (w : World) : Calls Tryz.prog 30 #[.agg #[.int .i64 a.code, .int .i64 a.val.kind, .float .f64 a.val.num, .string a.val.text], .agg #[.int .i64 b.code, .int .i64 b.val.kind, .float .f64 b.val.num, .string b.val.text]] w fun e w' => e = .returned (.bool (eqReply a b)) ∧ Ext w w' := by
 have hE : Ext w ((w.alloc (.cells #[.int .i64 a.code, .int .i64 a.val.kind, .float .f64 a.val.num, .string a.val.text] 46)).alloc (.cells #[.int .i64 b.code, .int .i64 b.val.kind, .float .f64 b.val.num, .string b.val.text] 46)) := ((Mod.refl _ w).alloc _).alloc _
 unfold eqReply
 rcases h : (a.code == b.code) with _ | _
 ·
  go_enter Tryz.func30, Tryz.ntmps30
  go_wp2
  go_ret
  exact ⟨rfl, hE⟩
 ·
  go_enter Tryz.func30, Tryz.ntmps30
  go_wp2_with fail
  refine (k_value a.val b.val _).mono ?_
  rintro e w1 ⟨rfl, hE1⟩
  have HE := Lib.hid (Mod.ext hE hE1)
  clear hE hE1
  go_wp2
  go_ret
  exact ⟨rfl, HE.out⟩
/-- What kv throws. -/
def thrownK (e : Int) (v : AVal) : Ending := .panicked [{ v := .iface 97 (.agg #[.int .i64 e, .int .i64 v.kind, .float .f64 v.num, .string v.text]), recovered := false }]
set_option maxRecDepth 100000 in
set_option maxHeartbeats 400000 in
theorem kv_throw_no (w : World) : Calls Tryz.prog 58 #[.int .i64 0] w fun e w' => e = .returned (.tuple #[]) ∧ w = w' := by
 go_enter Tryz.func58, Tryz.ntmps58
 go_wp2
 go_end0
 exact ⟨rfl, rfl⟩
set_option maxRecDepth 100000 in
set_option maxHeartbeats 400000 in
theorem kv_throw (n : Int) (hn : n ≠ 0) (w : World) : Calls Tryz.prog 58 #[.int .i64 n] w fun e w' => e = thrownK n AVal.zero ∧ w = w' := by
 have d : (n != 0) = true := by simpa using hn
 clear hn
 go_enter Tryz.func58, Tryz.ntmps58
 go_wp2
 exact ⟨rfl, rfl, rfl⟩
end Go.Proofs.YtbclnghbgoblcaaGreat

namespace Go.Proofs.YtbclnghbgoblcaaGreat
set_option linter.unusedSimpArgs false
open Go.RowKit

set_option maxRecDepth 100000 in
set_option maxHeartbeats 4000000 in
theorem r_pairs (w : World) (T : Nat → Prop) (v : Value) (l : List APair) (h : Prs w T v l) :
  Calls Tryz.prog 62 #[v] w fun e w' => e = .returned (.bool (pairsB l)) ∧ Ext w w' := by
 obtain ⟨n, hn⟩ : ∃ n, l.length = n := ⟨_, rfl⟩
 obtain ⟨A, c, rfl⟩ := h.form
 have hl := h.1.le
 unfold maxLen at hl
 rw [hn] at h hl ⊢
 have Hn := Lib.hid hn
 clear hn
 go_enter Tryz.func62, Tryz.ntmps62
 go_wp2
 go_loopw [3] (fun iv wr => ∃ i : Nat, i ≤ n ∧ iv = .int .i64 i ∧ Ext w wr ∧ Good l i) (fun iv _ => n - (intOf iv).toNat)
 case atStart => exact ⟨0, by omega, rfl, Mod.refl _ w, Good.zero l⟩
 case round =>
  obtain ⟨i, hin, rfl, hE, hg⟩ := hrel
  have Hg := Lib.hid hg
  have h2 := h.ext hE
  clear hg
  by_cases hi : i < n
  ·
   obtain ⟨g, off, x, rfl, hgT, hx, hxok, hcells⟩ := h2.at hi
   have hi0 : (0 : Int) ≤ (i : Int) := by omega
   have hi1 : (i : Int) < (n : Int) := by omega
   have x0 := hcells 0 _ rfl
   have x1 := hcells 1 _ rfl
   have x2 := hcells 2 _ rfl
   have x3 := hcells 3 _ rfl
   rw [Nat.add_zero] at x0
   have Hx := Lib.hid hx
   have H2 := Lib.hid h2
   clear hcells hx h2 hxok
   go_wp2_with fail
   by_cases hs : x.key.size < 1
   ·
    have d1 : decide ((x.key.size : Int) < 1) = true := by simp; omega
    have Hf : Hid (pairsB l = false) := Lib.hid (pairs_bad Hx.out (by unfold pairOk rightKeyB; have : ¬ 1 ≤ x.key.size := by omega
                                                                      simp [this]))
    clear hs
    refine wp_region_held_drew (S := (fun W' => Ext w W' ∧ W'.cell? ⟨g, off + i * 4, none⟩ = some (.string x.key) ∧ W'.cell? ⟨g, off + i * 4 + 1, none⟩ = some (.int .i64 x.val.kind) ∧ W'.cell? ⟨g, off + i * 4 + 2, none⟩ = some (.float .f64 x.val.num) ∧ W'.cell? ⟨g, off + i * 4 + 3, none⟩ = some (.string x.val.text))) (by kernel_rfl) ⟨hE.drew, x0, x1, x2, x3⟩ (fun hS => ?_)
    refine tkH 0 (some 10) rfl rfl ?_ hS ?_ ?_; rotate_left; · rintro W' ⟨_,_,_,_,_⟩; go_simp; try with_reducible rfl
    try simp only [pL]
    refine tkH 1 (some 11) rfl rfl ?_ hS ?_ ?_; rotate_left; · rintro W' ⟨_,_,_,_,_⟩; go_simp; try with_reducible rfl
    try simp only [pL]
    refine tkH 2 (some 12) rfl rfl ?_ hS ?_ ?_; rotate_left; · rintro W' ⟨_,_,_,_,_⟩; go_simp; try with_reducible rfl
    try simp only [pL]
    refine tkH 3 (some 13) rfl rfl ?_ hS ?_ ?_; rotate_left; · rintro W' ⟨_,_,_,_,_⟩; go_simp; try with_reducible rfl
    try simp only [pL]
    refine tkH 4 (some 14) rfl rfl ?_ hS ?_ ?_; rotate_left; · rintro W' ⟨_,_,_,_,_⟩; go_simp; try with_reducible rfl
    try simp only [pL]
    refine tkH 5 (some 15) rfl rfl ?_ hS ?_ ?_; rotate_left; · rintro W' ⟨_,_,_,_,_⟩; go_simp; try with_reducible rfl
    try simp only [pL]
    refine tkH 6 (some 16) rfl rfl ?_ hS ?_ ?_; rotate_left; · rintro W' ⟨_,_,_,_,_⟩; go_simp; try with_reducible rfl
    try simp only [pL]
    refine tkH 7 (some 17) rfl rfl ?_ hS ?_ ?_; rotate_left; · rintro W' ⟨_,_,_,_,_⟩; go_simp; try with_reducible rfl
    try simp only [pL]
    refine tuH 8 (some 18) rfl rfl hS ?_
    try simp only [pL]
    refine tuH 9 (some 19) rfl rfl hS ?_
    try simp only [pL]
    refine tuH 10 (some 20) rfl rfl hS ?_
    try simp only [pL]
    refine tuH 11 (some 21) rfl rfl hS ?_
    try simp only [pL]
    refine tuH 12 (some 22) rfl rfl hS ?_
    try simp only [pL]
    refine tuH 13 (some 23) rfl rfl hS ?_
    try simp only [pL]
    refine tuH 14 (some 24) rfl rfl hS ?_
    try simp only [pL]
    refine tkH 15 (some 25) rfl rfl ?_ hS ?_ ?_; rotate_left; · rintro W' ⟨_,_,_,_,_⟩; go_simp; try with_reducible rfl
    try simp only [pL]
    refine tkH 16 (some 26) rfl rfl ?_ hS ?_ ?_; rotate_left; · rintro W' ⟨_,_,_,_,_⟩; go_simp; try with_reducible rfl
    try simp only [pL]
    refine tuH 17 (some 27) rfl rfl hS ?_
    try simp only [pL]
    refine tuH 18 (some 28) rfl rfl hS ?_
    try simp only [pL]
    refine tuH 19 (some 29) rfl rfl hS ?_
    try simp only [pL]
    refine tuH 20 (some 30) rfl rfl hS ?_
    try simp only [pL]
    refine tuH 21 (some 31) rfl rfl hS ?_
    try simp only [pL]
    refine tuH 22 (some 32) rfl rfl hS ?_
    try simp only [pL]
    refine tuH 23 (some 33) rfl rfl hS ?_
    try simp only [pL]
    refine tkH 24 (some 34) rfl rfl ?_ hS ?_ ?_; rotate_left; · rintro W' ⟨_,_,_,_,_⟩; go_simp; try with_reducible rfl
    try simp only [pL]
    refine tkH 25 (some 35) rfl rfl ?_ hS ?_ ?_; rotate_left; · rintro W' ⟨_,_,_,_,_⟩; go_simp; try with_reducible rfl
    try simp only [pL]
    refine tuH 26 (some 36) rfl rfl hS ?_
    try simp only [pL]
    refine tuH 27 (some 37) rfl rfl hS ?_
    try simp only [pL]
    refine tuH 28 (some 38) rfl rfl hS ?_
    try simp only [pL]
    refine tuH 29 (some 39) rfl rfl hS ?_
    try simp only [pL]
    refine tuH 30 (some 40) rfl rfl hS ?_
    try simp only [pL]
    refine tuH 31 (some 41) rfl rfl hS ?_
    try simp only [pL]
    refine tuH 32 (some 42) rfl rfl hS ?_
    try simp only [pL]
    refine tkH 33 (some 43) rfl rfl ?_ hS ?_ ?_; rotate_left; · rintro W' ⟨_,_,_,_,_⟩; go_simp; try with_reducible rfl
    try simp only [pL]
    refine tkH 34 (some 44) rfl rfl ?_ hS ?_ ?_; rotate_left; · rintro W' ⟨_,_,_,_,_⟩; go_simp; try with_reducible rfl
    try simp only [pL]
    refine tuH 35 (some 45) rfl rfl hS ?_
    try simp only [pL]
    refine tuH 36 (some 46) rfl rfl hS ?_
    try simp only [pL]
    refine tuH 37 (some 47) rfl rfl hS ?_
    try simp only [pL]
    refine tuH 38 (some 48) rfl rfl hS ?_
    try simp only [pL]
    refine tuH 39 (some 49) rfl rfl hS ?_
    try simp only [pL]
    refine tuH 40 (some 50) rfl rfl hS ?_
    try simp only [pL]
    refine tuH 41 (some 51) rfl rfl hS ?_
    try simp only [pL]
    refine tuH 42 (some 52) rfl rfl hS ?_
    try simp only [pL]
    refine tuH 43 (some 53) rfl rfl hS ?_
    try simp only [pL]
    refine tuH 44 (some 54) rfl rfl hS ?_
    try simp only [pL]
    refine tuH 45 (some 55) rfl rfl hS ?_
    try simp only [pL]
    refine tuH 46 (some 56) rfl rfl hS ?_
    try simp only [pL]
    refine tuH 47 (some 57) rfl rfl hS ?_
    try simp only [pL]
    refine tuH 48 (some 58) rfl rfl hS ?_
    try simp only [pL]
    refine tuH 49 (some 59) rfl rfl hS ?_
    try simp only [pL]
    refine tuH 50 (some 60) rfl rfl hS ?_
    try simp only [pL]
    refine tkH 51 (some 61) rfl rfl ?_ hS ?_ ?_; rotate_left; · rintro W' ⟨_,_,_,_,_⟩; go_simp; try with_reducible rfl
    try simp only [pL]
    refine wpAnyH_done (by kernel_rfl) ?_ _
    go_wp2
    go_ret
    exact ⟨ret_bool Hf.out.symm, hS.1⟩
   have d1 : decide ((x.key.size : Int) < 1) = false := by simp; omega
   by_cases hb : 8 < x.key.size
   ·
    have d2 : decide ((8 : Int) < (x.key.size : Int)) = true := by simp; omega
    have Hf : Hid (pairsB l = false) := Lib.hid (pairs_bad Hx.out (by unfold pairOk rightKeyB; have : ¬ x.key.size ≤ 8 := by omega
                                                                      simp [this]))
    clear hs hb
    refine wp_region_held_drew (S := (fun W' => Ext w W' ∧ W'.cell? ⟨g, off + i * 4, none⟩ = some (.string x.key) ∧ W'.cell? ⟨g, off + i * 4 + 1, none⟩ = some (.int .i64 x.val.kind) ∧ W'.cell? ⟨g, off + i * 4 + 2, none⟩ = some (.float .f64 x.val.num) ∧ W'.cell? ⟨g, off + i * 4 + 3, none⟩ = some (.string x.val.text))) (by kernel_rfl) ⟨hE.drew, x0, x1, x2, x3⟩ (fun hS => ?_)
    refine tkH 0 (some 10) rfl rfl ?_ hS ?_ ?_; rotate_left; · rintro W' ⟨_,_,_,_,_⟩; go_simp; try with_reducible rfl
    try simp only [pL]
    refine tkH 1 (some 11) rfl rfl ?_ hS ?_ ?_; rotate_left; · rintro W' ⟨_,_,_,_,_⟩; go_simp; try with_reducible rfl
    try simp only [pL]
    refine tkH 2 (some 12) rfl rfl ?_ hS ?_ ?_; rotate_left; · rintro W' ⟨_,_,_,_,_⟩; go_simp; try with_reducible rfl
    try simp only [pL]
    refine tkH 3 (some 13) rfl rfl ?_ hS ?_ ?_; rotate_left; · rintro W' ⟨_,_,_,_,_⟩; go_simp; try with_reducible rfl
    try simp only [pL]
    refine tkH 4 (some 14) rfl rfl ?_ hS ?_ ?_; rotate_left; · rintro W' ⟨_,_,_,_,_⟩; go_simp; try with_reducible rfl
    try simp only [pL]
    refine tkH 5 (some 15) rfl rfl ?_ hS ?_ ?_; rotate_left; · rintro W' ⟨_,_,_,_,_⟩; go_simp; try with_reducible rfl
    try simp only [pL]
    refine tkH 6 (some 16) rfl rfl ?_ hS ?_ ?_; rotate_left; · rintro W' ⟨_,_,_,_,_⟩; go_simp; try with_reducible rfl
    try simp only [pL]
    refine tkH 7 (some 17) rfl rfl ?_ hS ?_ ?_; rotate_left; · rintro W' ⟨_,_,_,_,_⟩; go_simp; try with_reducible rfl
    try simp only [pL]
    refine tkH 8 (some 18) rfl rfl ?_ hS ?_ ?_; rotate_left; · rintro W' ⟨_,_,_,_,_⟩; go_simp; try with_reducible rfl
    try simp only [pL]
    refine tkH 9 (some 19) rfl rfl ?_ hS ?_ ?_; rotate_left; · rintro W' ⟨_,_,_,_,_⟩; go_simp; try with_reducible rfl
    try simp only [pL]
    refine tkH 10 (some 20) rfl rfl ?_ hS ?_ ?_; rotate_left; · rintro W' ⟨_,_,_,_,_⟩; go_simp; try with_reducible rfl
    try simp only [pL]
    refine tkH 11 (some 21) rfl rfl ?_ hS ?_ ?_; rotate_left; · rintro W' ⟨_,_,_,_,_⟩; go_simp; try with_reducible rfl
    try simp only [pL]
    refine tkH 12 (some 22) rfl rfl ?_ hS ?_ ?_; rotate_left; · rintro W' ⟨_,_,_,_,_⟩; go_simp; try with_reducible rfl
    try simp only [pL]
    refine tkH 13 (some 23) rfl rfl ?_ hS ?_ ?_; rotate_left; · rintro W' ⟨_,_,_,_,_⟩; go_simp; try with_reducible rfl
    try simp only [pL]
    refine tkH 14 (some 24) rfl rfl ?_ hS ?_ ?_; rotate_left; · rintro W' ⟨_,_,_,_,_⟩; go_simp; try with_reducible rfl
    try simp only [pL]
    refine tkH 15 (some 25) rfl rfl ?_ hS ?_ ?_; rotate_left; · rintro W' ⟨_,_,_,_,_⟩; go_simp; try with_reducible rfl
    try simp only [pL]
    refine tkH 16 (some 26) rfl rfl ?_ hS ?_ ?_; rotate_left; · rintro W' ⟨_,_,_,_,_⟩; go_simp; try with_reducible rfl
    try simp only [pL]
    refine tuH 17 (some 27) rfl rfl hS ?_
    try simp only [pL]
    refine tuH 18 (some 28) rfl rfl hS ?_
    try simp only [pL]
    refine tuH 19 (some 29) rfl rfl hS ?_
    try simp only [pL]
    refine tuH 20 (some 30) rfl rfl hS ?_
    try simp only [pL]
    refine tuH 21 (some 31) rfl rfl hS ?_
    try simp only [pL]
    refine tuH 22 (some 32) rfl rfl hS ?_
    try simp only [pL]
    refine tuH 23 (some 33) rfl rfl hS ?_
    try simp only [pL]
    refine tkH 24 (some 34) rfl rfl ?_ hS ?_ ?_; rotate_left; · rintro W' ⟨_,_,_,_,_⟩; go_simp; try with_reducible rfl
    try simp only [pL]
    refine tkH 25 (some 35) rfl rfl ?_ hS ?_ ?_; rotate_left; · rintro W' ⟨_,_,_,_,_⟩; go_simp; try with_reducible rfl
    try simp only [pL]
    refine tuH 26 (some 36) rfl rfl hS ?_
    try simp only [pL]
    refine tuH 27 (some 37) rfl rfl hS ?_
    try simp only [pL]
    refine tuH 28 (some 38) rfl rfl hS ?_
    try simp only [pL]
    refine tuH 29 (some 39) rfl rfl hS ?_
    try simp only [pL]
    refine tuH 30 (some 40) rfl rfl hS ?_
    try simp only [pL]
    refine tuH 31 (some 41) rfl rfl hS ?_
    try simp only [pL]
    refine tuH 32 (some 42) rfl rfl hS ?_
    try simp only [pL]
    refine tkH 33 (some 43) rfl rfl ?_ hS ?_ ?_; rotate_left; · rintro W' ⟨_,_,_,_,_⟩; go_simp; try with_reducible rfl
    try simp only [pL]
    refine tkH 34 (some 44) rfl rfl ?_ hS ?_ ?_; rotate_left; · rintro W' ⟨_,_,_,_,_⟩; go_simp; try with_reducible rfl
    try simp only [pL]
    refine tuH 35 (some 45) rfl rfl hS ?_
    try simp only [pL]
    refine tuH 36 (some 46) rfl rfl hS ?_
    try simp only [pL]
    refine tuH 37 (some 47) rfl rfl hS ?_
    try simp only [pL]
    refine tuH 38 (some 48) rfl rfl hS ?_
    try simp only [pL]
    refine tuH 39 (some 49) rfl rfl hS ?_
    try simp only [pL]
    refine tuH 40 (some 50) rfl rfl hS ?_
    try simp only [pL]
    refine tuH 41 (some 51) rfl rfl hS ?_
    try simp only [pL]
    refine tuH 42 (some 52) rfl rfl hS ?_
    try simp only [pL]
    refine tuH 43 (some 53) rfl rfl hS ?_
    try simp only [pL]
    refine tuH 44 (some 54) rfl rfl hS ?_
    try simp only [pL]
    refine tuH 45 (some 55) rfl rfl hS ?_
    try simp only [pL]
    refine tuH 46 (some 56) rfl rfl hS ?_
    try simp only [pL]
    refine tuH 47 (some 57) rfl rfl hS ?_
    try simp only [pL]
    refine tuH 48 (some 58) rfl rfl hS ?_
    try simp only [pL]
    refine tuH 49 (some 59) rfl rfl hS ?_
    try simp only [pL]
    refine tuH 50 (some 60) rfl rfl hS ?_
    try simp only [pL]
    refine tkH 51 (some 61) rfl rfl ?_ hS ?_ ?_; rotate_left; · rintro W' ⟨_,_,_,_,_⟩; go_simp; try with_reducible rfl
    try simp only [pL]
    refine wpAnyH_done (by kernel_rfl) ?_ _
    go_wp2
    go_ret
    exact ⟨ret_bool Hf.out.symm, hS.1⟩
   have d2 : decide ((8 : Int) < (x.key.size : Int)) = false := by simp; omega
   have Hr : Hid (rightKeyB x.key = true) := Lib.hid (by unfold rightKeyB; have h1 : 1 ≤ x.key.size := by omega
                                                         have h2 : x.key.size ≤ 8 := by omega
                                                         simp [h1, h2])
   clear hs hb
   rcases hk : (x.val.kind == 0) with _ | _
   case true =>
    have Hf : Hid (pairsB l = false) := Lib.hid (pairs_bad Hx.out (by unfold pairOk; rw [show (x.val.kind != 0) = false from by simpa using hk]; simp))
    refine wp_region_held_drew (S := (fun W' => Ext w W' ∧ W'.cell? ⟨g, off + i * 4, none⟩ = some (.string x.key) ∧ W'.cell? ⟨g, off + i * 4 + 1, none⟩ = some (.int .i64 x.val.kind) ∧ W'.cell? ⟨g, off + i * 4 + 2, none⟩ = some (.float .f64 x.val.num) ∧ W'.cell? ⟨g, off + i * 4 + 3, none⟩ = some (.string x.val.text))) (by kernel_rfl) ⟨hE.drew, x0, x1, x2, x3⟩ (fun hS => ?_)
    refine tkH 0 (some 10) rfl rfl ?_ hS ?_ ?_; rotate_left; · rintro W' ⟨_,_,_,_,_⟩; go_simp; try with_reducible rfl
    try simp only [pL]
    refine tkH 1 (some 11) rfl rfl ?_ hS ?_ ?_; rotate_left; · rintro W' ⟨_,_,_,_,_⟩; go_simp; try with_reducible rfl
    try simp only [pL]
    refine tkH 2 (some 12) rfl rfl ?_ hS ?_ ?_; rotate_left; · rintro W' ⟨_,_,_,_,_⟩; go_simp; try with_reducible rfl
    try simp only [pL]
    refine tkH 3 (some 13) rfl rfl ?_ hS ?_ ?_; rotate_left; · rintro W' ⟨_,_,_,_,_⟩; go_simp; try with_reducible rfl
    try simp only [pL]
    refine tkH 4 (some 14) rfl rfl ?_ hS ?_ ?_; rotate_left; · rintro W' ⟨_,_,_,_,_⟩; go_simp; try with_reducible rfl
    try simp only [pL]
    refine tkH 5 (some 15) rfl rfl ?_ hS ?_ ?_; rotate_left; · rintro W' ⟨_,_,_,_,_⟩; go_simp; try with_reducible rfl
    try simp only [pL]
    refine tkH 6 (some 16) rfl rfl ?_ hS ?_ ?_; rotate_left; · rintro W' ⟨_,_,_,_,_⟩; go_simp; try with_reducible rfl
    try simp only [pL]
    refine tkH 7 (some 17) rfl rfl ?_ hS ?_ ?_; rotate_left; · rintro W' ⟨_,_,_,_,_⟩; go_simp; try with_reducible rfl
    try simp only [pL]
    refine tkH 8 (some 18) rfl rfl ?_ hS ?_ ?_; rotate_left; · rintro W' ⟨_,_,_,_,_⟩; go_simp; try with_reducible rfl
    try simp only [pL]
    refine tkH 9 (some 19) rfl rfl ?_ hS ?_ ?_; rotate_left; · rintro W' ⟨_,_,_,_,_⟩; go_simp; try with_reducible rfl
    try simp only [pL]
    refine tkH 10 (some 20) rfl rfl ?_ hS ?_ ?_; rotate_left; · rintro W' ⟨_,_,_,_,_⟩; go_simp; try with_reducible rfl
    try simp only [pL]
    refine tkH 11 (some 21) rfl rfl ?_ hS ?_ ?_; rotate_left; · rintro W' ⟨_,_,_,_,_⟩; go_simp; try with_reducible rfl
    try simp only [pL]
    refine tkH 12 (some 22) rfl rfl ?_ hS ?_ ?_; rotate_left; · rintro W' ⟨_,_,_,_,_⟩; go_simp; try with_reducible rfl
    try simp only [pL]
    refine tkH 13 (some 23) rfl rfl ?_ hS ?_ ?_; rotate_left; · rintro W' ⟨_,_,_,_,_⟩; go_simp; try with_reducible rfl
    try simp only [pL]
    refine tkH 14 (some 24) rfl rfl ?_ hS ?_ ?_; rotate_left; · rintro W' ⟨_,_,_,_,_⟩; go_simp; try with_reducible rfl
    try simp only [pL]
    refine tkH 15 (some 25) rfl rfl ?_ hS ?_ ?_; rotate_left; · rintro W' ⟨_,_,_,_,_⟩; go_simp; try with_reducible rfl
    try simp only [pL]
    refine tkH 16 (some 26) rfl rfl ?_ hS ?_ ?_; rotate_left; · rintro W' ⟨_,_,_,_,_⟩; go_simp; try with_reducible rfl
    try simp only [pL]
    refine tkH 17 (some 27) rfl rfl ?_ hS ?_ ?_; rotate_left; · rintro W' ⟨_,_,_,_,_⟩; go_simp; try with_reducible rfl
    try simp only [pL]
    refine tkH 18 (some 28) rfl rfl ?_ hS ?_ ?_; rotate_left; · rintro W' ⟨_,_,_,_,_⟩; go_simp; try with_reducible rfl
    try simp only [pL]
    refine tkH 19 (some 29) rfl rfl ?_ hS ?_ ?_; rotate_left; · rintro W' ⟨_,_,_,_,_⟩; go_simp; try with_reducible rfl
    try simp only [pL]
    refine tkH 20 (some 30) rfl rfl ?_ hS ?_ ?_; rotate_left; · rintro W' ⟨_,_,_,_,_⟩; go_simp; try with_reducible rfl
    try simp only [pL]
    refine tkH 21 (some 31) rfl rfl ?_ hS ?_ ?_; rotate_left; · rintro W' ⟨_,_,_,_,_⟩; go_simp; try with_reducible rfl
    try simp only [pL]
    refine tkH 22 (some 32) rfl rfl ?_ hS ?_ ?_; rotate_left; · rintro W' ⟨_,_,_,_,_⟩; go_simp; try with_reducible rfl
    try simp only [pL]
    refine tkH 23 (some 33) rfl rfl ?_ hS ?_ ?_; rotate_left; · rintro W' ⟨_,_,_,_,_⟩; go_simp; try with_reducible rfl
    try simp only [pL]
    refine tkH 24 (some 34) rfl rfl ?_ hS ?_ ?_; rotate_left; · rintro W' ⟨_,_,_,_,_⟩; go_simp; try with_reducible rfl
    try simp only [pL]
    refine tkH 25 (some 35) rfl rfl ?_ hS ?_ ?_; rotate_left; · rintro W' ⟨_,_,_,_,_⟩; go_simp; try with_reducible rfl
    try simp only [pL]
    refine tuH 26 (some 36) rfl rfl hS ?_
    try simp only [pL]
    refine tuH 27 (some 37) rfl rfl hS ?_
    try simp only [pL]
    refine tuH 28 (some 38) rfl rfl hS ?_
    try simp only [pL]
    refine tuH 29 (some 39) rfl rfl hS ?_
    try simp only [pL]
    refine tuH 30 (some 40) rfl rfl hS ?_
    try simp only [pL]
    refine tuH 31 (some 41) rfl rfl hS ?_
    try simp only [pL]
    refine tuH 32 (some 42) rfl rfl hS ?_
    try simp only [pL]
    refine tkH 33 (some 43) rfl rfl ?_ hS ?_ ?_; rotate_left; · rintro W' ⟨_,_,_,_,_⟩; go_simp; try with_reducible rfl
    try simp only [pL]
    refine tkH 34 (some 44) rfl rfl ?_ hS ?_ ?_; rotate_left; · rintro W' ⟨_,_,_,_,_⟩; go_simp; try with_reducible rfl
    try simp only [pL]
    refine tuH 35 (some 45) rfl rfl hS ?_
    try simp only [pL]
    refine tuH 36 (some 46) rfl rfl hS ?_
    try simp only [pL]
    refine tuH 37 (some 47) rfl rfl hS ?_
    try simp only [pL]
    refine tuH 38 (some 48) rfl rfl hS ?_
    try simp only [pL]
    refine tuH 39 (some 49) rfl rfl hS ?_
    try simp only [pL]
    refine tuH 40 (some 50) rfl rfl hS ?_
    try simp only [pL]
    refine tuH 41 (some 51) rfl rfl hS ?_
    try simp only [pL]
    refine tuH 42 (some 52) rfl rfl hS ?_
    try simp only [pL]
    refine tuH 43 (some 53) rfl rfl hS ?_
    try simp only [pL]
    refine tuH 44 (some 54) rfl rfl hS ?_
    try simp only [pL]
    refine tuH 45 (some 55) rfl rfl hS ?_
    try simp only [pL]
    refine tuH 46 (some 56) rfl rfl hS ?_
    try simp only [pL]
    refine tuH 47 (some 57) rfl rfl hS ?_
    try simp only [pL]
    refine tuH 48 (some 58) rfl rfl hS ?_
    try simp only [pL]
    refine tuH 49 (some 59) rfl rfl hS ?_
    try simp only [pL]
    refine tuH 50 (some 60) rfl rfl hS ?_
    try simp only [pL]
    refine tkH 51 (some 61) rfl rfl ?_ hS ?_ ?_; rotate_left; · rintro W' ⟨_,_,_,_,_⟩; go_simp; try with_reducible rfl
    try simp only [pL]
    refine wpAnyH_done (by kernel_rfl) ?_ _
    go_wp2
    go_ret
    exact ⟨ret_bool Hf.out.symm, hS.1⟩
   by_cases hc : chk x.val = 0
   case neg =>
    have hc' : (chk x.val != 0) = true := by simpa using hc
    have Hf : Hid (pairsB l = false) := Lib.hid (pairs_bad Hx.out (by unfold pairOk; rw [show (chk x.val == 0) = false from by simpa using hc]; simp))
    clear hc
    refine wp_region_held_drew (S := (fun W' => Ext w W' ∧ W'.cell? ⟨g, off + i * 4, none⟩ = some (.string x.key) ∧ W'.cell? ⟨g, off + i * 4 + 1, none⟩ = some (.int .i64 x.val.kind) ∧ W'.cell? ⟨g, off + i * 4 + 2, none⟩ = some (.float .f64 x.val.num) ∧ W'.cell? ⟨g, off + i * 4 + 3, none⟩ = some (.string x.val.text))) (by kernel_rfl) ⟨hE.drew, x0, x1, x2, x3⟩ (fun hS => ?_)
    refine tkH 0 (some 10) rfl rfl ?_ hS ?_ ?_; rotate_left; · rintro W' ⟨_,_,_,_,_⟩; go_simp; try with_reducible rfl
    try simp only [pL]
    refine tkH 1 (some 11) rfl rfl ?_ hS ?_ ?_; rotate_left; · rintro W' ⟨_,_,_,_,_⟩; go_simp; try with_reducible rfl
    try simp only [pL]
    refine tkH 2 (some 12) rfl rfl ?_ hS ?_ ?_; rotate_left; · rintro W' ⟨_,_,_,_,_⟩; go_simp; try with_reducible rfl
    try simp only [pL]
    refine tkH 3 (some 13) rfl rfl ?_ hS ?_ ?_; rotate_left; · rintro W' ⟨_,_,_,_,_⟩; go_simp; try with_reducible rfl
    try simp only [pL]
    refine tkH 4 (some 14) rfl rfl ?_ hS ?_ ?_; rotate_left; · rintro W' ⟨_,_,_,_,_⟩; go_simp; try with_reducible rfl
    try simp only [pL]
    refine tkH 5 (some 15) rfl rfl ?_ hS ?_ ?_; rotate_left; · rintro W' ⟨_,_,_,_,_⟩; go_simp; try with_reducible rfl
    try simp only [pL]
    refine tkH 6 (some 16) rfl rfl ?_ hS ?_ ?_; rotate_left; · rintro W' ⟨_,_,_,_,_⟩; go_simp; try with_reducible rfl
    try simp only [pL]
    refine tkH 7 (some 17) rfl rfl ?_ hS ?_ ?_; rotate_left; · rintro W' ⟨_,_,_,_,_⟩; go_simp; try with_reducible rfl
    try simp only [pL]
    refine tkH 8 (some 18) rfl rfl ?_ hS ?_ ?_; rotate_left; · rintro W' ⟨_,_,_,_,_⟩; go_simp; try with_reducible rfl
    try simp only [pL]
    refine tkH 9 (some 19) rfl rfl ?_ hS ?_ ?_; rotate_left; · rintro W' ⟨_,_,_,_,_⟩; go_simp; try with_reducible rfl
    try simp only [pL]
    refine tkH 10 (some 20) rfl rfl ?_ hS ?_ ?_; rotate_left; · rintro W' ⟨_,_,_,_,_⟩; go_simp; try with_reducible rfl
    try simp only [pL]
    refine tkH 11 (some 21) rfl rfl ?_ hS ?_ ?_; rotate_left; · rintro W' ⟨_,_,_,_,_⟩; go_simp; try with_reducible rfl
    try simp only [pL]
    refine tkH 12 (some 22) rfl rfl ?_ hS ?_ ?_; rotate_left; · rintro W' ⟨_,_,_,_,_⟩; go_simp; try with_reducible rfl
    try simp only [pL]
    refine tkH 13 (some 23) rfl rfl ?_ hS ?_ ?_; rotate_left; · rintro W' ⟨_,_,_,_,_⟩; go_simp; try with_reducible rfl
    try simp only [pL]
    refine tkH 14 (some 24) rfl rfl ?_ hS ?_ ?_; rotate_left; · rintro W' ⟨_,_,_,_,_⟩; go_simp; try with_reducible rfl
    try simp only [pL]
    refine tkH 15 (some 25) rfl rfl ?_ hS ?_ ?_; rotate_left; · rintro W' ⟨_,_,_,_,_⟩; go_simp; try with_reducible rfl
    try simp only [pL]
    refine tkH 16 (some 26) rfl rfl ?_ hS ?_ ?_; rotate_left; · rintro W' ⟨_,_,_,_,_⟩; go_simp; try with_reducible rfl
    try simp only [pL]
    refine tkH 17 (some 27) rfl rfl ?_ hS ?_ ?_; rotate_left; · rintro W' ⟨_,_,_,_,_⟩; go_simp; try with_reducible rfl
    try simp only [pL]
    refine tkH 18 (some 28) rfl rfl ?_ hS ?_ ?_; rotate_left; · rintro W' ⟨_,_,_,_,_⟩; go_simp; try with_reducible rfl
    try simp only [pL]
    refine tkH 19 (some 29) rfl rfl ?_ hS ?_ ?_; rotate_left; · rintro W' ⟨_,_,_,_,_⟩; go_simp; try with_reducible rfl
    try simp only [pL]
    refine tkH 20 (some 30) rfl rfl ?_ hS ?_ ?_; rotate_left; · rintro W' ⟨_,_,_,_,_⟩; go_simp; try with_reducible rfl
    try simp only [pL]
    refine tkH 21 (some 31) rfl rfl ?_ hS ?_ ?_; rotate_left; · rintro W' ⟨_,_,_,_,_⟩; go_simp; try with_reducible rfl
    try simp only [pL]
    refine tkH 22 (some 32) rfl rfl ?_ hS ?_ ?_; rotate_left; · rintro W' ⟨_,_,_,_,_⟩; go_simp; try with_reducible rfl
    try simp only [pL]
    refine tkH 23 (some 33) rfl rfl ?_ hS ?_ ?_; rotate_left; · rintro W' ⟨_,_,_,_,_⟩; go_simp; try with_reducible rfl
    try simp only [pL]
    refine tkH 24 (some 34) rfl rfl ?_ hS ?_ ?_; rotate_left; · rintro W' ⟨_,_,_,_,_⟩; go_simp; try with_reducible rfl
    try simp only [pL]
    refine tkH 25 (some 35) rfl rfl ?_ hS ?_ ?_; rotate_left; · rintro W' ⟨_,_,_,_,_⟩; go_simp; try with_reducible rfl
    try simp only [pL]
    refine tkH 26 (some 36) rfl rfl ?_ hS ?_ ?_; rotate_left; · rintro W' ⟨_,_,_,_,_⟩; go_simp; try with_reducible rfl
    try simp only [pL]
    refine tkH 27 (some 37) rfl rfl ?_ hS ?_ ?_; rotate_left; · rintro W' ⟨_,_,_,_,_⟩; go_simp; try with_reducible rfl
    try simp only [pL]
    refine tkH 28 (some 38) rfl rfl ?_ hS ?_ ?_; rotate_left; · rintro W' ⟨_,_,_,_,_⟩; go_simp; try with_reducible rfl
    try simp only [pL]
    refine tkH 29 (some 39) rfl rfl ?_ hS ?_ ?_; rotate_left; · rintro W' ⟨_,_,_,_,_⟩; go_simp; try with_reducible rfl
    try simp only [pL]
    refine tkH 30 (some 40) rfl rfl ?_ hS ?_ ?_; rotate_left; · rintro W' ⟨_,_,_,_,_⟩; go_simp; try with_reducible rfl
    try simp only [pL]
    refine wpAnyH_ready (rs := [31]) (by kernel_rfl) (by simp) ?_
    refine AllReadyH.cons rfl (fun K hK => ?_) AllReadyH.nil
    go_simp
    go_wp2_with fail
    refine (r_check x.val _).mono ?_
    rintro e w1 ⟨rfl, hE1⟩
    have hX := (⟨Mod.ext hS.1 hE1, hE1.cell hS.2.1 id, hE1.cell hS.2.2.1 id, hE1.cell hS.2.2.2.1 id, hE1.cell hS.2.2.2.2 id⟩ : Ext w w1 ∧ _ ∧ _ ∧ _ ∧ _)
    go_simp
    refine hK.out _ _ hX (fun hS => ?_)
    clear hK K
    refine tkH 32 (some 42) rfl rfl ?_ hS ?_ ?_; rotate_left; · rintro W' ⟨_,_,_,_,_⟩; go_simp; try with_reducible rfl
    try simp only [pL]
    refine tkH 33 (some 43) rfl rfl ?_ hS ?_ ?_; rotate_left; · rintro W' ⟨_,_,_,_,_⟩; go_simp; try with_reducible rfl
    try simp only [pL]
    refine tkH 34 (some 44) rfl rfl ?_ hS ?_ ?_; rotate_left; · rintro W' ⟨_,_,_,_,_⟩; go_simp; try with_reducible rfl
    try simp only [pL]
    refine tuH 35 (some 45) rfl rfl hS ?_
    try simp only [pL]
    refine tuH 36 (some 46) rfl rfl hS ?_
    try simp only [pL]
    refine tuH 37 (some 47) rfl rfl hS ?_
    try simp only [pL]
    refine tuH 38 (some 48) rfl rfl hS ?_
    try simp only [pL]
    refine tuH 39 (some 49) rfl rfl hS ?_
    try simp only [pL]
    refine tuH 40 (some 50) rfl rfl hS ?_
    try simp only [pL]
    refine tuH 41 (some 51) rfl rfl hS ?_
    try simp only [pL]
    refine tuH 42 (some 52) rfl rfl hS ?_
    try simp only [pL]
    refine tuH 43 (some 53) rfl rfl hS ?_
    try simp only [pL]
    refine tuH 44 (some 54) rfl rfl hS ?_
    try simp only [pL]
    refine tuH 45 (some 55) rfl rfl hS ?_
    try simp only [pL]
    refine tuH 46 (some 56) rfl rfl hS ?_
    try simp only [pL]
    refine tuH 47 (some 57) rfl rfl hS ?_
    try simp only [pL]
    refine tuH 48 (some 58) rfl rfl hS ?_
    try simp only [pL]
    refine tuH 49 (some 59) rfl rfl hS ?_
    try simp only [pL]
    refine tuH 50 (some 60) rfl rfl hS ?_
    try simp only [pL]
    refine tkH 51 (some 61) rfl rfl ?_ hS ?_ ?_; rotate_left; · rintro W' ⟨_,_,_,_,_⟩; go_simp; try with_reducible rfl
    try simp only [pL]
    refine wpAnyH_done (by kernel_rfl) ?_ _
    go_wp2
    go_ret
    exact ⟨ret_bool Hf.out.symm, hS.1⟩
   have hc' : (chk x.val != 0) = false := by simpa using hc
   have Hok : Hid (pairOk x = true) := Lib.hid (by unfold pairOk; rw [Hr.out, show (x.val.kind != 0) = true from by simpa using hk, hc]; rfl)
   clear hc
   by_cases hz : i = 0
   ·
    have Hst := Lib.hid (Hg.out.step Hx.out Hok.out (fun k p e => by omega))
    have z0 : decide (0 < i) = false := by simp; omega
    clear hz
    refine wp_region_held_drew (S := (fun W' => Ext w W' ∧ W'.cell? ⟨g, off + i * 4, none⟩ = some (.string x.key) ∧ W'.cell? ⟨g, off + i * 4 + 1, none⟩ = some (.int .i64 x.val.kind) ∧ W'.cell? ⟨g, off + i * 4 + 2, none⟩ = some (.float .f64 x.val.num) ∧ W'.cell? ⟨g, off + i * 4 + 3, none⟩ = some (.string x.val.text))) (by kernel_rfl) ⟨hE.drew, x0, x1, x2, x3⟩ (fun hS => ?_)
    refine tkH 0 (some 10) rfl rfl ?_ hS ?_ ?_; rotate_left; · rintro W' ⟨_,_,_,_,_⟩; go_simp; try with_reducible rfl
    try simp only [pL]
    refine tkH 1 (some 11) rfl rfl ?_ hS ?_ ?_; rotate_left; · rintro W' ⟨_,_,_,_,_⟩; go_simp; try with_reducible rfl
    try simp only [pL]
    refine tkH 2 (some 12) rfl rfl ?_ hS ?_ ?_; rotate_left; · rintro W' ⟨_,_,_,_,_⟩; go_simp; try with_reducible rfl
    try simp only [pL]
    refine tkH 3 (some 13) rfl rfl ?_ hS ?_ ?_; rotate_left; · rintro W' ⟨_,_,_,_,_⟩; go_simp; try with_reducible rfl
    try simp only [pL]
    refine tkH 4 (some 14) rfl rfl ?_ hS ?_ ?_; rotate_left; · rintro W' ⟨_,_,_,_,_⟩; go_simp; try with_reducible rfl
    try simp only [pL]
    refine tkH 5 (some 15) rfl rfl ?_ hS ?_ ?_; rotate_left; · rintro W' ⟨_,_,_,_,_⟩; go_simp; try with_reducible rfl
    try simp only [pL]
    refine tkH 6 (some 16) rfl rfl ?_ hS ?_ ?_; rotate_left; · rintro W' ⟨_,_,_,_,_⟩; go_simp; try with_reducible rfl
    try simp only [pL]
    refine tkH 7 (some 17) rfl rfl ?_ hS ?_ ?_; rotate_left; · rintro W' ⟨_,_,_,_,_⟩; go_simp; try with_reducible rfl
    try simp only [pL]
    refine tkH 8 (some 18) rfl rfl ?_ hS ?_ ?_; rotate_left; · rintro W' ⟨_,_,_,_,_⟩; go_simp; try with_reducible rfl
    try simp only [pL]
    refine tkH 9 (some 19) rfl rfl ?_ hS ?_ ?_; rotate_left; · rintro W' ⟨_,_,_,_,_⟩; go_simp; try with_reducible rfl
    try simp only [pL]
    refine tkH 10 (some 20) rfl rfl ?_ hS ?_ ?_; rotate_left; · rintro W' ⟨_,_,_,_,_⟩; go_simp; try with_reducible rfl
    try simp only [pL]
    refine tkH 11 (some 21) rfl rfl ?_ hS ?_ ?_; rotate_left; · rintro W' ⟨_,_,_,_,_⟩; go_simp; try with_reducible rfl
    try simp only [pL]
    refine tkH 12 (some 22) rfl rfl ?_ hS ?_ ?_; rotate_left; · rintro W' ⟨_,_,_,_,_⟩; go_simp; try with_reducible rfl
    try simp only [pL]
    refine tkH 13 (some 23) rfl rfl ?_ hS ?_ ?_; rotate_left; · rintro W' ⟨_,_,_,_,_⟩; go_simp; try with_reducible rfl
    try simp only [pL]
    refine tkH 14 (some 24) rfl rfl ?_ hS ?_ ?_; rotate_left; · rintro W' ⟨_,_,_,_,_⟩; go_simp; try with_reducible rfl
    try simp only [pL]
    refine tkH 15 (some 25) rfl rfl ?_ hS ?_ ?_; rotate_left; · rintro W' ⟨_,_,_,_,_⟩; go_simp; try with_reducible rfl
    try simp only [pL]
    refine tkH 16 (some 26) rfl rfl ?_ hS ?_ ?_; rotate_left; · rintro W' ⟨_,_,_,_,_⟩; go_simp; try with_reducible rfl
    try simp only [pL]
    refine tkH 17 (some 27) rfl rfl ?_ hS ?_ ?_; rotate_left; · rintro W' ⟨_,_,_,_,_⟩; go_simp; try with_reducible rfl
    try simp only [pL]
    refine tkH 18 (some 28) rfl rfl ?_ hS ?_ ?_; rotate_left; · rintro W' ⟨_,_,_,_,_⟩; go_simp; try with_reducible rfl
    try simp only [pL]
    refine tkH 19 (some 29) rfl rfl ?_ hS ?_ ?_; rotate_left; · rintro W' ⟨_,_,_,_,_⟩; go_simp; try with_reducible rfl
    try simp only [pL]
    refine tkH 20 (some 30) rfl rfl ?_ hS ?_ ?_; rotate_left; · rintro W' ⟨_,_,_,_,_⟩; go_simp; try with_reducible rfl
    try simp only [pL]
    refine tkH 21 (some 31) rfl rfl ?_ hS ?_ ?_; rotate_left; · rintro W' ⟨_,_,_,_,_⟩; go_simp; try with_reducible rfl
    try simp only [pL]
    refine tkH 22 (some 32) rfl rfl ?_ hS ?_ ?_; rotate_left; · rintro W' ⟨_,_,_,_,_⟩; go_simp; try with_reducible rfl
    try simp only [pL]
    refine tkH 23 (some 33) rfl rfl ?_ hS ?_ ?_; rotate_left; · rintro W' ⟨_,_,_,_,_⟩; go_simp; try with_reducible rfl
    try simp only [pL]
    refine tkH 24 (some 34) rfl rfl ?_ hS ?_ ?_; rotate_left; · rintro W' ⟨_,_,_,_,_⟩; go_simp; try with_reducible rfl
    try simp only [pL]
    refine tkH 25 (some 35) rfl rfl ?_ hS ?_ ?_; rotate_left; · rintro W' ⟨_,_,_,_,_⟩; go_simp; try with_reducible rfl
    try simp only [pL]
    refine tkH 26 (some 36) rfl rfl ?_ hS ?_ ?_; rotate_left; · rintro W' ⟨_,_,_,_,_⟩; go_simp; try with_reducible rfl
    try simp only [pL]
    refine tkH 27 (some 37) rfl rfl ?_ hS ?_ ?_; rotate_left; · rintro W' ⟨_,_,_,_,_⟩; go_simp; try with_reducible rfl
    try simp only [pL]
    refine tkH 28 (some 38) rfl rfl ?_ hS ?_ ?_; rotate_left; · rintro W' ⟨_,_,_,_,_⟩; go_simp; try with_reducible rfl
    try simp only [pL]
    refine tkH 29 (some 39) rfl rfl ?_ hS ?_ ?_; rotate_left; · rintro W' ⟨_,_,_,_,_⟩; go_simp; try with_reducible rfl
    try simp only [pL]
    refine tkH 30 (some 40) rfl rfl ?_ hS ?_ ?_; rotate_left; · rintro W' ⟨_,_,_,_,_⟩; go_simp; try with_reducible rfl
    try simp only [pL]
    refine wpAnyH_ready (rs := [31]) (by kernel_rfl) (by simp) ?_
    refine AllReadyH.cons rfl (fun K hK => ?_) AllReadyH.nil
    go_simp
    go_wp2_with fail
    refine (r_check x.val _).mono ?_
    rintro e w1 ⟨rfl, hE1⟩
    have hX := (⟨Mod.ext hS.1 hE1, hE1.cell hS.2.1 id, hE1.cell hS.2.2.1 id, hE1.cell hS.2.2.2.1 id, hE1.cell hS.2.2.2.2 id⟩ : Ext w w1 ∧ _ ∧ _ ∧ _ ∧ _)
    go_simp
    refine hK.out _ _ hX (fun hS => ?_)
    clear hK K
    refine tkH 32 (some 42) rfl rfl ?_ hS ?_ ?_; rotate_left; · rintro W' ⟨_,_,_,_,_⟩; go_simp; try with_reducible rfl
    try simp only [pL]
    refine tkH 33 (some 43) rfl rfl ?_ hS ?_ ?_; rotate_left; · rintro W' ⟨_,_,_,_,_⟩; go_simp; try with_reducible rfl
    try simp only [pL]
    refine tkH 34 (some 44) rfl rfl ?_ hS ?_ ?_; rotate_left; · rintro W' ⟨_,_,_,_,_⟩; go_simp; try with_reducible rfl
    try simp only [pL]
    refine tkH 35 (some 45) rfl rfl ?_ hS ?_ ?_; rotate_left; · rintro W' ⟨_,_,_,_,_⟩; go_simp; try with_reducible rfl
    try simp only [pL]
    refine tkH 36 (some 46) rfl rfl ?_ hS ?_ ?_; rotate_left; · rintro W' ⟨_,_,_,_,_⟩; go_simp; try with_reducible rfl
    try simp only [pL]
    refine tkH 37 (some 47) rfl rfl ?_ hS ?_ ?_; rotate_left; · rintro W' ⟨_,_,_,_,_⟩; go_simp; try with_reducible rfl
    try simp only [pL]
    refine tuH 38 (some 48) rfl rfl hS ?_
    try simp only [pL]
    refine tuH 39 (some 49) rfl rfl hS ?_
    try simp only [pL]
    refine tuH 40 (some 50) rfl rfl hS ?_
    try simp only [pL]
    refine tuH 41 (some 51) rfl rfl hS ?_
    try simp only [pL]
    refine tuH 42 (some 52) rfl rfl hS ?_
    try simp only [pL]
    refine tuH 43 (some 53) rfl rfl hS ?_
    try simp only [pL]
    refine tuH 44 (some 54) rfl rfl hS ?_
    try simp only [pL]
    refine tuH 45 (some 55) rfl rfl hS ?_
    try simp only [pL]
    refine tuH 46 (some 56) rfl rfl hS ?_
    try simp only [pL]
    refine tuH 47 (some 57) rfl rfl hS ?_
    try simp only [pL]
    refine tuH 48 (some 58) rfl rfl hS ?_
    try simp only [pL]
    refine tuH 49 (some 59) rfl rfl hS ?_
    try simp only [pL]
    refine tkH 50 (some 60) rfl rfl ?_ hS ?_ ?_; rotate_left; · rintro W' ⟨_,_,_,_,_⟩; go_simp; try with_reducible rfl
    try simp only [pL]
    refine tkH 51 (some 61) rfl rfl ?_ hS ?_ ?_; rotate_left; · rintro W' ⟨_,_,_,_,_⟩; go_simp; try with_reducible rfl
    try simp only [pL]
    refine wpAnyH_done (by kernel_rfl) ?_ _
    go_wp2
    exact ⟨⟨i + 1, by omega, by go_num, hS.1, Hst.out⟩, by simp [intOf]; omega⟩
   ·
    obtain ⟨k, hik⟩ : ∃ k, i = k + 1 := ⟨i - 1, by omega⟩
    clear hz
    obtain ⟨g', off', p, hA, _, hp, _, hcells⟩ := H2.out.at (i := k) (by omega)
    injection hA with hA; injection hA with hA1 hA2; subst hA1; subst hA2
    have p0 := hcells 0 _ rfl
    rw [Nat.add_zero] at p0
    have z0 : decide (0 < i) = true := by simp; omega
    have z2 : (0 : Int) ≤ (k : Int) := by omega
    have z3 : (k : Int) < (n : Int) := by omega
    have z4 : IntKind.i64.wrap ((i : Int) - 1) = (k : Int) := by rw [hik, show (((k + 1 : Nat) : Int) - 1) = (k : Int) from by omega]; exact IntWalk.i64_in _ (by omega)
    have Hp := Lib.hid hp
    have Hik := Lib.hid hik
    clear hcells hp hik
    rcases hlt : ltT p.key x.key with _ | _
    ·
     have Hf : Hid (pairsB l = false) := Lib.hid (pairs_bad2 Hp.out (by rw [← Hik.out]; exact Hx.out) hlt)
     have hbl : Op.bytesLess p.key.toList x.key.toList = false := hlt
     refine wp_region_held_drew (S := (fun W' => Ext w W' ∧ W'.cell? ⟨g, off + i * 4, none⟩ = some (.string x.key) ∧ W'.cell? ⟨g, off + i * 4 + 1, none⟩ = some (.int .i64 x.val.kind) ∧ W'.cell? ⟨g, off + i * 4 + 2, none⟩ = some (.float .f64 x.val.num) ∧ W'.cell? ⟨g, off + i * 4 + 3, none⟩ = some (.string x.val.text) ∧ W'.cell? ⟨g, off + k * 4, none⟩ = some (.string p.key))) (by kernel_rfl) ⟨hE.drew, x0, x1, x2, x3, p0⟩ (fun hS => ?_)
     refine tkH 0 (some 10) rfl rfl ?_ hS ?_ ?_; rotate_left; · rintro W' ⟨_,_,_,_,_,_⟩; go_simp; try with_reducible rfl
     try simp only [pL]
     refine tkH 1 (some 11) rfl rfl ?_ hS ?_ ?_; rotate_left; · rintro W' ⟨_,_,_,_,_,_⟩; go_simp; try with_reducible rfl
     try simp only [pL]
     refine tkH 2 (some 12) rfl rfl ?_ hS ?_ ?_; rotate_left; · rintro W' ⟨_,_,_,_,_,_⟩; go_simp; try with_reducible rfl
     try simp only [pL]
     refine tkH 3 (some 13) rfl rfl ?_ hS ?_ ?_; rotate_left; · rintro W' ⟨_,_,_,_,_,_⟩; go_simp; try with_reducible rfl
     try simp only [pL]
     refine tkH 4 (some 14) rfl rfl ?_ hS ?_ ?_; rotate_left; · rintro W' ⟨_,_,_,_,_,_⟩; go_simp; try with_reducible rfl
     try simp only [pL]
     refine tkH 5 (some 15) rfl rfl ?_ hS ?_ ?_; rotate_left; · rintro W' ⟨_,_,_,_,_,_⟩; go_simp; try with_reducible rfl
     try simp only [pL]
     refine tkH 6 (some 16) rfl rfl ?_ hS ?_ ?_; rotate_left; · rintro W' ⟨_,_,_,_,_,_⟩; go_simp; try with_reducible rfl
     try simp only [pL]
     refine tkH 7 (some 17) rfl rfl ?_ hS ?_ ?_; rotate_left; · rintro W' ⟨_,_,_,_,_,_⟩; go_simp; try with_reducible rfl
     try simp only [pL]
     refine tkH 8 (some 18) rfl rfl ?_ hS ?_ ?_; rotate_left; · rintro W' ⟨_,_,_,_,_,_⟩; go_simp; try with_reducible rfl
     try simp only [pL]
     refine tkH 9 (some 19) rfl rfl ?_ hS ?_ ?_; rotate_left; · rintro W' ⟨_,_,_,_,_,_⟩; go_simp; try with_reducible rfl
     try simp only [pL]
     refine tkH 10 (some 20) rfl rfl ?_ hS ?_ ?_; rotate_left; · rintro W' ⟨_,_,_,_,_,_⟩; go_simp; try with_reducible rfl
     try simp only [pL]
     refine tkH 11 (some 21) rfl rfl ?_ hS ?_ ?_; rotate_left; · rintro W' ⟨_,_,_,_,_,_⟩; go_simp; try with_reducible rfl
     try simp only [pL]
     refine tkH 12 (some 22) rfl rfl ?_ hS ?_ ?_; rotate_left; · rintro W' ⟨_,_,_,_,_,_⟩; go_simp; try with_reducible rfl
     try simp only [pL]
     refine tkH 13 (some 23) rfl rfl ?_ hS ?_ ?_; rotate_left; · rintro W' ⟨_,_,_,_,_,_⟩; go_simp; try with_reducible rfl
     try simp only [pL]
     refine tkH 14 (some 24) rfl rfl ?_ hS ?_ ?_; rotate_left; · rintro W' ⟨_,_,_,_,_,_⟩; go_simp; try with_reducible rfl
     try simp only [pL]
     refine tkH 15 (some 25) rfl rfl ?_ hS ?_ ?_; rotate_left; · rintro W' ⟨_,_,_,_,_,_⟩; go_simp; try with_reducible rfl
     try simp only [pL]
     refine tkH 16 (some 26) rfl rfl ?_ hS ?_ ?_; rotate_left; · rintro W' ⟨_,_,_,_,_,_⟩; go_simp; try with_reducible rfl
     try simp only [pL]
     refine tkH 17 (some 27) rfl rfl ?_ hS ?_ ?_; rotate_left; · rintro W' ⟨_,_,_,_,_,_⟩; go_simp; try with_reducible rfl
     try simp only [pL]
     refine tkH 18 (some 28) rfl rfl ?_ hS ?_ ?_; rotate_left; · rintro W' ⟨_,_,_,_,_,_⟩; go_simp; try with_reducible rfl
     try simp only [pL]
     refine tkH 19 (some 29) rfl rfl ?_ hS ?_ ?_; rotate_left; · rintro W' ⟨_,_,_,_,_,_⟩; go_simp; try with_reducible rfl
     try simp only [pL]
     refine tkH 20 (some 30) rfl rfl ?_ hS ?_ ?_; rotate_left; · rintro W' ⟨_,_,_,_,_,_⟩; go_simp; try with_reducible rfl
     try simp only [pL]
     refine tkH 21 (some 31) rfl rfl ?_ hS ?_ ?_; rotate_left; · rintro W' ⟨_,_,_,_,_,_⟩; go_simp; try with_reducible rfl
     try simp only [pL]
     refine tkH 22 (some 32) rfl rfl ?_ hS ?_ ?_; rotate_left; · rintro W' ⟨_,_,_,_,_,_⟩; go_simp; try with_reducible rfl
     try simp only [pL]
     refine tkH 23 (some 33) rfl rfl ?_ hS ?_ ?_; rotate_left; · rintro W' ⟨_,_,_,_,_,_⟩; go_simp; try with_reducible rfl
     try simp only [pL]
     refine tkH 24 (some 34) rfl rfl ?_ hS ?_ ?_; rotate_left; · rintro W' ⟨_,_,_,_,_,_⟩; go_simp; try with_reducible rfl
     try simp only [pL]
     refine tkH 25 (some 35) rfl rfl ?_ hS ?_ ?_; rotate_left; · rintro W' ⟨_,_,_,_,_,_⟩; go_simp; try with_reducible rfl
     try simp only [pL]
     refine tkH 26 (some 36) rfl rfl ?_ hS ?_ ?_; rotate_left; · rintro W' ⟨_,_,_,_,_,_⟩; go_simp; try with_reducible rfl
     try simp only [pL]
     refine tkH 27 (some 37) rfl rfl ?_ hS ?_ ?_; rotate_left; · rintro W' ⟨_,_,_,_,_,_⟩; go_simp; try with_reducible rfl
     try simp only [pL]
     refine tkH 28 (some 38) rfl rfl ?_ hS ?_ ?_; rotate_left; · rintro W' ⟨_,_,_,_,_,_⟩; go_simp; try with_reducible rfl
     try simp only [pL]
     refine tkH 29 (some 39) rfl rfl ?_ hS ?_ ?_; rotate_left; · rintro W' ⟨_,_,_,_,_,_⟩; go_simp; try with_reducible rfl
     try simp only [pL]
     refine tkH 30 (some 40) rfl rfl ?_ hS ?_ ?_; rotate_left; · rintro W' ⟨_,_,_,_,_,_⟩; go_simp; try with_reducible rfl
     try simp only [pL]
     refine wpAnyH_ready (rs := [31]) (by kernel_rfl) (by simp) ?_
     refine AllReadyH.cons rfl (fun K hK => ?_) AllReadyH.nil
     go_simp
     go_wp2_with fail
     refine (r_check x.val _).mono ?_
     rintro e w1 ⟨rfl, hE1⟩
     have hX := (⟨Mod.ext hS.1 hE1, hE1.cell hS.2.1 id, hE1.cell hS.2.2.1 id, hE1.cell hS.2.2.2.1 id, hE1.cell hS.2.2.2.2.1 id, hE1.cell hS.2.2.2.2.2 id⟩ : Ext w w1 ∧ _ ∧ _ ∧ _ ∧ _ ∧ _)
     go_simp
     refine hK.out _ _ hX (fun hS => ?_)
     clear hK K
     refine tkH 32 (some 42) rfl rfl ?_ hS ?_ ?_; rotate_left; · rintro W' ⟨_,_,_,_,_,_⟩; go_simp; try with_reducible rfl
     try simp only [pL]
     refine tkH 33 (some 43) rfl rfl ?_ hS ?_ ?_; rotate_left; · rintro W' ⟨_,_,_,_,_,_⟩; go_simp; try with_reducible rfl
     try simp only [pL]
     refine tkH 34 (some 44) rfl rfl ?_ hS ?_ ?_; rotate_left; · rintro W' ⟨_,_,_,_,_,_⟩; go_simp; try with_reducible rfl
     try simp only [pL]
     refine tkH 35 (some 45) rfl rfl ?_ hS ?_ ?_; rotate_left; · rintro W' ⟨_,_,_,_,_,_⟩; go_simp; try with_reducible rfl
     try simp only [pL]
     refine tkH 36 (some 46) rfl rfl ?_ hS ?_ ?_; rotate_left; · rintro W' ⟨_,_,_,_,_,_⟩; go_simp; try with_reducible rfl
     try simp only [pL]
     refine tkH 37 (some 47) rfl rfl ?_ hS ?_ ?_; rotate_left; · rintro W' ⟨_,_,_,_,_,_⟩; go_simp; try with_reducible rfl
     try simp only [pL]
     refine tkH 38 (some 48) rfl rfl ?_ hS ?_ ?_; rotate_left; · rintro W' ⟨_,_,_,_,_,_⟩; go_simp; try with_reducible rfl
     try simp only [pL]
     refine tkH 39 (some 49) rfl rfl ?_ hS ?_ ?_; rotate_left; · rintro W' ⟨_,_,_,_,_,_⟩; go_simp; try with_reducible rfl
     try simp only [pL]
     refine tkH 40 (some 50) rfl rfl ?_ hS ?_ ?_; rotate_left; · rintro W' ⟨_,_,_,_,_,_⟩; go_simp; try with_reducible rfl
     try simp only [pL]
     refine tkH 41 (some 51) rfl rfl ?_ hS ?_ ?_; rotate_left; · rintro W' ⟨_,_,_,_,_,_⟩; go_simp; try with_reducible rfl
     try simp only [pL]
     refine tkH 42 (some 52) rfl rfl ?_ hS ?_ ?_; rotate_left; · rintro W' ⟨_,_,_,_,_,_⟩; go_simp; try with_reducible rfl
     try simp only [pL]
     refine tkH 43 (some 53) rfl rfl ?_ hS ?_ ?_; rotate_left; · rintro W' ⟨_,_,_,_,_,_⟩; go_simp; try with_reducible rfl
     try simp only [pL]
     refine tkH 44 (some 54) rfl rfl ?_ hS ?_ ?_; rotate_left; · rintro W' ⟨_,_,_,_,_,_⟩; go_simp; try with_reducible rfl
     try simp only [pL]
     refine tkH 45 (some 55) rfl rfl ?_ hS ?_ ?_; rotate_left; · rintro W' ⟨_,_,_,_,_,_⟩; go_simp; try with_reducible rfl
     try simp only [pL]
     refine tkH 46 (some 56) rfl rfl ?_ hS ?_ ?_; rotate_left; · rintro W' ⟨_,_,_,_,_,_⟩; go_simp; try with_reducible rfl
     try simp only [pL]
     refine tkH 47 (some 57) rfl rfl ?_ hS ?_ ?_; rotate_left; · rintro W' ⟨_,_,_,_,_,_⟩; go_simp; try with_reducible rfl
     try simp only [pL]
     refine tkH 48 (some 58) rfl rfl ?_ hS ?_ ?_; rotate_left; · rintro W' ⟨_,_,_,_,_,_⟩; go_simp; try with_reducible rfl
     try simp only [pL]
     refine tkH 49 (some 59) rfl rfl ?_ hS ?_ ?_; rotate_left; · rintro W' ⟨_,_,_,_,_,_⟩; go_simp; try with_reducible rfl
     try simp only [pL]
     refine tkH 50 (some 60) rfl rfl ?_ hS ?_ ?_; rotate_left; · rintro W' ⟨_,_,_,_,_,_⟩; go_simp; try with_reducible rfl
     try simp only [pL]
     refine tkH 51 (some 61) rfl rfl ?_ hS ?_ ?_; rotate_left; · rintro W' ⟨_,_,_,_,_,_⟩; go_simp; try with_reducible rfl
     try simp only [pL]
     refine wpAnyH_done (by kernel_rfl) ?_ _
     go_wp2
     go_ret
     exact ⟨ret_bool Hf.out.symm, hS.1⟩
    ·
     have Hst := Lib.hid (Hg.out.step Hx.out Hok.out (fun k' p' e hp' => by
      obtain rfl : k = k' := by have := Hik.out; omega
      rw [Hp.out] at hp'; cases hp'; exact hlt))
     have hbl : Op.bytesLess p.key.toList x.key.toList = true := hlt
     refine wp_region_held_drew (S := (fun W' => Ext w W' ∧ W'.cell? ⟨g, off + i * 4, none⟩ = some (.string x.key) ∧ W'.cell? ⟨g, off + i * 4 + 1, none⟩ = some (.int .i64 x.val.kind) ∧ W'.cell? ⟨g, off + i * 4 + 2, none⟩ = some (.float .f64 x.val.num) ∧ W'.cell? ⟨g, off + i * 4 + 3, none⟩ = some (.string x.val.text) ∧ W'.cell? ⟨g, off + k * 4, none⟩ = some (.string p.key))) (by kernel_rfl) ⟨hE.drew, x0, x1, x2, x3, p0⟩ (fun hS => ?_)
     refine tkH 0 (some 10) rfl rfl ?_ hS ?_ ?_; rotate_left; · rintro W' ⟨_,_,_,_,_,_⟩; go_simp; try with_reducible rfl
     try simp only [pL]
     refine tkH 1 (some 11) rfl rfl ?_ hS ?_ ?_; rotate_left; · rintro W' ⟨_,_,_,_,_,_⟩; go_simp; try with_reducible rfl
     try simp only [pL]
     refine tkH 2 (some 12) rfl rfl ?_ hS ?_ ?_; rotate_left; · rintro W' ⟨_,_,_,_,_,_⟩; go_simp; try with_reducible rfl
     try simp only [pL]
     refine tkH 3 (some 13) rfl rfl ?_ hS ?_ ?_; rotate_left; · rintro W' ⟨_,_,_,_,_,_⟩; go_simp; try with_reducible rfl
     try simp only [pL]
     refine tkH 4 (some 14) rfl rfl ?_ hS ?_ ?_; rotate_left; · rintro W' ⟨_,_,_,_,_,_⟩; go_simp; try with_reducible rfl
     try simp only [pL]
     refine tkH 5 (some 15) rfl rfl ?_ hS ?_ ?_; rotate_left; · rintro W' ⟨_,_,_,_,_,_⟩; go_simp; try with_reducible rfl
     try simp only [pL]
     refine tkH 6 (some 16) rfl rfl ?_ hS ?_ ?_; rotate_left; · rintro W' ⟨_,_,_,_,_,_⟩; go_simp; try with_reducible rfl
     try simp only [pL]
     refine tkH 7 (some 17) rfl rfl ?_ hS ?_ ?_; rotate_left; · rintro W' ⟨_,_,_,_,_,_⟩; go_simp; try with_reducible rfl
     try simp only [pL]
     refine tkH 8 (some 18) rfl rfl ?_ hS ?_ ?_; rotate_left; · rintro W' ⟨_,_,_,_,_,_⟩; go_simp; try with_reducible rfl
     try simp only [pL]
     refine tkH 9 (some 19) rfl rfl ?_ hS ?_ ?_; rotate_left; · rintro W' ⟨_,_,_,_,_,_⟩; go_simp; try with_reducible rfl
     try simp only [pL]
     refine tkH 10 (some 20) rfl rfl ?_ hS ?_ ?_; rotate_left; · rintro W' ⟨_,_,_,_,_,_⟩; go_simp; try with_reducible rfl
     try simp only [pL]
     refine tkH 11 (some 21) rfl rfl ?_ hS ?_ ?_; rotate_left; · rintro W' ⟨_,_,_,_,_,_⟩; go_simp; try with_reducible rfl
     try simp only [pL]
     refine tkH 12 (some 22) rfl rfl ?_ hS ?_ ?_; rotate_left; · rintro W' ⟨_,_,_,_,_,_⟩; go_simp; try with_reducible rfl
     try simp only [pL]
     refine tkH 13 (some 23) rfl rfl ?_ hS ?_ ?_; rotate_left; · rintro W' ⟨_,_,_,_,_,_⟩; go_simp; try with_reducible rfl
     try simp only [pL]
     refine tkH 14 (some 24) rfl rfl ?_ hS ?_ ?_; rotate_left; · rintro W' ⟨_,_,_,_,_,_⟩; go_simp; try with_reducible rfl
     try simp only [pL]
     refine tkH 15 (some 25) rfl rfl ?_ hS ?_ ?_; rotate_left; · rintro W' ⟨_,_,_,_,_,_⟩; go_simp; try with_reducible rfl
     try simp only [pL]
     refine tkH 16 (some 26) rfl rfl ?_ hS ?_ ?_; rotate_left; · rintro W' ⟨_,_,_,_,_,_⟩; go_simp; try with_reducible rfl
     try simp only [pL]
     refine tkH 17 (some 27) rfl rfl ?_ hS ?_ ?_; rotate_left; · rintro W' ⟨_,_,_,_,_,_⟩; go_simp; try with_reducible rfl
     try simp only [pL]
     refine tkH 18 (some 28) rfl rfl ?_ hS ?_ ?_; rotate_left; · rintro W' ⟨_,_,_,_,_,_⟩; go_simp; try with_reducible rfl
     try simp only [pL]
     refine tkH 19 (some 29) rfl rfl ?_ hS ?_ ?_; rotate_left; · rintro W' ⟨_,_,_,_,_,_⟩; go_simp; try with_reducible rfl
     try simp only [pL]
     refine tkH 20 (some 30) rfl rfl ?_ hS ?_ ?_; rotate_left; · rintro W' ⟨_,_,_,_,_,_⟩; go_simp; try with_reducible rfl
     try simp only [pL]
     refine tkH 21 (some 31) rfl rfl ?_ hS ?_ ?_; rotate_left; · rintro W' ⟨_,_,_,_,_,_⟩; go_simp; try with_reducible rfl
     try simp only [pL]
     refine tkH 22 (some 32) rfl rfl ?_ hS ?_ ?_; rotate_left; · rintro W' ⟨_,_,_,_,_,_⟩; go_simp; try with_reducible rfl
     try simp only [pL]
     refine tkH 23 (some 33) rfl rfl ?_ hS ?_ ?_; rotate_left; · rintro W' ⟨_,_,_,_,_,_⟩; go_simp; try with_reducible rfl
     try simp only [pL]
     refine tkH 24 (some 34) rfl rfl ?_ hS ?_ ?_; rotate_left; · rintro W' ⟨_,_,_,_,_,_⟩; go_simp; try with_reducible rfl
     try simp only [pL]
     refine tkH 25 (some 35) rfl rfl ?_ hS ?_ ?_; rotate_left; · rintro W' ⟨_,_,_,_,_,_⟩; go_simp; try with_reducible rfl
     try simp only [pL]
     refine tkH 26 (some 36) rfl rfl ?_ hS ?_ ?_; rotate_left; · rintro W' ⟨_,_,_,_,_,_⟩; go_simp; try with_reducible rfl
     try simp only [pL]
     refine tkH 27 (some 37) rfl rfl ?_ hS ?_ ?_; rotate_left; · rintro W' ⟨_,_,_,_,_,_⟩; go_simp; try with_reducible rfl
     try simp only [pL]
     refine tkH 28 (some 38) rfl rfl ?_ hS ?_ ?_; rotate_left; · rintro W' ⟨_,_,_,_,_,_⟩; go_simp; try with_reducible rfl
     try simp only [pL]
     refine tkH 29 (some 39) rfl rfl ?_ hS ?_ ?_; rotate_left; · rintro W' ⟨_,_,_,_,_,_⟩; go_simp; try with_reducible rfl
     try simp only [pL]
     refine tkH 30 (some 40) rfl rfl ?_ hS ?_ ?_; rotate_left; · rintro W' ⟨_,_,_,_,_,_⟩; go_simp; try with_reducible rfl
     try simp only [pL]
     refine wpAnyH_ready (rs := [31]) (by kernel_rfl) (by simp) ?_
     refine AllReadyH.cons rfl (fun K hK => ?_) AllReadyH.nil
     go_simp
     go_wp2_with fail
     refine (r_check x.val _).mono ?_
     rintro e w1 ⟨rfl, hE1⟩
     have hX := (⟨Mod.ext hS.1 hE1, hE1.cell hS.2.1 id, hE1.cell hS.2.2.1 id, hE1.cell hS.2.2.2.1 id, hE1.cell hS.2.2.2.2.1 id, hE1.cell hS.2.2.2.2.2 id⟩ : Ext w w1 ∧ _ ∧ _ ∧ _ ∧ _ ∧ _)
     go_simp
     refine hK.out _ _ hX (fun hS => ?_)
     clear hK K
     refine tkH 32 (some 42) rfl rfl ?_ hS ?_ ?_; rotate_left; · rintro W' ⟨_,_,_,_,_,_⟩; go_simp; try with_reducible rfl
     try simp only [pL]
     refine tkH 33 (some 43) rfl rfl ?_ hS ?_ ?_; rotate_left; · rintro W' ⟨_,_,_,_,_,_⟩; go_simp; try with_reducible rfl
     try simp only [pL]
     refine tkH 34 (some 44) rfl rfl ?_ hS ?_ ?_; rotate_left; · rintro W' ⟨_,_,_,_,_,_⟩; go_simp; try with_reducible rfl
     try simp only [pL]
     refine tkH 35 (some 45) rfl rfl ?_ hS ?_ ?_; rotate_left; · rintro W' ⟨_,_,_,_,_,_⟩; go_simp; try with_reducible rfl
     try simp only [pL]
     refine tkH 36 (some 46) rfl rfl ?_ hS ?_ ?_; rotate_left; · rintro W' ⟨_,_,_,_,_,_⟩; go_simp; try with_reducible rfl
     try simp only [pL]
     refine tkH 37 (some 47) rfl rfl ?_ hS ?_ ?_; rotate_left; · rintro W' ⟨_,_,_,_,_,_⟩; go_simp; try with_reducible rfl
     try simp only [pL]
     refine tkH 38 (some 48) rfl rfl ?_ hS ?_ ?_; rotate_left; · rintro W' ⟨_,_,_,_,_,_⟩; go_simp; try with_reducible rfl
     try simp only [pL]
     refine tkH 39 (some 49) rfl rfl ?_ hS ?_ ?_; rotate_left; · rintro W' ⟨_,_,_,_,_,_⟩; go_simp; try with_reducible rfl
     try simp only [pL]
     refine tkH 40 (some 50) rfl rfl ?_ hS ?_ ?_; rotate_left; · rintro W' ⟨_,_,_,_,_,_⟩; go_simp; try with_reducible rfl
     try simp only [pL]
     refine tkH 41 (some 51) rfl rfl ?_ hS ?_ ?_; rotate_left; · rintro W' ⟨_,_,_,_,_,_⟩; go_simp; try with_reducible rfl
     try simp only [pL]
     refine tkH 42 (some 52) rfl rfl ?_ hS ?_ ?_; rotate_left; · rintro W' ⟨_,_,_,_,_,_⟩; go_simp; try with_reducible rfl
     try simp only [pL]
     refine tkH 43 (some 53) rfl rfl ?_ hS ?_ ?_; rotate_left; · rintro W' ⟨_,_,_,_,_,_⟩; go_simp; try with_reducible rfl
     try simp only [pL]
     refine tkH 44 (some 54) rfl rfl ?_ hS ?_ ?_; rotate_left; · rintro W' ⟨_,_,_,_,_,_⟩; go_simp; try with_reducible rfl
     try simp only [pL]
     refine tkH 45 (some 55) rfl rfl ?_ hS ?_ ?_; rotate_left; · rintro W' ⟨_,_,_,_,_,_⟩; go_simp; try with_reducible rfl
     try simp only [pL]
     refine tkH 46 (some 56) rfl rfl ?_ hS ?_ ?_; rotate_left; · rintro W' ⟨_,_,_,_,_,_⟩; go_simp; try with_reducible rfl
     try simp only [pL]
     refine tkH 47 (some 57) rfl rfl ?_ hS ?_ ?_; rotate_left; · rintro W' ⟨_,_,_,_,_,_⟩; go_simp; try with_reducible rfl
     try simp only [pL]
     refine tkH 48 (some 58) rfl rfl ?_ hS ?_ ?_; rotate_left; · rintro W' ⟨_,_,_,_,_,_⟩; go_simp; try with_reducible rfl
     try simp only [pL]
     refine tkH 49 (some 59) rfl rfl ?_ hS ?_ ?_; rotate_left; · rintro W' ⟨_,_,_,_,_,_⟩; go_simp; try with_reducible rfl
     try simp only [pL]
     refine tkH 50 (some 60) rfl rfl ?_ hS ?_ ?_; rotate_left; · rintro W' ⟨_,_,_,_,_,_⟩; go_simp; try with_reducible rfl
     try simp only [pL]
     refine tkH 51 (some 61) rfl rfl ?_ hS ?_ ?_; rotate_left; · rintro W' ⟨_,_,_,_,_,_⟩; go_simp; try with_reducible rfl
     try simp only [pL]
     refine wpAnyH_done (by kernel_rfl) ?_ _
     go_wp2
     clear z4
     exact ⟨⟨i + 1, by omega, by go_num, hS.1, Hst.out⟩, by simp [intOf]; omega⟩
  ·
   obtain rfl : i = n := by omega
   have hgood : Good l l.length := by rw [Hn.out]; exact Hg.out
   by_cases h32 : i ≤ 32
   ·
    have d : decide ((i : Int) ≤ 32) = true := by simp; omega
    have Hf : Hid (pairsB l = true) := Lib.hid (pairs_good hgood (by rw [Hn.out]; omega))
    clear hgood
    go_wp2
    go_ret
    exact ⟨ret_bool Hf.out.symm, hE⟩
   ·
    have d : decide ((i : Int) ≤ 32) = false := by simp; omega
    have Hf : Hid (pairsB l = false) := Lib.hid (pairs_long (by rw [Hn.out]; omega))
    clear hgood
    go_wp2
    go_ret
    exact ⟨ret_bool Hf.out.symm, hE⟩
end Go.Proofs.YtbclnghbgoblcaaGreat

namespace Go.Proofs.YtbclnghbgoblcaaGreat
theorem setP_drop {l : List APair} {i : Nat} {x : APair} (k : ByteArray) (v : AVal) (d : Bool) (h : l[i]? = some x) : setP k v d (l.drop i) =
  if !d && (ltT k x.key || eqT k x.key) then ⟨k, v⟩ :: (if eqT x.key k then setP k v true (l.drop (i + 1)) else x :: setP k v true (l.drop (i + 1)))
  else if eqT x.key k then setP k v d (l.drop (i + 1)) else x :: setP k v d (l.drop (i + 1)) := by
 obtain ⟨hi, rfl⟩ := List.getElem?_eq_some_iff.1 h
 rw [List.drop_eq_getElem_cons hi]
 rfl
end Go.Proofs.YtbclnghbgoblcaaGreat
