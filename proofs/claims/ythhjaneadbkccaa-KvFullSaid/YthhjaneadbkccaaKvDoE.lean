/-
  The contract of kv.Do. Conditions: as each theorem names them.
-/
import Derived.Test.YthhjaneadbkccaaKvDoD
namespace Go.Proofs.Ythhjaneadbkccaa
set_option linter.unusedSimpArgs false
open Go.RowKit

/-- What the region that draws its order reads. -/
def SB (b : Nat) (v : Value) (c : ACmd) (W' : World) : Prop :=
  W'.cell? ⟨b, 0, none⟩ = some v ∧ W'.cell? ⟨b + 1, 0, none⟩ = some (.int .i64 c.kind) ∧ W'.cell? ⟨b + 1, 1, none⟩ = some (.string c.key) ∧ W'.cell? ⟨b + 1, 2, none⟩ = some (.int .i64 c.old.kind) ∧ W'.cell? ⟨b + 1, 3, none⟩ = some (.float .f64 c.old.num) ∧ W'.cell? ⟨b + 1, 4, none⟩ = some (.string c.old.text) ∧ W'.cell? ⟨b + 1, 5, none⟩ = some (.int .i64 c.val.kind) ∧ W'.cell? ⟨b + 1, 6, none⟩ = some (.float .f64 c.val.num) ∧ W'.cell? ⟨b + 1, 7, none⟩ = some (.string c.val.text)
theorem SB.of {w : World} {T : Nat → Prop} {v : Value} {l : List APair} {c : ACmd} {b : Nat} {wx : World} (h : DoB w T v l c b wx) : SB b v c wx :=
  ⟨blk_cell (cs := [v]) h.b0 rfl, blk_cell (cs := [.int .i64 c.kind, .string c.key, .int .i64 c.old.kind, .float .f64 c.old.num, .string c.old.text, .int .i64 c.val.kind, .float .f64 c.val.num, .string c.val.text]) h.b1 rfl, blk_cell (cs := [.int .i64 c.kind, .string c.key, .int .i64 c.old.kind, .float .f64 c.old.num, .string c.old.text, .int .i64 c.val.kind, .float .f64 c.val.num, .string c.val.text]) h.b1 rfl, blk_cell (cs := [.int .i64 c.kind, .string c.key, .int .i64 c.old.kind, .float .f64 c.old.num, .string c.old.text, .int .i64 c.val.kind, .float .f64 c.val.num, .string c.val.text]) h.b1 rfl, blk_cell (cs := [.int .i64 c.kind, .string c.key, .int .i64 c.old.kind, .float .f64 c.old.num, .string c.old.text, .int .i64 c.val.kind, .float .f64 c.val.num, .string c.val.text]) h.b1 rfl, blk_cell (cs := [.int .i64 c.kind, .string c.key, .int .i64 c.old.kind, .float .f64 c.old.num, .string c.old.text, .int .i64 c.val.kind, .float .f64 c.val.num, .string c.val.text]) h.b1 rfl, blk_cell (cs := [.int .i64 c.kind, .string c.key, .int .i64 c.old.kind, .float .f64 c.old.num, .string c.old.text, .int .i64 c.val.kind, .float .f64 c.val.num, .string c.val.text]) h.b1 rfl, blk_cell (cs := [.int .i64 c.kind, .string c.key, .int .i64 c.old.kind, .float .f64 c.old.num, .string c.old.text, .int .i64 c.val.kind, .float .f64 c.val.num, .string c.val.text]) h.b1 rfl, blk_cell (cs := [.int .i64 c.kind, .string c.key, .int .i64 c.old.kind, .float .f64 c.old.num, .string c.old.text, .int .i64 c.val.kind, .float .f64 c.val.num, .string c.val.text]) h.b1 rfl⟩
theorem SB.mod {b : Nat} {v : Value} {c : ACmd} {w w' : World} {S : Nat → Prop} (h : SB b v c w) (hm : Mod S w w') (h0 : ¬ S b) (h1 : ¬ S (b + 1)) : SB b v c w' := by
  obtain ⟨s0, s1, s2, s3, s4, s5, s6, s7, s8⟩ := h
  exact ⟨hm.cell s0 h0, hm.cell s1 h1, hm.cell s2 h1, hm.cell s3 h1, hm.cell s4 h1, hm.cell s5 h1, hm.cell s6 h1, hm.cell s7 h1, hm.cell s8 h1⟩
theorem leaves_tmps {R : Ending → World → Prop} {t t' : Array Value} (h4 : t.getD 4 undef = t'.getD 4 undef) (h5 : t.getD 5 undef = t'.getD 5 undef) :
    ∀ (ds : List Deferred) (u : FrameMode) (w : World), Leaves Try.prog Try.f13 t R ds u w → Leaves Try.prog Try.f13 t' R ds u w := by
  have hres : results Try.f13 t = results Try.f13 t' := by
    rw [Array.getD_eq_getD_getElem?, Array.getD_eq_getD_getElem?] at h4 h5
    simp [results, Try.results13, h4, h5]
  intro ds
  induction ds with
  | nil =>
    intro u w h
    cases u <;> simp only [Leaves] at h ⊢
    · rw [← hres]; exact h
    · exact h
  | cons d ds ih =>
    intro u w h
    obtain ⟨hu, fv, cap, f, args, h1, h2, h3⟩ := h
    refine ⟨hu, fv, cap, f, args, h1, h2, h3.mono fun e u' w' hr => ?_⟩
    cases e with
    | returned v => exact ih _ _ hr
    | panicked chain => exact ih _ _ hr
    | outgrown => exact hr
theorem put_panic {R : Ending → World → Prop} {d : Nat} {v : Value} (h4 : d ≠ 4) (h5 : d ≠ 5) (c : List PanicEntry) (a : Act) (w : World) (h : bodyPostD Try.prog Try.f13 R (.panic c) (a.put (some d) v) w) :
    bodyPostD Try.prog Try.f13 R (.panic c) a w :=
  leaves_tmps (by simp [Act.put, Array.getElem?_setIfInBounds, h4]) (by simp [Act.put, Array.getElem?_setIfInBounds, h5]) _ _ _ h

set_option maxRecDepth 100000 in
set_option maxHeartbeats 1000000 in
theorem kD_bad (w : World) (T : Nat → Prop) (A : Option Addr) (n cc : Nat) (l : List APair) (c : ACmd) (h : Prs w T (.slice A n cc) l) (hlen : l.length ≤ 1000000) (k : Int) (hc : cmdE c = k) (hk : k ≠ 0) :
    Calls Try.prog 13 #[.slice A n cc, .agg #[.int .i64 c.kind, .string c.key, .int .i64 c.old.kind, .float .f64 c.old.num, .string c.old.text, .int .i64 c.val.kind, .float .f64 c.val.num, .string c.val.text]] w (DoOut w l ⟨k, AVal.zero⟩) := by
  go_enter_defers Try.func13, Try.ntmps13
  go_wp2_with fail
  obtain ⟨W0, hW0⟩ : ∃ W0, W0 = (((w.alloc (.cells #[.slice A n cc] 29)).alloc (.cells #[.int .i64 c.kind, .string c.key, .int .i64 c.old.kind, .float .f64 c.old.num, .string c.old.text, .int .i64 c.val.kind, .float .f64 c.val.num, .string c.val.text] 27)).alloc (.cells #[.slice none 0 0] 29)).alloc (.cells #[.int .i64 0, .int .i64 0, .float .f64 0, .string ⟨#[]⟩] 33) := ⟨_, rfl⟩
  obtain ⟨h0, h1, h2, h3⟩ := four_new w (.cells #[.slice A n cc] 29) (.cells #[.int .i64 c.kind, .string c.key, .int .i64 c.old.kind, .float .f64 c.old.num, .string c.old.text, .int .i64 c.val.kind, .float .f64 c.val.num, .string c.val.text] 27) (.cells #[.slice none 0 0] 29) (.cells #[.int .i64 0, .int .i64 0, .float .f64 0, .string ⟨#[]⟩] 33)
  have hE : Ext w W0 := by rw [hW0]; exact ((((Mod.refl _ w).alloc _).alloc _).alloc _).alloc _
  obtain ⟨b, hb⟩ : ∃ b, b = w.heap.size := ⟨_, rfl⟩
  rw [← hW0, ← hb] at h0 h1 h2 h3 ⊢
  have hB : DoB w T (.slice A n cc) l c b W0 := ⟨h0, h1, h2, h3, h.ext hE, hE, Nat.le_of_eq hb.symm⟩
  have HB0 := Lib.hid hB
  clear hW0 hb h0 h1 h2 h3 hE
  refine (kv_right c _).mono ?_
  rintro e w1 ⟨rfl, hE1⟩
  have hB1 := hB.mod hE1
  have HB1 := Lib.hid hB1
  rw [hc]
  clear hE1 hB
  clear hB1 hc
  go_wp2_with fail
  refine (kv_throw k hk _).mono ?_
  rintro e w2 ⟨rfl, rfl⟩
  refine do_caught HB1.out hlen k AVal.zero _ rfl rfl

set_option maxRecDepth 100000 in
set_option maxHeartbeats 1000000 in
theorem kD_bad2 (w : World) (T : Nat → Prop) (A : Option Addr) (n cc : Nat) (l : List APair) (c : ACmd) (h : Prs w T (.slice A n cc) l) (hlen : l.length ≤ 1000000) (hc : cmdE c = 0) (hp : pairsB l = false) :
    Calls Try.prog 13 #[.slice A n cc, .agg #[.int .i64 c.kind, .string c.key, .int .i64 c.old.kind, .float .f64 c.old.num, .string c.old.text, .int .i64 c.val.kind, .float .f64 c.val.num, .string c.val.text]] w (DoOut w l ⟨6, AVal.zero⟩) := by
  go_enter_defers Try.func13, Try.ntmps13
  go_wp2_with fail
  obtain ⟨W0, hW0⟩ : ∃ W0, W0 = (((w.alloc (.cells #[.slice A n cc] 29)).alloc (.cells #[.int .i64 c.kind, .string c.key, .int .i64 c.old.kind, .float .f64 c.old.num, .string c.old.text, .int .i64 c.val.kind, .float .f64 c.val.num, .string c.val.text] 27)).alloc (.cells #[.slice none 0 0] 29)).alloc (.cells #[.int .i64 0, .int .i64 0, .float .f64 0, .string ⟨#[]⟩] 33) := ⟨_, rfl⟩
  obtain ⟨h0, h1, h2, h3⟩ := four_new w (.cells #[.slice A n cc] 29) (.cells #[.int .i64 c.kind, .string c.key, .int .i64 c.old.kind, .float .f64 c.old.num, .string c.old.text, .int .i64 c.val.kind, .float .f64 c.val.num, .string c.val.text] 27) (.cells #[.slice none 0 0] 29) (.cells #[.int .i64 0, .int .i64 0, .float .f64 0, .string ⟨#[]⟩] 33)
  have hE : Ext w W0 := by rw [hW0]; exact ((((Mod.refl _ w).alloc _).alloc _).alloc _).alloc _
  obtain ⟨b, hb⟩ : ∃ b, b = w.heap.size := ⟨_, rfl⟩
  rw [← hW0, ← hb] at h0 h1 h2 h3 ⊢
  have hB : DoB w T (.slice A n cc) l c b W0 := ⟨h0, h1, h2, h3, h.ext hE, hE, Nat.le_of_eq hb.symm⟩
  have HB0 := Lib.hid hB
  clear hW0 hb h0 h1 h2 h3 hE
  refine (kv_right c _).mono ?_
  rintro e w1 ⟨rfl, hE1⟩
  have hB1 := hB.mod hE1
  have HB1 := Lib.hid hB1
  rw [hc]
  clear hE1 hB
  clear hc
  go_wp2_with fail
  refine (kv_throw_no _).mono ?_
  rintro e w2 ⟨rfl, rfl⟩
  have m0 : w1.cell? ⟨b, 0, none⟩ = some _ := blk_cell hB1.b0 rfl
  clear hB1
  go_wp2_with fail
  refine (kv_check _ T _ l HB1.out.pr).mono ?_
  rintro e w2 ⟨rfl, hE2⟩
  have hB2 := HB1.out.mod hE2
  have HB2 := Lib.hid hB2
  clear hE2 m0
  rw [chkP_no hp]
  clear hp hB2
  go_wp2_with fail
  refine (kv_throw 6 (by decide) _).mono ?_
  rintro e w3 ⟨rfl, rfl⟩
  refine do_caught HB2.out hlen 6 AVal.zero _ rfl rfl

set_option maxRecDepth 100000 in
set_option maxHeartbeats 1000000 in
theorem kD_no (w : World) (T : Nat → Prop) (hT : ∀ g, T g → g < w.heap.size) (A : Option Addr) (n cc : Nat) (l : List APair) (c : ACmd) (h : Prs w T (.slice A n cc) l) (hlen : l.length ≤ 1000000) (hc : cmdE c = 0) (hp : pairsB l = true) (hcv : c.val.ok) (L : List APair) (r : AReply) (hr : doP l c = (L, r)) (h0 : r.code ≠ 0) :
    Calls Try.prog 13 #[.slice A n cc, .agg #[.int .i64 c.kind, .string c.key, .int .i64 c.old.kind, .float .f64 c.old.num, .string c.old.text, .int .i64 c.val.kind, .float .f64 c.val.num, .string c.val.text]] w (DoOut w l r) := by
  go_enter_defers Try.func13, Try.ntmps13
  go_wp2_with fail
  obtain ⟨W0, hW0⟩ : ∃ W0, W0 = (((w.alloc (.cells #[.slice A n cc] 29)).alloc (.cells #[.int .i64 c.kind, .string c.key, .int .i64 c.old.kind, .float .f64 c.old.num, .string c.old.text, .int .i64 c.val.kind, .float .f64 c.val.num, .string c.val.text] 27)).alloc (.cells #[.slice none 0 0] 29)).alloc (.cells #[.int .i64 0, .int .i64 0, .float .f64 0, .string ⟨#[]⟩] 33) := ⟨_, rfl⟩
  obtain ⟨h0, h1, h2, h3⟩ := four_new w (.cells #[.slice A n cc] 29) (.cells #[.int .i64 c.kind, .string c.key, .int .i64 c.old.kind, .float .f64 c.old.num, .string c.old.text, .int .i64 c.val.kind, .float .f64 c.val.num, .string c.val.text] 27) (.cells #[.slice none 0 0] 29) (.cells #[.int .i64 0, .int .i64 0, .float .f64 0, .string ⟨#[]⟩] 33)
  have hE : Ext w W0 := by rw [hW0]; exact ((((Mod.refl _ w).alloc _).alloc _).alloc _).alloc _
  obtain ⟨b, hb⟩ : ∃ b, b = w.heap.size := ⟨_, rfl⟩
  rw [← hW0, ← hb] at h0 h1 h2 h3 ⊢
  have hB : DoB w T (.slice A n cc) l c b W0 := ⟨h0, h1, h2, h3, h.ext hE, hE, Nat.le_of_eq hb.symm⟩
  have HB0 := Lib.hid hB
  clear hW0 hb h0 h1 h2 h3 hE
  refine (kv_right c _).mono ?_
  rintro e w1 ⟨rfl, hE1⟩
  have hB1 := hB.mod hE1
  have HB1 := Lib.hid hB1
  rw [hc]
  clear hE1 hB
  have Hc := Lib.hid hc
  clear hc
  go_wp2_with fail
  refine (kv_throw_no _).mono ?_
  rintro e w2 ⟨rfl, rfl⟩
  have m0 : w1.cell? ⟨b, 0, none⟩ = some _ := blk_cell hB1.b0 rfl
  clear hB1
  go_wp2_with fail
  refine (kv_check _ T _ l HB1.out.pr).mono ?_
  rintro e w2 ⟨rfl, hE2⟩
  have hB2 := HB1.out.mod hE2
  have HB2 := Lib.hid hB2
  clear hE2 m0
  rw [chkP_yes hp]
  have Hp := Lib.hid hp
  have Hr := Lib.hid hr
  clear hp hr
  go_wp2_with fail
  refine (kv_throw_no _).mono ?_
  rintro e w3 ⟨rfl, rfl⟩
  have m0 : w2.cell? ⟨b, 0, none⟩ = some _ := blk_cell hB2.b0 rfl
  have k0 : w2.cell? ⟨b + 1, 0, none⟩ = some _ := blk_cell hB2.b1 rfl
  have k1 : w2.cell? ⟨b + 1, 1, none⟩ = some _ := blk_cell hB2.b1 rfl
  have k2 : w2.cell? ⟨b + 1, 2, none⟩ = some _ := blk_cell hB2.b1 rfl
  have k3 : w2.cell? ⟨b + 1, 3, none⟩ = some _ := blk_cell hB2.b1 rfl
  have k4 : w2.cell? ⟨b + 1, 4, none⟩ = some _ := blk_cell hB2.b1 rfl
  have k5 : w2.cell? ⟨b + 1, 5, none⟩ = some _ := blk_cell hB2.b1 rfl
  have k6 : w2.cell? ⟨b + 1, 6, none⟩ = some _ := blk_cell hB2.b1 rfl
  have k7 : w2.cell? ⟨b + 1, 7, none⟩ = some _ := blk_cell hB2.b1 rfl
  have hlt := hB2.lt
  have hb0 : b < w2.heap.size := by omega
  have hb1 : b + 1 < w2.heap.size := by omega
  clear hB2
  have h2 : Prs w2.drew T (.slice A n cc) l := HB2.out.pr
  go_wp2_with fail
  refine wp_region_held_drew (S := SB b (.slice A n cc) c) (by kernel_rfl) (SB.mod (S := fun _ => False) (SB.of HB2.out) (Mod.refl _ w2).drew id id) (fun hS => ?_)
  refine takeH (i := 0) (v := ?_) (some 13) rfl rfl (by kernel_rfl) (by kernel_rfl) (by kernel_rfl) (fun c a w h => put_panic (d := 13) (by decide) (by decide) c a w h) (Or.inl ⟨by kernel_rfl, ?_⟩) hS ?_
  rotate_left
  · rintro W' ⟨s0, s1, s2, s3, s4, s5, s6, s7, s8⟩
    go_simp
    try with_reducible rfl
  try simp only [Act.put, List.setIfInBounds_toArray, List.set_cons_zero, List.set_cons_succ]
  refine takeH (i := 2) (v := ?_) (some 15) rfl rfl (by kernel_rfl) (by kernel_rfl) (by kernel_rfl) (fun c a w h => put_panic (d := 15) (by decide) (by decide) c a w h) (Or.inl ⟨by kernel_rfl, ?_⟩) hS ?_
  rotate_left
  · rintro W' ⟨s0, s1, s2, s3, s4, s5, s6, s7, s8⟩
    go_simp
    try with_reducible rfl
  try simp only [Act.put, List.setIfInBounds_toArray, List.set_cons_zero, List.set_cons_succ]
  refine wpAnyH_ready (rs := [1]) (by kernel_rfl) (by simp) ?_
  refine AllReadyH.cons rfl (fun K hK => ?_) AllReadyH.nil
  go_simp
  go_wp2_with fail
  refine (sl_clone _ T _ l h2 hlen).mono ?_
  rintro e w5 ⟨v5, rfl, hN5, hE5⟩
  obtain ⟨A5, c5, rfl⟩ := own_form hN5.1
  have hX : SB b (.slice A n cc) c w5 := SB.mod hS hE5 id id
  have HB5 := Lib.hid (HB2.out.mod ((Mod.refl _ w2).drew.ext hE5))
  have HN5 := Lib.hid hN5
  clear hE5 hN5
  go_simp
  refine hK.out _ _ hX (fun hS => ?_)
  clear hK K hX
  refine wpAnyH_ready (rs := [3]) (by kernel_rfl) (by simp) ?_
  refine AllReadyH.cons rfl (fun K hK => ?_) AllReadyH.nil
  go_simp
  go_wp2_with fail
  refine (kv_do _ _ l c ⟨HN5.out.1, HN5.out.2.1⟩ Hc.out Hp.out hcv).mono ?_
  rintro e w6 ⟨hm6, hD⟩
  rw [Hr.out] at hD
  have HB6 := Lib.hid (HB5.out.drewmod hm6 (fun g hg => by have h1 := HN5.out.2.2 g hg; have h2 := HB2.out.lt; have h3 : w2.heap.size ≤ g := h1; exact ⟨by omega, fun k hk => by have h4 := hT k hk; have h5 := HB2.out.ext.size; omega⟩) (fun g hg => by have h3 : w2.heap.size ≤ g := HN5.out.2.2 g hg; have h5 := HB2.out.ext.size; omega))
  rcases hD with ⟨h, _⟩ | ⟨_, rfl⟩
  · exact absurd h h0
  clear hm6
  refine do_caught HB6.out hlen r.code r.val _ rfl rfl
set_option maxRecDepth 100000 in
set_option maxHeartbeats 1000000 in
theorem kD_yes (w : World) (T : Nat → Prop) (hT : ∀ g, T g → g < w.heap.size) (A : Option Addr) (n cc : Nat) (l : List APair) (c : ACmd) (h : Prs w T (.slice A n cc) l) (hlen : l.length ≤ 1000000) (hc : cmdE c = 0) (hp : pairsB l = true) (hcv : c.val.ok) (L : List APair) (t : AVal) (hr : doP l c = (L, ⟨0, t⟩)) :
    Calls Try.prog 13 #[.slice A n cc, .agg #[.int .i64 c.kind, .string c.key, .int .i64 c.old.kind, .float .f64 c.old.num, .string c.old.text, .int .i64 c.val.kind, .float .f64 c.val.num, .string c.val.text]] w (DoOut w L ⟨0, t⟩) := by
  go_enter_defers Try.func13, Try.ntmps13
  go_wp2_with fail
  obtain ⟨W0, hW0⟩ : ∃ W0, W0 = (((w.alloc (.cells #[.slice A n cc] 29)).alloc (.cells #[.int .i64 c.kind, .string c.key, .int .i64 c.old.kind, .float .f64 c.old.num, .string c.old.text, .int .i64 c.val.kind, .float .f64 c.val.num, .string c.val.text] 27)).alloc (.cells #[.slice none 0 0] 29)).alloc (.cells #[.int .i64 0, .int .i64 0, .float .f64 0, .string ⟨#[]⟩] 33) := ⟨_, rfl⟩
  obtain ⟨h0, h1, h2, h3⟩ := four_new w (.cells #[.slice A n cc] 29) (.cells #[.int .i64 c.kind, .string c.key, .int .i64 c.old.kind, .float .f64 c.old.num, .string c.old.text, .int .i64 c.val.kind, .float .f64 c.val.num, .string c.val.text] 27) (.cells #[.slice none 0 0] 29) (.cells #[.int .i64 0, .int .i64 0, .float .f64 0, .string ⟨#[]⟩] 33)
  have hE : Ext w W0 := by rw [hW0]; exact ((((Mod.refl _ w).alloc _).alloc _).alloc _).alloc _
  obtain ⟨b, hb⟩ : ∃ b, b = w.heap.size := ⟨_, rfl⟩
  rw [← hW0, ← hb] at h0 h1 h2 h3 ⊢
  have hB : DoB w T (.slice A n cc) l c b W0 := ⟨h0, h1, h2, h3, h.ext hE, hE, Nat.le_of_eq hb.symm⟩
  have HB0 := Lib.hid hB
  clear hW0 hb h0 h1 h2 h3 hE
  refine (kv_right c _).mono ?_
  rintro e w1 ⟨rfl, hE1⟩
  have hB1 := hB.mod hE1
  have HB1 := Lib.hid hB1
  rw [hc]
  clear hE1 hB
  have Hc := Lib.hid hc
  clear hc
  go_wp2_with fail
  refine (kv_throw_no _).mono ?_
  rintro e w2 ⟨rfl, rfl⟩
  have m0 : w1.cell? ⟨b, 0, none⟩ = some _ := blk_cell hB1.b0 rfl
  clear hB1
  go_wp2_with fail
  refine (kv_check _ T _ l HB1.out.pr).mono ?_
  rintro e w2 ⟨rfl, hE2⟩
  have hB2 := HB1.out.mod hE2
  have HB2 := Lib.hid hB2
  clear hE2 m0
  rw [chkP_yes hp]
  have Hp := Lib.hid hp
  have Hr := Lib.hid hr
  clear hp hr
  go_wp2_with fail
  refine (kv_throw_no _).mono ?_
  rintro e w3 ⟨rfl, rfl⟩
  have m0 : w2.cell? ⟨b, 0, none⟩ = some _ := blk_cell hB2.b0 rfl
  have k0 : w2.cell? ⟨b + 1, 0, none⟩ = some _ := blk_cell hB2.b1 rfl
  have k1 : w2.cell? ⟨b + 1, 1, none⟩ = some _ := blk_cell hB2.b1 rfl
  have k2 : w2.cell? ⟨b + 1, 2, none⟩ = some _ := blk_cell hB2.b1 rfl
  have k3 : w2.cell? ⟨b + 1, 3, none⟩ = some _ := blk_cell hB2.b1 rfl
  have k4 : w2.cell? ⟨b + 1, 4, none⟩ = some _ := blk_cell hB2.b1 rfl
  have k5 : w2.cell? ⟨b + 1, 5, none⟩ = some _ := blk_cell hB2.b1 rfl
  have k6 : w2.cell? ⟨b + 1, 6, none⟩ = some _ := blk_cell hB2.b1 rfl
  have k7 : w2.cell? ⟨b + 1, 7, none⟩ = some _ := blk_cell hB2.b1 rfl
  have hlt := hB2.lt
  have hb0 : b < w2.heap.size := by omega
  have hb1 : b + 1 < w2.heap.size := by omega
  clear hB2
  have h2 : Prs w2.drew T (.slice A n cc) l := HB2.out.pr
  go_wp2_with fail
  refine wp_region_held_drew (S := SB b (.slice A n cc) c) (by kernel_rfl) (SB.mod (S := fun _ => False) (SB.of HB2.out) (Mod.refl _ w2).drew id id) (fun hS => ?_)
  refine takeH (i := 0) (v := ?_) (some 13) rfl rfl (by kernel_rfl) (by kernel_rfl) (by kernel_rfl) (fun c a w h => put_panic (d := 13) (by decide) (by decide) c a w h) (Or.inl ⟨by kernel_rfl, ?_⟩) hS ?_
  rotate_left
  · rintro W' ⟨s0, s1, s2, s3, s4, s5, s6, s7, s8⟩
    go_simp
    try with_reducible rfl
  try simp only [Act.put, List.setIfInBounds_toArray, List.set_cons_zero, List.set_cons_succ]
  refine takeH (i := 2) (v := ?_) (some 15) rfl rfl (by kernel_rfl) (by kernel_rfl) (by kernel_rfl) (fun c a w h => put_panic (d := 15) (by decide) (by decide) c a w h) (Or.inl ⟨by kernel_rfl, ?_⟩) hS ?_
  rotate_left
  · rintro W' ⟨s0, s1, s2, s3, s4, s5, s6, s7, s8⟩
    go_simp
    try with_reducible rfl
  try simp only [Act.put, List.setIfInBounds_toArray, List.set_cons_zero, List.set_cons_succ]
  refine wpAnyH_ready (rs := [1]) (by kernel_rfl) (by simp) ?_
  refine AllReadyH.cons rfl (fun K hK => ?_) AllReadyH.nil
  go_simp
  go_wp2_with fail
  refine (sl_clone _ T _ l h2 hlen).mono ?_
  rintro e w5 ⟨v5, rfl, hN5, hE5⟩
  obtain ⟨A5, c5, rfl⟩ := own_form hN5.1
  have hX : SB b (.slice A n cc) c w5 := SB.mod hS hE5 id id
  have HB5 := Lib.hid (HB2.out.mod ((Mod.refl _ w2).drew.ext hE5))
  have HN5 := Lib.hid hN5
  clear hE5 hN5
  go_simp
  refine hK.out _ _ hX (fun hS => ?_)
  clear hK K hX
  refine wpAnyH_ready (rs := [3]) (by kernel_rfl) (by simp) ?_
  refine AllReadyH.cons rfl (fun K hK => ?_) AllReadyH.nil
  go_simp
  go_wp2_with fail
  refine (kv_do _ _ l c ⟨HN5.out.1, HN5.out.2.1⟩ Hc.out Hp.out hcv).mono ?_
  rintro e w6 ⟨hm6, hD⟩
  rw [Hr.out] at hD
  have HB6 := Lib.hid (HB5.out.drewmod hm6 (fun g hg => by have h1 := HN5.out.2.2 g hg; have h2 := HB2.out.lt; have h3 : w2.heap.size ≤ g := h1; exact ⟨by omega, fun k hk => by have h4 := hT k hk; have h5 := HB2.out.ext.size; omega⟩) (fun g hg => by have h3 : w2.heap.size ≤ g := HN5.out.2.2 g hg; have h5 := HB2.out.ext.size; omega))
  rcases hD with ⟨_, v6, rfl, ho6, hg6⟩ | ⟨h, _⟩
  case inr => exact absurd rfl h
  obtain ⟨A6, c6, rfl⟩ := own_form ho6.1
  obtain ⟨m6, hm6'⟩ : ∃ m6, L.length = m6 := ⟨_, rfl⟩
  have HM6 := Lib.hid hm6'
  simp only at ho6 hg6 ⊢
  rw [hm6'] at ho6 hg6 ⊢
  have HO6 := Lib.hid ho6
  have HG6 : Hid (∀ g, (Value.slice A6 m6 c6).ownBlock = some g → b + 1 + 1 + 1 < g ∧ w.heap.size ≤ g) := Lib.hid (fun g hg => by
    have h2 := HB2.out.lt
    have h6 := HB2.out.ext.size
    rcases hg6 g hg with h | h
    · have h3 : w2.heap.size ≤ g := HN5.out.2.2 g h
      exact ⟨by omega, by omega⟩
    · have h5 := HB5.out.lt
      have h7 := HB5.out.ext.size
      exact ⟨by omega, by omega⟩)
  have hX6 : SB b (.slice A n cc) c w6 := SB.of HB6.out
  clear hm6 ho6 hg6 hm6'
  go_simp
  refine hK.out _ _ hX6 (fun hS => ?_)
  clear hK K
  refine takeH (i := 4) (v := ?_) (some 17) rfl rfl (by kernel_rfl) (by kernel_rfl) (by kernel_rfl) (fun c a w h => put_panic (d := 17) (by decide) (by decide) c a w h) (Or.inl ⟨by kernel_rfl, ?_⟩) hS ?_
  rotate_left
  · rintro W' _
    go_simp
    try with_reducible rfl
  try simp only [Act.put, List.setIfInBounds_toArray, List.set_cons_zero, List.set_cons_succ]
  refine takeH (i := 5) (v := ?_) (some 18) rfl rfl (by kernel_rfl) (by kernel_rfl) (by kernel_rfl) (fun c a w h => put_panic (d := 18) (by decide) (by decide) c a w h) (Or.inl ⟨by kernel_rfl, ?_⟩) hS ?_
  rotate_left
  · rintro W' _
    go_simp
    try with_reducible rfl
  try simp only [Act.put, List.setIfInBounds_toArray, List.set_cons_zero, List.set_cons_succ]
  have j0 := blk_cell (cs := [.slice none 0 0]) (j := 0) HB6.out.b2 rfl
  have j1 := blk_free 0 HB6.out.b2
  have i0 := blk_cell (cs := [.int .i64 0, .int .i64 0, .float .f64 0, .string ⟨#[]⟩]) (j := 0) HB6.out.b3 rfl
  have i1 := blk_cell (cs := [.int .i64 0, .int .i64 0, .float .f64 0, .string ⟨#[]⟩]) (j := 1) HB6.out.b3 rfl
  have i2 := blk_cell (cs := [.int .i64 0, .int .i64 0, .float .f64 0, .string ⟨#[]⟩]) (j := 2) HB6.out.b3 rfl
  have i3 := blk_cell (cs := [.int .i64 0, .int .i64 0, .float .f64 0, .string ⟨#[]⟩]) (j := 3) HB6.out.b3 rfl
  have f0 := blk_free 0 HB6.out.b3
  have f1 := blk_free 1 HB6.out.b3
  have f2 := blk_free 2 HB6.out.b3
  have f3 := blk_free 3 HB6.out.b3
  have hX7 : SB b (.slice A n cc) c (w6.setCell ⟨b + 1 + 1, 0, none⟩ (.slice A6 m6 c6)) := hX6.mod (mod_same (b := b + 1 + 1) (Mod.refl _ w6) 0 _) (by omega) (by omega)
  refine wpAnyH_ready (rs := [6]) (by kernel_rfl) (by simp) ?_
  refine AllReadyH.cons rfl (fun K hK => ?_) AllReadyH.nil
  go_simp
  refine hK.out _ _ hX7 (fun hS => ?_)
  clear hK K
  have hX8 : SB b (.slice A n cc) c (((((w6.setCell ⟨b + 1 + 1, 0, none⟩ (.slice A6 m6 c6)).setCell ⟨b + 1 + 1 + 1, 0, none⟩ (.int .i64 0)).setCell ⟨b + 1 + 1 + 1, 1, none⟩ (.int .i64 t.kind)).setCell ⟨b + 1 + 1 + 1, 2, none⟩ (.float .f64 t.num)).setCell ⟨b + 1 + 1 + 1, 3, none⟩ (.string t.text)) :=
    hX7.mod (mod_same (b := b + 1 + 1 + 1) (mod_same (mod_same (mod_same (Mod.refl _ _) 0 _) 1 _) 2 _) 3 _) (by omega) (by omega)
  refine wpAnyH_ready (rs := [7]) (by kernel_rfl) (by simp) ?_
  refine AllReadyH.cons rfl (fun K hK => ?_) AllReadyH.nil
  go_simp
  refine hK.out _ _ hX8 (fun hS => ?_)
  clear hK K
  refine wpAnyH_done (by kernel_rfl) ?_ _
  obtain ⟨wf, hwf⟩ : ∃ wf, (((((w6.setCell ⟨b + 1 + 1, 0, none⟩ (.slice A6 m6 c6)).setCell ⟨b + 1 + 1 + 1, 0, none⟩ (.int .i64 0)).setCell ⟨b + 1 + 1 + 1, 1, none⟩ (.int .i64 t.kind)).setCell ⟨b + 1 + 1 + 1, 2, none⟩ (.float .f64 t.num)).setCell ⟨b + 1 + 1 + 1, 3, none⟩ (.string t.text)) = wf := ⟨_, rfl⟩
  have hmf : Mod (fun k => k = b + 1 + 1 ∨ k = b + 1 + 1 + 1) w6 wf := by
    rw [← hwf]
    exact ((((((Mod.refl _ w6).setCell (p := ⟨b + 1 + 1, 0, none⟩) (.inr (.inl rfl)) _).setCell (p := ⟨b + 1 + 1 + 1, 0, none⟩) (.inr (.inr rfl)) _).setCell (p := ⟨b + 1 + 1 + 1, 1, none⟩) (.inr (.inr rfl)) _).setCell (p := ⟨b + 1 + 1 + 1, 2, none⟩) (.inr (.inr rfl)) _).setCell (p := ⟨b + 1 + 1 + 1, 3, none⟩) (.inr (.inr rfl)) _)
  have hf2 : wf.heap[b + 1 + 1]? = some (.cells #[.slice A6 m6 c6] 29 (0, 0)) := by
    rw [← hwf]
    have := HB6.out.b2
    simp [World.setCell, Array.getElem?_modify, this]
  have hf3 : wf.heap[b + 1 + 1 + 1]? = some (.cells #[.int .i64 0, .int .i64 t.kind, .float .f64 t.num, .string t.text] 33 (0, 0)) := by
    rw [← hwf]
    have := HB6.out.b3
    simp [World.setCell, Array.getElem?_modify, this]
  rw [hwf]
  have HMF := Lib.hid hmf
  have HF2 := Lib.hid hf2
  have HF3 := Lib.hid hf3
  clear hwf hmf hf2 hf3 hX6 hX7 hX8 hS j0 j1 i0 i1 i2 i3 f0 f1 f2 f3
  go_wp2_with fail
  refine leaves_cons (f := 32) (args := #[.pointer (some ⟨b, 0, none⟩), .pointer (some ⟨b + 1 + 1, 0, none⟩), .pointer (some ⟨b + 1 + 1 + 1, 0, none⟩)]) (by simp) (by simp [go_sem]) ?_
  refine (kd_idle _ _ _ _).mono ?_
  rintro e u' w' ⟨rfl, rfl, o, rfl⟩
  have hEf : Ext wf (wf.alloc o) := (Mod.refl _ wf).alloc o
  have q0 := blk_cell (cs := [.slice A6 m6 c6]) (j := 0) (hEf.blk HF2.out id) rfl
  have r0 := blk_cell (cs := [.int .i64 0, .int .i64 t.kind, .float .f64 t.num, .string t.text]) (j := 0) (hEf.blk HF3.out id) rfl
  have r1 := blk_cell (cs := [.int .i64 0, .int .i64 t.kind, .float .f64 t.num, .string t.text]) (j := 1) (hEf.blk HF3.out id) rfl
  have r2 := blk_cell (cs := [.int .i64 0, .int .i64 t.kind, .float .f64 t.num, .string t.text]) (j := 2) (hEf.blk HF3.out id) rfl
  have r3 := blk_cell (cs := [.int .i64 0, .int .i64 t.kind, .float .f64 t.num, .string t.text]) (j := 3) (hEf.blk HF3.out id) rfl
  have hF : DoOut w L ⟨0, t⟩ (.returned (.tuple #[.slice A6 m6 c6, .agg #[.int .i64 0, .int .i64 t.kind, .float .f64 t.num, .string t.text]])) (wf.alloc o) := by
    have hO := (HO6.out.mod HMF.out (fun g hg e => by have := (HG6.out g hg).1; omega)).mod hEf (fun _ _ => id)
    refine ⟨_, rfl, ⟨hO.1, hO.2, fun g hg => (HG6.out g hg).2⟩, Mod.toExt (((Ext.mod HB6.out.ext (Since w.heap.size)).trans HMF.out (fun k hk e => by have := HB6.out.le; unfold Since; omega)).ext hEf)⟩
  simp [Leaves, settle, results, Try.results13, go_sem, q0, r0, r1, r2, r3]
  exact hF

/-- kv.Do is doP. -/
theorem kv_Do (w : World) (T : Nat → Prop) (v : Value) (l : List APair) (c : ACmd) (h : Prs w T v l) (hlen : l.length ≤ 1000000) (hcv : c.val.ok) :
    Calls Try.prog 13 #[v, .agg #[.int .i64 c.kind, .string c.key, .int .i64 c.old.kind, .float .f64 c.old.num, .string c.old.text, .int .i64 c.val.kind, .float .f64 c.val.num, .string c.val.text]] w (DoOut w (doP l c).1 (doP l c).2) := by
  have hP : Prs w (fun g => T g ∧ g < w.heap.size) v l := ⟨h.1.cap (by omega), h.2⟩
  obtain ⟨A, cc, rfl⟩ := hP.form
  by_cases hc : cmdE c = 0
  case neg =>
    rw [do_bad hc (.inl rfl)]
    exact kD_bad w _ A _ cc l c hP hlen _ rfl hc
  rcases hp : pairsB l with _ | _
  · rw [do_bad (n := 6) (by decide) (.inr ⟨hc, hp, rfl⟩)]
    exact kD_bad2 w _ A _ cc l c hP hlen hc hp
  rcases hr : doP l c with ⟨L, r⟩
  by_cases h0 : r.code = 0
  · obtain ⟨rc, rv⟩ := r
    simp only at h0
    subst h0
    exact kD_yes w _ (fun g hg => hg.2) A _ cc l c hP hlen hc hp hcv L rv hr
  · have e := (do_no (l := l) (c := c) (by rw [hr]; exact h0)).1
    rw [hr] at e
    simp only at e
    subst e
    exact kD_no w _ (fun g hg => hg.2) A _ cc L c hP hlen hc hp hcv L r hr h0
end Go.Proofs.Ythhjaneadbkccaa
