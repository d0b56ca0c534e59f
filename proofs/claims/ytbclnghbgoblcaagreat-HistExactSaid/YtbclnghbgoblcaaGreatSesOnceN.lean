/-
 The page's Once: a number that is new. Conditions: as each theorem names them.
-/
import Derived.Test.YtbclnghbgoblcaaGreatGOnce
import Derived.Test.YtbclnghbgoblcaaGreatSesDoN
import Derived.BigQuiet
namespace Go.Proofs.YtbclnghbgoblcaaGreat
set_option linter.unusedSimpArgs false
open Go.RowKit

theorem setS_drop {l : List ASess} {i : Nat} {y : ASess} (x : ASess) (d : Bool) (h : l[i]? = some y) : setS x d (l.drop i) =
  if d = false ∧ x.client ≤ y.client then x :: (if y.client = x.client then setS x true (l.drop (i + 1)) else y :: setS x true (l.drop (i + 1)))
  else if y.client = x.client then setS x d (l.drop (i + 1)) else y :: setS x d (l.drop (i + 1)) := by
 obtain ⟨hi, rfl⟩ := List.getElem?_eq_some_iff.1 h
 rw [List.drop_eq_getElem_cons hi]
 rfl
theorem mem_setS_any {x s : ASess} {d : Bool} {l : List ASess} (h : s ∈ setS x d l) : s ∈ l ∨ s = x := by
 induction l generalizing d with
 | nil => cases d <;> simp [setS] at h; exact .inr h
 | cons q l ih =>
  rw [setS] at h
  split at h
  ·
   rcases List.mem_cons.1 h with h | h
   ·
    exact .inr h
   ·
    split at h
    ·
     rcases ih h with h | h
     ·
      exact .inl (by simp [h])
     ·
      exact .inr h
    ·
     rcases List.mem_cons.1 h with h | h
     ·
      exact .inl (by simp [h])
     ·
      rcases ih h with h | h
      ·
       exact .inl (by simp [h])
      ·
       exact .inr h
  ·
   split at h
   ·
    rcases ih h with h | h
    ·
     exact .inl (by simp [h])
    ·
     exact .inr h
   ·
    rcases List.mem_cons.1 h with h | h
    ·
     exact .inl (by simp [h])
    ·
     rcases ih h with h | h
     ·
      exact .inl (by simp [h])
     ·
      exact .inr h
/-- Sessions under way: they lie in a block that is new since W, and box ob names them. -/
def WayS (W wr : World) (ob : Nat) (pv v : Value) (m : Nat) (os : List ASess) : Prop :=
 os.length = m ∧ wr.heap[ob]? = some (.cells #[pv, v] 33 (0, 0)) ∧ wr.ownsRow 0 72 6 v m (flS os) ∧ (∀ g, v.ownBlock = some g → W.heap.size ≤ g) ∧ Mod (fun k => k = ob) W wr
theorem WayS.grow {W wr wq w1 : World} {ob m : Nat} {pv v : Value} {os : List ASess} (h : WayS W wr ob pv v m os) (hob : ob < W.heap.size) (hE : Ext wr wq) (hg : wq.grownBy w1 v.ownBlock) :
  Mod (fun k => k = ob) W w1 ∧ w1.heap[ob]? = some (.cells #[pv, v] 33 (0, 0)) := by
 obtain ⟨h1, h2, h3, h4, h5⟩ := h
 refine ⟨(h5.ext hE).grown hg (fun k hk => .inl (h4 k hk)), ?_⟩
 have hm : Mod (fun k => v.ownBlock = some k) wr w1 := (Ext.mod hE _).grown hg (fun k hk => .inr hk)
 exact hm.blk h2 (fun e => by have := h4 _ e; omega)
theorem WayS.app {W wr wq w1 : World} {ob m : Nat} {pv v v' : Value} {os : List ASess} (h : WayS W wr ob pv v m os) (hob : ob < W.heap.size) (hE : Ext wr wq) (x : ASess) (ho : w1.ownsRow 0 72 6 v' (m + 1) (flS os ++ x.cells)) (hg : wq.grownBy w1 v.ownBlock)
  (hat : ∀ g, v'.ownBlock = some g → v.ownBlock = some g ∨ wr.heap.size ≤ g) : WayS W (w1.setCell ⟨ob, 1, none⟩ v') ob pv v' (m + 1) (os ++ [x]) := by
 obtain ⟨q1, q2⟩ := h.grow hob hE hg
 have hnew : ∀ g, v'.ownBlock = some g → W.heap.size ≤ g := fun g hgg => by
  have := h.2.2.2.2.size
  rcases hat g hgg with e | e
  ·
   exact h.2.2.2.1 g e
  ·
   omega
 have hM : Mod (fun k => k = ob) w1 (w1.setCell ⟨ob, 1, none⟩ v') := mod_same (Mod.refl _ _) _ _
 refine ⟨by simp [h.1], by simp [World.setCell, Array.getElem?_modify, q2], ?_, hnew, q1.self hM⟩
 have := own_mod ho hM (fun g hgg e => by have := hnew g hgg; omega)
 simpa [flS] using this

theorem WayS.drews {W wr wq : World} {ob m : Nat} {pv v : Value} {os : List ASess} (h : WayS W wr ob pv v m os) (hE : Ext wr wq) : WayS W wq ob pv v m os :=
 ⟨h.1, hE.blk h.2.1 id, own_mod h.2.2.1 hE (fun _ _ => id), h.2.2.2.1, h.2.2.2.2.ext hE⟩

set_option maxRecDepth 100000 in
set_option maxHeartbeats 4000000 in
theorem r_once_new (w : World) (T U : Nat → Prop) (pv v : Value) (p : List APair) (l : List ASess) (c : ACall) (hP : Prs w U pv p) (h : Ses w T v l) (hp : p.length ≤ 1000000) (hl : l.length ≤ 1000000) (hc : callE c = 0) (hm : machB ⟨p, l⟩ = true) (n : Int) (r : AReply) (hla : lastS l c.client = (n, r)) (Hlt : Hid (n < c.seq)) (hcv : c.cmd.val.ok) (L : List APair) (R : AReply) (hr : doP p c.cmd = (L, R)) (LR : List ASess) (HLR : Hid (setS (⟨c.client, c.seq, R⟩ : ASess) false l = LR)) (HokL : Hid (∀ s ∈ LR, s.ok)) (hl3 : l.length ≤ 1000) :
  Calls Tryz.prog 31 #[.agg #[pv, v], .agg #[.int .i64 c.client, .int .i64 c.seq, .int .i64 c.cmd.kind, .string c.cmd.key, .int .i64 c.cmd.old.kind, .float .f64 c.cmd.old.num, .string c.cmd.old.text, .int .i64 c.cmd.val.kind, .float .f64 c.cmd.val.num, .string c.cmd.val.text]] w (OnceOut w ⟨L, LR⟩ R) := by
 obtain ⟨i0, hi, hz0, hz1, hz2⟩ := info_parts info_sess
 obtain ⟨A, c0, rfl⟩ := h.form
 obtain ⟨A', c', rfl⟩ := hP.form
 obtain ⟨b, hb⟩ : ∃ b, w.heap.size = b := ⟨_, rfl⟩
 obtain ⟨W, hW⟩ : ∃ W, W = (((w.alloc (.cells #[.slice A' p.length c', .slice A l.length c0] 33)).alloc (.cells #[.int .i64 c.client, .int .i64 c.seq, .int .i64 c.cmd.kind, .string c.cmd.key, .int .i64 c.cmd.old.kind, .float .f64 c.cmd.old.num, .string c.cmd.old.text, .int .i64 c.cmd.val.kind, .float .f64 c.cmd.val.num, .string c.cmd.val.text] 44)).alloc (.cells #[.slice none 0 0, .slice none 0 0] 33)).alloc (.cells #[.int .i64 0, .int .i64 0, .float .f64 0, .string ⟨#[]⟩] 46) := ⟨_, rfl⟩
 obtain ⟨hA, hB, hC, hD, hsz, hE⟩ := four_boxes w _ _ _ _ hW
 rw [hb] at hA hB hC hD hsz
 have hPW := hP.ext hE
 have hSW := h.ext hE
 have HW := Lib.hid hW
 have Hb := Lib.hid hb
 have HE := Lib.hid hE
 have HA := Lib.hid hA
 have HB := Lib.hid hB
 have HC := Lib.hid hC
 have HD := Lib.hid hD
 clear hA hB hC hD hW hb hE
 go_enter Tryz.func31, Tryz.ntmps31
 go_wp2_with fail
 rw [← HW.out, Hb.out]
 refine (k_twinMachine W T U _ _ p l hPW hSW hp hl).mono ?_
 rintro e w1 ⟨pv1, v1, rfl, hN1, hE1⟩
 obtain ⟨A1, c1, rfl⟩ := own_form hN1.1.1
 obtain ⟨A2, c2, rfl⟩ := own_form hN1.2.1.1
 have hA1 := hE1.blk HA.out id
 have hB1 := hE1.blk HB.out id
 have hC1 := hE1.blk HC.out id
 have hD1 := hE1.blk HD.out id
 have l3 : b + 1 + 1 + 1 < w1.heap.size := (Array.getElem?_eq_some_iff.1 hD1).1
 have l2 : b + 1 + 1 < w1.heap.size := by omega
 have l1 : b + 1 < w1.heap.size := by omega
 have l0 : b < w1.heap.size := by omega
 have hXW : Ext w w1 := Mod.ext HE.out hE1
 have hNW : NewM w w1 (.slice A1 p.length c1) (.slice A2 l.length c2) ⟨p, l⟩ := ⟨newP_up hN1.1 HE.out.size, ⟨hN1.2.1.1, hN1.2.1.2.1, fun g hg => Nat.le_trans HE.out.size (hN1.2.1.2.2 g hg)⟩, hN1.2.2⟩
 have hfar : (∀ g, (Value.slice A1 p.length c1).ownBlock = some g → b + 4 ≤ g ∧ g < w1.heap.size) ∧ (∀ g, (Value.slice A2 l.length c2).ownBlock = some g → b + 4 ≤ g ∧ g < w1.heap.size) := ⟨fun g hg => ⟨by have := hN1.1.2.2 g hg; omega, (hN1.1.1.lt g hg).2⟩, fun g hg => ⟨by have := hN1.2.1.2.2 g hg; omega, (hN1.2.1.1.lt g hg).2⟩⟩
 obtain ⟨k0, k1, k2, k3, k4, k5, k6, k7, k8, k9⟩ := cq10 hB1
 have Hfar := Lib.hid hfar
 have HA1 := Lib.hid hA1
 have HB1 := Lib.hid hB1
 have HC1 := Lib.hid hC1
 have HD1 := Lib.hid hD1
 have HXW := Lib.hid hXW
 have HNW := Lib.hid hNW
 have HPW := Lib.hid hPW
 have HSW := Lib.hid hSW
 clear hA1 hB1 hC1 hD1 hN1 hE1 hfar hXW hNW hPW hSW
 go_wp2_with fail
 obtain ⟨w2, hw2⟩ : ∃ w2, w2 = w1.alloc (.cells #[.slice A1 p.length c1, .slice A2 l.length c2] 33) := ⟨_, rfl⟩
 rw [← hw2]
 have hE2 : Ext w1 w2 := by rw [hw2]; exact (Mod.refl _ _).alloc _
 have hT2 : w2.heap[w1.heap.size]? = some (.cells #[.slice A1 p.length c1, .slice A2 l.length c2] 33 (0, 0)) := by rw [hw2]; exact heap_alloc_new w1 _
 have hfar := Hfar.out
 have hA2 := hE2.blk HA1.out id
 have hB2 := hE2.blk HB1.out id
 have hC2 := hE2.blk HC1.out id
 have hD2 := hE2.blk HD1.out id
 have hN2 := newM_mod HNW.out hE2 (fun _ _ => id) (fun _ _ => id)
 have hX2 := Mod.ext HXW.out hE2
 obtain ⟨sb, hsb⟩ : ∃ sb, w1.heap.size = sb := ⟨_, rfl⟩
 rw [hsb] at l0 l1 l2 l3 hfar hT2 ⊢
 clear hsb hw2 hE2 Hfar HA1 HB1 HC1 HD1 HXW HNW HPW HSW k0 k1 k2 k3 k4 k5 k6 k7 k8 k9
 have Hfar := Lib.hid hfar
 clear hfar
 have n0 : ¬ sb = b := by omega
 have n1 : ¬ b = sb := by omega
 have n2 : ¬ sb = b + 1 := by omega
 have n3 : ¬ b + 1 = sb := by omega
 have n4 : ¬ sb = b + 1 + 1 := by omega
 have n5 : ¬ b + 1 + 1 = sb := by omega
 have n6 : ¬ sb = b + 1 + 1 + 1 := by omega
 have n7 : ¬ b + 1 + 1 + 1 = sb := by omega
 refine (r_call c w2).mono ?_
 rintro e w3 ⟨rfl, hE3⟩
 have hA3 := hE3.blk hA2 id
 have hB3 := hE3.blk hB2 id
 have hC3 := hE3.blk hC2 id
 have hD3 := hE3.blk hD2 id
 have hT3 := hE3.blk hT2 id
 have hN3 := newM_mod hN2 hE3 (fun _ _ => id) (fun _ _ => id)
 have hX3 := Mod.ext hX2 hE3
 clear hA2 hB2 hC2 hD2 hT2 hN2 hX2 hE3
 have a0 : w3.cell? ⟨b, 0, none⟩ = some _ := blk_cell hA3 rfl
 have a1 : w3.cell? ⟨b, 1, none⟩ = some _ := blk_cell hA3 rfl
 have m0 : w3.cell? ⟨sb, 0, none⟩ = some _ := blk_cell hT3 rfl
 have m1 : w3.cell? ⟨sb, 1, none⟩ = some _ := blk_cell hT3 rfl
 have g0 : w3.cell? ⟨b + 1 + 1, 0, none⟩ = some _ := blk_cell hC3 rfl
 have g1 : w3.cell? ⟨b + 1 + 1, 1, none⟩ = some _ := blk_cell hC3 rfl
 have fg0 : w3.frozen? ⟨b + 1 + 1, 0, none⟩ = false := blk_free 0 hC3
 have fg1 : w3.frozen? ⟨b + 1 + 1, 1, none⟩ = false := blk_free 1 hC3
 obtain ⟨q0, q1, q2, q3⟩ := cq4 hD3
 have fq0 : w3.frozen? ⟨b + 1 + 1 + 1, 0, none⟩ = false := blk_free 0 hD3
 have fq1 : w3.frozen? ⟨b + 1 + 1 + 1, 1, none⟩ = false := blk_free 1 hD3
 have fq2 : w3.frozen? ⟨b + 1 + 1 + 1, 2, none⟩ = false := blk_free 2 hD3
 have fq3 : w3.frozen? ⟨b + 1 + 1 + 1, 3, none⟩ = false := blk_free 3 hD3
 have HA3 := Lib.hid hA3
 have HB3 := Lib.hid hB3
 have HC3 := Lib.hid hC3
 have HD3 := Lib.hid hD3
 have HT3 := Lib.hid hT3
 have HN3 := Lib.hid hN3
 have HX3 := Lib.hid hX3
 clear hA3 hB3 hC3 hD3 hT3 hN3 hX3
 rw [hc]
 go_wp2_with fail
 refine (r_machine w3 T U _ _ p l (hP.ext HX3.out) (h.ext HX3.out)).mono ?_
 rintro e w4 ⟨rfl, hE4⟩
 rw [hm]
 clear a0 a1 m0 m1 g0 g1 q0 q1 q2 q3 fg0 fg1 fq0 fq1 fq2 fq3
 have hA3 := HA3.out
 have hB3 := HB3.out
 have hC3 := HC3.out
 have hD3 := HD3.out
 have hT3 := HT3.out
 have hN3 := HN3.out
 have hX3 := HX3.out
 clear HA3 HB3 HC3 HD3 HT3 HN3 HX3
 have hA4 := hE4.blk hA3 id
 have hB4 := hE4.blk hB3 id
 have hC4 := hE4.blk hC3 id
 have hD4 := hE4.blk hD3 id
 have hT4 := hE4.blk hT3 id
 have hN4 := newM_mod hN3 hE4 (fun _ _ => id) (fun _ _ => id)
 have hX4 := Mod.ext hX3 hE4
 clear hA3 hB3 hC3 hD3 hT3 hN3 hX3 hE4
 have a0 : w4.cell? ⟨b, 0, none⟩ = some _ := blk_cell hA4 rfl
 have a1 : w4.cell? ⟨b, 1, none⟩ = some _ := blk_cell hA4 rfl
 have m0 : w4.cell? ⟨sb, 0, none⟩ = some _ := blk_cell hT4 rfl
 have m1 : w4.cell? ⟨sb, 1, none⟩ = some _ := blk_cell hT4 rfl
 have g0 : w4.cell? ⟨b + 1 + 1, 0, none⟩ = some _ := blk_cell hC4 rfl
 have g1 : w4.cell? ⟨b + 1 + 1, 1, none⟩ = some _ := blk_cell hC4 rfl
 have fg0 : w4.frozen? ⟨b + 1 + 1, 0, none⟩ = false := blk_free 0 hC4
 have fg1 : w4.frozen? ⟨b + 1 + 1, 1, none⟩ = false := blk_free 1 hC4
 obtain ⟨q0, q1, q2, q3⟩ := cq4 hD4
 have fq0 : w4.frozen? ⟨b + 1 + 1 + 1, 0, none⟩ = false := blk_free 0 hD4
 have fq1 : w4.frozen? ⟨b + 1 + 1 + 1, 1, none⟩ = false := blk_free 1 hD4
 have fq2 : w4.frozen? ⟨b + 1 + 1 + 1, 2, none⟩ = false := blk_free 2 hD4
 have fq3 : w4.frozen? ⟨b + 1 + 1 + 1, 3, none⟩ = false := blk_free 3 hD4
 obtain ⟨k0, k1, k2, k3, k4, k5, k6, k7, k8, k9⟩ := cq10 hB4
 have HA4 := Lib.hid hA4
 have HB4 := Lib.hid hB4
 have HC4 := Lib.hid hC4
 have HD4 := Lib.hid hD4
 have HT4 := Lib.hid hT4
 have HN4 := Lib.hid hN4
 have HX4 := Lib.hid hX4
 clear hA4 hB4 hC4 hD4 hT4 hN4 hX4
 go_wp2_with fail
 refine (r_last w4 T _ _ l c.client (h.ext HX4.out)).mono ?_
 rw [hla]
 rintro e w5 ⟨rfl, hE5⟩
 clear hla a0 a1 m0 m1 g0 g1 q0 q1 q2 q3 fg0 fg1 fq0 fq1 fq2 fq3 k0 k1 k2 k3 k4 k5 k6 k7 k8 k9
 have hA4 := HA4.out
 have hB4 := HB4.out
 have hC4 := HC4.out
 have hD4 := HD4.out
 have hT4 := HT4.out
 have hN4 := HN4.out
 have hX4 := HX4.out
 clear HA4 HB4 HC4 HD4 HT4 HN4 HX4
 have hA5 := hE5.blk hA4 id
 have hB5 := hE5.blk hB4 id
 have hC5 := hE5.blk hC4 id
 have hD5 := hE5.blk hD4 id
 have hT5 := hE5.blk hT4 id
 have hN5 := newM_mod hN4 hE5 (fun _ _ => id) (fun _ _ => id)
 have hX5 := Mod.ext hX4 hE5
 clear hA4 hB4 hC4 hD4 hT4 hN4 hX4 hE5
 have l5 : sb < w5.heap.size := (Array.getElem?_eq_some_iff.1 hT5).1
 have l6 : b < w5.heap.size := by omega
 have l7 : b + 1 < w5.heap.size := by omega
 have l8 : b + 1 + 1 < w5.heap.size := by omega
 have l9 : b + 1 + 1 + 1 < w5.heap.size := by omega
 have a0 : w5.cell? ⟨b, 0, none⟩ = some _ := blk_cell hA5 rfl
 have a1 : w5.cell? ⟨b, 1, none⟩ = some _ := blk_cell hA5 rfl
 have m0 : w5.cell? ⟨sb, 0, none⟩ = some _ := blk_cell hT5 rfl
 have m1 : w5.cell? ⟨sb, 1, none⟩ = some _ := blk_cell hT5 rfl
 have g0 : w5.cell? ⟨b + 1 + 1, 0, none⟩ = some _ := blk_cell hC5 rfl
 have g1 : w5.cell? ⟨b + 1 + 1, 1, none⟩ = some _ := blk_cell hC5 rfl
 have fg0 : w5.frozen? ⟨b + 1 + 1, 0, none⟩ = false := blk_free 0 hC5
 have fg1 : w5.frozen? ⟨b + 1 + 1, 1, none⟩ = false := blk_free 1 hC5
 obtain ⟨q0, q1, q2, q3⟩ := cq4 hD5
 have fq0 : w5.frozen? ⟨b + 1 + 1 + 1, 0, none⟩ = false := blk_free 0 hD5
 have fq1 : w5.frozen? ⟨b + 1 + 1 + 1, 1, none⟩ = false := blk_free 1 hD5
 have fq2 : w5.frozen? ⟨b + 1 + 1 + 1, 2, none⟩ = false := blk_free 2 hD5
 have fq3 : w5.frozen? ⟨b + 1 + 1 + 1, 3, none⟩ = false := blk_free 3 hD5
 obtain ⟨k0, k1, k2, k3, k4, k5, k6, k7, k8, k9⟩ := cq10 hB5
 have HA5 := Lib.hid hA5
 have HB5 := Lib.hid hB5
 have HC5 := Lib.hid hC5
 have HD5 := Lib.hid hD5
 have HT5 := Lib.hid hT5
 have HN5 := Lib.hid hN5
 have HX5 := Lib.hid hX5
 clear hA5 hB5 hC5 hD5 hT5 hN5 hX5
 have e1 : (c.seq == n) = false := by have := Hlt.out; simp; omega
 have e2 : decide (c.seq < n) = false := by have := Hlt.out; simp; omega
 go_wp2_with fail
 clear a0 a1 m0 m1 g0 g1 q0 q1 q2 q3 fg0 fg1 fq0 fq1 fq2 fq3 k0 k1 k2 k3 k4 k5 k6 k7 k8 k9
 obtain ⟨w6, hw6⟩ : ∃ w6, w6 = (w5.alloc (.cells #[.int .i64 r.code, .int .i64 r.val.kind, .float .f64 r.val.num, .string r.val.text] 46)).alloc (.cells #[.slice none 0 0, .slice none 0 0] 33) := ⟨_, rfl⟩
 rw [← hw6]
 have hE6 : Ext w5 w6 := by rw [hw6]; exact ((Mod.refl _ _).alloc _).alloc _
 obtain ⟨hR6, hO6, hz6⟩ := two_new w5 (.cells #[.int .i64 r.code, .int .i64 r.val.kind, .float .f64 r.val.num, .string r.val.text] 46) (.cells #[.slice none 0 0, .slice none 0 0] 33)
 rw [← hw6] at hR6 hO6 hz6
 clear hw6
 obtain ⟨rb, hrb⟩ : ∃ rb, w5.heap.size = rb := ⟨_, rfl⟩
 rw [hrb] at hR6 hO6 hz6 l5 l6 l7 l8 l9 ⊢
 clear hrb
 have hA5 := HA5.out
 have hB5 := HB5.out
 have hC5 := HC5.out
 have hD5 := HD5.out
 have hT5 := HT5.out
 have hN5 := HN5.out
 have hX5 := HX5.out
 clear HA5 HB5 HC5 HD5 HT5 HN5 HX5
 have hA6 := hE6.blk hA5 id
 have hB6 := hE6.blk hB5 id
 have hC6 := hE6.blk hC5 id
 have hD6 := hE6.blk hD5 id
 have hT6 := hE6.blk hT5 id
 have hN6 := newM_mod hN5 hE6 (fun _ _ => id) (fun _ _ => id)
 have hX6 := Mod.ext hX5 hE6
 clear hA5 hB5 hC5 hD5 hT5 hN5 hX5 hE6
 have HA6 := Lib.hid hA6
 have HB6 := Lib.hid hB6
 have HC6 := Lib.hid hC6
 have HD6 := Lib.hid hD6
 have HT6 := Lib.hid hT6
 have HN6 := Lib.hid hN6
 have HX6 := Lib.hid hX6
 clear hA6 hB6 hC6 hD6 hT6 hN6 hX6
 have HR6 := Lib.hid hR6
 have HO6 := Lib.hid hO6
 have Hz6 := Lib.hid hz6
 clear hR6 hO6 hz6
 refine (r_do_at w6 U _ p c.cmd (hP.ext HX6.out) hp hcv hr).mono ?_
 rintro e w7 ⟨v7, rfl, hK7, hE7⟩
 obtain ⟨A7, c7, rfl⟩ := own_form hK7.1
 have hA6 := HA6.out
 have hB6 := HB6.out
 have hC6 := HC6.out
 have hD6 := HD6.out
 have hT6 := HT6.out
 have hN6 := HN6.out
 have hX6 := HX6.out
 clear HA6 HB6 HC6 HD6 HT6 HN6 HX6
 have hR7 := hE7.blk HR6.out id
 have hO7 := hE7.blk HO6.out id
 have hA7 := hE7.blk hA6 id
 have hB7 := hE7.blk hB6 id
 have hC7 := hE7.blk hC6 id
 have hD7 := hE7.blk hD6 id
 have hT7 := hE7.blk hT6 id
 have hN7 := newM_mod hN6 hE7 (fun _ _ => id) (fun _ _ => id)
 have hX7 := Mod.ext hX6 hE7
 clear hA6 hB6 hC6 hD6 hT6 hN6 hX6 hE7
 have hpl : ∀ g, (Value.slice A7 L.length c7).ownBlock = some g → rb + 2 ≤ g ∧ g < w7.heap.size := fun g hg => ⟨by have := hK7.2.2 g hg; have := Hz6.out; omega, (hK7.1.lt g hg).2⟩
 obtain ⟨W8, hW8⟩ : ∃ W8, W8 = ((((w7.setCell ⟨rb + 1, 0, none⟩ (.slice A7 L.length c7)).setCell ⟨rb, 0, none⟩ (.int .i64 R.code)).setCell ⟨rb, 1, none⟩ (.int .i64 R.val.kind)).setCell ⟨rb, 2, none⟩ (.float .f64 R.val.num)).setCell ⟨rb, 3, none⟩ (.string R.val.text) := ⟨_, rfl⟩
 have hM8 : Mod (fun k => k = rb + 1 ∨ k = rb) w7 W8 := by
  rw [hW8]
  exact Mod.setCell (Mod.setCell (Mod.setCell (Mod.setCell (Mod.setCell (Mod.refl _ _) (.inr (.inl rfl)) _) (.inr (.inr rfl)) _) (.inr (.inr rfl)) _) (.inr (.inr rfl)) _) (.inr (.inr rfl)) _
 have hO8 : W8.heap[rb + 1]? = some (.cells #[.slice A7 L.length c7, .slice none 0 0] 33 (0, 0)) := by rw [hW8]; simp [World.setCell, Array.getElem?_modify, hO7]
 have hR8 : W8.heap[rb]? = some (.cells #[.int .i64 R.code, .int .i64 R.val.kind, .float .f64 R.val.num, .string R.val.text] 46 (0, 0)) := by rw [hW8]; simp [World.setCell, Array.getElem?_modify, hR7]
 have hA8 := hM8.blk hA7 (by omega)
 have hB8 := hM8.blk hB7 (by omega)
 have hC8 := hM8.blk hC7 (by omega)
 have hD8 := hM8.blk hD7 (by omega)
 have hK8 := newP_mod hK7 hM8 (fun g hg e => by have := (hpl g hg).1; omega)
 have hX8 : Ext w W8 := Mod.toExt ((Ext.mod hX7 (Since w.heap.size)).trans hM8 (fun k _ e => by have := Hb.out; unfold Since; omega))
 have hsz8 : W8.heap.size = w7.heap.size := by rw [hW8]; simp [World.setCell]
 obtain ⟨v0, v1, v2, v3⟩ := cq4 hR7
 have fv0 : w7.frozen? ⟨rb, 0, none⟩ = false := blk_free 0 hR7
 have fv1 : w7.frozen? ⟨rb, 1, none⟩ = false := blk_free 1 hR7
 have fv2 : w7.frozen? ⟨rb, 2, none⟩ = false := blk_free 2 hR7
 have fv3 : w7.frozen? ⟨rb, 3, none⟩ = false := blk_free 3 hR7
 have o0 : w7.cell? ⟨rb + 1, 0, none⟩ = some _ := blk_cell hO7 rfl
 have o1 : w7.cell? ⟨rb + 1, 1, none⟩ = some _ := blk_cell hO7 rfl
 have fo0 : w7.frozen? ⟨rb + 1, 0, none⟩ = false := blk_free 0 hO7
 have fo1 : w7.frozen? ⟨rb + 1, 1, none⟩ = false := blk_free 1 hO7
 have hob : rb + 1 < W8.heap.size := (Array.getElem?_eq_some_iff.1 hO8).1
 have HW8 := Lib.hid hW8
 have HA8 := Lib.hid hA8
 have HB8 := Lib.hid hB8
 have HC8 := Lib.hid hC8
 have HD8 := Lib.hid hD8
 have HR8 := Lib.hid hR8
 have HO8 := Lib.hid hO8
 have HK8 := Lib.hid hK8
 have HX8 := Lib.hid hX8
 have Hpl := Lib.hid hpl
 have Hob := Lib.hid hob
 have Hsz8 := Lib.hid hsz8
 clear hA7 hB7 hC7 hD7 hT7 hR7 hO7 hN7 hX7 hK7 hM8 hW8 hA8 hB8 hC8 hD8 hR8 hO8 hK8 hX8 hpl hob hsz8
 go_wp2
 rw [← HW8.out]
 clear o0 o1 fo0 fo1 v0 v1 v2 v3 fv0 fv1 fv2 fv3
 go_loopw [11, 12] (fun dv iv wr => ∃ (i m : Nat) (d : Bool) (os : List ASess) (VA : Option Addr) (vc : Nat), i ≤ l.length ∧ iv = .int .i64 i ∧ dv = .bool d ∧ LR = os ++ setS (⟨c.client, c.seq, R⟩ : ASess) d (l.drop i) ∧ m ≤ 2 * i ∧ WayS W8 wr (rb + 1) (.slice A7 L.length c7) (.slice VA m vc) m os) (fun _ iv _ => l.length - (intOf iv).toNat)
 case atStart => exact ⟨0, 0, false, [], none, 0, by omega, rfl, rfl, by simpa using HLR.out.symm, by omega, rfl, HO8.out, World.ownsRow_nil _ _ _ _, by simp [Value.ownBlock], Mod.refl _ _⟩
 case round =>
  obtain ⟨i, m, d, os, VA, vc, hin, rfl, rfl, hLi, hm2, hWay⟩ := hrel
  have HWay := Lib.hid hWay
  have hO := hWay.2.1
  have hown := hWay.2.2.1
  have HownE : Hid (∀ W', Ext wr W' → W'.ownsRow 0 72 6 (.slice VA m vc) m (flS os)) := Lib.hid (fun W' e => own_mod hown e (fun _ _ => id))
  have hmod := hWay.2.2.2.2
  have hrb : b + 4 ≤ rb := by omega
  clear hWay hown
  by_cases hi' : i < l.length
  ·
   obtain ⟨g, off, y, rfl, hgT, hy, hyok, hcells⟩ := h.at hi'
   have hlow : g < b := by have := h.low (by omega); have := Hb.out; omega
   have hi0 : (0 : Int) ≤ (i : Int) := by omega
   have hi1 : (i : Int) < (l.length : Int) := by omega
   have z0 := hcells 0 _ rfl
   have z1 := hcells 1 _ rfl
   have z2 := hcells 2 _ rfl
   have z3 := hcells 3 _ rfl
   have z4 := hcells 4 _ rfl
   have z5 := hcells 5 _ rfl
   rw [Nat.add_zero] at z0
   have hX := Mod.toExt ((Ext.mod HX8.out (Since w.heap.size)).trans hmod (fun k _ e => by have := Hb.out; unfold Since; omega))
   have a1 : wr.cell? ⟨b, 1, none⟩ = some _ := blk_cell (hmod.blk HA8.out (by omega)) rfl
   have k0 : wr.cell? ⟨b + 1, 0, none⟩ = some _ := blk_cell (hmod.blk HB8.out (by omega)) rfl
   have k1 : wr.cell? ⟨b + 1, 1, none⟩ = some _ := blk_cell (hmod.blk HB8.out (by omega)) rfl
   obtain ⟨v0, v1, v2, v3⟩ := cq4 (hmod.blk HR8.out (by omega))
   have o0 : wr.cell? ⟨rb + 1, 0, none⟩ = some (.slice A7 L.length c7) := blk_cell hO rfl
   have o1 : wr.cell? ⟨rb + 1, 1, none⟩ = some (.slice VA m vc) := blk_cell hO rfl
   have fo1 : wr.frozen? ⟨rb + 1, 1, none⟩ = false := blk_free 1 hO
   have lo : rb + 1 < wr.heap.size := World.block_lt_of_cell? _ _ o1
   have lr : rb < wr.heap.size := by omega
   have lb : b < wr.heap.size := by omega
   have lb1 : b + 1 < wr.heap.size := by omega
   have qlo : ∀ q, rb + 1 < (wr.drewN q).heap.size := fun _ => lo
   have qlr : ∀ q, rb < (wr.drewN q).heap.size := fun _ => lr
   have qlb : ∀ q, b < (wr.drewN q).heap.size := fun _ => lb
   have qlb1 : ∀ q, b + 1 < (wr.drewN q).heap.size := fun _ => lb1
   have x0 := hX.cell z0 id
   have x1 := hX.cell z1 id
   have x2 := hX.cell z2 id
   have x3 := hX.cell z3 id
   have x4 := hX.cell z4 id
   have x5 := hX.cell z5 id
   have lg : g < wr.heap.size := by omega
   have qlg : ∀ q, g < (wr.drewN q).heap.size := fun _ => lg
   have hd := setS_drop (⟨c.client, c.seq, R⟩ : ASess) d hy
   rw [hd] at hLi
   have HLi := Lib.hid hLi
   have Hm2 := Lib.hid hm2
   clear hcells hy hyok hd hLi hO hX hgT
   rcases d with _ | _
   ·
    by_cases hle : c.client ≤ y.client
    ·
     have b1 : decide (c.client ≤ y.client) = true := decide_eq_true hle
     go_wp2
     go_quiet (fail)
     go_wp2_with (at_builtin; refine wpList_app _ rfl _ _ 31 rfl 72 i0 _ 6 56 Tryz.underlying31 hi hz0 hz1 hz2 rfl (by omega) (.slice VA m vc) m _ rfl (HownE.out _ (by repeat (with_reducible (first | exact Mod.refl _ _ | refine Mod.drew ?_ | refine Mod.drewN ?_ _ | refine Mod.alloc ?_ _)))) _ _ 1 (⟨c.client, c.seq, R⟩ : ASess).cells rfl (by first | exact sl_one _ _ _ | exact (sl_one _ _ _).drew | exact (sl_one _ _ _).drewN _ | exact ((sl_one _ _ _).drewN _).drew | exact ((sl_one _ _ _).drew).drewN _) (ses1 (⟨c.client, c.seq, R⟩ : ASess)) (by simp only [maxLen]; omega) (by omega) ?_)
     intro v1 w1' ho hgr hat
     obtain ⟨VA1, vc1, rfl⟩ := own_form ho
     have hW1 := HWay.out.app Hob.out (by repeat (with_reducible (first | exact Mod.refl _ _ | refine Mod.drew ?_ | refine Mod.drewN ?_ _ | refine Mod.alloc ?_ _))) (⟨c.client, c.seq, R⟩ : ASess) ho hgr (fun x hx => by rcases hat with e | e <;> rw [e] at hx <;> first | exact .inl hx | (injection hx with hx; subst hx; right; first | omega | (simp; done) | (simp; omega)))
     obtain ⟨hm1, ho1⟩ := HWay.out.grow Hob.out (by repeat (with_reducible (first | exact Mod.refl _ _ | refine Mod.drew ?_ | refine Mod.drewN ?_ _ | refine Mod.alloc ?_ _))) hgr
     obtain ⟨W2, hW2⟩ : ∃ W2, W2 = w1'.setCell ⟨rb + 1, 1, none⟩ (.slice VA1 (m + 1) vc1) := ⟨_, rfl⟩
     rw [← hW2] at hW1
     clear ho hgr hat a1 k0 k1 v0 v1 v2 v3 o0 o1 fo1 lo lr lb lb1 qlo qlr qlb qlb1 x0 x1 x2 x3 x4 x5 lg qlg
     have o0 : w1'.cell? ⟨rb + 1, 0, none⟩ = some _ := blk_cell ho1 rfl
     have o1 : w1'.cell? ⟨rb + 1, 1, none⟩ = some _ := blk_cell ho1 rfl
     have fo1 : w1'.frozen? ⟨rb + 1, 1, none⟩ = false := blk_free 1 ho1
     go_wp2_with fail
     rw [← hW2]
     have HW1 := Lib.hid hW1
     have hm1' := hW1.2.2.2.2
     have hO1 := hW1.2.1
     have HownE1 : Hid (∀ W', Ext W2 W' → W'.ownsRow 0 72 6 (.slice VA1 (m + 1) vc1) (m + 1) (flS (os ++ [(⟨c.client, c.seq, R⟩ : ASess)]))) := Lib.hid (fun W' e => own_mod hW1.2.2.1 e (fun _ _ => id))
     clear hW2 hW1 hm1 ho1 o0 o1 fo1
     have hX := Mod.toExt ((Ext.mod HX8.out (Since w.heap.size)).trans hm1' (fun k _ e => by have := Hb.out; unfold Since; omega))
     have a1 : W2.cell? ⟨b, 1, none⟩ = some _ := blk_cell (hm1'.blk HA8.out (by omega)) rfl
     have k0 : W2.cell? ⟨b + 1, 0, none⟩ = some _ := blk_cell (hm1'.blk HB8.out (by omega)) rfl
     have k1 : W2.cell? ⟨b + 1, 1, none⟩ = some _ := blk_cell (hm1'.blk HB8.out (by omega)) rfl
     obtain ⟨v0, v1, v2, v3⟩ := cq4 (hm1'.blk HR8.out (by omega))
     have o0 : W2.cell? ⟨rb + 1, 0, none⟩ = some (.slice A7 L.length c7) := blk_cell hO1 rfl
     have o1 : W2.cell? ⟨rb + 1, 1, none⟩ = some (.slice VA1 (m + 1) vc1) := blk_cell hO1 rfl
     have fo1 : W2.frozen? ⟨rb + 1, 1, none⟩ = false := blk_free 1 hO1
     have lo : rb + 1 < W2.heap.size := World.block_lt_of_cell? _ _ o1
     have lr : rb < W2.heap.size := by omega
     have lb : b < W2.heap.size := by omega
     have lb1 : b + 1 < W2.heap.size := by omega
     have qlo : ∀ q, rb + 1 < (W2.drewN q).heap.size := fun _ => lo
     have qlr : ∀ q, rb < (W2.drewN q).heap.size := fun _ => lr
     have qlb : ∀ q, b < (W2.drewN q).heap.size := fun _ => lb
     have qlb1 : ∀ q, b + 1 < (W2.drewN q).heap.size := fun _ => lb1
     have x0 := hX.cell z0 id
     have x1 := hX.cell z1 id
     have x2 := hX.cell z2 id
     have x3 := hX.cell z3 id
     have x4 := hX.cell z4 id
     have x5 := hX.cell z5 id
     have lg : g < W2.heap.size := by omega
     have qlg : ∀ q, g < (W2.drewN q).heap.size := fun _ => lg
     clear hX hO1
     by_cases heq : y.client = c.client
     ·
      have b2 : (y.client != c.client) = false := by simp [heq]
      have b3 : (y.client == c.client) = true := by simp [heq]
      have hE : LR = (os ++ [(⟨c.client, c.seq, R⟩ : ASess)]) ++ setS (⟨c.client, c.seq, R⟩ : ASess) true (l.drop (i + 1)) := by rw [HLi.out, if_pos (by simp [hle])]; first | (rw [if_pos heq]; simp) | (rw [if_neg heq]; simp)
      have HE1 := Lib.hid hE
      clear hE heq
      go_wp2
      go_quiet (fail)
      go_wp2
      exact ⟨⟨i + 1, m + 1, true, (os ++ [(⟨c.client, c.seq, R⟩ : ASess)]), _, _, by omega, by go_num, rfl, HE1.out, by have := Hm2.out; omega, HW1.out.drews (by repeat (with_reducible (first | exact Mod.refl _ _ | refine Mod.drew ?_ | refine Mod.drewN ?_ _ | refine Mod.alloc ?_ _)))⟩, by simp [intOf]; omega⟩
     ·
      have b2 : (y.client != c.client) = true := by simp [heq]
      have b3 : (y.client == c.client) = false := by simp [heq]
      have hE : LR = ((os ++ [(⟨c.client, c.seq, R⟩ : ASess)]) ++ [y]) ++ setS (⟨c.client, c.seq, R⟩ : ASess) true (l.drop (i + 1)) := by rw [HLi.out, if_pos (by simp [hle])]; first | (rw [if_pos heq]; simp) | (rw [if_neg heq]; simp)
      have HE1 := Lib.hid hE
      have hm3 := Hm2.out
      clear hE heq
      go_wp2
      go_quiet (fail)
      obtain ⟨wq, hwq⟩ : ∃ wq, wq = W2.drewN nq := ⟨_, rfl⟩
      rw [← hwq]
      have hWq := HW1.out.drews (show Ext W2 wq by rw [hwq]; exact (by repeat (with_reducible (first | exact Mod.refl _ _ | refine Mod.drew ?_ | refine Mod.drewN ?_ _ | refine Mod.alloc ?_ _))))
      clear hwq b2 b3 a1 k0 k1 v0 v1 v2 v3 o0 o1 fo1 lo lr lb lb1 qlo qlr qlb qlb1 x0 x1 x2 x3 x4 x5 lg qlg
      have HWq := Lib.hid hWq
      have HownQ : Hid (∀ W', Ext wq W' → W'.ownsRow 0 72 6 (.slice VA1 (m + 1) vc1) (m + 1) (flS (os ++ [(⟨c.client, c.seq, R⟩ : ASess)]))) := Lib.hid (fun W' e => own_mod hWq.2.2.1 e (fun _ _ => id))
      have hmq := hWq.2.2.2.2
      have hOq := hWq.2.1
      clear hWq
      have hX := Mod.toExt ((Ext.mod HX8.out (Since w.heap.size)).trans hmq (fun k _ e => by have := Hb.out; unfold Since; omega))
      have a1 : wq.cell? ⟨b, 1, none⟩ = some _ := blk_cell (hmq.blk HA8.out (by omega)) rfl
      have k0 : wq.cell? ⟨b + 1, 0, none⟩ = some _ := blk_cell (hmq.blk HB8.out (by omega)) rfl
      have k1 : wq.cell? ⟨b + 1, 1, none⟩ = some _ := blk_cell (hmq.blk HB8.out (by omega)) rfl
      obtain ⟨v0, v1, v2, v3⟩ := cq4 (hmq.blk HR8.out (by omega))
      have o0 : wq.cell? ⟨rb + 1, 0, none⟩ = some (.slice A7 L.length c7) := blk_cell hOq rfl
      have o1 : wq.cell? ⟨rb + 1, 1, none⟩ = some (.slice VA1 (m + 1) vc1) := blk_cell hOq rfl
      have fo1 : wq.frozen? ⟨rb + 1, 1, none⟩ = false := blk_free 1 hOq
      have lo : rb + 1 < wq.heap.size := World.block_lt_of_cell? _ _ o1
      have lr : rb < wq.heap.size := by omega
      have lb : b < wq.heap.size := by omega
      have lb1 : b + 1 < wq.heap.size := by omega
      have qlo : ∀ q, rb + 1 < (wq.drewN q).heap.size := fun _ => lo
      have qlr : ∀ q, rb < (wq.drewN q).heap.size := fun _ => lr
      have qlb : ∀ q, b < (wq.drewN q).heap.size := fun _ => lb
      have qlb1 : ∀ q, b + 1 < (wq.drewN q).heap.size := fun _ => lb1
      have x0 := hX.cell z0 id
      have x1 := hX.cell z1 id
      have x2 := hX.cell z2 id
      have x3 := hX.cell z3 id
      have x4 := hX.cell z4 id
      have x5 := hX.cell z5 id
      have lg : g < wq.heap.size := by omega
      have qlg : ∀ q, g < (wq.drewN q).heap.size := fun _ => lg
      clear hX hOq hmq
      go_wp2_with fail
      go_region_law
       ((refine step_app _ rfl _ _ 31 rfl 72 i0 _ 6 56 Tryz.underlying31 hi hz0 hz1 hz2 rfl (by omega) (.slice VA1 (m + 1) vc1) (m + 1) _ rfl (HownQ.out _ (by repeat (with_reducible (first | exact Mod.refl _ _ | refine Mod.drew ?_ | refine Mod.drewN ?_ _ | refine Mod.alloc ?_ _)))) _ _ 1 y.cells rfl (by first | exact sl_one _ _ _ | exact (sl_one _ _ _).drew | exact (sl_one _ _ _).drewN _ | exact ((sl_one _ _ _).drewN _).drew | exact ((sl_one _ _ _).drew).drewN _) (ses1 y) (by simp only [maxLen]; omega) (by omega) ?_
         intro v9 w9 ho hgr hat
         obtain ⟨VA9, vc9, rfl⟩ := own_form ho
         have hW9 := Lib.hid (HWq.out.app Hob.out (by repeat (with_reducible (first | exact Mod.refl _ _ | refine Mod.drew ?_ | refine Mod.drewN ?_ _ | refine Mod.alloc ?_ _))) y ho hgr (fun x hx => by rcases hat with e | e <;> rw [e] at hx <;> first | exact .inl hx | (injection hx with hx; subst hx; right; first | omega | (simp; done) | (simp; omega))))
         obtain ⟨hm9, ho9⟩ := HWq.out.grow Hob.out (by repeat (with_reducible (first | exact Mod.refl _ _ | refine Mod.drew ?_ | refine Mod.drewN ?_ _ | refine Mod.alloc ?_ _))) hgr
         have o9 : w9.cell? ⟨rb + 1, 1, none⟩ = some _ := blk_cell ho9 rfl
         have fo9 : w9.frozen? ⟨rb + 1, 1, none⟩ = false := blk_free 1 ho9
         clear ho hgr hat hm9 ho9))
      all_goals go_wp2
      all_goals exact ⟨⟨i + 1, m + 1 + 1, true, (os ++ [(⟨c.client, c.seq, R⟩ : ASess)]) ++ [y], VA9, vc9, by omega, by go_num, rfl, HE1.out, by omega, hW9.out⟩, by simp [intOf]; omega⟩
    ·
     have b1 : decide (c.client ≤ y.client) = false := decide_eq_false hle
     go_wp2
     go_quiet (fail)
     obtain ⟨nq1, hnq1⟩ : ∃ k, k = nq := ⟨_, rfl⟩
     rw [← hnq1]
     clear hnq1
     by_cases heq : y.client = c.client
     ·
      have b2 : (y.client != c.client) = false := by simp [heq]
      have b3 : (y.client == c.client) = true := by simp [heq]
      have hE : LR = os ++ setS (⟨c.client, c.seq, R⟩ : ASess) false (l.drop (i + 1)) := by rw [HLi.out, if_neg (by simp; omega)]; first | (rw [if_pos heq]) | (rw [if_neg heq]; simp)
      have HE1 := Lib.hid hE
      clear hE heq
      go_wp2
      go_quiet (fail)
      go_wp2
      exact ⟨⟨i + 1, m, false, os, _, _, by omega, by go_num, rfl, HE1.out, by have := Hm2.out; omega, HWay.out.drews (by repeat (with_reducible (first | exact Mod.refl _ _ | refine Mod.drew ?_ | refine Mod.drewN ?_ _ | refine Mod.alloc ?_ _)))⟩, by simp [intOf]; omega⟩
     ·
      have b2 : (y.client != c.client) = true := by simp [heq]
      have b3 : (y.client == c.client) = false := by simp [heq]
      have hE : LR = (os ++ [y]) ++ setS (⟨c.client, c.seq, R⟩ : ASess) false (l.drop (i + 1)) := by rw [HLi.out, if_neg (by simp; omega)]; first | (rw [if_pos heq]) | (rw [if_neg heq]; simp)
      have HE1 := Lib.hid hE
      have hm3 := Hm2.out
      clear hE heq
      go_wp2
      go_quiet (fail)
      obtain ⟨wq, hwq⟩ : ∃ wq, wq = (wr.drewN nq1).drewN nq := ⟨_, rfl⟩
      rw [← hwq]
      have hWq := HWay.out.drews (show Ext wr wq by rw [hwq]; exact (by repeat (with_reducible (first | exact Mod.refl _ _ | refine Mod.drew ?_ | refine Mod.drewN ?_ _ | refine Mod.alloc ?_ _))))
      clear hwq b2 b3 a1 k0 k1 v0 v1 v2 v3 o0 o1 fo1 lo lr lb lb1 qlo qlr qlb qlb1 x0 x1 x2 x3 x4 x5 lg qlg
      have HWq := Lib.hid hWq
      have HownQ : Hid (∀ W', Ext wq W' → W'.ownsRow 0 72 6 (.slice VA m vc) (m) (flS os)) := Lib.hid (fun W' e => own_mod hWq.2.2.1 e (fun _ _ => id))
      have hmq := hWq.2.2.2.2
      have hOq := hWq.2.1
      clear hWq
      have hX := Mod.toExt ((Ext.mod HX8.out (Since w.heap.size)).trans hmq (fun k _ e => by have := Hb.out; unfold Since; omega))
      have a1 : wq.cell? ⟨b, 1, none⟩ = some _ := blk_cell (hmq.blk HA8.out (by omega)) rfl
      have k0 : wq.cell? ⟨b + 1, 0, none⟩ = some _ := blk_cell (hmq.blk HB8.out (by omega)) rfl
      have k1 : wq.cell? ⟨b + 1, 1, none⟩ = some _ := blk_cell (hmq.blk HB8.out (by omega)) rfl
      obtain ⟨v0, v1, v2, v3⟩ := cq4 (hmq.blk HR8.out (by omega))
      have o0 : wq.cell? ⟨rb + 1, 0, none⟩ = some (.slice A7 L.length c7) := blk_cell hOq rfl
      have o1 : wq.cell? ⟨rb + 1, 1, none⟩ = some (.slice VA m vc) := blk_cell hOq rfl
      have fo1 : wq.frozen? ⟨rb + 1, 1, none⟩ = false := blk_free 1 hOq
      have lo : rb + 1 < wq.heap.size := World.block_lt_of_cell? _ _ o1
      have lr : rb < wq.heap.size := by omega
      have lb : b < wq.heap.size := by omega
      have lb1 : b + 1 < wq.heap.size := by omega
      have qlo : ∀ q, rb + 1 < (wq.drewN q).heap.size := fun _ => lo
      have qlr : ∀ q, rb < (wq.drewN q).heap.size := fun _ => lr
      have qlb : ∀ q, b < (wq.drewN q).heap.size := fun _ => lb
      have qlb1 : ∀ q, b + 1 < (wq.drewN q).heap.size := fun _ => lb1
      have x0 := hX.cell z0 id
      have x1 := hX.cell z1 id
      have x2 := hX.cell z2 id
      have x3 := hX.cell z3 id
      have x4 := hX.cell z4 id
      have x5 := hX.cell z5 id
      have lg : g < wq.heap.size := by omega
      have qlg : ∀ q, g < (wq.drewN q).heap.size := fun _ => lg
      clear hX hOq hmq
      go_wp2_with fail
      go_region_law
       ((refine step_app _ rfl _ _ 31 rfl 72 i0 _ 6 56 Tryz.underlying31 hi hz0 hz1 hz2 rfl (by omega) (.slice VA m vc) (m) _ rfl (HownQ.out _ (by repeat (with_reducible (first | exact Mod.refl _ _ | refine Mod.drew ?_ | refine Mod.drewN ?_ _ | refine Mod.alloc ?_ _)))) _ _ 1 y.cells rfl (by first | exact sl_one _ _ _ | exact (sl_one _ _ _).drew | exact (sl_one _ _ _).drewN _ | exact ((sl_one _ _ _).drewN _).drew | exact ((sl_one _ _ _).drew).drewN _) (ses1 y) (by simp only [maxLen]; omega) (by omega) ?_
         intro v9 w9 ho hgr hat
         obtain ⟨VA9, vc9, rfl⟩ := own_form ho
         have hW9 := Lib.hid (HWq.out.app Hob.out (by repeat (with_reducible (first | exact Mod.refl _ _ | refine Mod.drew ?_ | refine Mod.drewN ?_ _ | refine Mod.alloc ?_ _))) y ho hgr (fun x hx => by rcases hat with e | e <;> rw [e] at hx <;> first | exact .inl hx | (injection hx with hx; subst hx; right; first | omega | (simp; done) | (simp; omega))))
         obtain ⟨hm9, ho9⟩ := HWq.out.grow Hob.out (by repeat (with_reducible (first | exact Mod.refl _ _ | refine Mod.drew ?_ | refine Mod.drewN ?_ _ | refine Mod.alloc ?_ _))) hgr
         have o9 : w9.cell? ⟨rb + 1, 1, none⟩ = some _ := blk_cell ho9 rfl
         have fo9 : w9.frozen? ⟨rb + 1, 1, none⟩ = false := blk_free 1 ho9
         clear ho hgr hat hm9 ho9))
      all_goals go_wp2
      all_goals exact ⟨⟨i + 1, m + 1, false, os ++ [y], VA9, vc9, by omega, by go_num, rfl, HE1.out, by omega, hW9.out⟩, by simp [intOf]; omega⟩
   ·
    go_wp2
    go_quiet (fail)
    obtain ⟨nq1, hnq1⟩ : ∃ k, k = nq := ⟨_, rfl⟩
    rw [← hnq1]
    clear hnq1
    by_cases heq : y.client = c.client
    ·
     have b2 : (y.client != c.client) = false := by simp [heq]
     have b3 : (y.client == c.client) = true := by simp [heq]
     have hE : LR = os ++ setS (⟨c.client, c.seq, R⟩ : ASess) true (l.drop (i + 1)) := by rw [HLi.out, if_neg (by simp)]; first | rw [if_pos heq] | (rw [if_neg heq]; simp)
     have HE1 := Lib.hid hE
     clear hE heq
     go_wp2
     go_quiet (fail)
     go_wp2
     exact ⟨⟨i + 1, m, true, os, _, _, by omega, by go_num, rfl, HE1.out, by have := Hm2.out; omega, HWay.out.drews (by repeat (with_reducible (first | exact Mod.refl _ _ | refine Mod.drew ?_ | refine Mod.drewN ?_ _ | refine Mod.alloc ?_ _)))⟩, by simp [intOf]; omega⟩
    ·
     have b2 : (y.client != c.client) = true := by simp [heq]
     have b3 : (y.client == c.client) = false := by simp [heq]
     have hE : LR = (os ++ [y]) ++ setS (⟨c.client, c.seq, R⟩ : ASess) true (l.drop (i + 1)) := by rw [HLi.out, if_neg (by simp)]; first | rw [if_pos heq] | (rw [if_neg heq]; simp)
     have HE1 := Lib.hid hE
     have hm3 := Hm2.out
     clear hE heq
     go_wp2
     go_quiet (fail)
     obtain ⟨wq, hwq⟩ : ∃ wq, wq = (wr.drewN nq1).drewN nq := ⟨_, rfl⟩
     rw [← hwq]
     have hWq := HWay.out.drews (show Ext wr wq by rw [hwq]; exact (by repeat (with_reducible (first | exact Mod.refl _ _ | refine Mod.drew ?_ | refine Mod.drewN ?_ _ | refine Mod.alloc ?_ _))))
     clear hwq b2 b3 a1 k0 k1 v0 v1 v2 v3 o0 o1 fo1 lo lr lb lb1 qlo qlr qlb qlb1 x0 x1 x2 x3 x4 x5 lg qlg
     have HWq := Lib.hid hWq
     have HownQ : Hid (∀ W', Ext wq W' → W'.ownsRow 0 72 6 (.slice VA m vc) (m) (flS os)) := Lib.hid (fun W' e => own_mod hWq.2.2.1 e (fun _ _ => id))
     have hmq := hWq.2.2.2.2
     have hOq := hWq.2.1
     clear hWq
     have hX := Mod.toExt ((Ext.mod HX8.out (Since w.heap.size)).trans hmq (fun k _ e => by have := Hb.out; unfold Since; omega))
     have a1 : wq.cell? ⟨b, 1, none⟩ = some _ := blk_cell (hmq.blk HA8.out (by omega)) rfl
     have k0 : wq.cell? ⟨b + 1, 0, none⟩ = some _ := blk_cell (hmq.blk HB8.out (by omega)) rfl
     have k1 : wq.cell? ⟨b + 1, 1, none⟩ = some _ := blk_cell (hmq.blk HB8.out (by omega)) rfl
     obtain ⟨v0, v1, v2, v3⟩ := cq4 (hmq.blk HR8.out (by omega))
     have o0 : wq.cell? ⟨rb + 1, 0, none⟩ = some (.slice A7 L.length c7) := blk_cell hOq rfl
     have o1 : wq.cell? ⟨rb + 1, 1, none⟩ = some (.slice VA m vc) := blk_cell hOq rfl
     have fo1 : wq.frozen? ⟨rb + 1, 1, none⟩ = false := blk_free 1 hOq
     have lo : rb + 1 < wq.heap.size := World.block_lt_of_cell? _ _ o1
     have lr : rb < wq.heap.size := by omega
     have lb : b < wq.heap.size := by omega
     have lb1 : b + 1 < wq.heap.size := by omega
     have qlo : ∀ q, rb + 1 < (wq.drewN q).heap.size := fun _ => lo
     have qlr : ∀ q, rb < (wq.drewN q).heap.size := fun _ => lr
     have qlb : ∀ q, b < (wq.drewN q).heap.size := fun _ => lb
     have qlb1 : ∀ q, b + 1 < (wq.drewN q).heap.size := fun _ => lb1
     have x0 := hX.cell z0 id
     have x1 := hX.cell z1 id
     have x2 := hX.cell z2 id
     have x3 := hX.cell z3 id
     have x4 := hX.cell z4 id
     have x5 := hX.cell z5 id
     have lg : g < wq.heap.size := by omega
     have qlg : ∀ q, g < (wq.drewN q).heap.size := fun _ => lg
     clear hX hOq hmq
     go_wp2_with fail
     go_region_law
      ((refine step_app _ rfl _ _ 31 rfl 72 i0 _ 6 56 Tryz.underlying31 hi hz0 hz1 hz2 rfl (by omega) (.slice VA m vc) (m) _ rfl (HownQ.out _ (by repeat (with_reducible (first | exact Mod.refl _ _ | refine Mod.drew ?_ | refine Mod.drewN ?_ _ | refine Mod.alloc ?_ _)))) _ _ 1 y.cells rfl (by first | exact sl_one _ _ _ | exact (sl_one _ _ _).drew | exact (sl_one _ _ _).drewN _ | exact ((sl_one _ _ _).drewN _).drew | exact ((sl_one _ _ _).drew).drewN _) (ses1 y) (by simp only [maxLen]; omega) (by omega) ?_
        intro v9 w9 ho hgr hat
        obtain ⟨VA9, vc9, rfl⟩ := own_form ho
        have hW9 := Lib.hid (HWq.out.app Hob.out (by repeat (with_reducible (first | exact Mod.refl _ _ | refine Mod.drew ?_ | refine Mod.drewN ?_ _ | refine Mod.alloc ?_ _))) y ho hgr (fun x hx => by rcases hat with e | e <;> rw [e] at hx <;> first | exact .inl hx | (injection hx with hx; subst hx; right; first | omega | (simp; done) | (simp; omega))))
        obtain ⟨hm9, ho9⟩ := HWq.out.grow Hob.out (by repeat (with_reducible (first | exact Mod.refl _ _ | refine Mod.drew ?_ | refine Mod.drewN ?_ _ | refine Mod.alloc ?_ _))) hgr
        have o9 : w9.cell? ⟨rb + 1, 1, none⟩ = some _ := blk_cell ho9 rfl
        have fo9 : w9.frozen? ⟨rb + 1, 1, none⟩ = false := blk_free 1 ho9
        clear ho hgr hat hm9 ho9))
     all_goals go_wp2
     all_goals exact ⟨⟨i + 1, m + 1, true, os ++ [y], VA9, vc9, by omega, by go_num, rfl, HE1.out, by omega, hW9.out⟩, by simp [intOf]; omega⟩
  ·
   have hd0 : l.drop i = [] := List.drop_eq_nil_of_le (by omega)
   rw [hd0] at hLi
   have hdi : decide ((i : Int) < (l.length : Int)) = false := by simp; omega
   have hX := Mod.toExt ((Ext.mod HX8.out (Since w.heap.size)).trans hmod (fun k _ e => by have := Hb.out; unfold Since; omega))
   have a1 : wr.cell? ⟨b, 1, none⟩ = some _ := blk_cell (hmod.blk HA8.out (by omega)) rfl
   have k0 : wr.cell? ⟨b + 1, 0, none⟩ = some _ := blk_cell (hmod.blk HB8.out (by omega)) rfl
   have k1 : wr.cell? ⟨b + 1, 1, none⟩ = some _ := blk_cell (hmod.blk HB8.out (by omega)) rfl
   obtain ⟨v0, v1, v2, v3⟩ := cq4 (hmod.blk HR8.out (by omega))
   have o0 : wr.cell? ⟨rb + 1, 0, none⟩ = some (.slice A7 L.length c7) := blk_cell hO rfl
   have o1 : wr.cell? ⟨rb + 1, 1, none⟩ = some (.slice VA m vc) := blk_cell hO rfl
   have fo1 : wr.frozen? ⟨rb + 1, 1, none⟩ = false := blk_free 1 hO
   have lo : rb + 1 < wr.heap.size := World.block_lt_of_cell? _ _ o1
   have lr : rb < wr.heap.size := by omega
   have lb : b < wr.heap.size := by omega
   have lb1 : b + 1 < wr.heap.size := by omega
   have qlo : ∀ q, rb + 1 < (wr.drewN q).heap.size := fun _ => lo
   have qlr : ∀ q, rb < (wr.drewN q).heap.size := fun _ => lr
   have qlb : ∀ q, b < (wr.drewN q).heap.size := fun _ => lb
   have qlb1 : ∀ q, b + 1 < (wr.drewN q).heap.size := fun _ => lb1
   clear hX hO hmod hd0
   have HLi := Lib.hid hLi
   clear hLi
   rcases d with _ | _
   ·
    go_wp2_with (at_builtin; refine wpList_app _ rfl _ _ 31 rfl 72 i0 _ 6 56 Tryz.underlying31 hi hz0 hz1 hz2 rfl (by omega) (.slice VA m vc) m _ rfl (HownE.out _ (by repeat (with_reducible (first | exact Mod.refl _ _ | refine Mod.drew ?_ | refine Mod.drewN ?_ _ | refine Mod.alloc ?_ _)))) _ _ 1 (⟨c.client, c.seq, R⟩ : ASess).cells rfl (by first | exact sl_one _ _ _ | exact (sl_one _ _ _).drew | exact (sl_one _ _ _).drewN _ | exact ((sl_one _ _ _).drewN _).drew | exact ((sl_one _ _ _).drew).drewN _) (ses1 (⟨c.client, c.seq, R⟩ : ASess)) (by simp only [maxLen]; omega) (by omega) ?_)
    intro v1 w1' ho hgr hat
    obtain ⟨VA1, vc1, rfl⟩ := own_form ho
    have hW1 := HWay.out.app Hob.out (by repeat (with_reducible (first | exact Mod.refl _ _ | refine Mod.drew ?_ | refine Mod.drewN ?_ _ | refine Mod.alloc ?_ _))) (⟨c.client, c.seq, R⟩ : ASess) ho hgr (fun x hx => by rcases hat with e | e <;> rw [e] at hx <;> first | exact .inl hx | (injection hx with hx; subst hx; right; first | omega | (simp; done) | (simp; omega)))
    obtain ⟨hm1, ho1⟩ := HWay.out.grow Hob.out (by repeat (with_reducible (first | exact Mod.refl _ _ | refine Mod.drew ?_ | refine Mod.drewN ?_ _ | refine Mod.alloc ?_ _))) hgr
    obtain ⟨W2, hW2⟩ : ∃ W2, W2 = w1'.setCell ⟨rb + 1, 1, none⟩ (.slice VA1 (m + 1) vc1) := ⟨_, rfl⟩
    rw [← hW2] at hW1
    clear ho hgr hat a1 k0 k1 v0 v1 v2 v3 o0 o1 fo1 lo lr lb lb1 qlo qlr qlb qlb1
    have o0 : w1'.cell? ⟨rb + 1, 0, none⟩ = some _ := blk_cell ho1 rfl
    have o1 : w1'.cell? ⟨rb + 1, 1, none⟩ = some _ := blk_cell ho1 rfl
    have fo1 : w1'.frozen? ⟨rb + 1, 1, none⟩ = false := blk_free 1 ho1
    have o0' := o0
    have HW1 := Lib.hid hW1
    have k0' : w1'.cell? ⟨rb, 0, none⟩ = w1'.cell? ⟨rb, 0, none⟩ := rfl
    have HW2e := Lib.hid hW2
    clear k0' o0' hW1 hW2 ho1
    clear hm1
    go_wp2_with fail
    rw [← HW2e.out]
    clear o0 o1 fo1
    have hm1' := HW1.out.2.2.2.2
    have hO1 := HW1.out.2.1
    have hX := Mod.toExt ((Ext.mod HX8.out (Since w.heap.size)).trans hm1' (fun k _ e => by have := Hb.out; unfold Since; omega))
    have a1 : W2.cell? ⟨b, 1, none⟩ = some _ := blk_cell (hm1'.blk HA8.out (by omega)) rfl
    have k0 : W2.cell? ⟨b + 1, 0, none⟩ = some _ := blk_cell (hm1'.blk HB8.out (by omega)) rfl
    have k1 : W2.cell? ⟨b + 1, 1, none⟩ = some _ := blk_cell (hm1'.blk HB8.out (by omega)) rfl
    obtain ⟨v0, v1, v2, v3⟩ := cq4 (hm1'.blk HR8.out (by omega))
    have o0 : W2.cell? ⟨rb + 1, 0, none⟩ = some (.slice A7 L.length c7) := blk_cell hO1 rfl
    have o1 : W2.cell? ⟨rb + 1, 1, none⟩ = some (.slice VA1 (m + 1) vc1) := blk_cell hO1 rfl
    have fo1 : W2.frozen? ⟨rb + 1, 1, none⟩ = false := blk_free 1 hO1
    have lo : rb + 1 < W2.heap.size := World.block_lt_of_cell? _ _ o1
    have lr : rb < W2.heap.size := by omega
    have lb : b < W2.heap.size := by omega
    have lb1 : b + 1 < W2.heap.size := by omega
    have qlo : ∀ q, rb + 1 < (W2.drewN q).heap.size := fun _ => lo
    have qlr : ∀ q, rb < (W2.drewN q).heap.size := fun _ => lr
    have qlb : ∀ q, b < (W2.drewN q).heap.size := fun _ => lb
    have qlb1 : ∀ q, b + 1 < (W2.drewN q).heap.size := fun _ => lb1
    clear hX hO1 hm1'
    have hLR : LR = (os ++ [(⟨c.client, c.seq, R⟩ : ASess)]) := by rw [HLi.out]; rfl
    have hWf := HW1.out
    have hmf := hWf.2.2.2.2
    have hCz := hmf.blk HC8.out (by omega)
    have hDz := hmf.blk HD8.out (by omega)
    have g0 : W2.cell? ⟨b + 1 + 1, 0, none⟩ = some _ := blk_cell hCz rfl
    have g1 : W2.cell? ⟨b + 1 + 1, 1, none⟩ = some _ := blk_cell hCz rfl
    have fg0 : W2.frozen? ⟨b + 1 + 1, 0, none⟩ = false := blk_free 0 hCz
    have fg1 : W2.frozen? ⟨b + 1 + 1, 1, none⟩ = false := blk_free 1 hCz
    obtain ⟨q0, q1, q2, q3⟩ := cq4 hDz
    have fq0 : W2.frozen? ⟨b + 1 + 1 + 1, 0, none⟩ = false := blk_free 0 hDz
    have fq1 : W2.frozen? ⟨b + 1 + 1 + 1, 1, none⟩ = false := blk_free 1 hDz
    have fq2 : W2.frozen? ⟨b + 1 + 1 + 1, 2, none⟩ = false := blk_free 2 hDz
    have fq3 : W2.frozen? ⟨b + 1 + 1 + 1, 3, none⟩ = false := blk_free 3 hDz
    have d1 : ¬ rb = b + 1 + 1 := by omega
    have d2 : ¬ rb = b + 1 + 1 + 1 := by omega
    have d3 : ¬ b + 1 + 1 = rb := by omega
    have d4 : ¬ b + 1 + 1 + 1 = rb := by omega
    have d5 : ¬ b = b + 1 + 1 := by omega
    have d6 : ¬ b + 1 + 1 = b := by omega
    have d7 : ¬ b = b + 1 + 1 + 1 := by omega
    have d8 : ¬ b + 1 + 1 + 1 = b := by omega
    have e1 : ¬ rb + 1 = b + 1 + 1 := by omega
    have e2 : ¬ rb + 1 = b + 1 + 1 + 1 := by omega
    have e3 : ¬ b + 1 + 1 = rb + 1 := by omega
    have e4 : ¬ b + 1 + 1 + 1 = rb + 1 := by omega
    have e5 : ¬ rb = b + 1 := by omega
    have e6 : ¬ b + 1 = rb := by omega
    have hNM : NewM w W2 (.slice A7 L.length c7) (.slice VA1 (m + 1) vc1) ⟨L, LR⟩ := by
     refine ⟨newP_up (newP_mod HK8.out hmf (fun x hx e => by have := (Hpl.out x hx).1; omega)) (by have := Hb.out; have := Hz6.out; omega), ⟨?_, HokL.out, fun x hx => ?_⟩, fun x hx e => ?_⟩
     ·
      have q : LR.length = m + 1 := by rw [hLR]; exact hWf.1
      show World.ownsRow _ 0 72 6 _ LR.length (flS LR)
      rw [q, hLR]
      exact hWf.2.2.1
     ·
      have := hWf.2.2.2.1 x hx
      have := HX8.out.size
      omega
     ·
      have := hWf.2.2.2.1 x e
      have := (Hpl.out x hx).2
      have := Hsz8.out
      omega
    have hXz := Mod.toExt ((Ext.mod HX8.out (Since w.heap.size)).trans hmf (fun k _ e => by have := Hb.out; unfold Since; omega))
    have hoz : ∀ x, (Value.slice VA1 (m + 1) vc1).ownBlock = some x → rb + 2 ≤ x := fun x hx => by
     have := hWf.2.2.2.1 x hx
     have := Hob.out
     omega
    have hfin : Hid (∀ w', Mod (fun k => k = b + 1 + 1 ∨ k = b + 1 + 1 + 1) W2 w' → OnceOut w ⟨L, LR⟩ R (.returned (.tuple #[.agg #[.slice A7 L.length c7, .slice VA1 (m + 1) vc1], .agg #[.int .i64 R.code, .int .i64 R.val.kind, .float .f64 R.val.num, .string R.val.text]])) w') := Lib.hid (fun w' hm => ⟨_, _, rfl, newM_mod hNM hm (fun x hx e => by have := (Hpl.out x hx).1; omega) (fun x hx e => by have := hoz x hx; omega), Mod.toExt ((Ext.mod hXz (Since w.heap.size)).trans hm (fun k _ e => by have := Hb.out; unfold Since; omega))⟩)
    clear hLR hWf hmf hCz hDz hNM hXz hoz
    go_wp2_with fail
    go_region_held3 (fun w' => w'.cell? ⟨rb + 1, 0, none⟩ = some (.slice A7 L.length c7) ∧ w'.cell? ⟨rb + 1, 1, none⟩ = some (.slice VA1 (m + 1) vc1) ∧ w'.cell? ⟨rb, 0, none⟩ = some (.int .i64 R.code) ∧ w'.cell? ⟨rb, 1, none⟩ = some (.int .i64 R.val.kind) ∧ w'.cell? ⟨rb, 2, none⟩ = some (.float .f64 R.val.num) ∧ w'.cell? ⟨rb, 3, none⟩ = some (.string R.val.text)) (go_keep) (fail)
    all_goals
     go_wp2_with fail
     refine bodyPost_ret (v := .tuple #[.agg #[.slice A7 L.length c7, .slice VA1 (m + 1) vc1], .agg #[.int .i64 R.code, .int .i64 R.val.kind, .float .f64 R.val.num, .string R.val.text]]) (by simp [results, Tryz.results31, go_sem, o0, o1, g0, g1, q0, q1, q2, q3]) rfl (hfin.out _ ?_)
     repeat (with_reducible (first | refine Mod.drew ?_ | exact Mod.refl _ _ | refine Mod.setCell ?_ (.inr (.inl rfl)) _ | refine Mod.setCell ?_ (.inr (.inr rfl)) _))
   ·
    have hLR : LR = os := by rw [HLi.out]; simp [setS]
    have hWf := HWay.out
    have hmf := hWf.2.2.2.2
    have hCz := hmf.blk HC8.out (by omega)
    have hDz := hmf.blk HD8.out (by omega)
    have g0 : wr.cell? ⟨b + 1 + 1, 0, none⟩ = some _ := blk_cell hCz rfl
    have g1 : wr.cell? ⟨b + 1 + 1, 1, none⟩ = some _ := blk_cell hCz rfl
    have fg0 : wr.frozen? ⟨b + 1 + 1, 0, none⟩ = false := blk_free 0 hCz
    have fg1 : wr.frozen? ⟨b + 1 + 1, 1, none⟩ = false := blk_free 1 hCz
    obtain ⟨q0, q1, q2, q3⟩ := cq4 hDz
    have fq0 : wr.frozen? ⟨b + 1 + 1 + 1, 0, none⟩ = false := blk_free 0 hDz
    have fq1 : wr.frozen? ⟨b + 1 + 1 + 1, 1, none⟩ = false := blk_free 1 hDz
    have fq2 : wr.frozen? ⟨b + 1 + 1 + 1, 2, none⟩ = false := blk_free 2 hDz
    have fq3 : wr.frozen? ⟨b + 1 + 1 + 1, 3, none⟩ = false := blk_free 3 hDz
    have d1 : ¬ rb = b + 1 + 1 := by omega
    have d2 : ¬ rb = b + 1 + 1 + 1 := by omega
    have d3 : ¬ b + 1 + 1 = rb := by omega
    have d4 : ¬ b + 1 + 1 + 1 = rb := by omega
    have d5 : ¬ b = b + 1 + 1 := by omega
    have d6 : ¬ b + 1 + 1 = b := by omega
    have d7 : ¬ b = b + 1 + 1 + 1 := by omega
    have d8 : ¬ b + 1 + 1 + 1 = b := by omega
    have e1 : ¬ rb + 1 = b + 1 + 1 := by omega
    have e2 : ¬ rb + 1 = b + 1 + 1 + 1 := by omega
    have e3 : ¬ b + 1 + 1 = rb + 1 := by omega
    have e4 : ¬ b + 1 + 1 + 1 = rb + 1 := by omega
    have e5 : ¬ rb = b + 1 := by omega
    have e6 : ¬ b + 1 = rb := by omega
    have hNM : NewM w wr (.slice A7 L.length c7) (.slice VA m vc) ⟨L, LR⟩ := by
     refine ⟨newP_up (newP_mod HK8.out hmf (fun x hx e => by have := (Hpl.out x hx).1; omega)) (by have := Hb.out; have := Hz6.out; omega), ⟨?_, HokL.out, fun x hx => ?_⟩, fun x hx e => ?_⟩
     ·
      have q : LR.length = m := by rw [hLR]; exact hWf.1
      show World.ownsRow _ 0 72 6 _ LR.length (flS LR)
      rw [q, hLR]
      exact hWf.2.2.1
     ·
      have := hWf.2.2.2.1 x hx
      have := HX8.out.size
      omega
     ·
      have := hWf.2.2.2.1 x e
      have := (Hpl.out x hx).2
      have := Hsz8.out
      omega
    have hXz := Mod.toExt ((Ext.mod HX8.out (Since w.heap.size)).trans hmf (fun k _ e => by have := Hb.out; unfold Since; omega))
    have hoz : ∀ x, (Value.slice VA (m) vc).ownBlock = some x → rb + 2 ≤ x := fun x hx => by
     have := hWf.2.2.2.1 x hx
     have := Hob.out
     omega
    have hfin : Hid (∀ w', Mod (fun k => k = b + 1 + 1 ∨ k = b + 1 + 1 + 1) wr w' → OnceOut w ⟨L, LR⟩ R (.returned (.tuple #[.agg #[.slice A7 L.length c7, .slice VA m vc], .agg #[.int .i64 R.code, .int .i64 R.val.kind, .float .f64 R.val.num, .string R.val.text]])) w') := Lib.hid (fun w' hm => ⟨_, _, rfl, newM_mod hNM hm (fun x hx e => by have := (Hpl.out x hx).1; omega) (fun x hx e => by have := hoz x hx; omega), Mod.toExt ((Ext.mod hXz (Since w.heap.size)).trans hm (fun k _ e => by have := Hb.out; unfold Since; omega))⟩)
    clear hLR hWf hmf hCz hDz hNM hXz hoz
    go_wp2_with fail
    go_region_held3 (fun w' => w'.cell? ⟨rb + 1, 0, none⟩ = some (.slice A7 L.length c7) ∧ w'.cell? ⟨rb + 1, 1, none⟩ = some (.slice VA m vc) ∧ w'.cell? ⟨rb, 0, none⟩ = some (.int .i64 R.code) ∧ w'.cell? ⟨rb, 1, none⟩ = some (.int .i64 R.val.kind) ∧ w'.cell? ⟨rb, 2, none⟩ = some (.float .f64 R.val.num) ∧ w'.cell? ⟨rb, 3, none⟩ = some (.string R.val.text)) (go_keep) (fail)
    all_goals
     go_wp2_with fail
     refine bodyPost_ret (v := .tuple #[.agg #[.slice A7 L.length c7, .slice VA m vc], .agg #[.int .i64 R.code, .int .i64 R.val.kind, .float .f64 R.val.num, .string R.val.text]]) (by simp [results, Tryz.results31, go_sem, o0, o1, g0, g1, q0, q1, q2, q3]) rfl (hfin.out _ ?_)
     repeat (with_reducible (first | refine Mod.drew ?_ | exact Mod.refl _ _ | refine Mod.setCell ?_ (.inr (.inl rfl)) _ | refine Mod.setCell ?_ (.inr (.inr rfl)) _))
end Go.Proofs.YtbclnghbgoblcaaGreat
