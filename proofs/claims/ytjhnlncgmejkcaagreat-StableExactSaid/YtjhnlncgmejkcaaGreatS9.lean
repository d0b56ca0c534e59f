/-
  Two lists, element by element. No program is named here. Conditions: none.
-/
import Derived.Test.YtjhnlncgmejkcaaGreatMem
import Derived.Test.YtjhnlncgmejkcaaGreatS5
import Derived.Test.YtjhnlncgmejkcaaGreatS7
import Derived.StillTailTactics
import Derived.Test.YtjhnlncgmejkcaaGreatKeep
import Derived.Test.YtjhnlncgmejkcaaGreatS8
set_option maxRecDepth 100000
set_option maxHeartbeats 2000000
namespace Go.Proofs.YtjhnlncgmejkcaaGreat
def eqL {α : Type} (p : α → α → Bool) : List α → List α → Bool
 | [], [] => true
 | a :: l, b :: m => p a b && eqL p l m
 | _, _ => false
theorem zkN {α : Type} (p : α → α → Bool) (l : List α) : ∀ m : List α, eqL p l m = true ↔ l.length = m.length ∧ ∀ (i : Nat) (x y : α), l[i]? = some x → m[i]? = some y → p x y = true := by
 induction l with
 | nil => intro m; cases m <;> simp [eqL]
 | cons a l ih =>
  intro m
  cases m with
  | nil => simp [eqL]
  | cons b m =>
   simp only [eqL, Bool.and_eq_true, ih, List.length_cons, Nat.add_right_cancel_iff]
   constructor
   ·
    rintro ⟨h, h1, h2⟩
    refine ⟨h1, fun i x y hx hy => ?_⟩
    cases i with
    | zero => simp at hx hy; subst hx; subst hy; exact h
    | succ i => exact h2 i x y (by simpa using hx) (by simpa using hy)
   rintro ⟨h1, h2⟩
   exact ⟨h2 0 a b rfl rfl, h1, fun i x y hx hy => h2 (i + 1) x y (by simpa using hx) (by simpa using hy)⟩
theorem eqL_step {α : Type} {p : α → α → Bool} {l m : List α} {i : Nat} {x y : α} (h : ∀ j < i, ∀ x y, l[j]? = some x → m[j]? = some y → p x y = true) (hx : l[i]? = some x) (hy : m[i]? = some y) (e : p x y = true) :
  ∀ j < i + 1, ∀ x y, l[j]? = some x → m[j]? = some y → p x y = true := by
 intro j hj a b ha hb
 by_cases hji : j = i
 · subst hji; rw [hx] at ha; rw [hy] at hb; cases ha; cases hb; exact e
 exact h j (by omega) a b ha hb
theorem eqL_no {α : Type} {p : α → α → Bool} {l m : List α} {i : Nat} {x y : α} (hx : l[i]? = some x) (hy : m[i]? = some y) (e : p x y = false) : eqL p l m = false := by
 rw [← Bool.not_eq_true, zkN]; rintro ⟨_, h⟩; have := h i x y hx hy; rw [e] at this; cases this
theorem eqL_len {α : Type} {p : α → α → Bool} {l m : List α} (e : l.length ≠ m.length) : eqL p l m = false := by
 rw [← Bool.not_eq_true, zkN]; exact fun h => e h.1
theorem eqL_yes {α : Type} {p : α → α → Bool} {l m : List α} {n : Nat} (h : ∀ j < n, ∀ x y, l[j]? = some x → m[j]? = some y → p x y = true) (e : l.length = n) (e' : m.length = n) : eqL p l m = true := by
 rw [zkN]
 exact ⟨by omega, fun i x y hx hy => h i (by have := (List.getElem?_eq_some_iff.1 hx).1; omega) x y hx hy⟩
open Go.RowKit
def zd3 (l m : List zI) : Bool := eqL xZ l m
theorem zpK (w : World) (T U : Nat → Prop) (va vb : Value) (la lb : List zI) (ha : zbJ w T va la) (hb : zbJ w U vb lb) :
  Calls Tryz.prog 52 #[va, vb] w fun e w' => e = .returned (.bool (zd3 la lb)) ∧ Ext w w' := by
 have hla := ha.1.le
 have hlb := hb.1.le
 unfold maxLen at hla hlb
 obtain ⟨n, hn⟩ : ∃ n, la.length = n := ⟨_, rfl⟩
 obtain ⟨m, hm⟩ : ∃ m, lb.length = m := ⟨_, rfl⟩
 obtain ⟨A, c, rfl⟩ := ha.1.form
 obtain ⟨A', c', rfl⟩ := hb.1.form
 rw [hn] at ha hla ⊢
 rw [hm] at hb hlb ⊢
 by_cases hnm : n = m
 case neg =>
  have hnb : ((n : Int) != (m : Int)) = true := by simp; omega
  have Hf : Hid (zd3 la lb = false) := hJ (eqL_len (by omega))
  clear hn hm
  go_enter Tryz.func52, Tryz.ntmps52
  go_wp2
  go_ret
  exact ⟨zP Hf.out.symm, Mod.refl _ w⟩
 subst hnm
 have hnb : ((n : Int) != (n : Int)) = false := by simp
 have Hn := hJ hn
 have Hm := hJ hm
 clear hn hm
 go_enter Tryz.func52, Tryz.ntmps52
 go_wp2
 go_loopw [5] (fun iv wr => ∃ i : Nat, i ≤ n ∧ iv = .int .i64 i ∧ Ext w wr ∧ ∀ j < i, ∀ x y, la[j]? = some x → lb[j]? = some y → xZ x y = true) (fun iv _ => n - (intOf iv).toNat)
 case atStart => exact ⟨0, by omega, rfl, Mod.refl _ w, fun j hj => by omega⟩
 obtain ⟨i, hin, rfl, hE, hs⟩ := hrel
 have Hs := hJ hs
 have ha2 := ha.mod hE (fun _ _ => id)
 have hb2 := hb.mod hE (fun _ _ => id)
 clear hs
 by_cases hi : i < n
 ·
  obtain ⟨g, off, x, rfl, hgT, hx, hxok, hcells⟩ := ha2.at hi
  obtain ⟨g', off', y, rfl, hgT', hy, hyok, hcells'⟩ := hb2.at hi
  have hi0 : (0 : Int) ≤ (i : Int) := by omega
  have hi1 : (i : Int) < (n : Int) := by omega
  have x0 := hcells 0 _ rfl
  have x1 := hcells 1 _ rfl
  have x2 := hcells 2 _ rfl
  have x3 := hcells 3 _ rfl
  have x4 := hcells 4 _ rfl
  have x5 := hcells 5 _ rfl
  have x6 := hcells 6 _ rfl
  have x7 := hcells 7 _ rfl
  have x8 := hcells 8 _ rfl
  have x9 := hcells 9 _ rfl
  have x10 := hcells 10 _ rfl
  have x11 := hcells 11 _ rfl
  have x12 := hcells 12 _ rfl
  have x13 := hcells 13 _ rfl
  have x14 := hcells 14 _ rfl
  have x15 := hcells 15 _ rfl
  have y0 := hcells' 0 _ rfl
  have y1 := hcells' 1 _ rfl
  have y2 := hcells' 2 _ rfl
  have y3 := hcells' 3 _ rfl
  have y4 := hcells' 4 _ rfl
  have y5 := hcells' 5 _ rfl
  have y6 := hcells' 6 _ rfl
  have y7 := hcells' 7 _ rfl
  have y8 := hcells' 8 _ rfl
  have y9 := hcells' 9 _ rfl
  have y10 := hcells' 10 _ rfl
  have y11 := hcells' 11 _ rfl
  have y12 := hcells' 12 _ rfl
  have y13 := hcells' 13 _ rfl
  have y14 := hcells' 14 _ rfl
  have y15 := hcells' 15 _ rfl
  rw [Nat.add_zero] at x0 y0
  have Hx := hJ hx
  have Hy := hJ hy
  clear hcells hcells' hx hy ha2 hb2 hxok hyok
  go_wp2_with fail
  go_still_tail 8, (by kernel_rfl)
  change wpList _ _ _ _ _ wr.drew
  go_wp2_with fail
  refine (zkF x y _).mono ?_
  rintro e w1 ⟨rfl, hE1⟩
  have hE1 := Mod.ext hE.drew hE1
  have HE1 := hJ hE1
  clear hE1 x0 x1 x2 x3 x4 x5 x6 x7 x8 x9 x10 x11 x12 x13 x14 x15 y0 y1 y2 y3 y4 y5 y6 y7 y8 y9 y10 y11 y12 y13 y14 y15
  rcases hq : xZ x y with _ | _
  ·
   have Hf : Hid (zd3 la lb = false) := hJ (eqL_no Hx.out Hy.out hq)
   go_wp2
   go_ret
   exact ⟨zP Hf.out.symm, HE1.out⟩
  have Hq := hJ hq
  clear hq
  go_wp2
  exact ⟨⟨i + 1, by omega, by go_num, HE1.out, eqL_step Hs.out Hx.out Hy.out Hq.out⟩, by simp [intOf]; omega⟩
 have Hf : Hid (zd3 la lb = true) := hJ (eqL_yes (n := n) (fun j hj => Hs.out j (by omega)) Hn.out Hm.out)
 go_wp2
 go_ret
 exact ⟨zP Hf.out.symm, hE⟩
def za7 (c : zeG) : Bool := decide (2000 < c.key.size) || decide (2000 < c.old.text.size) || decide (2000 < c.val.text.size)
def jC (l : List zI) : Bool := decide (200 < l.length) || l.any fun x => za7 x.call.cmd
theorem zd4 {α : Type} {p : α → Bool} {l : List α} {i : Nat} {x : α} (h : (l.take i).any p = false) (hx : l[i]? = some x) (e : p x = false) : (l.take (i + 1)).any p = false := by
 obtain ⟨hi, rfl⟩ := List.getElem?_eq_some_iff.1 hx
 rw [List.take_succ_eq_append_getElem hi, List.any_append, h]; simp [e]
theorem zh9 {α : Type} {p : α → Bool} {l : List α} {i : Nat} {x : α} (hx : l[i]? = some x) (e : p x = true) : l.any p = true :=
 List.any_eq_true.2 ⟨x, List.mem_of_getElem? hx, e⟩
theorem hv_cmd (c : zeG) (w : World) : Calls Tryz.prog 64 #[.agg #[.int .i64 c.kind, .string c.key, .int .i64 c.old.kind, .float .f64 c.old.num, .string c.old.text, .int .i64 c.val.kind, .float .f64 c.val.num, .string c.val.text]] w fun e w' => e = .returned (.bool (za7 c)) ∧ Ext w w' := by
 have e1 : decide ((2000 : Int) < (c.key.size : Int)) = decide (2000 < c.key.size) := by rw [decide_eq_decide]; omega
 have e2 : decide ((2000 : Int) < (c.old.text.size : Int)) = decide (2000 < c.old.text.size) := by rw [decide_eq_decide]; omega
 have e3 : decide ((2000 : Int) < (c.val.text.size : Int)) = decide (2000 < c.val.text.size) := by rw [decide_eq_decide]; omega
 have hE : Ext w (w.alloc (.cells #[.int .i64 c.kind, .string c.key, .int .i64 c.old.kind, .float .f64 c.old.num, .string c.old.text, .int .i64 c.val.kind, .float .f64 c.val.num, .string c.val.text] 52)) := (Mod.refl _ w).alloc _
 rcases h1 : decide (2000 < c.key.size) with _ | _
 ·
  rcases h2 : decide (2000 < c.old.text.size) with _ | _
  ·
   rw [h1] at e1; rw [h2] at e2
   go_enter Tryz.func64, Tryz.ntmps64
   go_wp2
   go_ret
   exact ⟨zP (by simp only [za7, h1, h2, Bool.false_or]), hE⟩
  rw [h1] at e1; rw [h2] at e2
  go_enter Tryz.func64, Tryz.ntmps64
  go_wp2
  go_ret
  exact ⟨zP (by simp only [za7, h2, Bool.or_true, Bool.true_or]), hE⟩
 rw [h1] at e1
 go_enter Tryz.func64, Tryz.ntmps64
 go_wp2
 go_ret
 exact ⟨zP (by simp only [za7, h1, Bool.true_or]), hE⟩
theorem zhE (w : World) (T : Nat → Prop) (v : Value) (l : List zI) (h : zbJ w T v l) :
  Calls Tryz.prog 33 #[v] w fun e w' => e = .returned (.bool (jC l)) ∧ Ext w w' := by
 have hl := h.1.le
 unfold maxLen at hl
 obtain ⟨n, hn⟩ : ∃ n, l.length = n := ⟨_, rfl⟩
 obtain ⟨A, c, rfl⟩ := h.1.form
 rw [hn] at h hl ⊢
 have Hn := hJ hn
 by_cases h200 : 200 < n
 ·
  have d : decide ((200 : Int) < (n : Int)) = true := by simp; omega
  have Hf : Hid (jC l = true) := hJ (by simp [jC, hn, h200])
  clear hn
  go_enter Tryz.func33, Tryz.ntmps33
  go_wp2
  go_ret
  exact ⟨zP Hf.out.symm, Mod.refl _ w⟩
 have d : decide ((200 : Int) < (n : Int)) = false := by simp; omega
 have Hd : Hid (decide (200 < l.length) = false) := hJ (by rw [hn]; simpa using h200)
 clear hn
 go_enter Tryz.func33, Tryz.ntmps33
 go_wp2
 go_loopw [3] (fun iv wr => ∃ i : Nat, i ≤ n ∧ iv = .int .i64 i ∧ Ext w wr ∧ (l.take i).any (fun x => za7 x.call.cmd) = false) (fun iv _ => n - (intOf iv).toNat)
 case atStart => exact ⟨0, by omega, rfl, Mod.refl _ w, by simp⟩
 obtain ⟨i, hin, rfl, hE, hs⟩ := hrel
 have Hs := hJ hs
 have h2 := h.mod hE (fun _ _ => id)
 clear hs
 by_cases hi : i < n
 ·
  obtain ⟨g, off, x, rfl, hgT, hx, hxok, hcells⟩ := h2.at hi
  have hi0 : (0 : Int) ≤ (i : Int) := by omega
  have hi1 : (i : Int) < (n : Int) := by omega
  have x4 := hcells 4 _ rfl
  have x5 := hcells 5 _ rfl
  have x6 := hcells 6 _ rfl
  have x7 := hcells 7 _ rfl
  have x8 := hcells 8 _ rfl
  have x9 := hcells 9 _ rfl
  have x10 := hcells 10 _ rfl
  have x11 := hcells 11 _ rfl
  have Hx := hJ hx
  clear hcells hx h2 hxok
  go_wp2_with fail
  refine (hv_cmd x.call.cmd _).mono ?_
  rintro e w1 ⟨rfl, hE1⟩
  have hE1 := Mod.ext hE hE1
  have HE1 := hJ hE1
  clear hE1 x4 x5 x6 x7 x8 x9 x10 x11
  rcases hq : za7 x.call.cmd with _ | _
  ·
   have Hq := hJ hq
   clear hq
   go_wp2
   exact ⟨⟨i + 1, by omega, by go_num, HE1.out, zd4 Hs.out Hx.out Hq.out⟩, by simp [intOf]; omega⟩
  have Hf : Hid (jC l = true) := hJ (by unfold jC; rw [zh9 Hx.out hq, Bool.or_true])
  go_wp2
  go_ret
  exact ⟨zP Hf.out.symm, HE1.out⟩
 have Hf : Hid (jC l = false) := hJ (by
  have := Hs.out
  rw [List.take_of_length_le (by rw [Hn.out]; omega)] at this
  unfold jC; rw [this, Hd.out]; rfl)
 go_wp2
 go_ret
 exact ⟨zP Hf.out.symm, hE⟩
set_option linter.unusedSimpArgs false
def za1 (a b : zC) : Bool := a.term == b.term && a.vote == b.vote && a.base == b.base && a.baseTerm == b.baseTerm && xI a.conf b.conf && a.snap == b.snap && zd3 a.log b.log
def jL (h : zC) : Bool := jC h.log || decide (32768 < h.snap.length)
theorem zl5 (w : World) (T U : Nat → Prop) (a b : zC) (sa la sb lb : Value) (ha : zY w T sa la a) (hb : zY w U sb lb b) :
  Calls Tryz.prog 20 #[.agg #[.int .i64 a.term, .int .i64 a.vote, .int .i64 a.base, .int .i64 a.baseTerm, .int .i64 a.conf.full, .int .i64 a.conf.wit, .int .i64 a.conf.learn, .int .i64 a.conf.learnWit, sa, la], .agg #[.int .i64 b.term, .int .i64 b.vote, .int .i64 b.base, .int .i64 b.baseTerm, .int .i64 b.conf.full, .int .i64 b.conf.wit, .int .i64 b.conf.learn, .int .i64 b.conf.learnWit, sb, lb]] w fun e w' => e = .returned (.bool (za1 a b)) ∧ Ext w w' := by
 have hE : Ext w ((w.alloc (.cells (a.cells sa la).toArray 34)).alloc (.cells (b.cells sb lb).toArray 34)) := ((Mod.refl _ w).alloc _).alloc _
 rcases h0 : (a.term == b.term) with _ | _
 ·
  go_enter Tryz.func20, Tryz.ntmps20
  go_wp2
  go_ret
  exact ⟨zP (by simp [za1, h0]), hE⟩
 rcases h1 : (a.vote == b.vote) with _ | _
 ·
  go_enter Tryz.func20, Tryz.ntmps20
  go_wp2
  go_ret
  exact ⟨zP (by simp [za1, h1]), hE⟩
 rcases h2 : (a.base == b.base) with _ | _
 ·
  go_enter Tryz.func20, Tryz.ntmps20
  go_wp2
  go_ret
  exact ⟨zP (by simp [za1, h2]), hE⟩
 rcases h3 : (a.baseTerm == b.baseTerm) with _ | _
 ·
  go_enter Tryz.func20, Tryz.ntmps20
  go_wp2
  go_ret
  exact ⟨zP (by simp [za1, h3]), hE⟩
 have He : Hid (za1 a b = (xI a.conf b.conf && a.snap == b.snap && zd3 a.log b.log)) := hJ (by simp only [za1, h0, h1, h2, h3, Bool.true_and])
 obtain ⟨q, hq⟩ : ∃ q, w.heap.size = q := ⟨_, rfl⟩
 obtain ⟨W, hW⟩ : ∃ W, W = (w.alloc (.cells (a.cells sa la).toArray 34)).alloc (.cells (b.cells sb lb).toArray 34) := ⟨_, rfl⟩
 rw [← hW] at hE
 have hA : W.heap[q]? = some (.cells (a.cells sa la).toArray 34 (0, 0)) := by rw [hW, ← hq, Below.heap_alloc _ _ _ (by simp)]; exact heap_alloc_new w _
 have hB : W.heap[q + 1]? = some (.cells (b.cells sb lb).toArray 34 (0, 0)) := by
  rw [hW, ← hq]
  have := heap_alloc_new (w.alloc (.cells (a.cells sa la).toArray 34)) (.cells (b.cells sb lb).toArray 34)
  simpa using this
 have HW := hJ hW
 have Hq := hJ hq
 have HX := hJ hE
 have HA := hJ hA
 have HB := hJ hB
 have Ha := hJ (ha.mod hE (fun _ _ => id))
 have Hb := hJ (hb.mod hE (fun _ _ => id))
 clear hW hq hE hA hB ha hb
 go_enter Tryz.func20, Tryz.ntmps20
 go_wp2_with fail
 rw [← HW.out, Hq.out]
 refine (zi1 a.conf b.conf W).mono ?_
 rintro e w1 ⟨rfl, hE1⟩
 replace HX := hJ (HX.out.ext hE1)
 replace HA := hJ (hE1.blk HA.out id)
 replace HB := hJ (hE1.blk HB.out id)
 replace Ha := hJ (Ha.out.mod hE1 (fun _ _ => id))
 replace Hb := hJ (Hb.out.mod hE1 (fun _ _ => id))
 clear hE1
 have a8 : w1.cell? ⟨q, 8, none⟩ = some _ := zB HA.out rfl
 have b8 : w1.cell? ⟨q + 1, 8, none⟩ = some _ := zB HB.out rfl
 rcases g0 : xI a.conf b.conf with _ | _
 ·
  have Hr : Hid (za1 a b = false) := hJ (by rw [He.out, g0]; rfl)
  clear g0
  go_wp2
  go_ret
  exact ⟨zP Hr.out.symm, HX.out⟩
 have G0 := hJ g0
 clear g0
 go_wp2_with fail
 refine (zkE w1 T U sa sb a.snap b.snap Ha.out.1 Hb.out.1).mono ?_
 rintro e w2 ⟨rfl, hE1⟩
 replace HX := hJ (HX.out.ext hE1)
 replace HA := hJ (hE1.blk HA.out id)
 replace HB := hJ (hE1.blk HB.out id)
 replace Ha := hJ (Ha.out.mod hE1 (fun _ _ => id))
 replace Hb := hJ (Hb.out.mod hE1 (fun _ _ => id))
 clear hE1 a8 b8
 have a9 : w2.cell? ⟨q, 9, none⟩ = some _ := zB HA.out rfl
 have b9 : w2.cell? ⟨q + 1, 9, none⟩ = some _ := zB HB.out rfl
 rcases g1 : (a.snap == b.snap) with _ | _
 ·
  have Hr : Hid (za1 a b = false) := hJ (by rw [He.out, g1, Bool.and_false]; rfl)
  clear g1
  go_wp2
  go_ret
  exact ⟨zP Hr.out.symm, HX.out⟩
 have G1 := hJ g1
 clear g1
 go_wp2_with fail
 refine (zpK w2 T U la lb a.log b.log Ha.out.2 Hb.out.2).mono ?_
 rintro e w3 ⟨rfl, hE1⟩
 replace HX := hJ (HX.out.ext hE1)
 have Hr : Hid (za1 a b = zd3 a.log b.log) := hJ (by rw [He.out, G0.out, G1.out]; rfl)
 clear hE1
 go_wp2
 go_ret
 exact ⟨zP Hr.out.symm, HX.out⟩
theorem zpL (w : World) (T : Nat → Prop) (h : zC) (sv lv : Value) (hh : zY w T sv lv h) :
  Calls Tryz.prog 23 #[.agg #[.int .i64 h.term, .int .i64 h.vote, .int .i64 h.base, .int .i64 h.baseTerm, .int .i64 h.conf.full, .int .i64 h.conf.wit, .int .i64 h.conf.learn, .int .i64 h.conf.learnWit, sv, lv]] w fun e w' => e = .returned (.bool (jL h)) ∧ Ext w w' := by
 obtain ⟨q, hq⟩ : ∃ q, w.heap.size = q := ⟨_, rfl⟩
 obtain ⟨W, hW⟩ : ∃ W, W = w.alloc (.cells (h.cells sv lv).toArray 34) := ⟨_, rfl⟩
 have hE : Ext w W := by rw [hW]; exact (Mod.refl _ w).alloc _
 have hA : W.heap[q]? = some (.cells (h.cells sv lv).toArray 34 (0, 0)) := by rw [hW, ← hq]; exact heap_alloc_new w _
 obtain ⟨As, cs, hsv⟩ := hh.1.form
 have hle := hh.1.le
 obtain ⟨m, hm⟩ : ∃ m, h.snap.length = m := ⟨_, rfl⟩
 rw [hm] at hsv hle
 unfold maxLen at hle
 have HW := hJ hW
 have Hq := hJ hq
 have HX := hJ hE
 have HA := hJ hA
 have Hh := hJ (hh.mod hE (fun _ _ => id))
 have Hsv := hJ hsv
 have Hm := hJ hm
 clear hW hq hE hA hh hsv hm
 go_enter Tryz.func23, Tryz.ntmps23
 go_wp2_with fail
 rw [← HW.out, Hq.out]
 refine (zhE W T lv h.log Hh.out.2).mono ?_
 rintro e w1 ⟨rfl, hE1⟩
 replace HX := hJ (HX.out.ext hE1)
 replace HA := hJ (hE1.blk HA.out id)
 clear hE1
 have a8 : w1.cell? ⟨q, 8, none⟩ = some _ := zB HA.out rfl
 rw [Hsv.out] at a8
 rcases g0 : jC h.log with _ | _
 ·
  by_cases hl : 32768 < m
  ·
   have hd : decide ((32768 : Int) < (m : Int)) = true := by simp; omega
   have Hr : Hid (jL h = true) := hJ (by rw [jL, g0, Hm.out]; simp [hl])
   clear g0
   go_wp2
   go_ret
   exact ⟨zP Hr.out.symm, HX.out⟩
  have hd : decide ((32768 : Int) < (m : Int)) = false := by simp; omega
  have Hr : Hid (jL h = false) := hJ (by rw [jL, g0, Hm.out]; simp; omega)
  clear g0
  go_wp2
  go_ret
  exact ⟨zP Hr.out.symm, HX.out⟩
 have Hr : Hid (jL h = true) := hJ (by rw [jL, g0]; rfl)
 clear g0
 go_wp2
 go_ret
 exact ⟨zP Hr.out.symm, HX.out⟩
theorem zhF {l : List zI} (h : jC l = false) : l.length ≤ 200 ∧ ∀ x ∈ l, za7 x.call.cmd = false := by
 simp only [jC, Bool.or_eq_false_iff, decide_eq_false_iff_not] at h
 refine ⟨by omega, fun x hx => ?_⟩
 have := List.any_eq_false.1 h.2 x hx
 simpa using this
theorem zhG {h : zC} (hh : jL h = false) : h.log.length ≤ 200 ∧ (∀ x ∈ h.log, za7 x.call.cmd = false) ∧ h.snap.length ≤ 32768 := by
 simp only [jL, Bool.or_eq_false_iff, decide_eq_false_iff_not] at hh
 have := zhF hh.1
 exact ⟨this.1, this.2, by omega⟩
end Go.Proofs.YtjhnlncgmejkcaaGreat
