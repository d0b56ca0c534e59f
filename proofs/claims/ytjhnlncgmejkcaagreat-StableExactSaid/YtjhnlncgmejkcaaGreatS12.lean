/-
  Contracts of logs.Check, Last and of the page's Hard, Last (printed by stbf.py). Conditions: as each theorem names them.
-/
import Derived.Test.YtjhnlncgmejkcaaGreatS11
import Derived.StillTailTactics
set_option maxRecDepth 100000
set_option maxHeartbeats 4000000
namespace Go.Proofs.YtjhnlncgmejkcaaGreat
set_option linter.unusedSimpArgs false
open Go.RowKit
theorem yB {h : zC} (p : ¬ Right h) : yG h = false := by
 rcases hc : yG h with _ | _
 · rfl
 exact absurd ((yI h).1 hc) p
theorem zY.forms {w : World} {T : Nat → Prop} {sv lv : Value} {h : zC} (hv : zY w T sv lv h) : ∃ As cs Al cl, sv = .slice As h.snap.length cs ∧ lv = .slice Al h.log.length cl := by
 obtain ⟨As, cs, h1⟩ := hv.1.form
 obtain ⟨Al, cl, h2⟩ := hv.2.1.form
 exact ⟨As, cs, Al, cl, h1, h2⟩
theorem za2 (w : World) (T : Nat → Prop) (h : zC) (sv lv : Value) (hv : zY w T sv lv h) (hl : h.log.length ≤ 1000000) :
  Calls Tryz.prog 35 #[.agg #[.int .i64 h.term, .int .i64 h.vote, .int .i64 h.base, .int .i64 h.baseTerm, .int .i64 h.conf.full, .int .i64 h.conf.wit, .int .i64 h.conf.learn, .int .i64 h.conf.learnWit, sv, lv]] w fun e w' => e = .returned (.int .i64 (if yG h then 0 else 6)) ∧ Ext w w' := by
 obtain ⟨As, cs, Al, cl, rfl, rfl⟩ := hv.forms
 obtain ⟨n, hn⟩ : ∃ n, h.snap.length = n := ⟨_, rfl⟩
 obtain ⟨m, hm⟩ : ∃ m, h.log.length = m := ⟨_, rfl⟩
 have hnl := hv.1.le
 unfold maxLen at hnl
 rw [hn] at hnl
 have Hv := hJ hv
 clear hv
 rw [hn, hm] at Hv ⊢
 rw [hm] at hl
 have Hn := hJ hn
 have Hm := hJ hm
 clear hn hm
 obtain ⟨wb, hwb⟩ : ∃ wb, w.alloc (.cells (h.cells (.slice As n cs) (.slice Al m cl)).toArray 34) = wb := ⟨_, rfl⟩
 have hE : Ext w wb := by rw [← hwb]; exact (Mod.refl _ w).alloc _
 have hcs : ∀ w1, Ext wb w1 → ∀ j u, (h.cells (.slice As n cs) (.slice Al m cl))[j]? = some u → w1.cell? ⟨w.heap.size, j, none⟩ = some u := by
  intro w1 hm j u hu
  refine hm.cell ?_ id
  rw [← hwb, cell_of_row _ _ _ _ _ _ (heap_alloc_new w _)]
  simpa using hu
 have HE0 : Hid (Ext w (w.alloc (.cells (h.cells (.slice As n cs) (.slice Al m cl)).toArray 34))) := hJ ((Mod.refl _ w).alloc _)
 have Hwb := hJ hwb
 have Hcs := hJ hcs
 have HE := hJ hE
 clear hwb hcs hE
 obtain ⟨q, hq⟩ : ∃ q : Int, (if yG h = true then 0 else 6) = q := ⟨_, rfl⟩
 rw [hq]
 have HQ := hJ hq
 clear hq
 by_cases h1 : h.term < 0
 ·
  have Hf : Hid (yG h = false) := hJ (yB (fun r => by have := r.t0; omega))
  go_enter Tryz.func35, Tryz.ntmps35
  go_wp2
  go_ret
  exact ⟨by rw [← HQ.out, Hf.out]; rfl, HE0.out⟩
 by_cases h2 : 1099511627776 < h.term
 ·
  have Hf : Hid (yG h = false) := hJ (yB (fun r => by have := r.t1; omega))
  go_enter Tryz.func35, Tryz.ntmps35
  go_wp2
  go_ret
  exact ⟨by rw [← HQ.out, Hf.out]; rfl, HE0.out⟩
 by_cases h3 : h.vote < -1
 ·
  have Hf : Hid (yG h = false) := hJ (yB (fun r => by have := r.v0; omega))
  go_enter Tryz.func35, Tryz.ntmps35
  go_wp2
  go_ret
  exact ⟨by rw [← HQ.out, Hf.out]; rfl, HE0.out⟩
 by_cases h4 : 7 ≤ h.vote
 ·
  have Hf : Hid (yG h = false) := hJ (yB (fun r => by have := r.v1; omega))
  go_enter Tryz.func35, Tryz.ntmps35
  go_wp2
  go_ret
  exact ⟨by rw [← HQ.out, Hf.out]; rfl, HE0.out⟩
 by_cases h5 : h.base < 0
 ·
  have Hf : Hid (yG h = false) := hJ (yB (fun r => by have := r.b0; omega))
  go_enter Tryz.func35, Tryz.ntmps35
  go_wp2
  go_ret
  exact ⟨by rw [← HQ.out, Hf.out]; rfl, HE0.out⟩
 by_cases h6 : 1099511627776 < h.base
 ·
  have Hf : Hid (yG h = false) := hJ (yB (fun r => by have := r.b1; omega))
  go_enter Tryz.func35, Tryz.ntmps35
  go_wp2
  go_ret
  exact ⟨by rw [← HQ.out, Hf.out]; rfl, HE0.out⟩
 by_cases h7 : h.baseTerm < 0
 ·
  have Hf : Hid (yG h = false) := hJ (yB (fun r => by have := r.bt0; omega))
  go_enter Tryz.func35, Tryz.ntmps35
  go_wp2
  go_ret
  exact ⟨by rw [← HQ.out, Hf.out]; rfl, HE0.out⟩
 by_cases h8 : h.term < h.baseTerm
 ·
  have Hf : Hid (yG h = false) := hJ (yB (fun r => by have := r.bt1; omega))
  go_enter Tryz.func35, Tryz.ntmps35
  go_wp2
  go_ret
  exact ⟨by rw [← HQ.out, Hf.out]; rfl, HE0.out⟩
 rcases e1 : (h.baseTerm == 0) with _ | _ <;> rcases e2 : (h.base == 0) with _ | _
 ·
  go_enter Tryz.func35, Tryz.ntmps35
  go_wp2_with fail
  rw [Hwb.out]
  refine (zkG h.conf _).mono ?_
  rintro e w1 ⟨rfl, hE1⟩
  have y0 := (Hcs.out w1 hE1) 0 _ rfl
  have y1 := (Hcs.out w1 hE1) 1 _ rfl
  have y2 := (Hcs.out w1 hE1) 2 _ rfl
  have y3 := (Hcs.out w1 hE1) 3 _ rfl
  have y4 := (Hcs.out w1 hE1) 4 _ rfl
  have y5 := (Hcs.out w1 hE1) 5 _ rfl
  have y6 := (Hcs.out w1 hE1) 6 _ rfl
  have y7 := (Hcs.out w1 hE1) 7 _ rfl
  have y8 := (Hcs.out w1 hE1) 8 _ rfl
  have y9 := (Hcs.out w1 hE1) 9 _ rfl
  have Hv1 := hJ (Hv.out.mod (HE.out.ext hE1) (fun _ _ => id))
  have HE1 := hJ (HE.out.ext hE1)
  clear hE1
  rcases hc : jK h.conf with _ | _
  ·
   rw [if_neg (by simp)]
   have Hf : Hid (yG h = false) := hJ (yB (fun r => by have := r.c; rw [hc] at this; cases this))
   go_wp2
   go_ret
   exact ⟨by rw [← HQ.out, Hf.out]; rfl, HE1.out⟩
  rw [if_pos rfl]
  by_cases h9 : 16384 < n
  ·
   have d9 : decide ((16384 : Int) < (n : Int)) = true := decide_eq_true (by omega)
   have Hf : Hid (yG h = false) := hJ (yB (fun r => by have := r.s; rw [Hn.out] at this; omega))
   clear h9
   go_wp2
   go_ret
   exact ⟨by rw [← HQ.out, Hf.out]; rfl, HE1.out⟩
  have d9 : decide ((16384 : Int) < (n : Int)) = false := decide_eq_false (by omega)
  go_wp2_with fail
  refine (zjE w1 T _ h.log h.baseTerm h.term Hv1.out.2 (by rw [Hm.out]; omega)).mono ?_
  rintro e w2 ⟨rfl, hE2⟩
  have HE2 := hJ (HE1.out.ext hE2)
  clear hE2
  rcases hr : zdK h.term (max h.baseTerm 1) h.log with _ | _
  ·
   have Hf : Hid (yG h = false) := hJ (yB (fun r => by have := r.r; rw [hr] at this; cases this))
   go_wp2
   go_ret
   exact ⟨by rw [← HQ.out, Hf.out]; rfl, HE2.out⟩
  have Hf : Hid (yG h = true) := hJ ((yI h).2 ⟨by omega, by omega, by omega, by omega, by omega, by omega, by omega, by omega, by rw [e1, e2], hc, by rw [Hn.out]; omega, .inl (by simpa using e2), hr⟩)
  go_wp2
  go_ret
  exact ⟨by rw [← HQ.out, Hf.out]; rfl, HE2.out⟩
 ·
  have Hf : Hid (yG h = false) := hJ (yB (fun r => by have := r.bb; rw [e1, e2] at this; cases this))
  go_enter Tryz.func35, Tryz.ntmps35
  go_wp2
  go_ret
  exact ⟨by rw [← HQ.out, Hf.out]; rfl, HE0.out⟩
 ·
  have Hf : Hid (yG h = false) := hJ (yB (fun r => by have := r.bb; rw [e1, e2] at this; cases this))
  go_enter Tryz.func35, Tryz.ntmps35
  go_wp2
  go_ret
  exact ⟨by rw [← HQ.out, Hf.out]; rfl, HE0.out⟩
 go_enter Tryz.func35, Tryz.ntmps35
 go_wp2_with fail
 rw [Hwb.out]
 refine (zkG h.conf _).mono ?_
 rintro e w1 ⟨rfl, hE1⟩
 have y0 := (Hcs.out w1 hE1) 0 _ rfl
 have y1 := (Hcs.out w1 hE1) 1 _ rfl
 have y2 := (Hcs.out w1 hE1) 2 _ rfl
 have y3 := (Hcs.out w1 hE1) 3 _ rfl
 have y4 := (Hcs.out w1 hE1) 4 _ rfl
 have y5 := (Hcs.out w1 hE1) 5 _ rfl
 have y6 := (Hcs.out w1 hE1) 6 _ rfl
 have y7 := (Hcs.out w1 hE1) 7 _ rfl
 have y8 := (Hcs.out w1 hE1) 8 _ rfl
 have y9 := (Hcs.out w1 hE1) 9 _ rfl
 have Hv1 := hJ (Hv.out.mod (HE.out.ext hE1) (fun _ _ => id))
 have HE1 := hJ (HE.out.ext hE1)
 clear hE1
 rcases hc : jK h.conf with _ | _
 ·
  rw [if_neg (by simp)]
  have Hf : Hid (yG h = false) := hJ (yB (fun r => by have := r.c; rw [hc] at this; cases this))
  go_wp2
  go_ret
  exact ⟨by rw [← HQ.out, Hf.out]; rfl, HE1.out⟩
 rw [if_pos rfl]
 by_cases h9 : 16384 < n
 ·
  have d9 : decide ((16384 : Int) < (n : Int)) = true := decide_eq_true (by omega)
  have Hf : Hid (yG h = false) := hJ (yB (fun r => by have := r.s; rw [Hn.out] at this; omega))
  clear h9
  go_wp2
  go_ret
  exact ⟨by rw [← HQ.out, Hf.out]; rfl, HE1.out⟩
 have d9 : decide ((16384 : Int) < (n : Int)) = false := decide_eq_false (by omega)
 by_cases h10 : 0 < n
 ·
  have d10 : decide ((0 : Int) < (n : Int)) = true := decide_eq_true (by omega)
  have d11 : decide (0 < n) = true := decide_eq_true h10
  have Hf : Hid (yG h = false) := hJ (yB (fun r => by have := r.bs; rw [Hn.out] at this; rcases this with h | h; exact h (by simpa using e2); omega))
  clear h10
  go_wp2
  go_ret
  exact ⟨by rw [← HQ.out, Hf.out]; rfl, HE1.out⟩
 have d10 : decide ((0 : Int) < (n : Int)) = false := decide_eq_false (by omega)
 have d11 : decide (0 < n) = false := decide_eq_false (by omega)
 go_wp2_with fail
 refine (zjE w1 T _ h.log h.baseTerm h.term Hv1.out.2 (by rw [Hm.out]; omega)).mono ?_
 rintro e w2 ⟨rfl, hE2⟩
 have HE2 := hJ (HE1.out.ext hE2)
 clear hE2
 rcases hr : zdK h.term (max h.baseTerm 1) h.log with _ | _
 ·
  have Hf : Hid (yG h = false) := hJ (yB (fun r => by have := r.r; rw [hr] at this; cases this))
  go_wp2
  go_ret
  exact ⟨by rw [← HQ.out, Hf.out]; rfl, HE2.out⟩
 have Hf : Hid (yG h = true) := hJ ((yI h).2 ⟨by omega, by omega, by omega, by omega, by omega, by omega, by omega, by omega, by rw [e1, e2], hc, by rw [Hn.out]; omega, .inr (by rw [Hn.out]; omega), hr⟩)
 go_wp2
 go_ret
 exact ⟨by rw [← HQ.out, Hf.out]; rfl, HE2.out⟩
def zcF (h : zC) : Int := h.base + h.log.length
def zjF (h : zC) : Int := match h.log[h.log.length - 1]? with
 | none => h.baseTerm
 | some x => x.term
theorem zjG {h : zC} (e : h.log.length = 0) : zjF h = h.baseTerm := by
 unfold zjF
 rw [List.getElem?_eq_none (by omega)]
theorem zhH {h : zC} {x : zI} (e : h.log[h.log.length - 1]? = some x) : zjF h = x.term := by
 unfold zjF
 rw [e]
theorem l_last (w : World) (T : Nat → Prop) (h : zC) (sv lv : Value) (hv : zY w T sv lv h) (hl : h.log.length ≤ 1000000) (hb0 : 0 ≤ h.base) (hb1 : h.base ≤ 1099511627776) :
  Calls Tryz.prog 105 #[.agg #[.int .i64 h.term, .int .i64 h.vote, .int .i64 h.base, .int .i64 h.baseTerm, .int .i64 h.conf.full, .int .i64 h.conf.wit, .int .i64 h.conf.learn, .int .i64 h.conf.learnWit, sv, lv]] w fun e w' => e = .returned (.tuple #[.int .i64 (zcF h), .int .i64 (zjF h)]) ∧ Ext w w' := by
 obtain ⟨As, cs, Al, cl, rfl, rfl⟩ := hv.forms
 obtain ⟨n, hn⟩ : ∃ n, h.snap.length = n := ⟨_, rfl⟩
 obtain ⟨m, hm⟩ : ∃ m, h.log.length = m := ⟨_, rfl⟩
 have hnl := hv.1.le
 unfold maxLen at hnl
 rw [hn] at hnl
 have Hv := hJ hv
 clear hv
 rw [hn, hm] at Hv ⊢
 rw [hm] at hl
 have Hn := hJ hn
 have Hm := hJ hm
 clear hn hm
 obtain ⟨wb, hwb⟩ : ∃ wb, w.alloc (.cells (h.cells (.slice As n cs) (.slice Al m cl)).toArray 34) = wb := ⟨_, rfl⟩
 have hE : Ext w wb := by rw [← hwb]; exact (Mod.refl _ w).alloc _
 have hcs : ∀ w1, Ext wb w1 → ∀ j u, (h.cells (.slice As n cs) (.slice Al m cl))[j]? = some u → w1.cell? ⟨w.heap.size, j, none⟩ = some u := by
  intro w1 hm j u hu
  refine hm.cell ?_ id
  rw [← hwb, cell_of_row _ _ _ _ _ _ (heap_alloc_new w _)]
  simpa using hu
 have HE0 : Hid (Ext w (w.alloc (.cells (h.cells (.slice As n cs) (.slice Al m cl)).toArray 34))) := hJ ((Mod.refl _ w).alloc _)
 have Hwb := hJ hwb
 have Hcs := hJ hcs
 have HE := hJ hE
 clear hwb hcs hE
 obtain ⟨li, hli⟩ : ∃ i, zcF h = i := ⟨_, rfl⟩
 obtain ⟨lt, hlt⟩ : ∃ i, zjF h = i := ⟨_, rfl⟩
 rw [hli, hlt]
 have Hli : Hid (h.base + m = li) := hJ (by rw [← hli, ← Hm.out]; rfl)
 clear hli
 by_cases h0 : m = 0
 ·
  subst h0
  have ht : h.baseTerm = lt := by rw [← hlt]; exact (zjG Hm.out).symm
  have hi : h.base = li := by rw [← Hli.out]; simp
  have Ht := hJ ht
  have Hi := hJ hi
  clear ht hi hlt Hli
  go_enter Tryz.func105, Tryz.ntmps105
  go_wp2_with fail
  go_quiet (fail)
  go_wp2
  go_ret2
  exact ⟨by rw [← Ht.out, ← Hi.out]; rfl, HE0.out.drewN _⟩
 obtain ⟨g, off, x, rfl, hgT, hx, hxok, hcells⟩ := Hv.out.2.at (i := m - 1) (by omega)
 have x0 := (HE.out.cell (hcells 0 _ rfl) id)
 rw [Nat.add_zero] at x0
 have ht : x.term = lt := by rw [← hlt]; exact (zhH (by rw [Hm.out]; exact hx)).symm
 have Ht := hJ ht
 have hm0 : (m == 0) = false := by simpa using h0
 have hmi : ((m : Int) == 0) = false := by simpa using h0
 have q1 : IntKind.i64.wrap ((m : Int) - 1) = ((m - 1 : Nat) : Int) := by rw [IntWalk.i64_in _ (by omega)]; omega
 have q2 : IntKind.i64.wrap (h.base + (m : Int)) = li := by rw [IntWalk.i64_in _ (by omega)]; exact Hli.out
 have q3 : (0 : Int) ≤ ((m - 1 : Nat) : Int) := by omega
 have q4 : ((m - 1 : Nat) : Int) < (m : Int) := by omega
 clear ht hlt hx hxok hcells hgT
 rw [← Hwb.out] at x0
 go_enter Tryz.func105, Tryz.ntmps105
 go_wp2_with fail
 go_quiet (fail)
 go_wp2
 go_ret2
 exact ⟨by rw [← Ht.out]; rfl, HE0.out.drewN _⟩
theorem zkP (w : World) (T : Nat → Prop) (h : zC) (sv lv : Value) (hv : zY w T sv lv h) (hl : h.log.length ≤ 1000000) (hb0 : 0 ≤ h.base) (hb1 : h.base ≤ 1099511627776) :
  Calls Tryz.prog 43 #[.agg #[.int .i64 h.term, .int .i64 h.vote, .int .i64 h.base, .int .i64 h.baseTerm, .int .i64 h.conf.full, .int .i64 h.conf.wit, .int .i64 h.conf.learn, .int .i64 h.conf.learnWit, sv, lv]] w fun e w' => e = .returned (.tuple #[.int .i64 (zcF h), .int .i64 (zjF h)]) ∧ Ext w w' := by
 obtain ⟨As, cs, Al, cl, rfl, rfl⟩ := hv.forms
 obtain ⟨n, hn⟩ : ∃ n, h.snap.length = n := ⟨_, rfl⟩
 obtain ⟨m, hm⟩ : ∃ m, h.log.length = m := ⟨_, rfl⟩
 have hnl := hv.1.le
 unfold maxLen at hnl
 rw [hn] at hnl
 have Hv := hJ hv
 clear hv
 rw [hn, hm] at Hv ⊢
 rw [hm] at hl
 have Hn := hJ hn
 have Hm := hJ hm
 clear hn hm
 obtain ⟨wb, hwb⟩ : ∃ wb, w.alloc (.cells (h.cells (.slice As n cs) (.slice Al m cl)).toArray 34) = wb := ⟨_, rfl⟩
 have hE : Ext w wb := by rw [← hwb]; exact (Mod.refl _ w).alloc _
 have hcs : ∀ w1, Ext wb w1 → ∀ j u, (h.cells (.slice As n cs) (.slice Al m cl))[j]? = some u → w1.cell? ⟨w.heap.size, j, none⟩ = some u := by
  intro w1 hm j u hu
  refine hm.cell ?_ id
  rw [← hwb, cell_of_row _ _ _ _ _ _ (heap_alloc_new w _)]
  simpa using hu
 have HE0 : Hid (Ext w (w.alloc (.cells (h.cells (.slice As n cs) (.slice Al m cl)).toArray 34))) := hJ ((Mod.refl _ w).alloc _)
 have Hwb := hJ hwb
 have Hcs := hJ hcs
 have HE := hJ hE
 clear hwb hcs hE
 obtain ⟨li, hli⟩ : ∃ i, zcF h = i := ⟨_, rfl⟩
 obtain ⟨lt, hlt⟩ : ∃ i, zjF h = i := ⟨_, rfl⟩
 rw [hli, hlt]
 have Hli : Hid (h.base + m = li) := hJ (by rw [← hli, ← Hm.out]; rfl)
 clear hli
 by_cases h0 : m = 0
 ·
  subst h0
  have ht : h.baseTerm = lt := by rw [← hlt]; exact (zjG Hm.out).symm
  have hi : h.base = li := by rw [← Hli.out]; simp
  have Ht := hJ ht
  have Hi := hJ hi
  clear ht hi hlt Hli
  go_enter Tryz.func43, Tryz.ntmps43
  go_wp2_with fail
  go_quiet (fail)
  go_wp2
  go_ret2
  exact ⟨by rw [← Ht.out, ← Hi.out]; rfl, HE0.out.drewN _⟩
 obtain ⟨g, off, x, rfl, hgT, hx, hxok, hcells⟩ := Hv.out.2.at (i := m - 1) (by omega)
 have x0 := (HE.out.cell (hcells 0 _ rfl) id)
 rw [Nat.add_zero] at x0
 have ht : x.term = lt := by rw [← hlt]; exact (zhH (by rw [Hm.out]; exact hx)).symm
 have Ht := hJ ht
 have hm0 : (m == 0) = false := by simpa using h0
 have hmi : ((m : Int) == 0) = false := by simpa using h0
 have q1 : IntKind.i64.wrap ((m : Int) - 1) = ((m - 1 : Nat) : Int) := by rw [IntWalk.i64_in _ (by omega)]; omega
 have q2 : IntKind.i64.wrap (h.base + (m : Int)) = li := by rw [IntWalk.i64_in _ (by omega)]; exact Hli.out
 have q3 : (0 : Int) ≤ ((m - 1 : Nat) : Int) := by omega
 have q4 : ((m - 1 : Nat) : Int) < (m : Int) := by omega
 clear ht hlt hx hxok hcells hgT
 rw [← Hwb.out] at x0
 go_enter Tryz.func43, Tryz.ntmps43
 go_wp2_with fail
 go_quiet (fail)
 go_wp2
 go_ret2
 exact ⟨by rw [← Ht.out]; rfl, HE0.out.drewN _⟩
theorem zbL (w : World) (T : Nat → Prop) (h : zC) (sv lv : Value) (hv : zY w T sv lv h) (hl : h.log.length ≤ 1000000) :
  Calls Tryz.prog 78 #[.agg #[.int .i64 h.term, .int .i64 h.vote, .int .i64 h.base, .int .i64 h.baseTerm, .int .i64 h.conf.full, .int .i64 h.conf.wit, .int .i64 h.conf.learn, .int .i64 h.conf.learnWit, sv, lv]] w fun e w' => e = .returned (.bool (yG h)) ∧ Ext w w' := by
 obtain ⟨As, cs, Al, cl, rfl, rfl⟩ := hv.forms
 obtain ⟨n, hn⟩ : ∃ n, h.snap.length = n := ⟨_, rfl⟩
 obtain ⟨m, hm⟩ : ∃ m, h.log.length = m := ⟨_, rfl⟩
 have hnl := hv.1.le
 unfold maxLen at hnl
 rw [hn] at hnl
 have Hv := hJ hv
 clear hv
 rw [hn, hm] at Hv ⊢
 rw [hm] at hl
 have Hn := hJ hn
 have Hm := hJ hm
 clear hn hm
 obtain ⟨wb, hwb⟩ : ∃ wb, w.alloc (.cells (h.cells (.slice As n cs) (.slice Al m cl)).toArray 34) = wb := ⟨_, rfl⟩
 have hE : Ext w wb := by rw [← hwb]; exact (Mod.refl _ w).alloc _
 have hcs : ∀ w1, Ext wb w1 → ∀ j u, (h.cells (.slice As n cs) (.slice Al m cl))[j]? = some u → w1.cell? ⟨w.heap.size, j, none⟩ = some u := by
  intro w1 hm j u hu
  refine hm.cell ?_ id
  rw [← hwb, cell_of_row _ _ _ _ _ _ (heap_alloc_new w _)]
  simpa using hu
 have HE0 : Hid (Ext w (w.alloc (.cells (h.cells (.slice As n cs) (.slice Al m cl)).toArray 34))) := hJ ((Mod.refl _ w).alloc _)
 have Hwb := hJ hwb
 have Hcs := hJ hcs
 have HE := hJ hE
 clear hwb hcs hE
 obtain ⟨q, hq⟩ : ∃ q : Bool, yG h = q := ⟨_, rfl⟩
 rw [hq]
 have HQ := hJ hq
 clear hq
 rcases d1 : decide (0 ≤ h.term) with _ | _
 ·
  have Hf : Hid (q = false) := hJ (by rw [← HQ.out]; exact yB (fun r => (of_decide_eq_false d1) r.t0))
  go_enter Tryz.func78, Tryz.ntmps78
  go_wp2_with (go_at_call 65; refine (xQ _ _ _ _).mono ?_; rintro e w1 ⟨rfl, rfl⟩; try simp only [d1, Bool.and_true, Bool.true_and, Bool.and_false, Bool.false_and])
  go_ret
  exact ⟨by rw [Hf.out]; rfl, HE0.out⟩
 rcases d2 : decide (h.term ≤ 1099511627776) with _ | _
 ·
  have Hf : Hid (q = false) := hJ (by rw [← HQ.out]; exact yB (fun r => (of_decide_eq_false d2) r.t1))
  go_enter Tryz.func78, Tryz.ntmps78
  go_wp2_with (go_at_call 65; refine (xQ _ _ _ _).mono ?_; rintro e w1 ⟨rfl, rfl⟩; try simp only [d1, d2, Bool.and_true, Bool.true_and, Bool.and_false, Bool.false_and])
  go_ret
  exact ⟨by rw [Hf.out]; rfl, HE0.out⟩
 rcases d3 : decide (-1 ≤ h.vote) with _ | _
 ·
  have Hf : Hid (q = false) := hJ (by rw [← HQ.out]; exact yB (fun r => (of_decide_eq_false d3) r.v0))
  go_enter Tryz.func78, Tryz.ntmps78
  go_wp2_with (go_at_call 65; refine (xQ _ _ _ _).mono ?_; rintro e w1 ⟨rfl, rfl⟩; try simp only [d1, d2, d3, Bool.and_true, Bool.true_and, Bool.and_false, Bool.false_and])
  go_ret
  exact ⟨by rw [Hf.out]; rfl, HE0.out⟩
 rcases d4 : decide (h.vote ≤ 6) with _ | _
 ·
  have Hf : Hid (q = false) := hJ (by rw [← HQ.out]; exact yB (fun r => (of_decide_eq_false d4) r.v1))
  go_enter Tryz.func78, Tryz.ntmps78
  go_wp2_with (go_at_call 65; refine (xQ _ _ _ _).mono ?_; rintro e w1 ⟨rfl, rfl⟩; try simp only [d1, d2, d3, d4, Bool.and_true, Bool.true_and, Bool.and_false, Bool.false_and])
  go_ret
  exact ⟨by rw [Hf.out]; rfl, HE0.out⟩
 rcases d5 : decide (0 ≤ h.base) with _ | _
 ·
  have Hf : Hid (q = false) := hJ (by rw [← HQ.out]; exact yB (fun r => (of_decide_eq_false d5) r.b0))
  go_enter Tryz.func78, Tryz.ntmps78
  go_wp2_with (go_at_call 65; refine (xQ _ _ _ _).mono ?_; rintro e w1 ⟨rfl, rfl⟩; try simp only [d1, d2, d3, d4, d5, Bool.and_true, Bool.true_and, Bool.and_false, Bool.false_and])
  go_ret
  exact ⟨by rw [Hf.out]; rfl, HE0.out⟩
 rcases d6 : decide (h.base ≤ 1099511627776) with _ | _
 ·
  have Hf : Hid (q = false) := hJ (by rw [← HQ.out]; exact yB (fun r => (of_decide_eq_false d6) r.b1))
  go_enter Tryz.func78, Tryz.ntmps78
  go_wp2_with (go_at_call 65; refine (xQ _ _ _ _).mono ?_; rintro e w1 ⟨rfl, rfl⟩; try simp only [d1, d2, d3, d4, d5, d6, Bool.and_true, Bool.true_and, Bool.and_false, Bool.false_and])
  go_ret
  exact ⟨by rw [Hf.out]; rfl, HE0.out⟩
 rcases d7 : decide (0 ≤ h.baseTerm) with _ | _
 ·
  have Hf : Hid (q = false) := hJ (by rw [← HQ.out]; exact yB (fun r => (of_decide_eq_false d7) r.bt0))
  go_enter Tryz.func78, Tryz.ntmps78
  go_wp2_with (go_at_call 65; refine (xQ _ _ _ _).mono ?_; rintro e w1 ⟨rfl, rfl⟩; try simp only [d1, d2, d3, d4, d5, d6, d7, Bool.and_true, Bool.true_and, Bool.and_false, Bool.false_and])
  go_ret
  exact ⟨by rw [Hf.out]; rfl, HE0.out⟩
 rcases d8 : decide (h.baseTerm ≤ h.term) with _ | _
 ·
  have Hf : Hid (q = false) := hJ (by rw [← HQ.out]; exact yB (fun r => (of_decide_eq_false d8) r.bt1))
  go_enter Tryz.func78, Tryz.ntmps78
  go_wp2_with (go_at_call 65; refine (xQ _ _ _ _).mono ?_; rintro e w1 ⟨rfl, rfl⟩; try simp only [d1, d2, d3, d4, d5, d6, d7, d8, Bool.and_true, Bool.true_and, Bool.and_false, Bool.false_and])
  go_ret
  exact ⟨by rw [Hf.out]; rfl, HE0.out⟩
 rcases e1 : (h.baseTerm == 0) with _ | _ <;> rcases e2 : (h.base == 0) with _ | _
 ·
  have b0 : decide ((0 : Int) < h.base) = true := by
   have := of_decide_eq_true d5
   have e : ¬ h.base = 0 := by simpa using e2
   exact decide_eq_true (by omega)
  go_enter Tryz.func78, Tryz.ntmps78
  go_wp2_with (go_at_call 65; refine (xQ _ _ _ _).mono ?_; rintro e w1 ⟨rfl, rfl⟩; try simp only [d1, d2, d3, d4, d5, d6, d7, d8, Bool.and_true, Bool.true_and, Bool.and_false, Bool.false_and])
  rw [Hwb.out]
  refine (zoV h.conf _).mono ?_
  rintro e w1 ⟨rfl, hE1⟩
  have y0 := (Hcs.out w1 hE1) 0 _ rfl
  have y1 := (Hcs.out w1 hE1) 1 _ rfl
  have y2 := (Hcs.out w1 hE1) 2 _ rfl
  have y3 := (Hcs.out w1 hE1) 3 _ rfl
  have y4 := (Hcs.out w1 hE1) 4 _ rfl
  have y5 := (Hcs.out w1 hE1) 5 _ rfl
  have y6 := (Hcs.out w1 hE1) 6 _ rfl
  have y7 := (Hcs.out w1 hE1) 7 _ rfl
  have y8 := (Hcs.out w1 hE1) 8 _ rfl
  have y9 := (Hcs.out w1 hE1) 9 _ rfl
  have Hv1 := hJ (Hv.out.mod (HE.out.ext hE1) (fun _ _ => id))
  have HE1 := hJ (HE.out.ext hE1)
  clear hE1
  rcases hc : jK h.conf with _ | _
  ·
   have Hf : Hid (q = false) := hJ (by rw [← HQ.out]; exact yB (fun r => by have := r.c; rw [hc] at this; cases this))
   go_wp2
   go_ret
   exact ⟨by rw [Hf.out]; rfl, HE1.out⟩
  rcases g1 : decide (n ≤ 16384) with _ | _
  ·
   have g2 : decide ((n : Int) ≤ 16384) = false := decide_eq_false (by have := of_decide_eq_false g1; omega)
   have Hf : Hid (q = false) := hJ (by rw [← HQ.out]; exact yB (fun r => by have := r.s; rw [Hn.out] at this; exact (of_decide_eq_false g1) this))
   go_wp2
   go_ret
   exact ⟨by rw [Hf.out]; rfl, HE1.out⟩
  have g2 : decide ((n : Int) ≤ 16384) = true := decide_eq_true (by have := of_decide_eq_true g1; omega)
  go_wp2_with fail
  refine (zpN w1 T _ h.log h.baseTerm h.term Hv1.out.2 (by rw [Hm.out]; omega)).mono ?_
  rintro e w2 ⟨rfl, hE2⟩
  have HE2 := hJ (HE1.out.ext hE2)
  clear hE2
  rcases hr : zdK h.term (max h.baseTerm 1) h.log with _ | _
  ·
   have Hf : Hid (q = false) := hJ (by rw [← HQ.out]; exact yB (fun r => by have := r.r; rw [hr] at this; cases this))
   go_wp2
   go_ret
   exact ⟨by rw [Hf.out]; rfl, HE2.out⟩
  have Hf : Hid (q = true) := hJ (by rw [← HQ.out]; exact (yI h).2 ⟨of_decide_eq_true d1, of_decide_eq_true d2, of_decide_eq_true d3, of_decide_eq_true d4, of_decide_eq_true d5, of_decide_eq_true d6, of_decide_eq_true d7, of_decide_eq_true d8, by rw [e1, e2], hc, by rw [Hn.out]; exact of_decide_eq_true g1, .inl (by simpa using e2), hr⟩)
  go_wp2
  go_ret
  exact ⟨by rw [Hf.out]; rfl, HE2.out⟩
 ·
  have Hf : Hid (q = false) := hJ (by rw [← HQ.out]; exact yB (fun r => by have := r.bb; rw [e1, e2] at this; cases this))
  go_enter Tryz.func78, Tryz.ntmps78
  go_wp2_with (go_at_call 65; refine (xQ _ _ _ _).mono ?_; rintro e w1 ⟨rfl, rfl⟩; try simp only [d1, d2, d3, d4, d5, d6, d7, d8, Bool.and_true, Bool.true_and, Bool.and_false, Bool.false_and])
  go_ret
  exact ⟨by rw [Hf.out]; rfl, HE0.out⟩
 ·
  have Hf : Hid (q = false) := hJ (by rw [← HQ.out]; exact yB (fun r => by have := r.bb; rw [e1, e2] at this; cases this))
  go_enter Tryz.func78, Tryz.ntmps78
  go_wp2_with (go_at_call 65; refine (xQ _ _ _ _).mono ?_; rintro e w1 ⟨rfl, rfl⟩; try simp only [d1, d2, d3, d4, d5, d6, d7, d8, Bool.and_true, Bool.true_and, Bool.and_false, Bool.false_and])
  go_ret
  exact ⟨by rw [Hf.out]; rfl, HE0.out⟩
 have b0 : decide ((0 : Int) < h.base) = false := by
  have := of_decide_eq_true d5
  have e : h.base = 0 := by simpa using e2
  exact decide_eq_false (by omega)
 go_enter Tryz.func78, Tryz.ntmps78
 go_wp2_with (go_at_call 65; refine (xQ _ _ _ _).mono ?_; rintro e w1 ⟨rfl, rfl⟩; try simp only [d1, d2, d3, d4, d5, d6, d7, d8, Bool.and_true, Bool.true_and, Bool.and_false, Bool.false_and])
 rw [Hwb.out]
 refine (zoV h.conf _).mono ?_
 rintro e w1 ⟨rfl, hE1⟩
 have y0 := (Hcs.out w1 hE1) 0 _ rfl
 have y1 := (Hcs.out w1 hE1) 1 _ rfl
 have y2 := (Hcs.out w1 hE1) 2 _ rfl
 have y3 := (Hcs.out w1 hE1) 3 _ rfl
 have y4 := (Hcs.out w1 hE1) 4 _ rfl
 have y5 := (Hcs.out w1 hE1) 5 _ rfl
 have y6 := (Hcs.out w1 hE1) 6 _ rfl
 have y7 := (Hcs.out w1 hE1) 7 _ rfl
 have y8 := (Hcs.out w1 hE1) 8 _ rfl
 have y9 := (Hcs.out w1 hE1) 9 _ rfl
 have Hv1 := hJ (Hv.out.mod (HE.out.ext hE1) (fun _ _ => id))
 have HE1 := hJ (HE.out.ext hE1)
 clear hE1
 rcases hc : jK h.conf with _ | _
 ·
  have Hf : Hid (q = false) := hJ (by rw [← HQ.out]; exact yB (fun r => by have := r.c; rw [hc] at this; cases this))
  go_wp2
  go_ret
  exact ⟨by rw [Hf.out]; rfl, HE1.out⟩
 rcases g1 : decide (n ≤ 16384) with _ | _
 ·
  have g2 : decide ((n : Int) ≤ 16384) = false := decide_eq_false (by have := of_decide_eq_false g1; omega)
  have Hf : Hid (q = false) := hJ (by rw [← HQ.out]; exact yB (fun r => by have := r.s; rw [Hn.out] at this; exact (of_decide_eq_false g1) this))
  go_wp2
  go_ret
  exact ⟨by rw [Hf.out]; rfl, HE1.out⟩
 have g2 : decide ((n : Int) ≤ 16384) = true := decide_eq_true (by have := of_decide_eq_true g1; omega)
 rcases g3 : (n == 0) with _ | _
 ·
  have g4 : ((n : Int) == 0) = false := by simpa using g3
  have Hf : Hid (q = false) := hJ (by rw [← HQ.out]; exact yB (fun r => by have := r.bs; rw [Hn.out] at this; rcases this with h | h; exact h (by simpa using e2); exact (by simpa using g3 : ¬ n = 0) h))
  go_wp2
  go_ret
  exact ⟨by rw [Hf.out]; rfl, HE1.out⟩
 have g4 : ((n : Int) == 0) = true := by simpa using g3
 go_wp2_with fail
 refine (zpN w1 T _ h.log h.baseTerm h.term Hv1.out.2 (by rw [Hm.out]; omega)).mono ?_
 rintro e w2 ⟨rfl, hE2⟩
 have HE2 := hJ (HE1.out.ext hE2)
 clear hE2
 rcases hr : zdK h.term (max h.baseTerm 1) h.log with _ | _
 ·
  have Hf : Hid (q = false) := hJ (by rw [← HQ.out]; exact yB (fun r => by have := r.r; rw [hr] at this; cases this))
  go_wp2
  go_ret
  exact ⟨by rw [Hf.out]; rfl, HE2.out⟩
 have Hf : Hid (q = true) := hJ (by rw [← HQ.out]; exact (yI h).2 ⟨of_decide_eq_true d1, of_decide_eq_true d2, of_decide_eq_true d3, of_decide_eq_true d4, of_decide_eq_true d5, of_decide_eq_true d6, of_decide_eq_true d7, of_decide_eq_true d8, by rw [e1, e2], hc, by rw [Hn.out]; exact of_decide_eq_true g1, .inr (by rw [Hn.out]; simpa using g3), hr⟩)
 go_wp2
 go_ret
 exact ⟨by rw [Hf.out]; rfl, HE2.out⟩
end Go.Proofs.YtjhnlncgmejkcaaGreat
