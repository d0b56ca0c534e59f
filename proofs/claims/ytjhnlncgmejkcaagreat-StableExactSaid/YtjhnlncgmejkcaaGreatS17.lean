/-
  Contracts of wire.of for api.Hard, and of what it defers. Conditions: as each theorem names them.
-/
import Derived.Test.YtjhnlncgmejkcaaGreatS7
import Derived.Test.YtjhnlncgmejkcaaGreatS16
set_option maxRecDepth 100000
set_option maxHeartbeats 2000000
namespace Go.Proofs.YtjhnlncgmejkcaaGreat
set_option linter.unusedSimpArgs false
open Go.RowKit
theorem od_idleH (px pe : Addr) (w : World) :
  CallsD Tryz.prog 172 #[.pointer (some px), .pointer (some pe)] .returning w fun e u' w' => e = .returned (.tuple #[]) ∧ u' = .returning ∧ w' = w := by
 refine callsD_of_wpS Tryz.func172 rfl fun c₀ cs hu => ?_
 apply wpS_seq
 apply wpS_region
 simp [wpOpsS, go_sem, recoverD, hu, Tryz.ntmps172, Exit.thenS]
 refine wpS_of_wp ?_
 go_wp2
 cases c₀
 simp_all [bodyPostS, results, Tryz.results172]
theorem zeS (px pe : Nat) (m : Int) (w : World) (t te : TypeId) (cur : List Value) (ue : Value) (hx : w.heap[px]? = some (.cells cur.toArray t (0, 0))) (hl : cur.length = 10) (he : w.heap[pe]? = some (.cells #[ue] te (0, 0))) (hne : px ≠ pe) :
  CallsD Tryz.prog 172 #[.pointer (some ⟨px, 0, none⟩), .pointer (some ⟨pe, 0, none⟩)] (.panicking [{ v := .iface 191 (.agg #[.int .i64 m]), recovered := false }]) w fun e u' w' =>
   e = .returned (.tuple #[]) ∧ u' = .panicking [{ v := .iface 191 (.agg #[.int .i64 m]), recovered := true }] ∧ w'.heap[px]? = some (.cells zH.toArray t (0, 0)) ∧ w'.heap[pe]? = some (.cells #[.int .i64 m] te (0, 0)) ∧ Mod (fun k => k = px ∨ k = pe) w w' := by
 have hlx : px < w.heap.size := (Array.getElem?_eq_some_iff.1 hx).1
 have hle : pe < w.heap.size := (Array.getElem?_eq_some_iff.1 he).1
 obtain ⟨w0, hw0⟩ : ∃ w0, w0 = w.alloc (.cells zH.toArray 34) := ⟨_, rfl⟩
 have hE0 : Ext w w0 := by rw [hw0]; exact (Mod.refl _ w).alloc _
 have hx0 := hE0.blk hx id
 have he0 := hE0.blk he id
 have hz0 : w0.heap[w.heap.size]? = some (.cells zH.toArray 34 (0, 0)) := by rw [hw0]; exact heap_alloc_new w _
 have hld := zF (P := Tryz.prog) (o := 0) (cs := zH) zA hz0 rfl (fun j u hu => by rw [Nat.zero_add]; exact hu)
 rw [hw0] at hx0 hld
 have HE0 := hJ hE0
 have He0 := hJ he0
 have Hw0 := hJ hw0
 have Hx0 := hJ hx0
 have Hl := hJ hl
 clear hw0 hE0 he0 hz0 hx0 hx he hl
 refine callsD_of_wpS Tryz.func172 rfl fun c₀ cs hu => ?_
 apply wpS_seq
 apply wpS_region
 simp [wpOpsS, go_sem, recoverD, hu, Tryz.ntmps172, Exit.thenS]
 refine wpS_of_wp ?_
 rw [show (#[.pointer (some ⟨px, 0, none⟩), .pointer (some ⟨pe, 0, none⟩)] ++ ((Array.replicate 8 undef).setIfInBounds 2 (.iface 191 (.agg #[.int .i64 m]))).setIfInBounds 0 (.iface 191 (.agg #[.int .i64 m])) : Array Value) = #[.pointer (some ⟨px, 0, none⟩), .pointer (some ⟨pe, 0, none⟩), (.iface 191 (.agg #[.int .i64 m])), undef, (.iface 191 (.agg #[.int .i64 m])), undef, undef, undef, undef, undef] from rfl]
 go_wp2_with (first | (refine zG rfl 34 _ rfl _ _ rfl hld ?_) | (refine zD rfl 34 _ _ rfl 10 px 0 zH rfl rfl zA _ _ zH Hx0.out rfl (by rw [Hl.out]; exact Nat.le_refl _) (List.all_eq_true.1 rfl) (by unfold put; rw [List.drop_eq_nil_of_le (by rw [Hl.out]; exact Nat.le_refl _)]; rfl) ?_))
 intro w2 hx2 hm2 _
 rw [← Hw0.out] at hm2
 have he2 := hm2.blk He0.out (fun e => hne e.symm)
 have HX2 := hJ hx2
 have HE2 := hJ he2
 have HM2 := hJ hm2
 obtain ⟨ce, fe⟩ := qD he2
 clear hx2 he2 hm2 hld
 go_wp2_with fail
 refine (zfW m pe ue _ ce fe).mono ?_
 rintro e w1 ⟨rfl, rfl⟩
 go_wp2
 have hs : Mod (fun k => k = pe) w2 ((w2.setCell ⟨pe, 0, none⟩ (.int .i64 m)).alloc (.cells #[.int .i64 m] 191)) := (zO (Mod.refl _ _) 0 (.int .i64 m)).alloc _
 have hb := (Mod.refl (fun _ => False) (w2.setCell ⟨pe, 0, none⟩ (.int .i64 m))).alloc (.cells #[.int .i64 m] 191)
 have h1 := hs.blk HX2.out (fun e => hne e)
 have h2 : ((w2.setCell ⟨pe, 0, none⟩ (.int .i64 m)).alloc (.cells #[.int .i64 m] 191)).heap[pe]? = some (.cells #[.int .i64 m] te (0, 0)) := hb.blk (yC (cs := [ue]) HE2.out 0 (.int .i64 m)) id
 have h3 : Mod (fun k => k = px ∨ k = pe) w _ := ((HE0.out.mod _).trans HM2.out (fun _ _ e => .inl e)).trans hs (fun _ _ e => .inr e)
 have HF := hJ (And.intro h1 (And.intro h2 h3))
 clear h1 h2 h3 hs hb HX2 HE2 HM2 ce fe HE0 He0 Hw0 Hx0 Hl hlx hle hne
 cases c₀
 simp only at hu
 subst hu
 simp [bodyPostS, results, Tryz.results172]
 exact HF.out
def zl9 (w : World) (bs : List UInt8) (bad : Bool) (r : RS) (G : World → World → List Value → Prop) (e : Ending) (w' : World) : Prop :=
 Ext w w' ∧ ((bad = false ∧ bs.length ≤ 16384 ∧ r.done = 0 → ∃ W cs, Ext w W ∧ G W w' cs ∧ e = .returned (.tuple #[.agg cs.toArray, .int .i64 0])) ∧
  (¬ (bad = false ∧ bs.length ≤ 16384 ∧ r.done = 0) → e = .returned (.tuple #[.agg #[.int .i64 0, .int .i64 0, .int .i64 0, .int .i64 0, .int .i64 0, .int .i64 0, .int .i64 0, .int .i64 0, .slice none 0 0, .slice none 0 0], .int .i64 3])))
theorem zd5 {w : World} {p : Nat} {cs : List Value} {t : TypeId} (h : w.heap[p]? = some (.cells cs.toArray t (0, 0))) (hl : cs.length = 10) : (loadVar 34 ⟨p, 0, none⟩).run Tryz.prog w = .ok (.agg cs.toArray) w :=
 zF (P := Tryz.prog) (o := 0) zA h hl (fun j u hu => by rw [Nat.zero_add]; exact hu)
theorem zd6 {w : World} {p : Nat} {v : Int} {t : TypeId} (h : w.heap[p]? = some (.cells #[.int .i64 v] t (0, 0))) : (loadVar 29 ⟨p, 0, none⟩).run Tryz.prog w = .ok (.int .i64 v) w := by
 obtain ⟨c, _⟩ := qD h
 simp [loadVar, isAgg, go_sem, c]
theorem of_anyH (f : FuncId) (w : World) (T : Nat → Prop) (v : Value) (bs : List UInt8) (h : Byt w T v bs) (hlen : bs.length ≤ 1000000) (bad : Bool) (r : RS) (G : World → World → List Value → Prop)
  (hcall : ∀ args W, (callFunc f args).run Tryz.prog W = .ok (.enter f args) W)
  (hstep : ∀ W S c b, Ext w W → Rw W S c b ⟨bs, 0⟩ → Calls Tryz.prog f #[.pointer (some ⟨c, 0, none⟩)] W fun e w' => Mod S W w' ∧ (bad = true → e = zdW 3) ∧ (bad = false → ∃ cs, cs.length = 10 ∧ (cs.all (·.oneCell')) = true ∧ e = .returned (.agg cs.toArray) ∧ Rw w' S c b r ∧ G W w' cs))
  (hG : ∀ W w1 w2 cs, G W w1 cs → Mod (fun k => k < W.heap.size) w1 w2 → G W w2 cs) :
  Calls Tryz.prog 131 #[v, .func (Fn.func f) #[] #[]] w (zl9 w bs bad r G) := by
 have hmf : ∀ (fn : Fn) (first cap : Array Value) (w : World), (Instr.makeFunc fn first cap).run Tryz.prog w = .ok (.func fn first cap) w := fun _ _ _ _ => rfl
 obtain ⟨q, hq⟩ : ∃ q, w.heap.size = q := ⟨_, rfl⟩
 obtain ⟨W2, hW2⟩ : ∃ W2, W2 = (w.alloc (.cells zH.toArray 34)).alloc (.cells #[.int .i64 0] 29) := ⟨_, rfl⟩
 have hE : Ext w W2 := by rw [hW2]; exact ((Mod.refl _ w).alloc _).alloc _
 have hA : W2.heap[q]? = some (.cells zH.toArray 34 (0, 0)) := by rw [hW2, ← hq, Below.heap_alloc _ _ _ (by simp)]; exact heap_alloc_new w _
 have hB : W2.heap[q + 1]? = some (.cells #[.int .i64 0] 29 (0, 0)) := by
  rw [hW2, ← hq]
  have := heap_alloc_new (w.alloc (.cells zH.toArray 34)) (.cells #[.int .i64 0] 29)
  simpa using this
 have hb2 := h.ext hE
 obtain ⟨n, hn⟩ : ∃ n, bs.length = n := ⟨_, rfl⟩
 obtain ⟨A, cp, rfl⟩ := h.form
 have Hstep := hJ hstep
 have HG := hJ hG
 have Hn := hJ hn
 have HW2 := hJ hW2
 have Hq := hJ hq
 have HE := hJ hE
 have HA := hJ hA
 have HB := hJ hB
 have hlen' : n ≤ 1000000 := by omega
 have Hsz : Hid (W2.heap.size = q + 2) := hJ (by rw [hW2, ← hq]; simp)
 rw [hn]
 clear hstep hG hn hW2 hq hE hA hB h hlen
 go_enter_defers Tryz.func131, Tryz.ntmps131
 go_wp2_with fail
 rw [← HW2.out, Hq.out, ← Hn.out]
 refine (r_new W2 T _ bs hb2 (by have := Hn.out; omega)).mono ?_
 rintro e w1 ⟨rb, rfl, hrb, hR, hE1⟩
 have hRf := hR.fin
 obtain ⟨S, hS⟩ : ∃ S : Nat → Prop, S = fun k => W2.heap.size ≤ k ∧ k < w1.heap.size := ⟨_, rfl⟩
 rw [← hS] at hRf
 have hSlo : ∀ k, S k → q + 2 ≤ k := fun k hk => by rw [hS] at hk; have := Hsz.out; omega
 have hShi : ∀ k, S k → k < w1.heap.size := fun k hk => by rw [hS] at hk; exact hk.2
 have hA1 := hE1.blk HA.out id
 have hB1 := hE1.blk HB.out id
 obtain ⟨c, hc⟩ : ∃ c, w1.heap.size = c := ⟨_, rfl⟩
 have hq2 : q + 2 ≤ c := by have := hE1.size; have := Hsz.out; omega
 obtain ⟨W3, hW3⟩ : ∃ W3, W3 = w1.alloc (.cells #[.pointer (some ⟨rb, 0, none⟩)] 198) := ⟨_, rfl⟩
 have hE3 : Ext w1 W3 := by rw [hW3]; exact (Mod.refl _ _).alloc _
 have hC3 : W3.heap[c]? = some (.cells #[.pointer (some ⟨rb, 0, none⟩)] 198 (0, 0)) := by rw [hW3, ← hc]; exact heap_alloc_new w1 _
 have hA3 := hE3.blk hA1 id
 have hB3 := hE3.blk hB1 id
 have hR3 : Rw W3 S c rb ⟨bs, 0⟩ := ⟨hRf.mod hE3 (fun _ _ => id), ⟨_, hC3⟩, fun e => by have := hShi _ e; omega, fun k hk => by have := hShi k hk; have := hE3.size; omega⟩
 have hX3 : Ext w W3 := (HE.out.ext hE1).ext hE3
 have HSlo := hJ hSlo
 have HA3 := hJ hA3
 have HB3 := hJ hB3
 have HR3 := hJ hR3
 have HX3 := hJ hX3
 have HW3 := hJ hW3
 have Hc := hJ hc
 have Hl3 : Hid (c < W3.heap.size) := hJ (Array.getElem?_eq_some_iff.1 hC3).1
 rw [Hn.out]
 clear hW3 hR3 hX3 hA3 hB3 hA1 hB1 hE3 hC3 hE1 hR hRf hS hSlo hShi hrb hb2 hc
 have Hfin : Hid (∀ (w1 w' : World), Ext w w1 → ¬ (bad = false ∧ bs.length ≤ 16384 ∧ r.done = 0) → Mod (fun k => k = q ∨ k = q + 1) w1 w' → zl9 w bs bad r G (.returned (.tuple #[.agg #[.int .i64 0, .int .i64 0, .int .i64 0, .int .i64 0, .int .i64 0, .int .i64 0, .int .i64 0, .int .i64 0, .slice none 0 0, .slice none 0 0], .int .i64 3])) w') :=
  hJ (fun w1 w' h1 h2 h3 => ⟨Mod.toExt ((Ext.mod h1 (zZ w.heap.size)).trans h3 (fun k _ e => by unfold zZ; have := Hq.out; omega)), fun h => absurd h h2, fun _ => rfl⟩)
 by_cases hl : 16384 < n
 ·
  have dl : decide ((16384 : Int) < (n : Int)) = true := by simp; omega
  have Hbad : Hid (¬ (bad = false ∧ bs.length ≤ 16384 ∧ r.done = 0)) := hJ (fun h => by have := Hn.out; omega)
  go_wp2_with fail
  rw [← HW3.out]
  refine leaves_cons (f := 172) (args := #[.pointer (some ⟨q, 0, none⟩), .pointer (some ⟨q + 1, 0, none⟩)]) (by simp) (by simp [go_sem]) ?_
  refine (zeS q (q + 1) 3 W3 _ _ _ _ HA3.out rfl HB3.out (by omega)).mono ?_
  rintro e u' w'' ⟨rfl, rfl, hx, he, hm⟩
  have hF := Hfin.out W3 w'' HX3.out Hbad.out hm
  simp [Leaves, settle, results, Tryz.results131, zd5 (cs := zH) hx rfl, zd6 he, asAddr]
  exact hF
 have dl : decide ((16384 : Int) < (n : Int)) = false := by simp; omega
 go_wp2_with fail
 rw [← HW3.out, Hc.out]
 refine (Hstep.out W3 S c rb HX3.out HR3.out).mono ?_
 rintro e w4 ⟨hm4, hbad, hok⟩
 have hnq : ¬ S q := fun e => by have := HSlo.out _ e; omega
 have hnq1 : ¬ S (q + 1) := fun e => by have := HSlo.out _ e; omega
 have hA4 := hm4.blk HA3.out hnq
 have hB4 := hm4.blk HB3.out hnq1
 have hX4 : Ext w w4 := Mod.toExt ((Ext.mod HX3.out (zZ w.heap.size)).trans hm4 (fun k _ e => by unfold zZ; have := HSlo.out k e; have := Hq.out; omega))
 have HX4 := hJ hX4
 rcases hb : bad with _ | _
 rotate_left
 ·
  obtain rfl := hbad hb
  have Hbad : Hid (¬ (bad = false ∧ bs.length ≤ 16384 ∧ r.done = 0)) := hJ (fun h => by rw [hb] at h; cases h.1)
  refine leaves_cons (f := 172) (args := #[.pointer (some ⟨q, 0, none⟩), .pointer (some ⟨q + 1, 0, none⟩)]) (by simp) (by simp [go_sem]) ?_
  refine (zeS q (q + 1) 3 w4 _ _ _ _ hA4 rfl hB4 (by omega)).mono ?_
  rintro e u' w'' ⟨rfl, rfl, hx, he, hm⟩
  have hF := Hfin.out w4 w'' HX4.out Hbad.out hm
  simp [Leaves, settle, results, Tryz.results131, zd5 (cs := zH) hx rfl, zd6 he, asAddr]
  rw [hb] at hF
  exact hF
 obtain ⟨cs, hcl, hc1, rfl, hR4, hG4⟩ := hok hb
 have HB0 := hJ hb
 have HG4 := hJ hG4
 have HR4 := hJ hR4
 have HB4 := hJ hB4
 have HA4 := hJ hA4
 have HM4 := hJ hm4
 have Hcl := hJ hcl
 have Hc1 := hJ hc1
 clear hG4 hR4 hB4 hA4 hm4 hcl hc1 hbad hok hX4 hb
 go_wp2_with (refine zD rfl 34 _ _ rfl 10 q 0 cs rfl rfl zA _ _ cs HA4.out Hcl.out (by simp) (List.all_eq_true.1 Hc1.out) (by unfold put; rw [List.drop_eq_nil_of_le (by rw [Hcl.out]; simp)]; simp) ?_)
 intro w5 hA5 hm5 hs5
 have hB5 := hm5.blk HB4.out (by omega)
 have HR5 : Hid (Rw w5 S c rb r) := hJ (HR4.out.mod hm5 (fun g hg e => hnq (e ▸ hg)) (by omega))
 have hX5 : Ext w w5 := Mod.toExt ((Ext.mod HX4.out (zZ w.heap.size)).trans hm5 (fun k _ e => by unfold zZ; have := Hq.out; omega))
 have hG5 := HG.out W3 w4 w5 cs HG4.out (hm5.mono (fun k _ e => by have := Hl3.out; omega))
 have HG5 := hJ hG5
 have HX5 := hJ hX5
 have HA5 := hJ hA5
 have HB5 := hJ hB5
 have rc := HR5.out.cell
 clear hA5 hB5 hX5 hG5 hm5 hs5
 go_wp2_with fail
 refine (zn4 w5 S rb r HR5.out.1).mono ?_
 rintro e w' ⟨rfl, rfl⟩
 obtain ⟨d, hd⟩ : ∃ d, r.done = d := ⟨_, rfl⟩
 rw [hd] at Hfin ⊢
 have Hd := hJ hd
 clear hd
 by_cases h0 : d = 0
 ·
  have dd : (d != 0) = false := by simp [h0]
  have H0 := hJ h0
  clear h0
  have hld := zF (P := Tryz.prog) (o := 0) (cs := cs) zA HA5.out Hcl.out (fun j u hu => by rw [Nat.zero_add]; exact hu)
  have hst := zaD (P := Tryz.prog) zA HA5.out Hcl.out (List.all_eq_true.1 Hc1.out)
  obtain ⟨t0, g0⟩ := qD HB5.out
  go_wp2_with (first | (refine zG rfl 34 _ rfl _ _ rfl hld ?_) | (refine zaJ rfl 34 _ _ rfl _ _ rfl rfl hst ?_))
  clear hld hst
  have hm6 : Mod (fun k => k = q + 1) w5 (w5.setCell ⟨q + 1, 0, none⟩ (.int .i64 0)) := zO (Mod.refl _ _) 0 _
  have hB6 := yC (cs := [.int .i64 0]) HB5.out 0 (.int .i64 0)
  have hA6 := hm6.blk HA5.out (by omega)
  have hX6 : Ext w (w5.setCell ⟨q + 1, 0, none⟩ (.int .i64 0)) := Mod.toExt ((Ext.mod HX5.out (zZ w.heap.size)).trans hm6 (fun k _ e => by unfold zZ; have := Hq.out; omega))
  have hG6 := HG.out W3 w5 _ cs HG5.out (hm6.mono (fun k _ e => by have := Hl3.out; omega))
  refine leaves_cons (f := 172) (args := #[.pointer (some ⟨q, 0, none⟩), .pointer (some ⟨q + 1, 0, none⟩)]) (by simp) (by simp [go_sem]) ?_
  refine (od_idleH _ _ _).mono ?_
  rintro e u' w'' ⟨rfl, rfl, rfl⟩
  have hF : zl9 w bs bad r G (.returned (.tuple #[.agg cs.toArray, .int .i64 0])) (w5.setCell ⟨q + 1, 0, none⟩ (.int .i64 0)) :=
   ⟨hX6, fun _ => ⟨W3, cs, HX3.out, hG6, rfl⟩, fun h => absurd ⟨HB0.out, by have := Hn.out; omega, by rw [Hd.out, H0.out]⟩ h⟩
  simp [Leaves, settle, results, Tryz.results131, zd5 hA6 Hcl.out, zd6 (v := 0) hB6, asAddr]
  exact hF
 have dd : (d != 0) = true := by simp [h0]
 have Hbad : Hid (¬ (bad = false ∧ bs.length ≤ 16384 ∧ d = 0)) := hJ (fun h => h0 h.2.2)
 clear h0
 go_wp2_with fail
 refine leaves_cons (f := 172) (args := #[.pointer (some ⟨q, 0, none⟩), .pointer (some ⟨q + 1, 0, none⟩)]) (by simp) (by simp [go_sem]) ?_
 refine (zeS q (q + 1) 3 w5 _ _ _ _ HA5.out Hcl.out HB5.out (by omega)).mono ?_
 rintro e u' w'' ⟨rfl, rfl, hx, he, hm⟩
 have hF := Hfin.out w5 w'' HX5.out Hbad.out hm
 simp [Leaves, settle, results, Tryz.results131, zd5 (cs := zH) hx rfl, zd6 he, asAddr]
 exact hF
theorem zpV (w : World) (S : Nat → Prop) (c b : Nat) (r : RS) (h : Rw w S c b r) (hlen : r.left.length ≤ 100000) :
  Calls Tryz.prog 132 #[.pointer (some ⟨c, 0, none⟩)] w (HOut w S c b r.hardW) := by
 obtain ⟨q, hq⟩ : ∃ q, w.heap.size = q := ⟨_, rfl⟩
 obtain ⟨W, hW⟩ : ∃ W, W = w.alloc (.cells zH.toArray 34) := ⟨_, rfl⟩
 have hE : Ext w W := by rw [hW]; exact (Mod.refl _ w).alloc _
 have hA : W.heap[q]? = some (.cells zH.toArray 34 (0, 0)) := by rw [hW, ← hq]; exact heap_alloc_new w _
 have hsz : W.heap.size = q + 1 := by rw [hW, ← hq]; simp
 have hnq : ¬ S q := fun e => by have := h.2.2.2 q e; omega
 have hcq : ¬ c = q := by have := h.lt; omega
 have hqc : ¬ q = c := by omega
 have Hnq := hJ hnq
 have HR : Hid (Rw W S c b r) := hJ (h.ext hE)
 have HM : Hid (Mod S w W) := hJ (hE.mod S)
 have HA := hJ hA
 have HW := hJ hW
 have Hq := hJ hq
 have hqw : w.heap.size ≤ q := by omega
 have Hqw := hJ hqw
 have Hsz := hJ hsz
 have rl := h.lt
 clear hW hq hE h hA hsz hqw
 go_enter Tryz.func132, Tryz.ntmps132
 go_wp2_with fail
 rw [← HW.out, Hq.out]
 refine (wr_hard W S c b r HR.out hlen).mono ?_
 rintro e w1 ⟨hm2, hbad, hok⟩
 rcases hT : r.hardW with _ | ⟨y, r3⟩
 · obtain rfl := hbad hT
   exact ⟨rfl, HM.out.self hm2, fun _ => rfl, fun y r' h => by cases h⟩
 obtain ⟨sv, lv, rfl, hNB, hNE, hR2⟩ := hok _ _ hT
 obtain ⟨A5, c5, rfl⟩ := zN hNB.1
 obtain ⟨A6, c6, rfl⟩ := zN hNE.1
 have hWq : q < W.heap.size := (Array.getElem?_eq_some_iff.1 HA.out).1
 have HNB := hJ hNB
 have HNE := hJ hNE
 replace HR := hJ hR2
 replace HM := hJ (HM.out.self hm2)
 replace HA := hJ (hm2.blk HA.out hnq)
 have HHW := hJ hT
 clear hbad hok hNB hNE hR2 hm2 hT Hsz
 go_wp2_with (refine zD rfl 34 _ _ rfl 10 q 0 (y.cells (.slice A5 y.snap.length c5) (.slice A6 y.log.length c6)) rfl rfl zA _ _ (y.cells (.slice A5 y.snap.length c5) (.slice A6 y.log.length c6)) HA.out rfl (by simp) (List.all_eq_true.1 rfl) rfl ?_)
 intro w2 hA4 hm4 _
 have HZ : Hid (w2.heap[q]? = some (.cells (y.cells (.slice A5 y.snap.length c5) (.slice A6 y.log.length c6)).toArray 34 (0, 0))) := hJ hA4
 replace HR := hJ (HR.out.mod hm4 (fun g hg e => Hnq.out (e ▸ hg)) hcq)
 have hNB2 : yO w w2 (.slice A5 y.snap.length c5) y.snap := ⟨zU HNB.out.1 hm4 (fun g h1 h2 => by have := HNB.out.2 g h1; omega), fun g hg => by have := HNB.out.2 g hg; have := Hqw.out; omega⟩
 have hNE2 : zaX w w2 (.slice A6 y.log.length c6) y.log := jT (jF HNE.out hm4 (fun g h1 h2 => by have := HNE.out.2.2 g h1; omega)) (by have := Hqw.out; omega)
 replace HNB := hJ hNB2
 replace HNE := hJ hNE2
 replace HM := hJ (jZ HM.out hm4 Hqw.out)
 clear hA4 hm4 hNB2 hNE2
 go_wp2
 obtain ⟨c_0, c_1, c_2, c_3, c_4, c_5, c_6, c_7, c_8, c_9⟩ := cq10 HZ.out
 refine bodyPost_ret (v := .agg #[.int .i64 y.term, .int .i64 y.vote, .int .i64 y.base, .int .i64 y.baseTerm, .int .i64 y.conf.full, .int .i64 y.conf.wit, .int .i64 y.conf.learn, .int .i64 y.conf.learnWit, .slice A5 y.snap.length c5, .slice A6 y.log.length c6]) (by simp [results, Tryz.results132, go_sem, c_0, c_1, c_2, c_3, c_4, c_5, c_6, c_7, c_8, c_9]) rfl ⟨HM.out, (fun h => by rw [HHW.out] at h; cases h), fun y' r' h => ?_⟩
 rw [HHW.out] at h
 simp only [Option.some.injEq, Prod.mk.injEq] at h
 obtain ⟨rfl, rfl⟩ := h
 exact ⟨_, _, rfl, HNB.out, HNE.out, HR.out⟩
def HG (bs : List UInt8) (W w' : World) (cs : List Value) : Prop := ∃ y r' A5 c5 A6 c6, RS.hardW ⟨bs, 0⟩ = some (y, r') ∧ cs = y.cells (.slice A5 y.snap.length c5) (.slice A6 y.log.length c6) ∧ yO W w' (.slice A5 y.snap.length c5) y.snap ∧ zaX W w' (.slice A6 y.log.length c6) y.log
theorem of_readH {w w' : World} {bs : List UInt8} {e : Ending} (h : zl9 w bs (RS.hardW ⟨bs, 0⟩).isNone ((RS.hardW ⟨bs, 0⟩).getD (zC.zero, ⟨bs, 0⟩)).2 (HG bs) e w') : RdHard w (yR bs) e w' := by
 obtain ⟨hE, h1, h2⟩ := h
 rcases ho : RS.hardW ⟨bs, 0⟩ with _ | ⟨y, r'⟩
 ·
  rw [ho] at h2
  obtain rfl := h2 (fun h => by cases h.1)
  have hy : yR bs = none := by
   unfold yR
   rw [ho]
   split <;> rfl
  exact ⟨zC.zero, 3, .slice none 0 0, .slice none 0 0, by rw [hy]; rfl, by rw [hy]; rfl, rfl, ⟨World.ownsRow_nil _ _ _ _, by simp [Value.ownBlock]⟩, zcE _ _, hE⟩
 rw [ho] at h1 h2
 simp only [Option.isNone_some, Option.getD_some, true_and] at h1 h2
 by_cases hc : bs.length ≤ 16384 ∧ r'.done = 0
 ·
  obtain ⟨W, cs, hW, ⟨y2, r2, A5, c5, A6, c6, g1, rfl, g3, g4⟩, rfl⟩ := h1 hc
  rw [ho] at g1
  simp only [Option.some.injEq, Prod.mk.injEq] at g1
  obtain ⟨rfl, rfl⟩ := g1
  have hy : yR bs = some y := by
   unfold yR
   rw [if_neg (by omega), ho]
   simp only
   rw [if_neg (by simpa using hc.2)]
  exact ⟨y, 0, _, _, by rw [hy]; rfl, by rw [hy]; rfl, rfl, ⟨g3.1, fun g hg => Nat.le_trans hW.size (g3.2 g hg)⟩, jT g4 hW.size, hE⟩
 obtain rfl := h2 hc
 have hy : yR bs = none := by
  unfold yR
  by_cases g1 : 16384 < bs.length
  · rw [if_pos g1]
  rw [if_neg g1, ho]
  simp only
  rw [if_pos (fun g3 => hc ⟨by omega, g3⟩)]
 exact ⟨zC.zero, 3, .slice none 0 0, .slice none 0 0, by rw [hy]; rfl, by rw [hy]; rfl, rfl, ⟨World.ownsRow_nil _ _ _ _, by simp [Value.ownBlock]⟩, zcE _ _, hE⟩
theorem hG_mod {bs : List UInt8} {W w1 w2 : World} {cs : List Value} (h : HG bs W w1 cs) (hm : Mod (fun k => k < W.heap.size) w1 w2) : HG bs W w2 cs := by
 obtain ⟨y, r', A5, c5, A6, c6, h1, h2, h3, h4⟩ := h
 exact ⟨y, r', A5, c5, A6, c6, h1, h2, ⟨zU h3.1 hm (fun g g1 g2 => by have := h3.2 g g1; omega), h3.2⟩, jF h4 hm (fun g g1 g2 => by have := h4.2.2 g g1; omega)⟩
theorem zkS (w : World) (T : Nat → Prop) (v : Value) (bs : List UInt8) (h : Byt w T v bs) (hl : bs.length ≤ 100000) :
  Calls Tryz.prog 103 #[v] w (RdHard w (yR bs)) := by
 obtain ⟨q, hq⟩ : ∃ q, w.heap.size = q := ⟨_, rfl⟩
 obtain ⟨W, hW⟩ : ∃ W, W = w.alloc (.cells zH.toArray 34) := ⟨_, rfl⟩
 have hE : Ext w W := by rw [hW]; exact (Mod.refl _ w).alloc _
 have hA : W.heap[q]? = some (.cells zH.toArray 34 (0, 0)) := by rw [hW, ← hq]; exact heap_alloc_new w _
 have hqW : q < W.heap.size := (Array.getElem?_eq_some_iff.1 hA).1
 have hb := h.ext hE
 have HW := hJ hW
 have Hq := hJ hq
 have HE := hJ hE
 have HA := hJ hA
 clear hW hq hE hA h
 go_enter Tryz.func103, Tryz.ntmps103
 go_wp2_with fail
 rw [← HW.out, Hq.out]
 refine (of_anyH 132 W T v bs hb (by omega) (RS.hardW ⟨bs, 0⟩).isNone ((RS.hardW ⟨bs, 0⟩).getD (zC.zero, ⟨bs, 0⟩)).2 (HG bs) (fun _ _ => by kernel_rfl) (fun W S c b _ hR => (zpV W S c b _ hR hl).mono (fun e w' h => ⟨h.1, fun hb => h.2.1 (Option.isNone_iff_eq_none.1 hb), fun hb => ?_⟩)) (fun W w1 w2 cs h hm => hG_mod h hm)).mono ?_
 ·
  rcases ho : RS.hardW ⟨bs, 0⟩ with _ | ⟨y, r'⟩
  · rw [ho] at hb
    cases hb
  obtain ⟨sv, lv, rfl, g1, g2, g3⟩ := h.2.2 _ _ ho
  obtain ⟨A5, c5, rfl⟩ := zN g1.1
  obtain ⟨A6, c6, rfl⟩ := zN g2.1
  exact ⟨y.cells _ _, rfl, rfl, rfl, g3, y, r', A5, c5, A6, c6, ho, rfl, g1, g2⟩
 intro e w1 hO
 obtain ⟨y, k, sv, lv, hy, hk, rfl, hNB, hNE, hE1⟩ := of_readH hO
 obtain ⟨A5, c5, rfl⟩ := zN hNB.1
 obtain ⟨A6, c6, rfl⟩ := zN hNE.1
 have HA1 := hJ (hE1.blk HA.out id)
 have HE1 := hJ (HE.out.ext hE1)
 have HNB := hJ hNB
 have HNE := hJ hNE
 have Hy := hJ hy
 have Hk := hJ hk
 clear hO hE1 hNB hNE hy hk hb
 go_wp2_with (refine zD rfl 34 _ _ rfl 10 q 0 (y.cells (.slice A5 y.snap.length c5) (.slice A6 y.log.length c6)) rfl rfl zA _ _ (y.cells (.slice A5 y.snap.length c5) (.slice A6 y.log.length c6)) HA1.out rfl (by simp) (List.all_eq_true.1 rfl) rfl ?_)
 intro w2 hA2 hm2 _
 have HZ : Hid (w2.heap[q]? = some (.cells (y.cells (.slice A5 y.snap.length c5) (.slice A6 y.log.length c6)).toArray 34 (0, 0))) := hJ hA2
 have HX : Hid (Ext w w2) := hJ (Mod.toExt ((Ext.mod HE1.out (zZ w.heap.size)).trans hm2 (fun k _ e => by unfold zZ; have := Hq.out; omega)))
 have HNB2 : Hid (yO w w2 (.slice A5 y.snap.length c5) y.snap) := hJ ⟨zU HNB.out.1 hm2 (fun g h1 h2 => by have := HNB.out.2 g h1; omega), fun g hg => by have := HNB.out.2 g hg; have := Hq.out; omega⟩
 have HNE2 : Hid (zaX w w2 (.slice A6 y.log.length c6) y.log) := hJ (jT (jF HNE.out hm2 (fun g h1 h2 => by have := HNE.out.2.2 g h1; omega)) HE.out.size)
 clear hA2 hm2
 go_wp2
 obtain ⟨c_0, c_1, c_2, c_3, c_4, c_5, c_6, c_7, c_8, c_9⟩ := cq10 HZ.out
 refine bodyPost_ret (v := .tuple #[.agg #[.int .i64 y.term, .int .i64 y.vote, .int .i64 y.base, .int .i64 y.baseTerm, .int .i64 y.conf.full, .int .i64 y.conf.wit, .int .i64 y.conf.learn, .int .i64 y.conf.learnWit, .slice A5 y.snap.length c5, .slice A6 y.log.length c6], .int .i64 k]) (by simp [results, Tryz.results103, go_sem, c_0, c_1, c_2, c_3, c_4, c_5, c_6, c_7, c_8, c_9]) rfl ?_
 exact ⟨y, k, _, _, Hy.out, Hk.out, rfl, HNB2.out, HNE2.out, HX.out⟩
end Go.Proofs.YtjhnlncgmejkcaaGreat
