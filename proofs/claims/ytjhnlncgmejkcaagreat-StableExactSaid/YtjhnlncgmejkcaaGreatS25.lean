/-
  Acts (layer 11's law) in memory, and the contract of the law's bound on sizes. Conditions: as each theorem names them.
-/
import Derived.Test.YtjhnlncgmejkcaaGreatTakeI
import Derived.Test.YtjhnlncgmejkcaaGreatS24
import Derived.Test.YtjhnlncgmejkcaaGreatS9
import Derived.Test.YtjhnlncgmejkcaaGreatS10
set_option maxRecDepth 100000
set_option maxHeartbeats 2000000
namespace Go.Proofs.YtjhnlncgmejkcaaGreat
set_option linter.unusedSimpArgs false
open Go.RowKit
structure zbA where
 a : AAct
 sv : Value
 lv : Value
 ev : Value
 bv : Value
abbrev zbA.cells (x : zbA) : List Value := [.int .i64 x.a.d, .int .i64 x.a.n, .int .i64 x.a.keep, .int .i64 x.a.h.term, .int .i64 x.a.h.vote, .int .i64 x.a.h.base, .int .i64 x.a.h.baseTerm, .int .i64 x.a.h.conf.full, .int .i64 x.a.h.conf.wit, .int .i64 x.a.h.conf.learn, .int .i64 x.a.h.conf.learnWit, x.sv, x.lv, x.ev, x.bv]
def zbA.ok (w : World) (T : Nat → Prop) (x : zbA) : Prop := I64 x.a.d ∧ I64 x.a.n ∧ I64 x.a.keep ∧ x.a.h.ok ∧ zY w T x.sv x.lv x.a.h ∧ zbJ w T x.ev x.a.l ∧ Byt w T x.bv x.a.b
theorem zbA.ok.mod {w w' : World} {S T : Nat → Prop} {x : zbA} (k : x.ok w T) (hm : Mod S w w') (hd : ∀ g, T g → ¬ S g) : x.ok w' T :=
 ⟨k.1, k.2.1, k.2.2.1, k.2.2.2.1, k.2.2.2.2.1.mod hm hd, k.2.2.2.2.2.1.mod hm hd, k.2.2.2.2.2.2.mod hm hd⟩
def Acts (w : World) (T : Nat → Prop) (v : Value) (l : List zbA) : Prop := Sl w T 15 v l.length (l.flatMap zbA.cells) ∧ ∀ x ∈ l, x.ok w T
theorem Acts.mod {w w' : World} {S T : Nat → Prop} {v : Value} {l : List zbA} (h : Acts w T v l) (hm : Mod S w w') (hd : ∀ g, T g → ¬ S g) : Acts w' T v l := ⟨h.1.mod hm hd, fun x hx => (h.2 x hx).mod hm hd⟩
theorem Acts.at {w : World} {T : Nat → Prop} {A : Option Addr} {n c : Nat} {l : List zbA} (h : Acts w T (.slice A n c) l) {i : Nat} (hi : i < n) :
  ∃ g off x, A = some ⟨g, off, none⟩ ∧ T g ∧ l[i]? = some x ∧ x.ok w T ∧ ∀ j u, x.cells[j]? = some u → w.cell? ⟨g, off + i * 15 + j, none⟩ = some u := by
 obtain ⟨⟨hl, A', c', e, hn, hc, hx⟩, hok⟩ := h
 injection e with e1 e2 e3; subst e1; subst e3
 obtain ⟨g, off, rfl, hT, hcell⟩ := hx (by omega)
 have hget : l[i]? = some (l[i]'(by omega)) := List.getElem?_eq_getElem (by omega)
 refine ⟨g, off, l[i]'(by omega), rfl, hT, hget, hok _ (List.getElem_mem _), fun j u hu => ?_⟩
 have hj : j < 15 := (List.getElem?_eq_some_iff.1 hu).1
 rw [Nat.add_assoc]
 exact hcell _ u (by rw [zfC (k := 15) (fun _ => rfl) l i j _ hget hj]; exact hu)
def zbR (x : zbA) : Bool := jL x.a.h || jC x.a.l || decide (32768 < x.a.b.length)
def xL (l : List zbA) : Bool := decide (160 < l.length) || (l.take 40).any zbR
theorem zqE {l : List zbA} (h : xL l = false) {i : Nat} {x : zbA} (hi : i < 40) (hx : l[i]? = some x) : x.a.h.log.length ≤ 200 ∧ x.a.h.snap.length ≤ 32768 ∧ x.a.l.length ≤ 200 ∧ x.a.b.length ≤ 32768 := by
 simp only [xL, Bool.or_eq_false_iff] at h
 have hm : x ∈ l.take 40 := by
  refine List.mem_of_getElem? (i := i) ?_
  rw [List.getElem?_take, if_pos hi, hx]
 have h1 := List.any_eq_false.1 h.2 x hm
 simp only [zbR, Bool.or_eq_true, not_or, Bool.not_eq_true, decide_eq_false_iff_not] at h1
 have h2 := zhG h1.1.1
 have h3 := zhF h1.1.2
 omega
theorem hv_acts (w : World) (T : Nat → Prop) (v : Value) (l : List zbA) (h : Acts w T v l) :
  Calls Tryz.prog 8 #[v] w fun e w' => e = .returned (.bool (xL l)) ∧ Ext w w' := by
 have hl := h.1.le
 unfold maxLen at hl
 obtain ⟨n, hn⟩ : ∃ n, l.length = n := ⟨_, rfl⟩
 obtain ⟨A, c, rfl⟩ := h.1.form
 rw [hn] at h hl ⊢
 have Hn := hJ hn
 by_cases h200 : 160 < n
 ·
  have d : decide ((160 : Int) < (n : Int)) = true := by simp; omega
  have Hf : Hid (xL l = true) := hJ (by simp [xL, hn, h200])
  clear hn
  go_enter Tryz.func8, Tryz.ntmps8
  go_wp2
  go_ret
  exact ⟨zP Hf.out.symm, Mod.refl _ w⟩
 have d : decide ((160 : Int) < (n : Int)) = false := by simp; omega
 have Hd : Hid (decide (160 < l.length) = false) := hJ (by rw [hn]; simpa using h200)
 clear hn
 go_enter Tryz.func8, Tryz.ntmps8
 go_wp2
 go_loopw [3] (fun iv wr => ∃ i : Nat, i ≤ n ∧ i ≤ 40 ∧ iv = .int .i64 i ∧ Ext w wr ∧ (l.take i).any zbR = false) (fun iv _ => n - (intOf iv).toNat)
 case atStart => exact ⟨0, by omega, by omega, rfl, Mod.refl _ w, by simp⟩
 obtain ⟨i, hin, hi40, rfl, hE, hs⟩ := hrel
 have Hs := hJ hs
 have h2 := h.mod hE (fun _ _ => id)
 have HE := hJ hE
 clear hs hE
 have hi0 : (0 : Int) ≤ (i : Int) := by omega
 by_cases hi : i < n
 rotate_left
 ·
  have Hf : Hid (xL l = false) := hJ (by
   have := Hs.out
   rw [List.take_of_length_le (by rw [Hn.out]; omega)] at this
   unfold xL; rw [List.take_of_length_le (by rw [Hn.out]; omega), this, Hd.out]; rfl)
  go_wp2
  go_ret
  exact ⟨zP Hf.out.symm, HE.out⟩
 by_cases hj : i < 40
 rotate_left
 ·
  have Hf : Hid (xL l = false) := hJ (by
   have h1 := Hs.out
   have : i = 40 := by omega
   subst this
   unfold xL; rw [h1, Hd.out]; rfl)
  go_wp2
  go_ret
  exact ⟨zP Hf.out.symm, HE.out⟩
 obtain ⟨g, off, x, rfl, hgT, hx, hxok, hcells⟩ := h2.at hi
 have hi1 : (i : Int) < (n : Int) := by omega
 have hld := jE (P := Tryz.prog) (g := g) (o := off + i * 15 + 3) (cs := x.a.h.cells x.sv x.lv) zA rfl (fun j u hu => by
  rw [Nat.add_assoc (off + i * 15)]
  have hj : j < 10 := (List.getElem?_eq_some_iff.1 hu).1
  have e : x.cells = [.int .i64 x.a.d, .int .i64 x.a.n, .int .i64 x.a.keep] ++ (x.a.h.cells x.sv x.lv ++ [x.ev, x.bv]) := rfl
  refine hcells (3 + j) u ?_
  rw [e, List.getElem?_append_right (by simp), show 3 + j - [Value.int .i64 x.a.d, .int .i64 x.a.n, .int .i64 x.a.keep].length = j by simp, List.getElem?_append_left hj]
  exact hu)
 have Hx := hJ hx
 have Hxo := hJ hxok
 have Hcells := hJ hcells
 clear hcells hx h2 hxok
 go_wp2_with (refine zG rfl 34 _ rfl _ _ rfl hld ?_)
 clear hld
 refine (zpL _ T x.a.h _ _ Hxo.out.2.2.2.2.1).mono ?_
 rintro e w1 ⟨rfl, hE1⟩
 have HE1 := hJ (HE.out.ext hE1)
 have Hxo1 := hJ (Hxo.out.mod hE1 (fun _ _ => id))
 have y13 := hE1.cell (Hcells.out 13 _ rfl) id
 have y14 := hE1.cell (Hcells.out 14 _ rfl) id
 clear hE1
 rcases g0 : jL x.a.h with _ | _
 rotate_left
 ·
  have Hf : Hid (xL l = true) := hJ (by
   unfold xL
   rw [zh9 (i := i) (x := x) (by rw [List.getElem?_take, if_pos hj, Hx.out]) (by unfold zbR; rw [g0]; rfl), Bool.or_true])
  clear g0
  go_wp2
  go_ret
  exact ⟨zP Hf.out.symm, HE1.out⟩
 have G0 := hJ g0
 clear g0
 go_wp2_with fail
 refine (zhE _ T _ x.a.l Hxo1.out.2.2.2.2.2.1).mono ?_
 rintro e w2 ⟨rfl, hE2⟩
 have HE2 := hJ (HE1.out.ext hE2)
 replace y14 := hE2.cell y14 id
 clear hE2 y13
 rcases g1 : jC x.a.l with _ | _
 rotate_left
 ·
  have Hf : Hid (xL l = true) := hJ (by
   unfold xL
   rw [zh9 (i := i) (x := x) (by rw [List.getElem?_take, if_pos hj, Hx.out]) (by unfold zbR; rw [g1, Bool.or_true]; rfl), Bool.or_true])
  clear g1
  go_wp2
  go_ret
  exact ⟨zP Hf.out.symm, HE2.out⟩
 have G1 := hJ g1
 clear g1
 obtain ⟨m, hm⟩ : ∃ m, x.a.b.length = m := ⟨_, rfl⟩
 obtain ⟨A2, c2, hbv⟩ := Hxo1.out.2.2.2.2.2.2.form
 have hbl := Hxo1.out.2.2.2.2.2.2.le
 unfold maxLen at hbl
 rw [hm] at hbv hbl
 rw [hbv] at y14
 by_cases h3 : 32768 < m
 ·
  have d3 : decide ((32768 : Int) < (m : Int)) = true := by simp; omega
  have Hf : Hid (xL l = true) := hJ (by
   unfold xL
   rw [zh9 (i := i) (x := x) (by rw [List.getElem?_take, if_pos hj, Hx.out]) (by unfold zbR; rw [hm, decide_eq_true h3, Bool.or_true]), Bool.or_true])
  clear hm hbv
  go_wp2
  go_ret
  exact ⟨zP Hf.out.symm, HE2.out⟩
 have d3 : decide ((32768 : Int) < (m : Int)) = false := by simp; omega
 have Hq : Hid (zbR x = false) := hJ (by unfold zbR; rw [G0.out, G1.out, hm]; simp; omega)
 clear hm hbv
 go_wp2
 exact ⟨⟨i + 1, by omega, by omega, by go_num, HE2.out, zd4 Hs.out Hx.out Hq.out⟩, by simp [intOf]; omega⟩
theorem zeQ.fit {g : zC} (h : zeQ g) : Fit g := ⟨h.2.1, h.2.2.1⟩
theorem zbA.ok.fit {w : World} {T : Nat → Prop} {x : zbA} (h : x.ok w T) : Fit x.a.h ∧ ∀ y ∈ x.a.l, y.ok := ⟨⟨h.2.2.2.2.1.2.2, h.2.2.2.1.2.2.2.2⟩, h.2.2.2.2.2.1.2⟩
theorem zqF : Str Tryz.prog 41 15 := ⟨⟨_, Tryz.underlying41⟩, by kernel_rfl⟩
theorem ze0 (y : zI) : xZ y y = true := by
 simp [xZ, jJ, zgT, zdB, xI, zgS, (zdA _ _).2 rfl]
theorem zk5 : ∀ l : List zI, zd3 l l = true := fun l => by
 induction l with
 | nil => rfl
 | cons a l ih =>
  show (xZ a a && eqL xZ l l) = true
  rw [ze0]
  exact ih
theorem zcG (h : zC) : za1 h h = true := by simp [za1, zk5, xI]
def atO (o : Option zI) : Ending := .returned (.tuple #[.agg (match o with | none => zE | some x => x.cells : List Value).toArray, .bool o.isSome])
theorem r8_at (w : World) (T : Nat → Prop) (h : zC) (As : Option Addr) (sl cs : Nat) (Al : Option Addr) (ll cl : Nat) (i : Int) (hv : zbJ w T (.slice Al ll cl) h.log) (hll : h.log.length = ll) (hl : ll ≤ 1000000) (hb0 : 0 ≤ h.base) (hb1 : h.base ≤ 1099511627776) :
  Calls Tryz.prog 81 #[.agg #[.int .i64 h.term, .int .i64 h.vote, .int .i64 h.base, .int .i64 h.baseTerm, .int .i64 h.conf.full, .int .i64 h.conf.wit, .int .i64 h.conf.learn, .int .i64 h.conf.learnWit, .slice As sl cs, .slice Al ll cl], .int .i64 i] w fun e w' => e = atO (atE h i) ∧ Ext w w' := by
 obtain ⟨W, hW⟩ : ∃ W, W = (w.alloc (.cells (h.cells (.slice As sl cs) (.slice Al ll cl)).toArray 34)).alloc (.cells zE.toArray 56) := ⟨_, rfl⟩
 obtain ⟨hA, hB, hsz⟩ := zaC w (.cells (h.cells (.slice As sl cs) (.slice Al ll cl)).toArray 34) (.cells zE.toArray 56)
 obtain ⟨b, hb⟩ : ∃ b, w.heap.size = b := ⟨_, rfl⟩
 rw [← hW, hb] at hA hB
 have hE : Ext w W := by rw [hW]; exact ((Mod.refl _ w).alloc _).alloc _
 have c2 : W.cell? ⟨b, 2, none⟩ = some (.int .i64 h.base) := zB (cs := (h.cells (.slice As sl cs) (.slice Al ll cl))) hA rfl
 have c9 : W.cell? ⟨b, 9, none⟩ = some (.slice Al ll cl) := zB (cs := (h.cells (.slice As sl cs) (.slice Al ll cl))) hA rfl
 have iw1 : IntKind.i64.wrap (h.base + (ll : Int)) = h.base + (ll : Int) := IntWalk.i64_in _ (by omega)
 have HW := hJ hW
 have HB := hJ hB
 have Hb := hJ hb
 have HE := hJ hE
 have Hll := hJ hll
 have Hv := hJ hv
 obtain ⟨R, hR⟩ : ∃ R, atE h i = R := ⟨_, rfl⟩
 rw [hR]
 have HR := hJ hR
 clear hA hB hb hE hll hv hR hsz
 rw [hW, ← Hb.out] at c2 c9
 clear hW
 by_cases h1 : i ≤ h.base
 ·
  have HRq : Hid (R = none) := hJ (by rw [← HR.out]; unfold atE; rw [if_pos (.inl h1)])
  go_enter Tryz.func81, Tryz.ntmps81
  go_wp2_with (rw [← HW.out, Hb.out]; refine zD rfl 56 _ _ rfl 16 (b + 1) 0 zE rfl rfl zM _ zE zE HB.out rfl (by simp) zmJ rfl ?_)
  intro w1 hb1 hm1 hs1
  have HX := hJ (HE.out.trans hm1 (fun k hk e => by have := Hb.out; omega))
  clear hm1 hs1
  go_wp2_with fail
  exact bodyPost_ret (zL rfl _ w1 (b + 1) _ _ zM rfl hb1 rfl) rfl ⟨by rw [HRq.out]; rfl, HX.out⟩
 by_cases h2 : h.base + (ll : Int) < i
 ·
  have HRq : Hid (R = none) := hJ (by rw [← HR.out]; unfold atE; rw [if_pos (.inr (by rw [Hll.out]; exact h2))])
  go_enter Tryz.func81, Tryz.ntmps81
  go_wp2_with (rw [← HW.out, Hb.out]; refine zD rfl 56 _ _ rfl 16 (b + 1) 0 zE rfl rfl zM _ zE zE HB.out rfl (by simp) zmJ rfl ?_)
  intro w1 hb1 hm1 hs1
  have HX := hJ (HE.out.trans hm1 (fun k hk e => by have := Hb.out; omega))
  clear hm1 hs1
  go_wp2_with fail
  exact bodyPost_ret (zL rfl _ w1 (b + 1) _ _ zM rfl hb1 rfl) rfl ⟨by rw [HRq.out]; rfl, HX.out⟩
 obtain ⟨k, hk⟩ : ∃ k, (i - h.base - 1).toNat = k := ⟨_, rfl⟩
 have hki : i - h.base - 1 = (k : Int) := by omega
 have hkl : k < ll := by omega
 obtain ⟨g1, o1, x, rfl, _, hx, hxok, hcx⟩ := (Hv.out.mod HE.out (fun _ _ => id)).at hkl
 have HRq : Hid (R = some x) := hJ (by rw [← HR.out]; unfold atE; rw [if_neg (by rw [Hll.out]; omega), hk]; exact hx)
 have hld := jE (P := Tryz.prog) (o := o1 + k * 16) (cs := x.cells) zM rfl hcx
 have iw2 : IntKind.i64.wrap (i - h.base) = i - h.base := IntWalk.i64_in _ (by omega)
 have iw3 : IntKind.i64.wrap (i - h.base - 1) = (k : Int) := by rw [IntWalk.i64_in _ (by omega)]; exact hki
 have j0 : (0 : Int) ≤ (k : Int) := by omega
 have j1 : (k : Int) < (ll : Int) := by omega
 have j2 : (1 : Int) ≤ i - h.base := by omega
 have j3 : i - h.base - 1 < (ll : Int) := by omega
 have hone := xX [x]
 have Hk := hJ hk
 clear hx hcx hki hk
 go_enter Tryz.func81, Tryz.ntmps81
 go_wp2_with (first | (rw [← HW.out, Hb.out]; first | (refine zG rfl 56 _ rfl _ _ rfl hld ?_) | (rw [Hk.out]; refine zG rfl 56 _ rfl _ _ rfl hld ?_)) | (refine zD rfl 56 _ _ rfl 16 (b + 1) 0 x.cells rfl rfl zM _ zE x.cells HB.out rfl (by simp) (by simpa using hone) rfl ?_))
 intro w1 hb1 hm1 hs1
 have HX := hJ (HE.out.trans hm1 (fun k hk e => by have := Hb.out; omega))
 clear hm1 hs1 hld
 go_wp2_with fail
 exact bodyPost_ret (zL rfl _ w1 (b + 1) _ _ zM rfl hb1 rfl) rfl ⟨by rw [HRq.out]; rfl, HX.out⟩
theorem zqG (w : World) (T : Nat → Prop) (h : zC) (As : Option Addr) (sl cs : Nat) (Al : Option Addr) (ll cl : Nat) (i : Int) (hv : zbJ w T (.slice Al ll cl) h.log) (hll : h.log.length = ll) (hl : ll ≤ 1000000) (hb0 : 0 ≤ h.base) (hb1 : h.base ≤ 1099511627776) :
  Calls Tryz.prog 80 #[.agg #[.int .i64 h.term, .int .i64 h.vote, .int .i64 h.base, .int .i64 h.baseTerm, .int .i64 h.conf.full, .int .i64 h.conf.wit, .int .i64 h.conf.learn, .int .i64 h.conf.learnWit, .slice As sl cs, .slice Al ll cl], .int .i64 i] w fun e w' => e = .returned (.int .i64 (zeC h i)) ∧ Ext w w' := by
 obtain ⟨W, hW⟩ : ∃ W, w.alloc (.cells (h.cells (.slice As sl cs) (.slice Al ll cl)).toArray 34) = W := ⟨_, rfl⟩
 have hE : Ext w W := by rw [← hW]; exact (Mod.refl _ w).alloc _
 have hA : W.heap[w.heap.size]? = some (.cells (h.cells (.slice As sl cs) (.slice Al ll cl)).toArray 34 (0, 0)) := by rw [← hW]; exact heap_alloc_new w _
 have hld := zF (P := Tryz.prog) (o := 0) (cs := h.cells (.slice As sl cs) (.slice Al ll cl)) zA hA rfl (fun j u hu => by rw [Nat.zero_add]; exact hu)
 have HW := hJ hW
 have HE := hJ hE
 have HvW := hJ (hv.mod hE (fun _ _ => id))
 obtain ⟨R, hR⟩ : ∃ R, zeC h i = R := ⟨_, rfl⟩
 rw [hR]
 have HR := hJ hR
 clear hW hE hA hR hv
 by_cases h1 : i = h.base
 ·
  have HRq : Hid (R = h.baseTerm) := hJ (by rw [← HR.out]; unfold zeC; rw [if_pos h1])
  have hb : (i == h.base) = true := by simpa using h1
  clear h1 hld
  go_enter Tryz.func80, Tryz.ntmps80
  go_wp2
  rw [HW.out]
  go_ret
  exact ⟨by rw [HRq.out]; rfl, HE.out⟩
 have hb : (i == h.base) = false := by simpa using h1
 have HRq : Hid (R = match atE h i with | none => -1 | some x => x.term) := hJ (by rw [← HR.out]; unfold zeC; rw [if_neg h1]; rfl)
 have Hll := hJ hll
 clear h1 hll
 go_enter Tryz.func80, Tryz.ntmps80
 go_wp2_with (rw [HW.out]; refine zG rfl 34 _ rfl _ _ rfl hld ?_)
 clear hld
 refine (r8_at W T h As sl cs Al ll cl i HvW.out Hll.out hl hb0 hb1).mono ?_
 rintro e w1 ⟨rfl, hX1⟩
 have HX1 := hJ (HE.out.ext hX1)
 obtain ⟨q, hq⟩ : ∃ q, w1.heap.size = q := ⟨_, rfl⟩
 have hz : (w1.alloc (.cells zE.toArray 56)).heap[q]? = some (.cells zE.toArray 56 (0, 0)) := by rw [← hq]; exact heap_alloc_new w1 _
 have Hq := hJ hq
 clear hX1 hq
 rcases hat : atE h i with _ | x
 ·
  have HRs : Hid (R = -1) := hJ (by rw [HRq.out, hat])
  unfold atO
  simp only [Option.isSome_none]
  clear hat HRq
  go_wp2_with (rw [Hq.out]; refine zD rfl 56 _ _ rfl 16 q 0 zE rfl rfl zM _ zE zE hz rfl (by simp) zmJ rfl ?_)
  intro w2 hb2 hm2 hs2
  have HX2 := hJ (HX1.out.ext (((Mod.refl (fun _ => False) w1).alloc (.cells zE.toArray 56)).trans hm2 (fun k hk e => by have := Hq.out; omega)))
  clear hm2 hs2 hz hb2
  go_wp2
  go_ret
  exact ⟨by rw [HRs.out]; rfl, HX2.out⟩
 have HRs : Hid (R = x.term) := hJ (by rw [HRq.out, hat])
 unfold atO
 simp only [Option.isSome_some]
 have hone := xX [x]
 clear hat HRq
 go_wp2_with (rw [Hq.out]; refine zD rfl 56 _ _ rfl 16 q 0 x.cells rfl rfl zM _ zE x.cells hz rfl (by simp) (by simpa using hone) rfl ?_)
 intro w2 hb2 hm2 hs2
 have HX2 := hJ (HX1.out.ext (((Mod.refl (fun _ => False) w1).alloc (.cells zE.toArray 56)).trans hm2 (fun k hk e => by have := Hq.out; omega)))
 have q0 : w2.cell? ⟨q, 0, none⟩ = some (.int .i64 x.term) := zB hb2 rfl
 clear hm2 hs2 hz hb2
 go_wp2
 go_ret
 exact ⟨by rw [HRs.out]; rfl, HX2.out⟩
theorem r8_force (w : World) (T : Nat → Prop) (h : zC) (As : Option Addr) (sl cs : Nat) (Al : Option Addr) (ll cl : Nat) (i : Int) (hv : zbJ w T (.slice Al ll cl) h.log) (hll : h.log.length = ll) (hl : ll ≤ 1000000) (hb0 : 0 ≤ h.base) (hb1 : h.base ≤ 1099511627776) :
  Calls Tryz.prog 82 #[.agg #[.int .i64 h.term, .int .i64 h.vote, .int .i64 h.base, .int .i64 h.baseTerm, .int .i64 h.conf.full, .int .i64 h.conf.wit, .int .i64 h.conf.learn, .int .i64 h.conf.learnWit, .slice As sl cs, .slice Al ll cl], .int .i64 i] w fun e w' => ∃ k : Int, e = .returned (.tuple #[.agg #[.int .i64 (zaM i h.base h.conf h.log).full, .int .i64 (zaM i h.base h.conf h.log).wit, .int .i64 (zaM i h.base h.conf h.log).learn, .int .i64 (zaM i h.base h.conf h.log).learnWit], .int .i64 k]) ∧ Ext w w' := by
 obtain ⟨W, hW⟩ : ∃ W, W = (w.alloc (.cells (h.cells (.slice As sl cs) (.slice Al ll cl)).toArray 34)).alloc (.cells #[.int .i64 0, .int .i64 0, .int .i64 0, .int .i64 0] 23) := ⟨_, rfl⟩
 obtain ⟨hA, hB, hsz⟩ := zaC w (.cells (h.cells (.slice As sl cs) (.slice Al ll cl)).toArray 34) (.cells #[.int .i64 0, .int .i64 0, .int .i64 0, .int .i64 0] 23)
 obtain ⟨b, hb⟩ : ∃ b, w.heap.size = b := ⟨_, rfl⟩
 rw [← hW, hb] at hA hB
 rw [← hW, hb] at hsz
 have hE : Ext w W := by rw [hW]; exact ((Mod.refl _ w).alloc _).alloc _
 obtain ⟨R, hR⟩ : ∃ R, zaM i h.base h.conf h.log = R := ⟨_, rfl⟩
 have hz : (W.alloc (.cells #[.int .i64 0, .int .i64 0, .int .i64 0, .int .i64 0] 23)).heap[b + 2]? = some (.cells #[.int .i64 0, .int .i64 0, .int .i64 0, .int .i64 0] 23 (0, 0)) := by rw [← hsz]; exact heap_alloc_new W _
 have c2 : W.cell? ⟨b, 2, none⟩ = some (.int .i64 h.base) := zB (cs := (h.cells (.slice As sl cs) (.slice Al ll cl))) hA rfl
 have hbl : b < W.heap.size := by omega
 have c4 : W.cell? ⟨b, 4, none⟩ = some (.int .i64 h.conf.full) := zB (cs := (h.cells (.slice As sl cs) (.slice Al ll cl))) hA rfl
 have c5 : W.cell? ⟨b, 5, none⟩ = some (.int .i64 h.conf.wit) := zB (cs := (h.cells (.slice As sl cs) (.slice Al ll cl))) hA rfl
 have c6 : W.cell? ⟨b, 6, none⟩ = some (.int .i64 h.conf.learn) := zB (cs := (h.cells (.slice As sl cs) (.slice Al ll cl))) hA rfl
 have c7 : W.cell? ⟨b, 7, none⟩ = some (.int .i64 h.conf.learnWit) := zB (cs := (h.cells (.slice As sl cs) (.slice Al ll cl))) hA rfl
 rw [hR]
 have HW := hJ hW
 have HA := hJ hA
 have HB := hJ hB
 have Hb := hJ hb
 have HE := hJ hE
 have Hsz := hJ hsz
 have Hll := hJ hll
 have Hv := hJ hv
 have HR := hJ hR
 clear hW hA hB hb hE hsz hll hv hR
 go_enter Tryz.func82, Tryz.ntmps82
 go_wp2_with fail
 rw [← HW.out, Hb.out]
 refine wp_region_held_drew (S := fun W' => Ext W W') (by kernel_rfl) (Mod.refl _ W).drew (fun hS => ?_)
 refine tkE 0 (some 9) rfl rfl ?_ hS ?_ ?_; rotate_left; · rintro W' _ _; go_simp; try rfl
 try simp only [pL]
 refine tkH 1 (some 10) rfl rfl (.agg ([.int .i64 h.conf.full, .int .i64 h.conf.wit, .int .i64 h.conf.learn, .int .i64 h.conf.learnWit] : List Value).toArray) hS ?_ ?_
 ·
  rintro W' hW'
  obtain ⟨hbc, hbf⟩ := zc3 hW'
  exact yD _ _ rfl (.pointer (some ⟨b, 4, none⟩)) _ rfl (zF (P := Tryz.prog) (o := 4) (cs := [.int .i64 h.conf.full, .int .i64 h.conf.wit, .int .i64 h.conf.learn, .int .i64 h.conf.learnWit]) xR (hW'.blk HA.out id) rfl (fun j u hu => by rcases j with _ | _ | _ | _ | j; exact hu; exact hu; exact hu; exact hu; simp at hu))
 try simp only [pL]
 iterate 2
  (first | refine tkJ 2 (some 11) rfl rfl ?_ hS ?_ ?_ | refine tkJ 3 (some 12) rfl rfl ?_ hS ?_ ?_); rotate_left; · rintro W' _ _; go_simp; try rfl
  try simp only [pL]
 refine xJ 4 rfl (fun K hK => ?_)
 go_simp
 refine hK.out _ _ (hS.alloc _) (fun hS => ?_)
 clear hK K
 try simp only [pL]
 refine xJ 5 rfl (fun K hK => ?_)
 rw [Hsz.out]
 refine jQ rfl 23 _ _ rfl 4 (b + 2) 0 [.int .i64 h.conf.full, .int .i64 h.conf.wit, .int .i64 h.conf.learn, .int .i64 h.conf.learnWit] rfl rfl xR _ [.int .i64 0, .int .i64 0, .int .i64 0, .int .i64 0] [.int .i64 h.conf.full, .int .i64 h.conf.wit, .int .i64 h.conf.learn, .int .i64 h.conf.learnWit] hz rfl (by simp) (List.all_eq_true.1 rfl) rfl ?_
 intro w1 hb1' hm1 hs1
 refine hK.out _ _ (hS.trans hm1 (fun k hk e => by have := Hsz.out; omega)) (fun hS => ?_)
 clear hK K
 try simp only [pL]
 refine tkE 6 (some 7) rfl rfl ?_ hS ?_ ?_; rotate_left; · rintro W' _ _; go_simp; try rfl
 try simp only [pL]
 refine wpAnyH_done (by kernel_rfl) ?_ _
 have hX1 : Ext W w1 := hS
 have HA1 := hJ (hX1.blk HA.out id)
 have HB1 := hJ (hX1.blk HB.out id)
 have HQ1 := hJ hb1'
 have HX1 := hJ (HE.out.ext hX1)
 clear hS hz hm1 hs1 hX1 hb1' c2 c4 c5 c6 c7
 go_wp2_with fail
 go_loopw [7, 8] (fun av iv wr => ∃ (n : Nat) (a : Int) (c : yF), n ≤ ll ∧ iv = .int .i64 n ∧ av = .int .i64 a ∧ wr.heap[b + 2]? = some (.cells #[.int .i64 c.full, .int .i64 c.wit, .int .i64 c.learn, .int .i64 c.learnWit] 23 (0, 0)) ∧ Mod (fun k => k = b + 2) w1 wr ∧ Hid (zaM i (h.base + (n : Int)) c (h.log.drop n) = R)) (fun _ iv _ => ll - (intOf iv).toNat)
 case atStart => exact ⟨0, h.base, h.conf, by omega, rfl, rfl, HQ1.out, Mod.refl _ w1, hJ (by rw [List.drop_zero]; simpa using HR.out)⟩
 obtain ⟨n, a, c, hn, rfl, rfl, hq, hm, HF⟩ := hrel
 have HQ := hJ hq
 have HM := hJ hm
 have hX : Ext w wr := HX1.out.trans hm (fun k hk e => by have := Hb.out; omega)
 have HX := hJ hX
 have hA2 := hm.blk HA1.out (by omega)
 have HA2 := hJ hA2
 have HB2 := hJ (hm.blk HB1.out (by omega))
 have c2 : wr.cell? ⟨b, 2, none⟩ = some (.int .i64 h.base) := zB (cs := (h.cells (.slice As sl cs) (.slice Al ll cl))) hA2 rfl
 have c9 : wr.cell? ⟨b, 9, none⟩ = some (.slice Al ll cl) := zB (cs := (h.cells (.slice As sl cs) (.slice Al ll cl))) hA2 rfl
 clear hq hm hX hA2
 by_cases hi : n < ll
 rotate_left
 ·
  have hld := zF (P := Tryz.prog) (o := 0) (cs := [.int .i64 c.full, .int .i64 c.wit, .int .i64 c.learn, .int .i64 c.learnWit]) xR HQ.out rfl (fun j u hu => by rw [Nat.zero_add]; exact hu)
  have Hf : Hid (R = c) := hJ (by rw [← HF.out, List.drop_of_length_le (by rw [Hll.out]; omega)]; rfl)
  clear c2
  go_wp2_with (first | (refine zG rfl 23 _ rfl _ _ rfl hld ?_) | (refine zD rfl 23 _ _ rfl 4 (b + 1) 0 [.int .i64 c.full, .int .i64 c.wit, .int .i64 c.learn, .int .i64 c.learnWit] rfl rfl xR _ [.int .i64 0, .int .i64 0, .int .i64 0, .int .i64 0] [.int .i64 c.full, .int .i64 c.wit, .int .i64 c.learn, .int .i64 c.learnWit] HB2.out rfl (by simp) (List.all_eq_true.1 rfl) rfl ?_))
  intro w3 hb3 hm3 hs3
  have HX3 := hJ (HX.out.trans hm3 (fun k hk e => by have := Hb.out; omega))
  clear hm3 hs3 hld
  go_wp2_with fail
  exact bodyPost_ret (zL rfl _ w3 (b + 1) _ _ xR rfl hb3 rfl) rfl ⟨a, by rw [Hf.out]; rfl, HX3.out⟩
 obtain ⟨gb, ob, x, rfl, _, hx, hxok, hcx⟩ := (Hv.out.mod HX.out (fun _ _ => id)).at hi
 have hi0 : (0 : Int) ≤ (n : Int) := by omega
 have hi1 : (n : Int) < (ll : Int) := by omega
 have iw1 : IntKind.i64.wrap (h.base + (n : Int)) = h.base + (n : Int) := IntWalk.i64_in _ (by omega)
 have iw2 : IntKind.i64.wrap (h.base + (n : Int) + 1) = h.base + (n : Int) + 1 := IntWalk.i64_in _ (by omega)
 have k1 := hcx 1 _ rfl
 have hd : h.log.drop n = x :: h.log.drop (n + 1) := by
  obtain ⟨h1, h2⟩ := List.getElem?_eq_some_iff.1 hx
  rw [List.drop_eq_getElem_cons h1, h2]
 have HD := hJ hd
 have HF2 : Hid (zaM i (h.base + ((n + 1 : Nat) : Int)) (if h.base + (n : Int) + 1 ≤ i ∧ x.kind = 2 then x.conf else c) (h.log.drop (n + 1)) = R) := hJ (by
  have h1 := HF.out
  rw [HD.out, zaM] at h1
  rw [← h1]
  congr 1
  omega)
 clear hx hxok hd
 by_cases g1 : h.base + (n : Int) + 1 ≤ i
 ·
  by_cases g2 : x.kind = 2
  ·
   have HF3 : Hid (zaM i (h.base + ((n + 1 : Nat) : Int)) x.conf (h.log.drop (n + 1)) = R) := hJ (by have h1 := HF2.out; rw [if_pos ⟨g1, g2⟩] at h1; exact h1)
   have HQd : Hid (wr.drew.heap[b + 2]? = some (.cells #[.int .i64 c.full, .int .i64 c.wit, .int .i64 c.learn, .int .i64 c.learnWit] 23 (0, 0))) := HQ
   have hbn : ¬ b = b + 2 := by omega
   have hgn : ¬ gb = b + 2 := by
    obtain ⟨g', o', x', e, _, _, _, hc'⟩ := Hv.out.at hi
    injection e with e
    injection e with e1 e2
    have h9 : g' < w.heap.size := World.block_lt_of_cell? _ _ (hc' 0 _ rfl)
    have := Hb.out
    omega
   have hHc : ∀ j u, ([.int .i64 x.conf.full, .int .i64 x.conf.wit, .int .i64 x.conf.learn, .int .i64 x.conf.learnWit] : List Value)[j]? = some u → wr.cell? ⟨gb, ob + n * 16 + 12 + j, none⟩ = some u := fun j u hu => by
    rcases j with _ | _ | _ | _ | j
    · exact hcx 12 u hu
    · exact hcx 13 u hu
    · exact hcx 14 u hu
    · exact hcx 15 u hu
    simp at hu
   have g3 : (x.kind == 2) = true := by simpa using g2
   clear hcx
   go_wp2_with fail
   refine wp_region_held_drew (S := fun W' => Mod (fun k => k = b + 2) wr W') (by kernel_rfl) (Mod.refl _ wr).drew (fun hS => ?_)
   iterate 5
    first | refine tkI 0 (some 36) rfl rfl ?_ hS ?_ ?_ | refine tkI 1 (some 37) rfl rfl ?_ hS ?_ ?_ | refine tkI 2 (some 38) rfl rfl ?_ hS ?_ ?_ | refine tkI 3 (some 39) rfl rfl ?_ hS ?_ ?_ | refine tkI 4 (some 40) rfl rfl ?_ hS ?_ ?_
    rotate_left
    · rintro W' hW'
      have q2 := hW'.cell c2 hbn
      have q9 := hW'.cell c9 hbn
      go_simp
      try rfl
    try simp only [pL]
   refine tkH 5 (some 41) rfl rfl (.agg ([.int .i64 x.conf.full, .int .i64 x.conf.wit, .int .i64 x.conf.learn, .int .i64 x.conf.learnWit] : List Value).toArray) hS ?_ ?_
   · rintro W' hW'
     have q2 := hW'.cell c2 hbn
     have q9 := hW'.cell c9 hbn
     exact yD _ _ rfl (.pointer (some ⟨gb, ob + n * 16 + 12, none⟩)) _ rfl (jE xR rfl (fun j u hu => hW'.cell (hHc j u hu) hgn))
   try simp only [pL]
   iterate 5
    first | refine tkI 6 (some 42) rfl rfl ?_ hS ?_ ?_ | refine tkI 7 (some 43) rfl rfl ?_ hS ?_ ?_ | refine tkI 8 (some 44) rfl rfl ?_ hS ?_ ?_ | refine tkI 9 (some 45) rfl rfl ?_ hS ?_ ?_ | refine tkI 10 (some 46) rfl rfl ?_ hS ?_ ?_
    rotate_left
    · rintro W' hW'
      have q2 := hW'.cell c2 hbn
      have q9 := hW'.cell c9 hbn
      go_simp
      try rfl
    try simp only [pL]
   refine xJ 11 rfl (fun K hK => ?_)
   refine jQ rfl 23 _ _ rfl 4 (b + 2) 0 [.int .i64 x.conf.full, .int .i64 x.conf.wit, .int .i64 x.conf.learn, .int .i64 x.conf.learnWit] rfl rfl xR _ [.int .i64 c.full, .int .i64 c.wit, .int .i64 c.learn, .int .i64 c.learnWit] [.int .i64 x.conf.full, .int .i64 x.conf.wit, .int .i64 x.conf.learn, .int .i64 x.conf.learnWit] HQd.out rfl (by simp) (List.all_eq_true.1 rfl) rfl ?_
   intro w3 hb3 hm3 hs3
   refine hK.out _ _ ((Mod.self (Mod.drew (Mod.refl _ wr)) hm3)) (fun hS => ?_)
   clear hK K
   try simp only [pL]
   refine tkH 12 (some 7) rfl rfl ?_ hS ?_ ?_
   rotate_left
   ·
    rintro W' hW'
    have q2 := hW'.cell c2 hbn
    have q9 := hW'.cell c9 hbn
    go_simp
    try rfl
   try simp only [pL]
   refine wpAnyH_done (by kernel_rfl) ?_ _
   have HQ3 := hJ hb3
   have HM3 := hJ (HM.out.self (Mod.self (Mod.drew (Mod.refl _ wr)) hm3))
   clear hb3 hm3 hs3 hS hHc c2 c9 k1
   go_wp2_with fail
   exact ⟨⟨n + 1, _, x.conf, by omega, by go_num, rfl, HQ3.out, HM3.out, HF3⟩, by simp [intOf]; omega⟩
  have HF3 : Hid (zaM i (h.base + ((n + 1 : Nat) : Int)) c (h.log.drop (n + 1)) = R) := hJ (by have h1 := HF2.out; rw [if_neg (fun e => g2 e.2)] at h1; exact h1)
  have g3 : (x.kind == 2) = false := by simpa using g2
  clear hcx
  go_wp2_with fail
  exact ⟨⟨n + 1, _, c, by omega, by go_num, rfl, HQ.out, HM.out, HF3⟩, by simp [intOf]; omega⟩
 have HF3 : Hid (zaM i (h.base + ((n + 1 : Nat) : Int)) c (h.log.drop (n + 1)) = R) := hJ (by have h1 := HF2.out; rw [if_neg (fun e => g1 e.1)] at h1; exact h1)
 clear hcx
 go_wp2_with fail
 exact ⟨⟨n + 1, _, c, by omega, by go_num, rfl, HQ.out, HM.out, HF3⟩, by simp [intOf]; omega⟩
end Go.Proofs.YtjhnlncgmejkcaaGreat
