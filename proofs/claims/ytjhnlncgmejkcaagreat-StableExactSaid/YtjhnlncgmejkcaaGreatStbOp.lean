/-
 Contracts of stable's Hard and Open (printed by stbop.py). Conditions: as each theorem names them.
-/
import Derived.Test.YtjhnlncgmejkcaaGreatS22
set_option maxRecDepth 100000
set_option maxHeartbeats 2000000
namespace Go.Proofs.YtjhnlncgmejkcaaGreat
set_option linter.unusedSimpArgs false
open Go.RowKit
abbrev yX (d : Nat) (g : zC) (gs gl : Value) : List Value := .pointer (some ⟨d, 0, none⟩) :: g.cells gs gl
theorem StB.ld {w : World} {s d : Nat} {g : zC} {gs gl : Value} (h : StB w s d g gs gl) : (Instr.loadAt 34 (.pointer (some ⟨s, 1, none⟩))).run Tryz.prog w = .ok (.agg (g.cells gs gl).toArray) w :=
 zF (P := Tryz.prog) (o := 1) (cs := g.cells gs gl) zA h rfl (fun j u hu => by rw [Nat.add_comm]; exact hu)
theorem StB.c0 {w : World} {s d : Nat} {g : zC} {gs gl : Value} (h : StB w s d g gs gl) : w.cell? ⟨s, 0, none⟩ = some (.pointer (some ⟨d, 0, none⟩)) := zB (cs := yX d g gs gl) h rfl
theorem zmF (b : List UInt8) : (∀ p ∈ (yY b).1, p.length ≤ 16384) ∧ (yY b).1.length ≤ b.length := by
 obtain ⟨n, hn⟩ : ∃ n, b.length = n := ⟨_, rfl⟩
 induction n using Nat.strongRecOn generalizing b with
 | _ n ih =>
  rcases h : xD b with _ | ⟨p, m⟩
  · rw [zb2 h]; exact ⟨by simp, by simp⟩
  obtain ⟨h1, h2, h3⟩ := zaT h
  rw [zb3 h]
  have := ih (b.drop m).length (by rw [List.length_drop]; omega) (b.drop m) rfl
  refine ⟨fun q hq => ?_, ?_⟩
  ·
   rcases List.mem_cons.1 hq with rfl | hq
   · exact h3
   exact this.1 q hq
  have h4 := this.2
  simp only [List.length_cons, List.length_drop] at h4 ⊢
  omega
theorem zgI (w : World) (T : Nat → Prop) (s d : Nat) (g : zC) (gs gl : Value) (hS : StB w s d g gs gl) (hv : zY w T gs gl g) (hl : g.log.length ≤ 1000000) (hsl : g.snap.length ≤ 1000000) :
  Calls Tryz.prog 15 #[.pointer (some ⟨s, 0, none⟩)] w fun e w' => ∃ sv lv, e = .returned (.agg (g.cells sv lv).toArray) ∧ jP w w' sv lv g ∧ Ext w w' := by
 obtain ⟨W, hW⟩ : ∃ W, w.alloc (.cells zH.toArray 34) = W := ⟨_, rfl⟩
 have hE : Ext w W := by rw [← hW]; exact (Mod.refl _ w).alloc _
 have hA : W.heap[w.heap.size]? = some (.cells zH.toArray 34 (0, 0)) := by rw [← hW]; exact heap_alloc_new w _
 have hld := StB.ld (hE.blk hS id)
 have hv1 := hv.mod hE (fun _ _ => id)
 have HW := hJ hW
 have HE := hJ hE
 have HA := hJ hA
 have Hv1 := hJ hv1
 clear hW hE hA hS hv hv1
 go_enter Tryz.func15, Tryz.ntmps15
 go_wp2_with (rw [HW.out]; refine zG rfl 34 _ rfl _ _ rfl hld ?_)
 clear hld
 refine (zkR W T g gs gl Hv1.out hl hsl).mono ?_
 rintro e w1 ⟨sv, lv, rfl, hN1, hE1⟩
 have HA1 := hJ (hE1.blk HA.out id)
 have HE1 := hJ (HE.out.ext hE1)
 have HN1 := hJ (hN1.up HE.out)
 have hone := xK hN1
 clear hN1 hE1
 go_wp2_with (refine zD rfl 34 _ _ rfl 10 w.heap.size 0 (g.cells sv lv) rfl rfl zA _ zH (g.cells sv lv) HA1.out rfl (by simp) hone rfl ?_)
 intro w5 hb5 hm5 hs5
 have HE5 := hJ (HE1.out.trans hm5 (fun k hk e => by omega))
 have HN5 := hJ (HN1.out.box HA1.out hm5 (by decide) (by decide))
 clear hm5 hs5
 go_wp2_with fail
 exact bodyPost_ret (v := .agg (g.cells sv lv).toArray) (results_cell_row rfl _ _ _ _ _ (0, 0) _ rfl hb5 Tryz.underlying34 rfl (by kernel_rfl)) rfl ⟨_, _, rfl, HN5.out, HE5.out⟩
def zgX (w : World) (d : Nat) (fv : Value) (R : zJ × Option zC × Int) (e : Ending) (w' : World) : Prop := ∃ fv', Dsk w' d fv' R.1 ∧ Mod (fun k => k = d ∨ fv.ownBlock = some k) w w' ∧ (∀ g, fv'.ownBlock = some g → fv.ownBlock = some g ∨ w.heap.size ≤ g) ∧
 match R.2.1 with
 | none => e = .returned (.tuple #[.pointer none, .int .i64 R.2.2]) ∧ R.2.2 ≠ 0
 | some g => ∃ s gs gl, e = .returned (.tuple #[.pointer (some ⟨s, 0, none⟩), .int .i64 R.2.2]) ∧ R.2.2 = 0 ∧ StB w' s d g gs gl ∧ jP w w' gs gl g ∧ (∀ k, gs.ownBlock = some k → fv'.ownBlock ≠ some k) ∧ w.heap.size ≤ s
theorem zgX.no {w : World} {d : Nat} {fv : Value} {D : zJ} {R : zJ × Option zC × Int} {e : Ending} {w' : World} {c : Int} (hR : R = (D, none, c)) (hM : DM w d fv D w') (he : e = .returned (.tuple #[.pointer none, .int .i64 c])) (hc : c ≠ 0) : zgX w d fv R e w' := by
 subst hR
 obtain ⟨fv', h1, h2, h3⟩ := hM
 exact ⟨fv', h1, h2, h3, he, hc⟩
theorem zaR {w : World} {e : TypeId} {k n g : Nat} {v : Value} {xs : List Value} (h : w.ownsRow 0 e k v n xs) (hg : v.ownBlock = some g) : g < w.heap.size := by
 rcases zbB h with ⟨rfl, _⟩ | ⟨g', cap, cur, rfl, hR, _⟩
 · simp [Value.ownBlock] at hg
 simp [Value.ownBlock] at hg
 subst hg
 exact (Array.getElem?_eq_some_iff.1 hR).1
theorem ziG {w W4 w5 : World} {s d : Nat} {fv gs gl : Value} {D D' : zJ} {g : zC} {c : Int} (hs : w.heap.size ≤ s) (hS : StB W4 s d g gs gl) (hN : jP w W4 gs gl g) (hX : Ext w W4) (hD : Dsk w d fv D) (hM : DM W4 d fv D' w5) :
  zgX w d fv (D', if c = 0 then some g else none, c) (.returned (.tuple #[if c = 0 then .pointer (some ⟨s, 0, none⟩) else .pointer none, .int .i64 c])) w5 := by
 have hdl := hD.lt
 have hfl : ∀ k, fv.ownBlock = some k → k < w.heap.size := fun k hk => zaR hD.2.1 hk
 obtain ⟨fv', h1, h2, h3⟩ := DM.trans (Ext.mod hX _) (fun g hg => .inl hg) hM
 obtain ⟨fv2, k1, k2, k3⟩ := hM
 refine ⟨fv2, k1, (Ext.mod hX _).trans k2 (fun i hi e => e), fun g hg => ?_, ?_⟩
 ·
  rcases k3 g hg with e | e
  · exact .inl e
  exact .inr (Nat.le_trans hX.size e)
 by_cases hc : c = 0
 ·
  subst hc
  simp only [if_true]
  refine ⟨s, gs, gl, by simp, by simp, k2.blk hS (fun e => ?_), hN.mod k2 (fun k hk e => ?_) (fun k hk e => ?_), fun k hk e => ?_, hs⟩
  ·
   rcases e with e | e
   · omega
   have := hfl s e; omega
  ·
   have h4 := hN.1.2 k hk
   rcases e with e | e
   · omega
   have := hfl k e; omega
  ·
   have h4 := hN.2.2.2 k hk
   rcases e with e | e
   · omega
   have := hfl k e; omega
  have h4 := hN.1.2 k hk
  have h5 := zaR hN.1.1 hk
  rcases k3 k e with h6 | h6
  · have := hfl k h6; omega
  omega
 simp only [if_neg hc]
 exact ⟨by simp, hc⟩
theorem zmG {w : World} {d : Nat} {fv : Value} {D : zJ} (h : Dsk w d fv D) : D.file.length ≤ 65536 := by
 have h1 := h.2.2
 unfold zJ.ok at h1
 omega
theorem zk2 (w : World) (T : Nat → Prop) (d : Nat) (fi : zC) (sv lv fv : Value) (D : zJ) (hD : Dsk w d fv D) (hv : zY w T sv lv fi) (hl : fi.log.length ≤ 12700) :
  Calls Tryz.prog 12 #[.pointer (some ⟨d, 0, none⟩), .agg #[.int .i64 fi.term, .int .i64 fi.vote, .int .i64 fi.base, .int .i64 fi.baseTerm, .int .i64 fi.conf.full, .int .i64 fi.conf.wit, .int .i64 fi.conf.learn, .int .i64 fi.conf.learnWit, sv, lv]] w (zgX w d fv (yW D fi)) := by
 obtain ⟨W, hW⟩ : ∃ W, w.alloc (.cells (fi.cells sv lv).toArray 34) = W := ⟨_, rfl⟩
 have hE : Ext w W := by rw [← hW]; exact (Mod.refl _ w).alloc _
 have hA : W.heap[w.heap.size]? = some (.cells (fi.cells sv lv).toArray 34 (0, 0)) := by rw [← hW]; exact heap_alloc_new w _
 obtain ⟨b, hb⟩ : ∃ b, w.heap.size = b := ⟨_, rfl⟩
 rw [hb] at hA
 have HW := hJ hW
 have HE := hJ hE
 have HA := hJ hA
 have HD := hJ hD
 have Hb := hJ hb
 have Hv := hJ hv
 have hll : fi.log.length ≤ 1000000 := by omega
 have hfl := zmG hD
 have Hl := hJ hl
 have Hll := hJ hll
 have Hfl := hJ hfl
 have hfo := hv.forms
 clear hW hE hA hD hb hv hl hll hfl
 obtain ⟨As, cs, Al, cl, rfl, rfl⟩ := hfo
 obtain ⟨sl, hsl⟩ : ∃ n, fi.snap.length = n := ⟨_, rfl⟩
 obtain ⟨ll, hll⟩ : ∃ n, fi.log.length = n := ⟨_, rfl⟩
 have Hsl := hJ hsl
 have Hle := hJ hll
 rw [hsl, hll] at Hv HW HA ⊢
 clear hsl hll
 rcases hoff : D.off with _ | _
 rotate_left
 ·
  have Hp : Hid (yW D fi = (D, none, 4)) := hJ (by unfold yW; rw [hoff]; rfl)
  have Hoff := hJ hoff
  clear hoff
  go_enter Tryz.func12, Tryz.ntmps12
  go_wp2_with fail
  rw [HW.out]
  refine (znC W d fv D (HD.out.ext HE.out) Hoff.out).mono ?_
  rintro e w1 ⟨rfl, rfl⟩
  go_wp2
  go_ret2
  exact zgX.no Hp.out (DM.same HD.out HE.out) rfl (by decide)
 go_enter Tryz.func12, Tryz.ntmps12
 go_wp2_with fail
 rw [HW.out, Hb.out]
 refine (d_read W d fv D (HD.out.ext HE.out) hoff).mono ?_
 rintro e w1 ⟨v1, rfl, hN1, hX1⟩
 have HA1 := hJ (hX1.blk HA.out id)
 have HX1 := hJ (HE.out.ext hX1)
 obtain ⟨A1, c1, rfl⟩ := zN hN1.1
 obtain ⟨n, hn⟩ : ∃ n, D.file.length = n := ⟨_, rfl⟩
 have hfb := hN1
 rw [hn] at hfb Hfl ⊢
 have Hn := hJ hn
 have Hfb := hJ hfb
 have Hoff := hJ hoff
 clear hN1 hX1 hn hfb hoff
 have hld := zF (P := Tryz.prog) (o := 0) (cs := fi.cells (.slice As sl cs) (.slice Al ll cl)) zA HA1.out rfl (fun j u hu => by rw [Nat.zero_add]; exact hu)
 go_wp2_with (refine zG rfl 34 _ rfl _ _ rfl hld ?_)
 clear hld
 refine (za2 w1 T fi _ _ (Hv.out.mod HX1.out (fun _ _ => id)) Hll.out).mono ?_
 rintro e w2 ⟨rfl, hX2⟩
 have HA2 := hJ (hX2.blk HA1.out id)
 have HX2 := hJ (HX1.out.ext hX2)
 have Hfb2 := hJ (Hfb.out.ext hX2)
 clear hX2 HA1 Hfb
 rcases hck : yG fi with _ | _
 ·
  have Hp : Hid (yW D fi = (D, none, 6)) := hJ (by unfold yW; rw [Hoff.out, hck]; rfl)
  clear hck
  rw [if_neg (by simp)]
  go_wp2
  go_ret2
  exact zgX.no Hp.out (DM.same HD.out HX2.out) rfl (by decide)
 rw [if_pos rfl]
 have hri := (yI fi).1 hck
 have hld := zF (P := Tryz.prog) (o := 0) (cs := fi.cells (.slice As sl cs) (.slice Al ll cl)) zA HA2.out rfl (fun j u hu => by rw [Nat.zero_add]; exact hu)
 have Hck := hJ hck
 clear hck
 go_wp2_with (refine zG rfl 34 _ rfl _ _ rfl hld ?_)
 clear hld
 refine (zkR w2 T fi _ _ (Hv.out.mod HX2.out (fun _ _ => id)) Hll.out (by have := hri.s; omega)).mono ?_
 rintro e w3 ⟨gs, gl, rfl, hN3, hX3⟩
 have HA3 := hJ (hX3.blk HA2.out id)
 have HX3 := hJ (HX2.out.ext hX3)
 have Hfb3 := hJ (Hfb2.out.ext hX3)
 have HN3 := hJ (hN3.up HX2.out)
 clear hX3 hN3 HA2 Hfb2
 obtain ⟨s, hs⟩ : ∃ s, w3.heap.size = s := ⟨_, rfl⟩
 obtain ⟨W4, hW4⟩ : ∃ W4, w3.alloc (.cells #[.pointer (some ⟨d, 0, none⟩), .int .i64 fi.term, .int .i64 fi.vote, .int .i64 fi.base, .int .i64 fi.baseTerm, .int .i64 fi.conf.full, .int .i64 fi.conf.wit, .int .i64 fi.conf.learn, .int .i64 fi.conf.learnWit, gs, gl] 88) = W4 := ⟨_, rfl⟩
 have hE4 : Ext w3 W4 := by rw [← hW4]; exact (Mod.refl _ w3).alloc _
 have hS4 : StB W4 s d fi gs gl := by unfold StB; rw [← hW4, ← hs]; exact heap_alloc_new w3 _
 have HA4 := hJ (hE4.blk HA3.out id)
 have HX4 := hJ (HX3.out.ext hE4)
 have HN4 := hJ (HN3.out.ext hE4)
 have Hfb4 := hJ (Hfb3.out.ext hE4)
 have Hsw : Hid (w.heap.size ≤ s) := hJ (by rw [← hs]; exact HX3.out.size)
 have HS4 := hJ hS4
 have Hs := hJ hs
 have HW4 := hJ hW4
 clear hs hW4 hE4 hS4 HA3 HX3 HN3 Hfb3
 have hld := zF (P := Tryz.prog) (o := 0) (cs := fi.cells (.slice As sl cs) (.slice Al ll cl)) zA HA4.out rfl (fun j u hu => by rw [Nat.zero_add]; exact hu)
 by_cases hn0 : n = 0
 ·
  have hp : yW D fi = ((xG D fi).1, if (xG D fi).2 = 0 then some fi else none, (xG D fi).2) := by
   unfold yW
   rw [Hoff.out, Hck.out, if_neg (by simp), if_neg (by simp), if_pos (by rw [Hn.out]; exact hn0)]
  have Hp := hJ hp
  clear hp
  subst hn0
  go_wp2_with (rw [HW4.out, Hs.out]; refine zG rfl 34 _ rfl _ _ rfl hld ?_)
  clear hld
  refine (zkT W4 T s d fi fi gs gl _ _ fv D HS4.out (HD.out.ext HX4.out) (Hv.out.mod HX4.out (fun _ _ => id)) hri Hl.out).mono ?_
  rintro e w5 ⟨rfl, hM5⟩
  have HF := hJ (ziG (c := (xG D fi).2) Hsw.out HS4.out HN4.out HX4.out HD.out hM5)
  clear hM5
  obtain ⟨cd, hcd⟩ : ∃ cd, (xG D fi).2 = cd := ⟨_, rfl⟩
  rw [hcd] at HF Hp ⊢
  clear hcd
  go_wp2_with fail
  refine (zf9 w5 _ cd).mono ?_
  rintro e w6 ⟨rfl, rfl⟩
  by_cases hc0 : cd = 0
  focus
   have HF2 := HF.out
   have Hp2 := Hp.out
   rw [if_pos hc0] at HF2 Hp2 ⊢
   rw [if_pos hc0] at HF2
  rotate_left
  focus
   have HF2 := HF.out
   have Hp2 := Hp.out
   rw [if_neg hc0] at HF2 Hp2 ⊢
   rw [if_neg hc0] at HF2
  all_goals
   have HF3 := hJ HF2
   have Hp3 := hJ Hp2
   clear HF2 Hp2 hc0
   go_wp2
   go_ret2
   rw [Hp3.out]
   exact HF3.out
 clear hld
 have hnz : ((n : Int) == 0) = false := by simp; omega
 have hnz2 : (n == 0) = false := by simp; omega
 have hp0 : yW D fi = match za6 (yY D.file).1 with
   | none => (D, none, 6)
   | some h => if (yY D.file).2 < D.file.length then ((D.replace (D.file.take (yY D.file).2)).1, if (D.replace (D.file.take (yY D.file).2)).2 = 0 then some h else none, (D.replace (D.file.take (yY D.file).2)).2) else (D, some h, 0) := by
  unfold yW
  rw [Hoff.out, Hck.out, if_neg (by simp), if_neg (by simp), if_neg (by rw [Hn.out]; exact hn0)]
  rfl
 have Hp0 := hJ hp0
 clear hp0
 have HB4 : Hid (Byt W4 (zZ W.heap.size) (.slice A1 n c1) D.file) := hJ (yO.sl (w := W) Hfb4.out)
 go_wp2_with fail
 rw [HW4.out, Hs.out]
 refine (fr_scan W4 _ A1 n c1 D.file HB4.out Hn.out (by have := Hfl.out; omega)).mono ?_
 rintro e w5 ⟨v5, xs, rfl, hB5, hX5⟩
 obtain ⟨A5, c5, rfl⟩ := zN hB5.1
 obtain ⟨m, hm⟩ : ∃ m, (yY D.file).1.length = m := ⟨_, rfl⟩
 obtain ⟨k, hk⟩ : ∃ k, (yY D.file).2 = k := ⟨_, rfl⟩
 have hsa := zmF D.file
 have hkn : k ≤ n := by rw [← hk, ← Hn.out]; exact zkC _
 have hmn : m ≤ 100000 := by have h1 := hsa.2; rw [hm, Hn.out] at h1; have := Hfl.out; omega
 rw [hm] at hB5 ⊢
 rw [hk] at Hp0 ⊢
 have HB5 : Hid (zd2 W4 w5 (.slice A5 m c5) xs (yY D.file).1) := hJ hB5
 have HA5 := hJ (hX5.blk HA4.out id)
 have HS5 : Hid (StB w5 s d fi gs gl) := hJ (hX5.blk HS4.out id)
 have HX5 := hJ (HX4.out.ext hX5)
 have HN5 := hJ (HN4.out.ext hX5)
 have Hfb5 := hJ (Hfb4.out.ext hX5)
 have Hm := hJ hm
 have Hsa := hJ hsa.1
 clear hX5 hB5 hm hk hsa
 go_wp2_with fail
 refine (st_made w5 W4 A5 m c5 xs _ HB5.out Hm.out hmn (fun p hp => by have := Hsa.out p hp; omega)).mono ?_
 rintro e w6 ⟨hX6, hO6⟩
 have HS6 : Hid (StB w6 s d fi gs gl) := hJ (hX6.blk HS5.out id)
 have HX6 := hJ (HX5.out.ext hX6)
 have Hfb6 := hJ (Hfb5.out.ext hX6)
 have hX56 := hX6
 obtain ⟨q, hq⟩ : ∃ q, w6.heap.size = q := ⟨_, rfl⟩
 have hsq : s < q := by rw [← hq]; exact (Array.getElem?_eq_some_iff.1 HS6.out).1
 have hz : (w6.alloc (.cells zH.toArray 34)).heap[w6.heap.size]? = some (.cells zH.toArray 34 (0, 0)) := heap_alloc_new w6 _
 rw [hq] at hz
 have Hq := hJ hq
 rcases hmd : za6 (yY D.file).1 with _ | h
 ·
  rw [hmd] at hO6
  obtain ⟨cs6, hc6, hone6, rfl⟩ := hO6
  have Hp : Hid (yW D fi = (D, none, 6)) := hJ (by rw [Hp0.out, hmd])
  clear hmd hX6 hX56 hq
  go_wp2_with (rw [Hq.out]; refine zD rfl 34 _ _ rfl 10 q 0 cs6 rfl rfl zA _ zH cs6 hz hc6 (by simp) hone6 (by unfold put; simp [hc6]) ?_)
  intro w7 hb7 hm7 hs7
  have HX7 := hJ (HX6.out.ext (((Mod.refl (fun _ => False) w6).alloc (.cells zH.toArray 34)).trans hm7 (fun k hk e => by have := Hq.out; omega)))
  clear hb7 hm7 hs7
  go_wp2
  go_ret2
  exact zgX.no Hp.out (DM.same HD.out HX7.out) rfl (by decide)
 rw [hmd] at hO6
 obtain ⟨hsv, hlv, rfl, hN6⟩ := hO6
 have hone := xK hN6
 have HN6 : Hid (jP w w6 hsv hlv h) := hJ (hN6.up HX5.out)
 have Hp : Hid (yW D fi = if k < n then ((D.replace (D.file.take k)).1, if (D.replace (D.file.take k)).2 = 0 then some h else none, (D.replace (D.file.take k)).2) else (D, some h, 0)) := hJ (by rw [Hp0.out, hmd]; simp only; rw [Hn.out])
 clear hmd hX6 hX56 hq hN6 Hp0
 go_wp2_with (rw [Hq.out]; refine zD rfl 34 _ _ rfl 10 q 0 (h.cells hsv hlv) rfl rfl zA _ zH (h.cells hsv hlv) hz rfl (by simp) hone rfl ?_)
 intro w7 hb7 hm7 hs7
 have hX67 : Ext w6 w7 := ((Mod.refl (fun _ => False) w6).alloc (.cells zH.toArray 34)).trans hm7 (fun k hk e => by have := Hq.out; omega)
 have HS7 : Hid (StB w7 s d fi gs gl) := hJ (hX67.blk HS6.out id)
 have HX7 := hJ (HX6.out.ext hX67)
 have HN7 := hJ (HN6.out.ext hX67)
 have Hfb7 := hJ (Hfb6.out.ext hX67)
 have hld := zF (P := Tryz.prog) (o := 0) (cs := h.cells hsv hlv) zA hb7 rfl (fun j u hu => by rw [Nat.zero_add]; exact hu)
 clear hz hm7 hs7 hX67 hb7
 go_wp2_with (first | (refine zG rfl 34 _ rfl _ _ rfl hld ?_) | (refine zD rfl 34 _ _ rfl 10 s 1 (h.cells hsv hlv) rfl rfl zA _ (yX d fi gs gl) (yX d h hsv hlv) HS7.out rfl (by simp) hone rfl ?_))
 intro w8 hb8 hm8 hs8
 have HS8 : Hid (StB w8 s d h hsv hlv) := hJ hb8
 have HX8 := hJ (HX7.out.trans hm8 (fun k hk e => by have := Hsw.out; omega))
 have HN8 := hJ (HN7.out.box HS7.out hm8 (by decide) (by decide))
 have hnb8 : yO W w8 (.slice A1 n c1) D.file := ⟨zU Hfb7.out.1 hm8 (fun g hg => zT Hfb7.out.1 hg HS7.out (by decide)), Hfb7.out.2⟩
 have hb8s : Byt w8 (zZ W.heap.size) (.slice A1 n c1) D.file := yO.sl (w := W) hnb8
 obtain ⟨_, hnc1, _, _⟩ := qE hb8s
 have hbk : Byt w8 (zZ W.heap.size) (.slice A1 k c1) (D.file.take k) := by
  have h1 : Sl w8 (zZ W.heap.size) 1 (.slice A1 n c1) n (D.file.map B) := by unfold Byt at hb8s; rw [Hn.out] at hb8s; exact hb8s
  have h2 := Sl.upto h1 (m := k) hkn
  rw [Nat.mul_one, ← List.map_take] at h2
  unfold Byt
  rw [List.length_take, Hn.out, Nat.min_eq_left hkn]
  exact h2
 have Hbk := hJ hbk
 clear hld hb8 hm8 hs8 hnb8 hb8s hbk
 by_cases hkl : k < n
 ·
  have hd : decide ((k : Int) < (n : Int)) = true := decide_eq_true (by omega)
  have hd2 : decide (k < n) = true := decide_eq_true hkl
  have k0 : (0 : Int) ≤ (k : Int) := by omega
  have k1 : (k : Int) ≤ (c1 : Int) := by omega
  have Hp2 : Hid (yW D fi = ((D.replace (D.file.take k)).1, if (D.replace (D.file.take k)).2 = 0 then some h else none, (D.replace (D.file.take k)).2)) := hJ (by rw [Hp.out, if_pos hkl])
  have hdW : d < W.heap.size := Nat.lt_of_lt_of_le HD.out.lt HE.out.size
  go_wp2_with fail
  refine (zjI w8 d fv D (HD.out.ext HX8.out) _ _ (D.file.take k) Hbk.out (by rw [List.length_take, Hn.out]; have := Hfl.out; omega) (fun g hg e => by unfold zZ at hg; omega)).mono ?_
  rintro e w9 ⟨rfl, hM9⟩
  have HF := hJ (ziG (c := (D.replace (D.file.take k)).2) Hsw.out HS8.out HN8.out HX8.out HD.out hM9)
  clear hM9
  obtain ⟨cd, hcd⟩ : ∃ cd, (D.replace (D.file.take k)).2 = cd := ⟨_, rfl⟩
  rw [hcd] at HF Hp2 ⊢
  clear hcd
  go_wp2_with fail
  refine (zf9 w9 _ cd).mono ?_
  rintro e w10 ⟨rfl, rfl⟩
  by_cases hc0 : cd = 0
  focus
   have HF2 := HF.out
   have Hq2 := Hp2.out
   rw [if_pos hc0] at HF2 Hq2 ⊢
   rw [if_pos hc0] at HF2
  rotate_left
  focus
   have HF2 := HF.out
   have Hq2 := Hp2.out
   rw [if_neg hc0] at HF2 Hq2 ⊢
   rw [if_neg hc0] at HF2
  all_goals
   have HF3 := hJ HF2
   have Hp3 := hJ Hq2
   clear HF2 Hq2 hc0
   go_wp2
   go_ret2
   rw [Hp3.out]
   exact HF3.out
 have hd : decide ((k : Int) < (n : Int)) = false := decide_eq_false (by omega)
 have hd2 : decide (k < n) = false := decide_eq_false hkl
 have Hp2 : Hid (yW D fi = (D, some h, 0)) := hJ (by rw [Hp.out, if_neg hkl])
 go_wp2_with fail
 refine (zf9 w8 _ 0).mono ?_
 rintro e w9 ⟨rfl, rfl⟩
 have HF := hJ (ziG (c := 0) Hsw.out HS8.out HN8.out HX8.out HD.out (DM.same (HD.out.ext HX8.out) (Mod.refl _ _)))
 go_wp2
 go_ret2
 rw [Hp2.out]
 exact HF.out
end Go.Proofs.YtjhnlncgmejkcaaGreat
