/-
 The contract of stable.begun (printed by stbx.py). Conditions: as each theorem names them.
-/
import Derived.Test.YtjhnlncgmejkcaaGreatTakeI
import Derived.Test.YtjhnlncgmejkcaaGreatS21
set_option maxRecDepth 100000
set_option maxHeartbeats 2000000
namespace Go.Proofs.YtjhnlncgmejkcaaGreat
set_option linter.unusedSimpArgs false
open Go.RowKit
def zcU (w w' : World) (o : Option zC) (e : Ending) : Prop := match o with
 | none => ∃ cs : List Value, cs.length = 10 ∧ (∀ v ∈ cs, v.oneCell' = true) ∧ e = .returned (.tuple #[.agg cs.toArray, .bool false])
 | some h => ∃ sv lv, e = .returned (.tuple #[.agg (h.cells sv lv).toArray, .bool true]) ∧ jP w w' sv lv h
theorem zcU.no {w w' : World} {o : Option zC} {e : Ending} (h : o = none) (cs : List Value) (hc : cs.length = 10) (h1 : ∀ v ∈ cs, v.oneCell' = true) (he : e = .returned (.tuple #[.agg cs.toArray, .bool false])) : zcU w w' o e := by
 rw [h]; exact ⟨cs, hc, h1, he⟩
theorem zcU.yes {w w' : World} {o : Option zC} {e : Ending} {h : zC} (ho : o = some h) (sv lv : Value) (he : e = .returned (.tuple #[.agg (h.cells sv lv).toArray, .bool true])) (hN : jP w w' sv lv h) : zcU w w' o e := by
 rw [ho]; exact ⟨sv, lv, he, hN⟩
theorem zc2 (c : UInt8) (b : List UInt8) : zaK (c :: b) = if c.toNat = 1 then xE (yR b) else none := rfl
theorem zhJ : ∀ v ∈ (zH : List Value), v.oneCell' = true := by
 intro u hu; simp only [List.mem_cons, List.not_mem_nil, or_false] at hu; rcases hu with rfl | rfl | rfl | rfl | rfl | rfl | rfl | rfl | rfl | rfl <;> rfl
theorem xK {W w : World} {y : zC} {sv lv : Value} (h : jP W w sv lv y) : ∀ v ∈ y.cells sv lv, v.oneCell' = true := by
 obtain ⟨As, cs, Al, cl, rfl, rfl⟩ := h.forms
 intro u hu; simp only [List.mem_cons, List.not_mem_nil, or_false] at hu; rcases hu with rfl | rfl | rfl | rfl | rfl | rfl | rfl | rfl | rfl | rfl <;> rfl
theorem st_begun (w : World) (T : Nat → Prop) (A : Option Addr) (n c : Nat) (p : List UInt8) (h : Byt w T (.slice A n c) p) (hn : p.length = n) (hnl : n ≤ 100000) :
  Calls Tryz.prog 72 #[.slice A n c] w fun e w' => Ext w w' ∧ zcU w w' (zaK p) e := by
 obtain ⟨W, hW⟩ : ∃ W, w.alloc (.cells zH.toArray 34) = W := ⟨_, rfl⟩
 have hE : Ext w W := by rw [← hW]; exact (Mod.refl _ w).alloc _
 have hA : W.heap[w.heap.size]? = some (.cells zH.toArray 34 (0, 0)) := by rw [← hW]; exact heap_alloc_new w _
 have HW := hJ hW
 have HE := hJ hE
 have HA := hJ hA
 have H := hJ h
 clear hW hE hA
 by_cases h0 : n = 0
 ·
  subst h0
  have Hp : Hid (zaK p = none) := hJ (by rw [List.eq_nil_of_length_eq_zero hn]; rfl)
  clear h hn
  skip
  go_enter Tryz.func72, Tryz.ntmps72
  go_wp2_with (rw [HW.out]; refine zD rfl 34 _ _ rfl 10 w.heap.size 0 zH rfl rfl zA _ zH zH HA.out rfl (by simp) zhJ rfl ?_)
  intro w1 hb1 hm1 hs1
  have HE1 := hJ (Mod.toExt ((Ext.mod HE.out (zZ w.heap.size)).trans hm1 (fun k _ e => by unfold zZ; omega)))
  clear hm1 hs1
  go_wp2_with fail
  exact bodyPost_ret (zL rfl _ w1 w.heap.size _ _ zA rfl hb1 rfl) rfl ⟨HE1.out, zcU.no Hp.out _ rfl zhJ rfl⟩
 obtain ⟨hln, hnc, hcm, hAA⟩ := qE h
 obtain ⟨g, off, rfl, _⟩ := hAA (by omega)
 have hs : Sl w T 1 (.slice (some ⟨g, off, none⟩) n c) n (p.map B) := by unfold Byt at h; rw [hn] at h; exact h
 obtain ⟨_, _, x, e1, hx, x0⟩ := zb0 hs (i := 0) (by omega)
 injection e1 with e1
 injection e1 with e1 e2
 subst e1; subst e2
 rw [Nat.add_zero] at x0
 obtain ⟨r, hpr⟩ : ∃ r, p = x :: r := by
  cases p with
  | nil => simp at hn; omega
  | cons y r => simp at hx; exact ⟨r, by rw [hx]⟩
 have hnz : ((n : Int) == 0) = false := by simp; omega
 have hnz2 : (n == 0) = false := by simp; omega
 have hx0 : W.cell? ⟨g, off, none⟩ = some (.int .u8 (x.toNat : Int)) := HE.out.cell x0 id
 rw [← HW.out] at hx0
 by_cases hx1 : x.toNat = 1
 rotate_left
 ·
  have Hp : Hid (zaK p = none) := hJ (by rw [hpr, zc2, if_neg hx1])
  have hxb : ((x.toNat : Int) == 1) = false := by simp; omega
  clear h hn hs hx
  skip
  go_enter Tryz.func72, Tryz.ntmps72
  go_wp2_with (rw [HW.out]; refine zD rfl 34 _ _ rfl 10 w.heap.size 0 zH rfl rfl zA _ zH zH HA.out rfl (by simp) zhJ rfl ?_)
  intro w1 hb1 hm1 hs1
  have HE1 := hJ (Mod.toExt ((Ext.mod HE.out (zZ w.heap.size)).trans hm1 (fun k _ e => by unfold zZ; omega)))
  clear hm1 hs1
  go_wp2_with fail
  exact bodyPost_ret (zL rfl _ w1 w.heap.size _ _ zA rfl hb1 rfl) rfl ⟨HE1.out, zcU.no Hp.out _ rfl zhJ rfl⟩
 have hb0 : zaK p = xE (yR r) := by rw [hpr, zc2, if_pos hx1]
 rw [hx1] at hx0
 have hrl : r.length = n - 1 := by rw [← hn, hpr]; simp
 have hbr : Byt W T (.slice (cutA (some ⟨g, off, none⟩) 1 c 1) (n - 1) (c - 1)) r := by
  have h1 := Sl.cutA (hs.ext HE.out) (m := 1) (by omega)
  have e : (p.map B).drop (1 * 1) = r.map B := by rw [hpr]; rfl
  rw [e] at h1
  unfold Byt
  rw [hrl]
  exact h1
 have Hb0 := hJ hb0
 have Hbr := hJ hbr
 have Hrl := hJ hrl
 have hn1 : 1 ≤ n := by omega
 clear h hn hs hx hb0 hbr hrl hpr x0
 go_enter Tryz.func72, Tryz.ntmps72
 go_wp2_with fail
 rw [HW.out]
 refine (zkS W T _ r Hbr.out (by rw [Hrl.out]; omega)).mono ?_
 rintro e w1 ⟨y, cd, sv, lv, hy, hcd, rfl, hB1, hE1, hX1⟩
 have hN1 : jP w w1 sv lv y := ⟨hB1.up HE.out, jT hE1 HE.out.size⟩
 have hA1 := hX1.blk HA.out id
 have HX1 := hJ (HE.out.ext hX1)
 have hz : (w1.alloc (.cells zH.toArray 34)).heap[w1.heap.size]? = some (.cells zH.toArray 34 (0, 0)) := heap_alloc_new w1 _
 have hone := xK hN1
 have hbs : w.heap.size < w1.heap.size := (Array.getElem?_eq_some_iff.1 hA1).1
 have HN1 := hJ hN1
 have HA1 := hJ hA1
 have Hy := hJ hy
 have Hcd := hJ hcd
 clear hB1 hE1 hX1 hN1 hA1 hy hcd
 go_wp2_with (refine zD rfl 34 _ _ rfl 10 w1.heap.size 0 (y.cells sv lv) rfl rfl zA _ zH (y.cells sv lv) hz rfl (by simp) hone rfl ?_)
 intro w2 hb2 hm2 hs2
 have hE2 : Ext w1 w2 := ((Mod.refl _ w1).alloc _).trans hm2 (fun k hk e => by omega)
 have hld := fun (W' : World) (hW' : Mod (fun k => k = w.heap.size) w2 W') => zF (P := Tryz.prog) (o := 0) (cs := y.cells sv lv) zA (hW'.blk hb2 (by omega)) rfl (fun j u hu => by rw [Nat.zero_add]; exact hu)
 have HA2 := hJ (hE2.blk HA1.out id)
 have HX2 := hJ (HX1.out.ext hE2)
 have HN2 := hJ (HN1.out.ext hE2)
 clear hz hm2 hs2 hE2
 rcases hq : yR r with _ | h
 ·
  rw [hq] at Hy Hcd
  have hc3 : cd = 3 := Hcd.out
  subst hc3
  have Hp : Hid (zaK p = none) := hJ (by rw [Hb0.out, hq]; rfl)
  clear hq
  go_wp2_with fail
  refine wp_region_held_drew (S := fun W' => Mod (fun k => k = w.heap.size) w2 W') (by kernel_rfl) (Mod.refl _ w2).drew (fun hS => ?_)
  refine tkH 0 (some 22) rfl rfl (.agg (y.cells sv lv).toArray) hS ?_ ?_
  · rintro W' hW'
    exact yD _ _ rfl (.pointer (some ⟨w1.heap.size, 0, none⟩)) _ rfl (hld W' hW')
  try simp only [pL]
  iterate 7
   first | refine tkI 1 (some 23) rfl rfl ?_ hS ?_ ?_ | refine tkI 2 (some 24) rfl rfl ?_ hS ?_ ?_ | refine tkI 3 (some 25) rfl rfl ?_ hS ?_ ?_ | refine tuI 4 (some 26) rfl rfl hS ?_ | refine tuI 5 (some 27) rfl rfl hS ?_ | refine tuI 6 (some 28) rfl rfl hS ?_ | refine tkI 7 (some 29) rfl rfl ?_ hS ?_ ?_
   try
    rotate_left
    · rintro W' hW'; go_simp; try rfl
   try simp only [pL]
  refine xJ 8 rfl (fun K hK => ?_)
  have HA3 := hJ (HA2.out)
  refine jQ rfl 34 _ _ rfl 10 w.heap.size 0 (y.cells sv lv) rfl rfl zA _ zH (y.cells sv lv) (HA3.out) rfl (by simp) hone rfl ?_
  intro w4 hb4 hm4 hs4
  refine hK.out _ _ (hS.self hm4) (fun hS => ?_)
  clear hK K
  try simp only [pL]
  refine tkH 9 (some 3) rfl rfl ?_ hS ?_ ?_; rotate_left; · rintro W' hW'; go_simp; try rfl
  try simp only [pL]
  refine wpAnyH_done (by kernel_rfl) ?_ _
  have HX4 := hJ (Mod.toExt ((Ext.mod HX2.out (zZ w.heap.size)).trans hS (fun k _ e => by unfold zZ; omega)))
  go_wp2_with fail
  exact bodyPost_ret (zL rfl _ w4 w.heap.size _ _ zA rfl hb4 rfl) rfl ⟨HX4.out, zcU.no Hp.out _ rfl hone rfl⟩
 rw [hq] at Hy Hcd
 have hc0 : cd = 0 := Hcd.out
 have hyh : y = h := Hy.out
 subst hc0; subst hyh
 have hlen := zcS hq
 have hyl : y.log.length ≤ 1000000 := by have := hlen.1; rw [Hrl.out] at this; omega
 have Hb1 : Hid (zaK p = xE (some y)) := hJ (by rw [Hb0.out, hq])
 clear hq hlen
 rcases hck : yG y with _ | _
 ·
  have Hp : Hid (zaK p = none) := hJ (by rw [Hb1.out]; unfold xE; simp only; rw [hck]; rfl)
  go_wp2_with fail
  refine wp_region_held_drew (S := fun W' => Mod (fun k => k = w.heap.size) w2 W') (by kernel_rfl) (Mod.refl _ w2).drew (fun hS => ?_)
  refine tkH 0 (some 22) rfl rfl (.agg (y.cells sv lv).toArray) hS ?_ ?_
  · rintro W' hW'
    exact yD _ _ rfl (.pointer (some ⟨w1.heap.size, 0, none⟩)) _ rfl (hld W' hW')
  try simp only [pL]
  iterate 3
   (first | refine tkI 1 (some 23) rfl rfl ?_ hS ?_ ?_ | refine tkI 2 (some 24) rfl rfl ?_ hS ?_ ?_ | refine tkI 3 (some 25) rfl rfl ?_ hS ?_ ?_); rotate_left; · rintro W' hW'; go_simp; try rfl
   try simp only [pL]
  refine tkH 4 (some 26) rfl rfl (.agg (y.cells sv lv).toArray) hS ?_ ?_
  · rintro W' hW'
    exact yD _ _ rfl (.pointer (some ⟨w1.heap.size, 0, none⟩)) _ rfl (hld W' hW')
  try simp only [pL]
  refine xJ 5 rfl (fun K hK => ?_)
  go_simp
  go_wp2_with fail
  refine (za2 w2.drew _ y sv lv (HN2.out.mem) hyl).mono ?_
  rintro e w3 ⟨rfl, hE3⟩
  rw [hck, if_neg (by simp)]
  have HA3 := hJ (hE3.blk HA2.out id)
  have HN3 := hJ (HN2.out.ext (Mod.ext (Mod.refl _ w2).drew hE3))
  have hX := (hS.ext hE3)
  go_simp
  refine hK.out _ _ hX (fun hS => ?_)
  clear hK K hX
  try simp only [pL]
  iterate 2
   (first | refine tkI 6 (some 28) rfl rfl ?_ hS ?_ ?_ | refine tkI 7 (some 29) rfl rfl ?_ hS ?_ ?_); rotate_left; · rintro W' hW'; go_simp; try rfl
   try simp only [pL]
  refine xJ 8 rfl (fun K hK => ?_)
  refine jQ rfl 34 _ _ rfl 10 w.heap.size 0 (y.cells sv lv) rfl rfl zA _ zH (y.cells sv lv) (HA3.out) rfl (by simp) hone rfl ?_
  intro w4 hb4 hm4 hs4
  refine hK.out _ _ (hS.self hm4) (fun hS => ?_)
  clear hK K
  try simp only [pL]
  refine tkH 9 (some 3) rfl rfl ?_ hS ?_ ?_; rotate_left; · rintro W' hW'; go_simp; try rfl
  try simp only [pL]
  refine wpAnyH_done (by kernel_rfl) ?_ _
  have HX4 := hJ (Mod.toExt ((Ext.mod HX2.out (zZ w.heap.size)).trans hS (fun k _ e => by unfold zZ; omega)))
  go_wp2_with fail
  exact bodyPost_ret (zL rfl _ w4 w.heap.size _ _ zA rfl hb4 rfl) rfl ⟨HX4.out, zcU.no Hp.out _ rfl hone rfl⟩
 have Hp : Hid (zaK p = some y) := hJ (by rw [Hb1.out]; unfold xE; simp only; rw [hck]; rfl)
 go_wp2_with fail
 refine wp_region_held_drew (S := fun W' => Mod (fun k => k = w.heap.size) w2 W') (by kernel_rfl) (Mod.refl _ w2).drew (fun hS => ?_)
 refine tkH 0 (some 22) rfl rfl (.agg (y.cells sv lv).toArray) hS ?_ ?_
 · rintro W' hW'
   exact yD _ _ rfl (.pointer (some ⟨w1.heap.size, 0, none⟩)) _ rfl (hld W' hW')
 try simp only [pL]
 iterate 3
  (first | refine tkI 1 (some 23) rfl rfl ?_ hS ?_ ?_ | refine tkI 2 (some 24) rfl rfl ?_ hS ?_ ?_ | refine tkI 3 (some 25) rfl rfl ?_ hS ?_ ?_); rotate_left; · rintro W' hW'; go_simp; try rfl
  try simp only [pL]
 refine tkH 4 (some 26) rfl rfl (.agg (y.cells sv lv).toArray) hS ?_ ?_
 · rintro W' hW'
   exact yD _ _ rfl (.pointer (some ⟨w1.heap.size, 0, none⟩)) _ rfl (hld W' hW')
 try simp only [pL]
 refine xJ 5 rfl (fun K hK => ?_)
 go_simp
 go_wp2_with fail
 refine (za2 w2.drew _ y sv lv (HN2.out.mem) hyl).mono ?_
 rintro e w3 ⟨rfl, hE3⟩
 rw [hck, if_pos rfl]
 have HA3 := hJ (hE3.blk HA2.out id)
 have HN3 := hJ (HN2.out.ext (Mod.ext (Mod.refl _ w2).drew hE3))
 have hX := (hS.ext hE3)
 go_simp
 refine hK.out _ _ hX (fun hS => ?_)
 clear hK K hX
 try simp only [pL]
 iterate 2
  (first | refine tkI 6 (some 28) rfl rfl ?_ hS ?_ ?_ | refine tkI 7 (some 29) rfl rfl ?_ hS ?_ ?_); rotate_left; · rintro W' hW'; go_simp; try rfl
  try simp only [pL]
 refine xJ 8 rfl (fun K hK => ?_)
 refine jQ rfl 34 _ _ rfl 10 w.heap.size 0 (y.cells sv lv) rfl rfl zA _ zH (y.cells sv lv) (HA3.out) rfl (by simp) hone rfl ?_
 intro w4 hb4 hm4 hs4
 refine hK.out _ _ (hS.self hm4) (fun hS => ?_)
 clear hK K
 try simp only [pL]
 refine tkH 9 (some 3) rfl rfl ?_ hS ?_ ?_; rotate_left; · rintro W' hW'; go_simp; try rfl
 try simp only [pL]
 refine wpAnyH_done (by kernel_rfl) ?_ _
 have HX4 := hJ (Mod.toExt ((Ext.mod HX2.out (zZ w.heap.size)).trans hS (fun k _ e => by unfold zZ; omega)))
 have HN4 := hJ (HN3.out.box HA3.out hm4 (by decide) (by decide))
 go_wp2_with fail
 exact bodyPost_ret (zL rfl _ w4 w.heap.size _ _ zA rfl hb4 rfl) rfl ⟨HX4.out, zcU.yes Hp.out sv lv rfl HN4.out⟩
end Go.Proofs.YtjhnlncgmejkcaaGreat
set_option maxRecDepth 100000
set_option maxHeartbeats 2000000
namespace Go.Proofs.YtjhnlncgmejkcaaGreat
set_option linter.unusedSimpArgs false
open Go.RowKit
theorem znF {h : zC} {c : Nat} {b : List UInt8} (h2 : c ≠ 2) (h3 : c ≠ 3) (h4 : c ≠ 4) : zaB h c b = none := by
 unfold zaB
 rw [if_neg h2, if_neg h3, if_neg h4]
theorem turn2_no {h : zC} {b : List UInt8} (hr : zf1 b = none) : zaB h 2 b = none := by
 unfold zaB
 rw [if_pos rfl, hr]
theorem zp8 {h : zC} {b : List UInt8} {t v : Int} (hr : zf1 b = some (t, v)) (ht : t < h.term) : zaB h 2 b = none := by
 unfold zaB
 rw [if_pos rfl, hr]
 simp only
 rw [if_pos ht]
theorem turn3_no {h : zC} {b : List UInt8} (hr : zf0 b = none) : zaB h 3 b = none := by
 unfold zaB
 rw [if_neg (by decide), if_pos rfl, hr]
theorem zjK {h : zC} {b : List UInt8} {n : Int} (hr : zf0 b = some n) (hn : n ≤ h.base ∨ h.base + h.log.length < n) : zaB h 3 b = none := by
 unfold zaB
 rw [if_neg (by decide), if_pos rfl, hr]
 simp only
 rw [if_pos hn]
theorem turn4_no {h : zC} {b : List UInt8} (hr : xU b = none) : zaB h 4 b = none := by
 unfold zaB
 rw [if_neg (by decide), if_neg (by decide), if_pos rfl, hr]
theorem zdJ {h : zC} {x : UInt8} {r : List UInt8} (e : zaB h x.toNat r = none) : yE h (x :: r) = none := by
 rw [yZ, e]; rfl
theorem zkW {h y : zC} {x : UInt8} {r : List UInt8} (e : zaB h x.toNat r = some y) : yE h (x :: r) = if yG y then some y else none := by
 rw [yZ, e]; rfl
theorem zgG {α : Type} {c : α → List Value} {k : Nat} (hc : ∀ a, (c a).length = k) : ∀ (l : List α) (n : Nat), (l.flatMap c).take (n * k) = (l.take n).flatMap c
 | [], _ => by simp
 | a :: l, 0 => by simp
 | a :: l, n + 1 => by
  rw [List.take_succ_cons, List.flatMap_cons, List.flatMap_cons, ← zgG hc l n, List.take_append, hc a, show (n + 1) * k - k = n * k by rw [Nat.succ_mul]; omega, List.take_of_length_le (by rw [hc a, Nat.succ_mul]; omega)]
structure Chg (w0 w : World) (lv : Value) (w' : World) : Prop where
 E : Ext w0 w'
 M : Mod (fun k => lv.ownBlock = some k) w w'
 z : w0.heap.size ≤ w.heap.size
theorem Chg.ext {w0 w a c : World} {lv : Value} (h : Chg w0 w lv a) (hE : Ext a c) : Chg w0 w lv c := ⟨h.E.ext hE, h.M.ext hE, h.z⟩
theorem Chg.drew {w0 w a : World} {lv : Value} (h : Chg w0 w lv a) : Chg w0 w lv a.drew := ⟨h.E.drew, h.M.drew, h.z⟩
theorem Chg.drewN {w0 w a : World} {lv : Value} (h : Chg w0 w lv a) (n : Nat) : Chg w0 w lv (a.drewN n) := ⟨h.E.drewN n, h.M.drewN n, h.z⟩
theorem Chg.box {w0 w a c : World} {lv : Value} {b : Nat} (h : Chg w0 w lv a) (hM : Mod (fun k => k = b) a c) (hb : w.heap.size ≤ b) : Chg w0 w lv c :=
 ⟨h.E.trans hM (fun k hk e => by have := h.z; omega), h.M.trans hM (fun k hk e => by omega), h.z⟩
theorem Chg.app {w0 w a c : World} {lv : Value} (h : Chg w0 w lv a) (hM : Mod (fun k => lv.ownBlock = some k) a c) (hf : ∀ g, lv.ownBlock = some g → w0.heap.size ≤ g) : Chg w0 w lv c :=
 ⟨h.E.trans hM (fun k hk e => by have := hf k e; omega), h.M.self hM, h.z⟩
structure ChIn (w0 w : World) (h : zC) (As : Option Addr) (sl cs : Nat) (Al : Option Addr) (ll cl : Nat) : Prop where
 N : jP w0 w (.slice As sl cs) (.slice Al ll cl) h
 E : Ext w0 w
 s : h.snap.length = sl
 l : h.log.length = ll
 l1 : ll ≤ 900000
 r : Right h
theorem zkX (w w0 : World) (T : Nat → Prop) (h : zC) (As : Option Addr) (sl cs : Nat) (Al : Option Addr) (ll cl : Nat) (A : Option Addr) (n c : Nat) (p : List UInt8) (hI : ChIn w0 w h As sl cs Al ll cl) (hp : Byt w T (.slice A n c) p) (hn : p.length = n) (hnl : n ≤ 100000) (h0 : n = 0) :
  Calls Tryz.prog 73 #[.agg #[.int .i64 h.term, .int .i64 h.vote, .int .i64 h.base, .int .i64 h.baseTerm, .int .i64 h.conf.full, .int .i64 h.conf.wit, .int .i64 h.conf.learn, .int .i64 h.conf.learnWit, .slice As sl cs, .slice Al ll cl], .slice A n c] w fun e w' => Chg w0 w (.slice Al ll cl) w' ∧ zcU w0 w' (yE h p) e := by
 have hpn : p = [] := List.eq_nil_of_length_eq_zero (by omega)
 subst h0
 obtain ⟨b, hb⟩ : ∃ b, w.heap.size = b := ⟨_, rfl⟩
 obtain ⟨W, hW⟩ : ∃ W, W = (w.alloc (.cells (h.cells (.slice As sl cs) (.slice Al ll cl)).toArray 34)).alloc (.cells zH.toArray 34) := ⟨_, rfl⟩
 obtain ⟨hA, hB, hsz⟩ := zaC w (.cells (h.cells (.slice As sl cs) (.slice Al ll cl)).toArray 34) (.cells zH.toArray 34)
 rw [← hW, hb] at hA hB hsz
 have hE : Ext w W := by rw [hW]; exact ((Mod.refl _ w).alloc _).alloc _
 have hN : jP w0 W (.slice As sl cs) (.slice Al ll cl) h := hI.N.ext hE
 have hX : Chg w0 w (.slice Al ll cl) W := ⟨hI.E.ext hE, Ext.mod hE _, hI.E.size⟩
 have hwb : w.heap.size ≤ b := by rw [← hb]; exact Nat.le_refl _
 have hone := xK hN
 have hw0 : w0.heap.size ≤ b := by rw [← hb]; exact hI.E.size
 have HI := hJ hI
 have HW := hJ hW
 have HA := hJ hA
 have HB := hJ hB
 have Hb := hJ hb
 have HE := hJ hE
 have HN := hJ hN
 have HX := hJ hX
 clear hW hA hB hb hE hN hX hI hsz
 clear hp
 have hA' := HA.out
 have Hp : Hid (yE h p = none) := hJ (by rw [hpn]; rfl)
 have hld := zF (P := Tryz.prog) (o := 0) (cs := h.cells (.slice As sl cs) (.slice Al ll cl)) zA HA.out rfl (fun j u hu => by rw [Nat.zero_add]; exact hu)
 go_enter Tryz.func73, Tryz.ntmps73
 go_wp2_with (first | (rw [← HW.out, Hb.out]; refine zG rfl 34 _ rfl _ _ rfl hld ?_) | (refine zD rfl 34 _ _ rfl 10 (b + 1) 0 (h.cells (.slice As sl cs) (.slice Al ll cl)) rfl rfl zA _ zH (h.cells (.slice As sl cs) (.slice Al ll cl)) HB.out rfl (by simp) hone rfl ?_))
 intro wz hbz hmz hsz
 have HEz := hJ (HX.out.box hmz (by omega))
 clear hld hmz hsz
 go_wp2_with fail
 exact bodyPost_ret (zL rfl _ wz (b + 1) _ _ zA rfl hbz rfl) rfl ⟨HEz.out, zcU.no Hp.out _ rfl hone rfl⟩
theorem zkY (w w0 : World) (T : Nat → Prop) (h : zC) (As : Option Addr) (sl cs : Nat) (Al : Option Addr) (ll cl : Nat) (A : Option Addr) (n c : Nat) (p : List UInt8) (hI : ChIn w0 w h As sl cs Al ll cl) (hp : Byt w T (.slice A n c) p) (hn : p.length = n) (hnl : n ≤ 100000) (x : UInt8) (r : List UInt8) (hpx : p = x :: r) (h2 : x.toNat ≠ 2) (h3 : x.toNat ≠ 3) (h4 : x.toNat ≠ 4) :
  Calls Tryz.prog 73 #[.agg #[.int .i64 h.term, .int .i64 h.vote, .int .i64 h.base, .int .i64 h.baseTerm, .int .i64 h.conf.full, .int .i64 h.conf.wit, .int .i64 h.conf.learn, .int .i64 h.conf.learnWit, .slice As sl cs, .slice Al ll cl], .slice A n c] w fun e w' => Chg w0 w (.slice Al ll cl) w' ∧ zcU w0 w' (yE h p) e := by
 obtain ⟨hln, hnc, hcm, hAA⟩ := qE hp
 obtain ⟨g, off, rfl, _⟩ := hAA (by rw [← hn, hpx]; simp)
 have hs : Sl w T 1 (.slice (some ⟨g, off, none⟩) n c) n (p.map B) := by unfold Byt at hp; rw [hn] at hp; exact hp
 have hn1 : 1 ≤ n := by rw [← hn, hpx]; simp
 obtain ⟨_, _, x', e1, hx', x0⟩ := zb0 hs (i := 0) (by omega)
 injection e1 with e1
 injection e1 with e1 e2
 subst e1; subst e2
 rw [Nat.add_zero] at x0
 have hxx : x' = x := by rw [hpx] at hx'; simpa using hx'.symm
 rw [hxx] at x0
 have hnz : ((n : Int) == 0) = false := by simp; omega
 have hnz2 : (n == 0) = false := by simp; omega
 have hrl : r.length = n - 1 := by rw [← hn, hpx]; simp
 have hbr0 : Byt w T (.slice (cutA (some ⟨g, off, none⟩) 1 c 1) (n - 1) (c - 1)) r := by
  have h1 := Sl.cutA hs (m := 1) (by omega)
  have e : (p.map B).drop (1 * 1) = r.map B := by rw [hpx]; rfl
  rw [e] at h1
  unfold Byt
  rw [hrl]
  exact h1
 clear hs hx' hxx hp hn
 obtain ⟨b, hb⟩ : ∃ b, w.heap.size = b := ⟨_, rfl⟩
 obtain ⟨W, hW⟩ : ∃ W, W = (w.alloc (.cells (h.cells (.slice As sl cs) (.slice Al ll cl)).toArray 34)).alloc (.cells zH.toArray 34) := ⟨_, rfl⟩
 obtain ⟨hA, hB, hsz⟩ := zaC w (.cells (h.cells (.slice As sl cs) (.slice Al ll cl)).toArray 34) (.cells zH.toArray 34)
 rw [← hW, hb] at hA hB hsz
 have hE : Ext w W := by rw [hW]; exact ((Mod.refl _ w).alloc _).alloc _
 have hN : jP w0 W (.slice As sl cs) (.slice Al ll cl) h := hI.N.ext hE
 have hX : Chg w0 w (.slice Al ll cl) W := ⟨hI.E.ext hE, Ext.mod hE _, hI.E.size⟩
 have hwb : w.heap.size ≤ b := by rw [← hb]; exact Nat.le_refl _
 have hone := xK hN
 have hw0 : w0.heap.size ≤ b := by rw [← hb]; exact hI.E.size
 have HI := hJ hI
 have HW := hJ hW
 have HA := hJ hA
 have HB := hJ hB
 have Hb := hJ hb
 have HE := hJ hE
 have HN := hJ hN
 have HX := hJ hX
 clear hW hA hB hb hE hN hX hI hsz
 have Hbr := hJ (hbr0.ext HE.out)
 have Hrl := hJ hrl
 have hx0 : W.cell? ⟨g, off, none⟩ = some (.int .u8 (x.toNat : Int)) := HE.out.cell x0 id
 clear hbr0 hrl x0
 have b2 : ((x.toNat : Int) == 2) = false := by simp; omega
 have b3 : ((x.toNat : Int) == 3) = false := by simp; omega
 have b4 : ((x.toNat : Int) == 4) = false := by simp; omega
 have Hp : Hid (yE h p = none) := hJ (by rw [hpx]; exact zdJ (znF h2 h3 h4))
 have hld := zF (P := Tryz.prog) (o := 0) (cs := h.cells (.slice As sl cs) (.slice Al ll cl)) zA HA.out rfl (fun j u hu => by rw [Nat.zero_add]; exact hu)
 rw [HW.out] at hx0
 clear h2 h3 h4
 go_enter Tryz.func73, Tryz.ntmps73
 go_wp2_with (first | (rw [← HW.out, Hb.out]; refine zG rfl 34 _ rfl _ _ rfl hld ?_) | (refine zD rfl 34 _ _ rfl 10 (b + 1) 0 (h.cells (.slice As sl cs) (.slice Al ll cl)) rfl rfl zA _ zH (h.cells (.slice As sl cs) (.slice Al ll cl)) HB.out rfl (by simp) hone rfl ?_))
 intro wz hbz hmz hsz
 have HEz := hJ (HX.out.box hmz (by omega))
 clear hld hmz hsz
 go_wp2_with fail
 exact bodyPost_ret (zL rfl _ wz (b + 1) _ _ zA rfl hbz rfl) rfl ⟨HEz.out, zcU.no Hp.out _ rfl hone rfl⟩
theorem zkZ (w w0 : World) (T : Nat → Prop) (h : zC) (As : Option Addr) (sl cs : Nat) (Al : Option Addr) (ll cl : Nat) (A : Option Addr) (n c : Nat) (p : List UInt8) (hI : ChIn w0 w h As sl cs Al ll cl) (hp : Byt w T (.slice A n c) p) (hn : p.length = n) (hnl : n ≤ 100000) (x : UInt8) (r : List UInt8) (hpx : p = x :: r) (h2 : x.toNat = 2) :
  Calls Tryz.prog 73 #[.agg #[.int .i64 h.term, .int .i64 h.vote, .int .i64 h.base, .int .i64 h.baseTerm, .int .i64 h.conf.full, .int .i64 h.conf.wit, .int .i64 h.conf.learn, .int .i64 h.conf.learnWit, .slice As sl cs, .slice Al ll cl], .slice A n c] w fun e w' => Chg w0 w (.slice Al ll cl) w' ∧ zcU w0 w' (yE h p) e := by
 obtain ⟨hln, hnc, hcm, hAA⟩ := qE hp
 obtain ⟨g, off, rfl, _⟩ := hAA (by rw [← hn, hpx]; simp)
 have hs : Sl w T 1 (.slice (some ⟨g, off, none⟩) n c) n (p.map B) := by unfold Byt at hp; rw [hn] at hp; exact hp
 have hn1 : 1 ≤ n := by rw [← hn, hpx]; simp
 obtain ⟨_, _, x', e1, hx', x0⟩ := zb0 hs (i := 0) (by omega)
 injection e1 with e1
 injection e1 with e1 e2
 subst e1; subst e2
 rw [Nat.add_zero] at x0
 have hxx : x' = x := by rw [hpx] at hx'; simpa using hx'.symm
 rw [hxx] at x0
 have hnz : ((n : Int) == 0) = false := by simp; omega
 have hnz2 : (n == 0) = false := by simp; omega
 have hrl : r.length = n - 1 := by rw [← hn, hpx]; simp
 have hbr0 : Byt w T (.slice (cutA (some ⟨g, off, none⟩) 1 c 1) (n - 1) (c - 1)) r := by
  have h1 := Sl.cutA hs (m := 1) (by omega)
  have e : (p.map B).drop (1 * 1) = r.map B := by rw [hpx]; rfl
  rw [e] at h1
  unfold Byt
  rw [hrl]
  exact h1
 clear hs hx' hxx hp hn
 obtain ⟨b, hb⟩ : ∃ b, w.heap.size = b := ⟨_, rfl⟩
 obtain ⟨W, hW⟩ : ∃ W, W = (w.alloc (.cells (h.cells (.slice As sl cs) (.slice Al ll cl)).toArray 34)).alloc (.cells zH.toArray 34) := ⟨_, rfl⟩
 obtain ⟨hA, hB, hsz⟩ := zaC w (.cells (h.cells (.slice As sl cs) (.slice Al ll cl)).toArray 34) (.cells zH.toArray 34)
 rw [← hW, hb] at hA hB hsz
 have hE : Ext w W := by rw [hW]; exact ((Mod.refl _ w).alloc _).alloc _
 have hN : jP w0 W (.slice As sl cs) (.slice Al ll cl) h := hI.N.ext hE
 have hX : Chg w0 w (.slice Al ll cl) W := ⟨hI.E.ext hE, Ext.mod hE _, hI.E.size⟩
 have hwb : w.heap.size ≤ b := by rw [← hb]; exact Nat.le_refl _
 have hone := xK hN
 have hw0 : w0.heap.size ≤ b := by rw [← hb]; exact hI.E.size
 have HI := hJ hI
 have HW := hJ hW
 have HA := hJ hA
 have HB := hJ hB
 have Hb := hJ hb
 have HE := hJ hE
 have HN := hJ hN
 have HX := hJ hX
 clear hW hA hB hb hE hN hX hI hsz
 have Hbr := hJ (hbr0.ext HE.out)
 have Hrl := hJ hrl
 have hx0 : W.cell? ⟨g, off, none⟩ = some (.int .u8 (x.toNat : Int)) := HE.out.cell x0 id
 clear hbr0 hrl x0
 have hx2 : x.toNat = 2 := h2
 rw [h2] at hx0
 rw [HW.out] at hx0
 clear h2
 go_enter Tryz.func73, Tryz.ntmps73
 go_wp2_with fail
 rw [← HW.out, Hb.out]
 refine (zpR W T _ r 2 Hbr.out (by rw [Hrl.out]; omega) (by omega)).mono ?_
 rintro e w1 ⟨v', rfl, hI1, hX1⟩
 have HA1 := hJ (hX1.blk HA.out id)
 have HB1 := hJ (hX1.blk HB.out id)
 have HX1 := hJ (HX.out.ext hX1)
 have HN1 := hJ (HN.out.ext hX1)
 obtain ⟨t, ht⟩ : ∃ t, (RS.int ⟨r, 0⟩).1 = t := ⟨_, rfl⟩
 obtain ⟨u, hu⟩ : ∃ u, (RS.int ⟨r, 0⟩).2.int.1 = u := ⟨_, rfl⟩
 obtain ⟨q, hq⟩ : ∃ q, (RS.int ⟨r, 0⟩).2.int.2 = q := ⟨_, rfl⟩
 have hR : rdN 2 ⟨r, 0⟩ = ([t, u], q) := by rw [← ht, ← hu, ← hq]; rfl
 have hrd : zf1 r = if q.done = 0 then some (t, u) else none := by unfold zf1; rw [ht, hu, hq]
 rw [hR] at hI1 ⊢
 have Hrd := hJ hrd
 clear hR ht hu hq hrd hX1 hx0
 simp only
 obtain ⟨g2, c2, rfl, z0, hc2⟩ := hI1.at (i := 0) (x := t) rfl
 obtain ⟨g3, c3, e3, z1, _⟩ := hI1.at (i := 1) (x := u) rfl
 injection e3 with e3 _ e4
 injection e3 with e3
 injection e3 with e3 _
 subst e3; subst e4
 have HI1 := hJ hI1
 clear hI1
 have y0 : w1.cell? ⟨b, 0, none⟩ = some (.int .i64 h.term) := zB (cs := h.cells (.slice As sl cs) (.slice Al ll cl)) HA1.out rfl
 simp only [List.length_cons, List.length_nil] at hc2 ⊢
 have hc2' : 2 ≤ c2 := hc2
 rcases hd : (q.done == 0) with _ | _
 ·
  have hrn : zf1 r = none := by rw [Hrd.out, if_neg (by simpa using hd)]
  have Hp : Hid (yE h p = none) := hJ (by rw [hpx]; exact zdJ (by rw [hx2]; exact turn2_no hrn))
  have hldq := fun q => zF (P := Tryz.prog) (w := w1.drewN q) (o := 0) (cs := h.cells (.slice As sl cs) (.slice Al ll cl)) zA HA1.out rfl (fun j u hu => by rw [Nat.zero_add]; exact hu)
  have hBq : ∀ q, (w1.drewN q).heap[b + 1]? = some (.cells zH.toArray 34 (0, 0)) := fun q => HB1.out
  clear z0 z1
  go_wp2_with fail
  go_quiet (fail)
  go_wp2_with (first | (refine zG rfl 34 _ rfl _ _ rfl (hldq _) ?_) | (refine zD rfl 34 _ _ rfl 10 (b + 1) 0 (h.cells (.slice As sl cs) (.slice Al ll cl)) rfl rfl zA _ zH (h.cells (.slice As sl cs) (.slice Al ll cl)) (hBq _) rfl (by simp) hone rfl ?_))
  intro wz hbz hmz hsz
  have HEz := hJ ((HX1.out.drewN _).box hmz (by omega))
  clear hldq hBq hmz hsz
  go_wp2_with fail
  exact bodyPost_ret (zL rfl _ wz (b + 1) _ _ zA rfl hbz rfl) rfl ⟨HEz.out, zcU.no Hp.out _ rfl hone rfl⟩
 have hrs : zf1 r = some (t, u) := by rw [Hrd.out, if_pos (by simpa using hd)]
 by_cases hlt : t < h.term
 ·
  have Hp : Hid (yE h p = none) := hJ (by rw [hpx]; exact zdJ (by rw [hx2]; exact zp8 hrs hlt))
  have hldq := fun q => zF (P := Tryz.prog) (w := w1.drewN q) (o := 0) (cs := h.cells (.slice As sl cs) (.slice Al ll cl)) zA HA1.out rfl (fun j u hu => by rw [Nat.zero_add]; exact hu)
  have hBq : ∀ q, (w1.drewN q).heap[b + 1]? = some (.cells zH.toArray 34 (0, 0)) := fun q => HB1.out
  go_wp2_with fail
  go_quiet (fail)
  go_wp2_with (first | (refine zG rfl 34 _ rfl _ _ rfl (hldq _) ?_) | (refine zD rfl 34 _ _ rfl 10 (b + 1) 0 (h.cells (.slice As sl cs) (.slice Al ll cl)) rfl rfl zA _ zH (h.cells (.slice As sl cs) (.slice Al ll cl)) (hBq _) rfl (by simp) hone rfl ?_))
  intro wz hbz hmz hsz
  have HEz := hJ ((HX1.out.drewN _).box hmz (by omega))
  clear hldq hBq hmz hsz
  go_wp2_with fail
  exact bodyPost_ret (zL rfl _ wz (b + 1) _ _ zA rfl hbz rfl) rfl ⟨HEz.out, zcU.no Hp.out _ rfl hone rfl⟩
 have f0 : w1.frozen? ⟨b, 0, none⟩ = false := zK 0 HA1.out
 have f1 : w1.frozen? ⟨b, 1, none⟩ = false := zK 1 HA1.out
 have y1 : w1.cell? ⟨b, 1, none⟩ = some (.int .i64 h.vote) := zB (cs := h.cells (.slice As sl cs) (.slice Al ll cl)) HA1.out rfl
 go_wp2_with fail
 go_quiet (fail)
 go_wp2_with fail
 obtain ⟨wd, hwd⟩ : ∃ wd, wd = w1.drewN nq := ⟨_, rfl⟩
 rw [← hwd]
 have HAd : Hid (wd.heap[b]? = some (.cells (h.cells (.slice As sl cs) (.slice Al ll cl)).toArray 34 (0, 0))) := hJ (by rw [hwd]; exact HA1.out)
 have HBd : Hid (wd.heap[b + 1]? = some (.cells zH.toArray 34 (0, 0))) := hJ (by rw [hwd]; exact HB1.out)
 have HXd : Hid (Chg w0 w (.slice Al ll cl) wd) := hJ (by rw [hwd]; exact HX1.out.drewN _)
 have HNd : Hid (jP w0 wd (.slice As sl cs) (.slice Al ll cl) h) := hJ (by rw [hwd]; exact HN1.out)
 have zd0 : wd.cell? ⟨g2, 0, none⟩ = some (.int .i64 t) := by rw [hwd]; exact z0
 have zd1 : wd.cell? ⟨g2, 1, none⟩ = some (.int .i64 u) := by rw [hwd]; exact z1
 have hgb : g2 ≠ b := fun e => by have h1 := HI1.out.2 g2 rfl; have h2 := (Array.getElem?_eq_some_iff.1 HB.out).1; omega
 clear z0 z1 y0 y1 f0 f1 hwd HA1 HB1 HX1 HN1
 have hone2 : ∀ v ∈ ({ h with term := t, vote := u } : zC).cells (.slice As sl cs) (.slice Al ll cl), v.oneCell' = true := by
  intro v hv; simp only [List.mem_cons, List.not_mem_nil, or_false] at hv; rcases hv with rfl | rfl | rfl | rfl | rfl | rfl | rfl | rfl | rfl | rfl <;> rfl
 refine wp_region_held_drew (S := fun W' => Mod (fun k => k = b) wd W') (by kernel_rfl) (Mod.refl _ wd).drew (fun hS => ?_)
 iterate 7
  first | refine tkI 0 (some 41) rfl rfl ?_ hS ?_ ?_ | refine tkI 1 (some 42) rfl rfl ?_ hS ?_ ?_ | refine tkI 2 (some 43) rfl rfl ?_ hS ?_ ?_ | refine tkI 3 (some 44) rfl rfl ?_ hS ?_ ?_ | refine tkI 4 (some 45) rfl rfl ?_ hS ?_ ?_ | refine tkI 5 (some 46) rfl rfl ?_ hS ?_ ?_ | refine tkI 6 (some 47) rfl rfl ?_ hS ?_ ?_
  rotate_left
  · rintro W' hW'
    have q0 := hW'.cell zd0 hgb
    have q1 := hW'.cell zd1 hgb
    go_simp
    try rfl
  try simp only [pL]
 refine xJ 7 rfl (fun K hK => ?_)
 obtain ⟨we, hwe⟩ : ∃ we, we = wd.drew := ⟨_, rfl⟩
 rw [← hwe] at hS ⊢
 have HRwe : Hid (we.heap[b]? = some (.cells (h.cells (.slice As sl cs) (.slice Al ll cl)).toArray 34 (0, 0))) := hJ (by rw [hwe]; exact HAd.out)
 clear hwe
 have hR : we.heap[b]? = some (.cells (h.cells (.slice As sl cs) (.slice Al ll cl)).toArray 34 (0, 0)) := HRwe.out
 have f0 : we.frozen? ⟨b, 0, none⟩ = false := zK 0 hR
 have d0 : we.cell? ⟨b, 0, none⟩ = some _ := zB (cs := (h.cells (.slice As sl cs) (.slice Al ll cl))) hR rfl
 obtain ⟨w3, hwn⟩ : ∃ w3, we.setCell ⟨b, 0, none⟩ (.int .i64 t) = w3 := ⟨_, rfl⟩
 have HRw3 : Hid (w3.heap[b]? = some (.cells #[.int .i64 t, .int .i64 h.vote, .int .i64 h.base, .int .i64 h.baseTerm, .int .i64 h.conf.full, .int .i64 h.conf.wit, .int .i64 h.conf.learn, .int .i64 h.conf.learnWit, .slice As sl cs, .slice Al ll cl] 34 (0, 0))) := hJ (by rw [← hwn]; simp [World.setCell, Array.getElem?_modify, hR])
 have HMw3 : Hid (Mod (fun k => k = b) wd w3) := hJ (by rw [← hwn]; exact zO hS _ _)
 have Hwn := hJ hwn
 clear hR hwn
 go_simp
 rw [Hwn.out]
 clear f0 d0 Hwn
 refine hK.out _ _ (HMw3.out) (fun hS => ?_)
 clear hK K
 try simp only [pL]
 refine tkH 8 (some 48) rfl rfl ?_ hS ?_ ?_
 rotate_left
 ·
  rintro W' hW'
  have q0 := hW'.cell zd0 hgb
  have q1 := hW'.cell zd1 hgb
  go_simp
  try rfl
 try simp only [pL]
 refine xJ 9 rfl (fun K hK => ?_)
 have hR : w3.heap[b]? = some (.cells #[.int .i64 t, .int .i64 h.vote, .int .i64 h.base, .int .i64 h.baseTerm, .int .i64 h.conf.full, .int .i64 h.conf.wit, .int .i64 h.conf.learn, .int .i64 h.conf.learnWit, .slice As sl cs, .slice Al ll cl] 34 (0, 0)) := HRw3.out
 have f0 : w3.frozen? ⟨b, 1, none⟩ = false := zK 1 hR
 have d0 : w3.cell? ⟨b, 1, none⟩ = some _ := zB (cs := [.int .i64 t, .int .i64 h.vote, .int .i64 h.base, .int .i64 h.baseTerm, .int .i64 h.conf.full, .int .i64 h.conf.wit, .int .i64 h.conf.learn, .int .i64 h.conf.learnWit, .slice As sl cs, .slice Al ll cl]) hR rfl
 obtain ⟨w4, hwn⟩ : ∃ w4, w3.setCell ⟨b, 1, none⟩ (.int .i64 u) = w4 := ⟨_, rfl⟩
 have HRw4 : Hid (w4.heap[b]? = some (.cells #[.int .i64 t, .int .i64 u, .int .i64 h.base, .int .i64 h.baseTerm, .int .i64 h.conf.full, .int .i64 h.conf.wit, .int .i64 h.conf.learn, .int .i64 h.conf.learnWit, .slice As sl cs, .slice Al ll cl] 34 (0, 0))) := hJ (by rw [← hwn]; simp [World.setCell, Array.getElem?_modify, hR])
 have HMw4 : Hid (Mod (fun k => k = b) wd w4) := hJ (by rw [← hwn]; exact zO hS _ _)
 have Hwn := hJ hwn
 clear hR hwn
 go_simp
 rw [Hwn.out]
 clear f0 d0 Hwn
 refine hK.out _ _ (HMw4.out) (fun hS => ?_)
 clear hK K
 try simp only [pL]
 refine wpAnyH_done (by kernel_rfl) ?_ _
 have HBw4 : Hid (w4.heap[b + 1]? = some (.cells zH.toArray 34 (0, 0))) := hJ (HMw4.out.blk HBd.out (by omega))
 have HNw4 : Hid (jP w0 w4 (.slice As sl cs) (.slice Al ll cl) ({ h with term := t, vote := u } : zC)) := hJ (HNd.out.box HAd.out HMw4.out (by decide) (by decide))
 have HXw4 : Hid (Chg w0 w (.slice Al ll cl) w4) := hJ (HXd.out.box HMw4.out (by omega))
 have HAw4 := HRw4
 have hyl : ({ h with term := t, vote := u } : zC).log.length ≤ 1000000 := by have := HI.out.l1; have := HI.out.l; simp only; omega
 have Hch : Hid (yE h p = if yG ({ h with term := t, vote := u } : zC) then some ({ h with term := t, vote := u } : zC) else none) := hJ (by rw [hpx]; exact zkW (by rw [hx2]; exact turn2 hrs (by omega)))
 clear zd0 zd1 hS HRw4 HAd HBd HNd HXd
 have hldt := fun (W' : World) (hW' : Mod (fun k => k = b + 1) w4 W') => zF (P := Tryz.prog) (o := 0) (cs := ({ h with term := t, vote := u } : zC).cells (.slice As sl cs) (.slice Al ll cl)) zA (hW'.blk HAw4.out (by omega)) rfl (fun j u hu => by rw [Nat.zero_add]; exact hu)
 rcases hck : yG ({ h with term := t, vote := u } : zC) with _ | _
 ·
  have Hp : Hid (yE h p = none) := hJ (by rw [Hch.out, hck]; rfl)
  go_wp2_with fail
  refine wp_region_held_drew (S := fun W' => Mod (fun k => k = b + 1) w4 W') (by kernel_rfl) (Mod.refl _ w4).drew (fun hS => ?_)
  refine tkH 0 (some 108) rfl rfl (.agg (({ h with term := t, vote := u } : zC).cells (.slice As sl cs) (.slice Al ll cl)).toArray) hS ?_ ?_
  · rintro W' hW'
    exact yD _ _ rfl (.pointer (some ⟨b, 0, none⟩)) _ rfl (hldt W' hW')
  try simp only [pL]
  refine tkH 1 (some 109) rfl rfl (.agg (({ h with term := t, vote := u } : zC).cells (.slice As sl cs) (.slice Al ll cl)).toArray) hS ?_ ?_
  · rintro W' hW'
    exact yD _ _ rfl (.pointer (some ⟨b, 0, none⟩)) _ rfl (hldt W' hW')
  try simp only [pL]
  refine xJ 2 rfl (fun K hK => ?_)
  go_simp
  go_wp2_with fail
  refine (za2 w4.drew _ ({ h with term := t, vote := u } : zC) _ _ (HNw4.out.mem) hyl).mono ?_
  rintro e w6 ⟨rfl, hE6⟩
  rw [hck, if_neg (by simp)]
  have HB6 := hJ (hE6.blk HBw4.out id)
  have HN6 := hJ (HNw4.out.ext (Mod.ext (Mod.refl _ w4).drew hE6))
  have hX := (hS.ext hE6)
  go_simp
  refine hK.out _ _ hX (fun hS => ?_)
  clear hK K hX
  try simp only [pL]
  refine tkH 3 (some 111) rfl rfl ?_ hS ?_ ?_; rotate_left; · rintro W' hW'; go_simp; try rfl
  try simp only [pL]
  refine xJ 4 rfl (fun K hK => ?_)
  refine jQ rfl 34 _ _ rfl 10 (b + 1) 0 (({ h with term := t, vote := u } : zC).cells (.slice As sl cs) (.slice Al ll cl)) rfl rfl zA _ zH (({ h with term := t, vote := u } : zC).cells (.slice As sl cs) (.slice Al ll cl)) HB6.out rfl (by simp) hone2 rfl ?_
  intro w7 hb7 hm7 hs7
  refine hK.out _ _ (hS.self hm7) (fun hS => ?_)
  clear hK K
  try simp only [pL]
  refine tkH 5 (some 5) rfl rfl ?_ hS ?_ ?_; rotate_left; · rintro W' hW'; go_simp; try rfl
  try simp only [pL]
  refine wpAnyH_done (by kernel_rfl) ?_ _
  have HX7 : Hid (Chg w0 w (.slice Al ll cl) w7) := hJ (HXw4.out.box hS (by omega))
  go_wp2_with fail
  exact bodyPost_ret (zL rfl _ w7 (b + 1) _ _ zA rfl hb7 rfl) rfl ⟨HX7.out, zcU.no Hp.out _ rfl hone2 rfl⟩
 have Hp : Hid (yE h p = some ({ h with term := t, vote := u } : zC)) := hJ (by rw [Hch.out, hck]; rfl)
 go_wp2_with fail
 refine wp_region_held_drew (S := fun W' => Mod (fun k => k = b + 1) w4 W') (by kernel_rfl) (Mod.refl _ w4).drew (fun hS => ?_)
 refine tkH 0 (some 108) rfl rfl (.agg (({ h with term := t, vote := u } : zC).cells (.slice As sl cs) (.slice Al ll cl)).toArray) hS ?_ ?_
 · rintro W' hW'
   exact yD _ _ rfl (.pointer (some ⟨b, 0, none⟩)) _ rfl (hldt W' hW')
 try simp only [pL]
 refine tkH 1 (some 109) rfl rfl (.agg (({ h with term := t, vote := u } : zC).cells (.slice As sl cs) (.slice Al ll cl)).toArray) hS ?_ ?_
 · rintro W' hW'
   exact yD _ _ rfl (.pointer (some ⟨b, 0, none⟩)) _ rfl (hldt W' hW')
 try simp only [pL]
 refine xJ 2 rfl (fun K hK => ?_)
 go_simp
 go_wp2_with fail
 refine (za2 w4.drew _ ({ h with term := t, vote := u } : zC) _ _ (HNw4.out.mem) hyl).mono ?_
 rintro e w6 ⟨rfl, hE6⟩
 rw [hck, if_pos rfl]
 have HB6 := hJ (hE6.blk HBw4.out id)
 have HN6 := hJ (HNw4.out.ext (Mod.ext (Mod.refl _ w4).drew hE6))
 have hX := (hS.ext hE6)
 go_simp
 refine hK.out _ _ hX (fun hS => ?_)
 clear hK K hX
 try simp only [pL]
 refine tkH 3 (some 111) rfl rfl ?_ hS ?_ ?_; rotate_left; · rintro W' hW'; go_simp; try rfl
 try simp only [pL]
 refine xJ 4 rfl (fun K hK => ?_)
 refine jQ rfl 34 _ _ rfl 10 (b + 1) 0 (({ h with term := t, vote := u } : zC).cells (.slice As sl cs) (.slice Al ll cl)) rfl rfl zA _ zH (({ h with term := t, vote := u } : zC).cells (.slice As sl cs) (.slice Al ll cl)) HB6.out rfl (by simp) hone2 rfl ?_
 intro w7 hb7 hm7 hs7
 refine hK.out _ _ (hS.self hm7) (fun hS => ?_)
 clear hK K
 try simp only [pL]
 refine tkH 5 (some 5) rfl rfl ?_ hS ?_ ?_; rotate_left; · rintro W' hW'; go_simp; try rfl
 try simp only [pL]
 refine wpAnyH_done (by kernel_rfl) ?_ _
 have HX7 : Hid (Chg w0 w (.slice Al ll cl) w7) := hJ (HXw4.out.box hS (by omega))
 have HN7 := hJ (HN6.out.box HB6.out hm7 (by decide) (by decide))
 go_wp2_with fail
 exact bodyPost_ret (zL rfl _ w7 (b + 1) _ _ zA rfl hb7 rfl) rfl ⟨HX7.out, zcU.yes Hp.out _ _ rfl HN7.out⟩
theorem zk0 (w w0 : World) (T : Nat → Prop) (h : zC) (As : Option Addr) (sl cs : Nat) (Al : Option Addr) (ll cl : Nat) (A : Option Addr) (n c : Nat) (p : List UInt8) (hI : ChIn w0 w h As sl cs Al ll cl) (hp : Byt w T (.slice A n c) p) (hn : p.length = n) (hnl : n ≤ 100000) (x : UInt8) (r : List UInt8) (hpx : p = x :: r) (h2 : x.toNat = 3) :
  Calls Tryz.prog 73 #[.agg #[.int .i64 h.term, .int .i64 h.vote, .int .i64 h.base, .int .i64 h.baseTerm, .int .i64 h.conf.full, .int .i64 h.conf.wit, .int .i64 h.conf.learn, .int .i64 h.conf.learnWit, .slice As sl cs, .slice Al ll cl], .slice A n c] w fun e w' => Chg w0 w (.slice Al ll cl) w' ∧ zcU w0 w' (yE h p) e := by
 obtain ⟨hln, hnc, hcm, hAA⟩ := qE hp
 obtain ⟨g, off, rfl, _⟩ := hAA (by rw [← hn, hpx]; simp)
 have hs : Sl w T 1 (.slice (some ⟨g, off, none⟩) n c) n (p.map B) := by unfold Byt at hp; rw [hn] at hp; exact hp
 have hn1 : 1 ≤ n := by rw [← hn, hpx]; simp
 obtain ⟨_, _, x', e1, hx', x0⟩ := zb0 hs (i := 0) (by omega)
 injection e1 with e1
 injection e1 with e1 e2
 subst e1; subst e2
 rw [Nat.add_zero] at x0
 have hxx : x' = x := by rw [hpx] at hx'; simpa using hx'.symm
 rw [hxx] at x0
 have hnz : ((n : Int) == 0) = false := by simp; omega
 have hnz2 : (n == 0) = false := by simp; omega
 have hrl : r.length = n - 1 := by rw [← hn, hpx]; simp
 have hbr0 : Byt w T (.slice (cutA (some ⟨g, off, none⟩) 1 c 1) (n - 1) (c - 1)) r := by
  have h1 := Sl.cutA hs (m := 1) (by omega)
  have e : (p.map B).drop (1 * 1) = r.map B := by rw [hpx]; rfl
  rw [e] at h1
  unfold Byt
  rw [hrl]
  exact h1
 clear hs hx' hxx hp hn
 obtain ⟨b, hb⟩ : ∃ b, w.heap.size = b := ⟨_, rfl⟩
 obtain ⟨W, hW⟩ : ∃ W, W = (w.alloc (.cells (h.cells (.slice As sl cs) (.slice Al ll cl)).toArray 34)).alloc (.cells zH.toArray 34) := ⟨_, rfl⟩
 obtain ⟨hA, hB, hsz⟩ := zaC w (.cells (h.cells (.slice As sl cs) (.slice Al ll cl)).toArray 34) (.cells zH.toArray 34)
 rw [← hW, hb] at hA hB hsz
 have hE : Ext w W := by rw [hW]; exact ((Mod.refl _ w).alloc _).alloc _
 have hN : jP w0 W (.slice As sl cs) (.slice Al ll cl) h := hI.N.ext hE
 have hX : Chg w0 w (.slice Al ll cl) W := ⟨hI.E.ext hE, Ext.mod hE _, hI.E.size⟩
 have hwb : w.heap.size ≤ b := by rw [← hb]; exact Nat.le_refl _
 have hone := xK hN
 have hw0 : w0.heap.size ≤ b := by rw [← hb]; exact hI.E.size
 have HI := hJ hI
 have HW := hJ hW
 have HA := hJ hA
 have HB := hJ hB
 have Hb := hJ hb
 have HE := hJ hE
 have HN := hJ hN
 have HX := hJ hX
 clear hW hA hB hb hE hN hX hI hsz
 have Hbr := hJ (hbr0.ext HE.out)
 have Hrl := hJ hrl
 have hx0 : W.cell? ⟨g, off, none⟩ = some (.int .u8 (x.toNat : Int)) := HE.out.cell x0 id
 clear hbr0 hrl x0
 have hx2 : x.toNat = 3 := h2
 rw [h2] at hx0
 rw [HW.out] at hx0
 clear h2
 go_enter Tryz.func73, Tryz.ntmps73
 go_wp2_with fail
 rw [← HW.out, Hb.out]
 refine (zpR W T _ r 1 Hbr.out (by rw [Hrl.out]; omega) (by omega)).mono ?_
 rintro e w1 ⟨v', rfl, hI1, hX1⟩
 have HA1 := hJ (hX1.blk HA.out id)
 have HB1 := hJ (hX1.blk HB.out id)
 have HX1 := hJ (HX.out.ext hX1)
 have HN1 := hJ (HN.out.ext hX1)
 obtain ⟨t, ht⟩ : ∃ t, (RS.int ⟨r, 0⟩).1 = t := ⟨_, rfl⟩
 obtain ⟨q, hq⟩ : ∃ q, (RS.int ⟨r, 0⟩).2 = q := ⟨_, rfl⟩
 have hR : rdN 1 ⟨r, 0⟩ = ([t], q) := by rw [← ht, ← hq]; rfl
 have hrd : zf0 r = if q.done = 0 then some t else none := by unfold zf0; rw [ht, hq]
 rw [hR] at hI1 ⊢
 have Hrd := hJ hrd
 clear hR hq hrd hX1 hx0
 simp only
 obtain ⟨g2, c2, rfl, z0, hc2⟩ := hI1.at (i := 0) (x := t) rfl
 have hti : I64 t := by rw [← ht]; exact qA _
 have HI1 := hJ hI1
 clear hI1 ht
 simp only [List.length_cons, List.length_nil] at hc2 ⊢
 have hc2' : 1 ≤ c2 := hc2
 have hld0 := zF (P := Tryz.prog) (o := 0) (cs := h.cells (.slice As sl cs) (.slice Al ll cl)) zA HA1.out rfl (fun j u hu => by rw [Nat.zero_add]; exact hu)
 go_wp2_with (refine zG rfl 34 _ rfl _ _ rfl hld0 ?_)
 clear hld0
 refine (l_last w1 _ h _ _ HN1.out.mem (by have := HI.out.l; have := HI.out.l1; omega) HI.out.r.b0 HI.out.r.b1).mono ?_
 rintro e w2 ⟨rfl, hX2⟩
 obtain ⟨li, hli⟩ : ∃ i, zcF h = i := ⟨_, rfl⟩
 have hli2 : li = h.base + ll := by rw [← hli]; unfold zcF; rw [HI.out.l]
 rw [hli]
 replace z0 := hX2.cell z0 id
 replace HA1 := hJ (hX2.blk HA1.out id)
 replace HB1 := hJ (hX2.blk HB1.out id)
 replace HX1 := hJ (HX1.out.ext hX2)
 replace HN1 := hJ (HN1.out.ext hX2)
 have Hli2 := hJ hli2
 clear hX2 hli hli2
 have y2 : w2.cell? ⟨b, 2, none⟩ = some (.int .i64 h.base) := zB (cs := h.cells (.slice As sl cs) (.slice Al ll cl)) HA1.out rfl
 rcases hd : (q.done == 0) with _ | _
 ·
  have hrn : zf0 r = none := by rw [Hrd.out, if_neg (by simpa using hd)]
  have Hp : Hid (yE h p = none) := hJ (by rw [hpx]; exact zdJ (by rw [hx2]; exact turn3_no hrn))
  have hldq := fun q => zF (P := Tryz.prog) (w := w2.drewN q) (o := 0) (cs := h.cells (.slice As sl cs) (.slice Al ll cl)) zA HA1.out rfl (fun j u hu => by rw [Nat.zero_add]; exact hu)
  have hBq : ∀ q, (w2.drewN q).heap[b + 1]? = some (.cells zH.toArray 34 (0, 0)) := fun q => HB1.out
  clear z0
  go_wp2_with fail
  go_quiet (fail)
  go_wp2_with (first | (refine zG rfl 34 _ rfl _ _ rfl (hldq _) ?_) | (refine zD rfl 34 _ _ rfl 10 (b + 1) 0 (h.cells (.slice As sl cs) (.slice Al ll cl)) rfl rfl zA _ zH (h.cells (.slice As sl cs) (.slice Al ll cl)) (hBq _) rfl (by simp) hone rfl ?_))
  intro wz hbz hmz hsz
  have HEz := hJ ((HX1.out.drewN _).box hmz (by omega))
  clear hldq hBq hmz hsz
  go_wp2_with fail
  exact bodyPost_ret (zL rfl _ wz (b + 1) _ _ zA rfl hbz rfl) rfl ⟨HEz.out, zcU.no Hp.out _ rfl hone rfl⟩
 have hrs : zf0 r = some t := by rw [Hrd.out, if_pos (by simpa using hd)]
 by_cases hlo : t ≤ h.base
 ·
  have Hp : Hid (yE h p = none) := hJ (by rw [hpx]; exact zdJ (by rw [hx2]; exact zjK hrs (.inl hlo)))
  have hldq := fun q => zF (P := Tryz.prog) (w := w2.drewN q) (o := 0) (cs := h.cells (.slice As sl cs) (.slice Al ll cl)) zA HA1.out rfl (fun j u hu => by rw [Nat.zero_add]; exact hu)
  have hBq : ∀ q, (w2.drewN q).heap[b + 1]? = some (.cells zH.toArray 34 (0, 0)) := fun q => HB1.out
  go_wp2_with fail
  go_quiet (fail)
  go_wp2_with (first | (refine zG rfl 34 _ rfl _ _ rfl (hldq _) ?_) | (refine zD rfl 34 _ _ rfl 10 (b + 1) 0 (h.cells (.slice As sl cs) (.slice Al ll cl)) rfl rfl zA _ zH (h.cells (.slice As sl cs) (.slice Al ll cl)) (hBq _) rfl (by simp) hone rfl ?_))
  intro wz hbz hmz hsz
  have HEz := hJ ((HX1.out.drewN _).box hmz (by omega))
  clear hldq hBq hmz hsz
  go_wp2_with fail
  exact bodyPost_ret (zL rfl _ wz (b + 1) _ _ zA rfl hbz rfl) rfl ⟨HEz.out, zcU.no Hp.out _ rfl hone rfl⟩
 by_cases hhi : li < t
 ·
  have Hp : Hid (yE h p = none) := hJ (by rw [hpx]; exact zdJ (by rw [hx2]; exact zjK hrs (.inr (by have := Hli2.out; have := HI.out.l; omega))))
  have hldq := fun q => zF (P := Tryz.prog) (w := w2.drewN q) (o := 0) (cs := h.cells (.slice As sl cs) (.slice Al ll cl)) zA HA1.out rfl (fun j u hu => by rw [Nat.zero_add]; exact hu)
  have hBq : ∀ q, (w2.drewN q).heap[b + 1]? = some (.cells zH.toArray 34 (0, 0)) := fun q => HB1.out
  go_wp2_with fail
  go_quiet (fail)
  go_wp2_with (first | (refine zG rfl 34 _ rfl _ _ rfl (hldq _) ?_) | (refine zD rfl 34 _ _ rfl 10 (b + 1) 0 (h.cells (.slice As sl cs) (.slice Al ll cl)) rfl rfl zA _ zH (h.cells (.slice As sl cs) (.slice Al ll cl)) (hBq _) rfl (by simp) hone rfl ?_))
  intro wz hbz hmz hsz
  have HEz := hJ ((HX1.out.drewN _).box hmz (by omega))
  clear hldq hBq hmz hsz
  go_wp2_with fail
  exact bodyPost_ret (zL rfl _ wz (b + 1) _ _ zA rfl hbz rfl) rfl ⟨HEz.out, zcU.no Hp.out _ rfl hone rfl⟩
 go_wp2_with fail
 go_quiet (fail)
 obtain ⟨k, hk⟩ : ∃ k, (t - h.base - 1).toNat = k := ⟨_, rfl⟩
 have hb0 := HI.out.r.b0
 have hb1 := HI.out.r.b1
 have hll := HI.out.l1
 have hl3 := Hli2.out
 have hkl : k ≤ ll := by omega
 have hki : (k : Int) = t - h.base - 1 := by omega
 have hkc : ll ≤ cl := by
  obtain ⟨_, A', c', e, h3, _⟩ := HN1.out.mem.2.1
  injection e with e1 e2 e3
  rw [HI.out.l] at e2 h3
  omega
 obtain ⟨wd, hwd⟩ : ∃ wd, wd = (w2.drewN nq).drew := ⟨_, rfl⟩
 have HAd : Hid (wd.heap[b]? = some (.cells (h.cells (.slice As sl cs) (.slice Al ll cl)).toArray 34 (0, 0))) := hJ (by rw [hwd]; exact HA1.out)
 have HBd : Hid (wd.heap[b + 1]? = some (.cells zH.toArray 34 (0, 0))) := hJ (by rw [hwd]; exact HB1.out)
 have HXd : Hid (Chg w0 w (.slice Al ll cl) wd) := hJ (by rw [hwd]; exact (HX1.out.drewN _).drew)
 have HNd : Hid (jP w0 wd (.slice As sl cs) (.slice Al ll cl) h) := hJ (by rw [hwd]; exact HN1.out)
 have q1 : IntKind.i64.wrap (t - h.base) = t - h.base := IntWalk.i64_in _ (by unfold I64 at hti; omega)
 have q2 : IntKind.i64.wrap (t - h.base - 1) = (k : Int) := by rw [IntWalk.i64_in _ (by unfold I64 at hti; omega)]; exact hki.symm
 have q3 : (0 : Int) ≤ (k : Int) := by omega
 have q4 : (k : Int) ≤ (cl : Int) := by omega
 have q5 : (1 : Int) ≤ t - h.base := by omega
 have q6 : t - h.base - 1 ≤ (cl : Int) := by omega
 have e9 : wd.cell? ⟨b, 9, none⟩ = some (.slice Al ll cl) := zB (cs := h.cells (.slice As sl cs) (.slice Al ll cl)) HAd.out rfl
 have e2 : wd.cell? ⟨b, 2, none⟩ = some (.int .i64 h.base) := zB (cs := h.cells (.slice As sl cs) (.slice Al ll cl)) HAd.out rfl
 have f9 : wd.frozen? ⟨b, 9, none⟩ = false := zK 9 HAd.out
 have z0d : wd.cell? ⟨g2, 0, none⟩ = some (.int .i64 t) := by rw [hwd]; exact z0
 obtain ⟨w4, hw4⟩ : ∃ w4, wd.setCell ⟨b, 9, none⟩ (.slice Al k cl) = w4 := ⟨_, rfl⟩
 have HAw4 : Hid (w4.heap[b]? = some (.cells (h.cells (.slice As sl cs) (.slice Al k cl)).toArray 34 (0, 0))) := hJ (by rw [← hw4]; simp [World.setCell, Array.getElem?_modify, HAd.out])
 have HMw4 : Hid (Mod (fun k => k = b) wd w4) := hJ (by rw [← hw4]; exact zO (Mod.refl _ wd) _ _)
 have hE4 : zaX w0 wd (.slice Al k cl) (h.log.take k) := by
  have h1 := HNd.out.2.1
  rw [HI.out.l] at h1
  have h2 := ziE h1 hkl
  refine ⟨?_, fun y hy => HNd.out.2.2.1 y (List.mem_of_mem_take hy), fun g hg => HNd.out.2.2.2 g (by cases Al <;> exact hg)⟩
  have hl4 : (h.log.take k).length = k := by rw [List.length_take, HI.out.l]; omega
  rw [hl4, ← zgG (k := 16) (c := zI.cells) (fun _ => rfl)]
  exact h2
 have Hw4 := hJ hw4
 have HE4 := hJ hE4
 have Hwd := hJ hwd
 clear hw4 hE4 hwd z0 y2
 go_wp2_with fail
 have hgb : g2 ≠ b := fun e => by have h1 := HI1.out.2 g2 rfl; have h2 := (Array.getElem?_eq_some_iff.1 HB.out).1; omega
 have hX4 : w4.cell? ⟨g2, 0, none⟩ = some (.int .i64 t) ∧ w4.cell? ⟨b, 2, none⟩ = some (.int .i64 h.base) := ⟨HMw4.out.cell z0d hgb, zB (cs := (h.cells (.slice As sl cs) (.slice Al k cl))) HAw4.out rfl⟩
 refine wp_region_held_drew (S := fun W' => W'.cell? ⟨g2, 0, none⟩ = some (.int .i64 t) ∧ W'.cell? ⟨b, 2, none⟩ = some (.int .i64 h.base)) (by kernel_rfl) (by rw [← Hwd.out]; exact ⟨z0d, e2⟩) (fun hS => ?_)
 rw [← Hwd.out] at hS ⊢
 have hone2 : ∀ v ∈ ({ h with log := h.log.take k } : zC).cells (.slice As sl cs) (.slice Al k cl), v.oneCell' = true := by
  intro v hv; simp only [List.mem_cons, List.not_mem_nil, or_false] at hv; rcases hv with rfl | rfl | rfl | rfl | rfl | rfl | rfl | rfl | rfl | rfl <;> rfl
 iterate 8
  (first | refine tkI 0 (some 80) rfl rfl ?_ hS ?_ ?_ | refine tkI 2 (some 82) rfl rfl ?_ hS ?_ ?_ | refine tkI 3 (some 83) rfl rfl ?_ hS ?_ ?_ | refine tkI 4 (some 84) rfl rfl ?_ hS ?_ ?_ | refine tkI 5 (some 85) rfl rfl ?_ hS ?_ ?_ | refine tkI 6 (some 86) rfl rfl ?_ hS ?_ ?_ | refine tkI 7 (some 87) rfl rfl ?_ hS ?_ ?_ | refine tkI 8 (some 88) rfl rfl ?_ hS ?_ ?_); rotate_left; · rintro W' ⟨_,_⟩; go_simp; try rfl
  try simp only [pL]
 refine xJ 1 rfl (fun K hK => ?_)
 go_simp
 refine hK.out _ _ (hS) (fun hS => ?_)
 clear hK K
 try simp only [pL]
 iterate 2
  (first | refine tkI 9 (some 89) rfl rfl ?_ hS ?_ ?_ | refine tkI 10 (some 90) rfl rfl ?_ hS ?_ ?_); rotate_left; · rintro W' ⟨_,_⟩; go_simp; try rfl
  try simp only [pL]
 refine xJ 11 rfl (fun K hK => ?_)
 go_simp
 rw [Hw4.out]
 refine hK.out _ _ (hX4) (fun hS => ?_)
 clear hK K
 try simp only [pL]
 refine wpAnyH_done (by kernel_rfl) ?_ _
 have hZ4 := HNd.out.box HAd.out HMw4.out (by decide) (by decide)
 have HNw4 : Hid (jP w0 w4 (.slice As sl cs) (.slice Al k cl) ({ h with log := h.log.take k } : zC)) := hJ ⟨hZ4.1, newE_box HE4.out HAd.out HMw4.out (by decide)⟩
 have HBw4 : Hid (w4.heap[b + 1]? = some (.cells zH.toArray 34 (0, 0))) := hJ (HMw4.out.blk HBd.out (by omega))
 have HXw4 : Hid (Chg w0 w (.slice Al ll cl) w4) := hJ (HXd.out.box HMw4.out (by omega))
 have hyl : ({ h with log := h.log.take k } : zC).log.length ≤ 1000000 := by have := HI.out.l; simp only [List.length_take]; omega
 have Hch : Hid (yE h p = if yG ({ h with log := h.log.take k } : zC) then some ({ h with log := h.log.take k } : zC) else none) := hJ (by rw [hpx]; exact zkW (by rw [hx2, ← hk]; exact turn3 hrs (by have := HI.out.l; omega)))
 clear hS hZ4 HAd HBd HNd HXd
 have hldt := fun (W' : World) (hW' : Mod (fun k => k = b + 1) w4 W') => zF (P := Tryz.prog) (o := 0) (cs := ({ h with log := h.log.take k } : zC).cells (.slice As sl cs) (.slice Al k cl)) zA (hW'.blk HAw4.out (by omega)) rfl (fun j u hu => by rw [Nat.zero_add]; exact hu)
 rcases hck : yG ({ h with log := h.log.take k } : zC) with _ | _
 ·
  have Hp : Hid (yE h p = none) := hJ (by rw [Hch.out, hck]; rfl)
  go_wp2_with fail
  refine wp_region_held_drew (S := fun W' => Mod (fun k => k = b + 1) w4 W') (by kernel_rfl) (Mod.refl _ w4).drew (fun hS => ?_)
  refine tkH 0 (some 108) rfl rfl (.agg (({ h with log := h.log.take k } : zC).cells (.slice As sl cs) (.slice Al k cl)).toArray) hS ?_ ?_
  · rintro W' hW'
    exact yD _ _ rfl (.pointer (some ⟨b, 0, none⟩)) _ rfl (hldt W' hW')
  try simp only [pL]
  refine tkH 1 (some 109) rfl rfl (.agg (({ h with log := h.log.take k } : zC).cells (.slice As sl cs) (.slice Al k cl)).toArray) hS ?_ ?_
  · rintro W' hW'
    exact yD _ _ rfl (.pointer (some ⟨b, 0, none⟩)) _ rfl (hldt W' hW')
  try simp only [pL]
  refine xJ 2 rfl (fun K hK => ?_)
  go_simp
  go_wp2_with fail
  refine (za2 w4.drew _ ({ h with log := h.log.take k } : zC) _ _ (HNw4.out.mem) hyl).mono ?_
  rintro e w6 ⟨rfl, hE6⟩
  rw [hck, if_neg (by simp)]
  have HB6 := hJ (hE6.blk HBw4.out id)
  have HN6 := hJ (HNw4.out.ext (Mod.ext (Mod.refl _ w4).drew hE6))
  have hX := (hS.ext hE6)
  go_simp
  refine hK.out _ _ hX (fun hS => ?_)
  clear hK K hX
  try simp only [pL]
  refine tkH 3 (some 111) rfl rfl ?_ hS ?_ ?_; rotate_left; · rintro W' hW'; go_simp; try rfl
  try simp only [pL]
  refine xJ 4 rfl (fun K hK => ?_)
  refine jQ rfl 34 _ _ rfl 10 (b + 1) 0 (({ h with log := h.log.take k } : zC).cells (.slice As sl cs) (.slice Al k cl)) rfl rfl zA _ zH (({ h with log := h.log.take k } : zC).cells (.slice As sl cs) (.slice Al k cl)) HB6.out rfl (by simp) hone2 rfl ?_
  intro w7 hb7 hm7 hs7
  refine hK.out _ _ (hS.self hm7) (fun hS => ?_)
  clear hK K
  try simp only [pL]
  refine tkH 5 (some 5) rfl rfl ?_ hS ?_ ?_; rotate_left; · rintro W' hW'; go_simp; try rfl
  try simp only [pL]
  refine wpAnyH_done (by kernel_rfl) ?_ _
  have HX7 : Hid (Chg w0 w (.slice Al ll cl) w7) := hJ (HXw4.out.box hS (by omega))
  go_wp2_with fail
  exact bodyPost_ret (zL rfl _ w7 (b + 1) _ _ zA rfl hb7 rfl) rfl ⟨HX7.out, zcU.no Hp.out _ rfl hone2 rfl⟩
 have Hp : Hid (yE h p = some ({ h with log := h.log.take k } : zC)) := hJ (by rw [Hch.out, hck]; rfl)
 go_wp2_with fail
 refine wp_region_held_drew (S := fun W' => Mod (fun k => k = b + 1) w4 W') (by kernel_rfl) (Mod.refl _ w4).drew (fun hS => ?_)
 refine tkH 0 (some 108) rfl rfl (.agg (({ h with log := h.log.take k } : zC).cells (.slice As sl cs) (.slice Al k cl)).toArray) hS ?_ ?_
 · rintro W' hW'
   exact yD _ _ rfl (.pointer (some ⟨b, 0, none⟩)) _ rfl (hldt W' hW')
 try simp only [pL]
 refine tkH 1 (some 109) rfl rfl (.agg (({ h with log := h.log.take k } : zC).cells (.slice As sl cs) (.slice Al k cl)).toArray) hS ?_ ?_
 · rintro W' hW'
   exact yD _ _ rfl (.pointer (some ⟨b, 0, none⟩)) _ rfl (hldt W' hW')
 try simp only [pL]
 refine xJ 2 rfl (fun K hK => ?_)
 go_simp
 go_wp2_with fail
 refine (za2 w4.drew _ ({ h with log := h.log.take k } : zC) _ _ (HNw4.out.mem) hyl).mono ?_
 rintro e w6 ⟨rfl, hE6⟩
 rw [hck, if_pos rfl]
 have HB6 := hJ (hE6.blk HBw4.out id)
 have HN6 := hJ (HNw4.out.ext (Mod.ext (Mod.refl _ w4).drew hE6))
 have hX := (hS.ext hE6)
 go_simp
 refine hK.out _ _ hX (fun hS => ?_)
 clear hK K hX
 try simp only [pL]
 refine tkH 3 (some 111) rfl rfl ?_ hS ?_ ?_; rotate_left; · rintro W' hW'; go_simp; try rfl
 try simp only [pL]
 refine xJ 4 rfl (fun K hK => ?_)
 refine jQ rfl 34 _ _ rfl 10 (b + 1) 0 (({ h with log := h.log.take k } : zC).cells (.slice As sl cs) (.slice Al k cl)) rfl rfl zA _ zH (({ h with log := h.log.take k } : zC).cells (.slice As sl cs) (.slice Al k cl)) HB6.out rfl (by simp) hone2 rfl ?_
 intro w7 hb7 hm7 hs7
 refine hK.out _ _ (hS.self hm7) (fun hS => ?_)
 clear hK K
 try simp only [pL]
 refine tkH 5 (some 5) rfl rfl ?_ hS ?_ ?_; rotate_left; · rintro W' hW'; go_simp; try rfl
 try simp only [pL]
 refine wpAnyH_done (by kernel_rfl) ?_ _
 have HX7 : Hid (Chg w0 w (.slice Al ll cl) w7) := hJ (HXw4.out.box hS (by omega))
 have HN7 := hJ (HN6.out.box HB6.out hm7 (by decide) (by decide))
 go_wp2_with fail
 exact bodyPost_ret (zL rfl _ w7 (b + 1) _ _ zA rfl hb7 rfl) rfl ⟨HX7.out, zcU.yes Hp.out _ _ rfl HN7.out⟩
end Go.Proofs.YtjhnlncgmejkcaaGreat
