/-
 The contract of stable.changed (printed by stby.py). Conditions: as each theorem names them.
-/
import Derived.Test.YtjhnlncgmejkcaaGreatStbX
namespace Go.Proofs.YtjhnlncgmejkcaaGreat
set_option linter.unusedSimpArgs false
open Go.RowKit

theorem turn_other {h : AHard} {c : Nat} {b : List UInt8} (h2 : c ≠ 2) (h3 : c ≠ 3) (h4 : c ≠ 4) : turnP h c b = none := by
 unfold turnP
 rw [if_neg h2, if_neg h3, if_neg h4]
theorem turn2_no {h : AHard} {b : List UInt8} (hr : read2 b = none) : turnP h 2 b = none := by
 unfold turnP
 rw [if_pos rfl, hr]
theorem turn2_low {h : AHard} {b : List UInt8} {t v : Int} (hr : read2 b = some (t, v)) (ht : t < h.term) : turnP h 2 b = none := by
 unfold turnP
 rw [if_pos rfl, hr]
 simp only
 rw [if_pos ht]
theorem turn3_no {h : AHard} {b : List UInt8} (hr : read1 b = none) : turnP h 3 b = none := by
 unfold turnP
 rw [if_neg (by decide), if_pos rfl, hr]
theorem turn3_out {h : AHard} {b : List UInt8} {n : Int} (hr : read1 b = some n) (hn : n ≤ h.base ∨ h.base + h.log.length < n) : turnP h 3 b = none := by
 unfold turnP
 rw [if_neg (by decide), if_pos rfl, hr]
 simp only
 rw [if_pos hn]
theorem turn4_no {h : AHard} {b : List UInt8} (hr : wReadEnt b = none) : turnP h 4 b = none := by
 unfold turnP
 rw [if_neg (by decide), if_neg (by decide), if_pos rfl, hr]
theorem ch_none {h : AHard} {x : UInt8} {r : List UInt8} (e : turnP h x.toNat r = none) : changedP h (x :: r) = none := by
 rw [changed_cons, e]; rfl
theorem ch_some {h y : AHard} {x : UInt8} {r : List UInt8} (e : turnP h x.toNat r = some y) : changedP h (x :: r) = if checkH y then some y else none := by
 rw [changed_cons, e]; rfl
theorem flat_take {α : Type} {c : α → List Value} {k : Nat} (hc : ∀ a, (c a).length = k) : ∀ (l : List α) (n : Nat), (l.flatMap c).take (n * k) = (l.take n).flatMap c
 | [], _ => by simp
 | a :: l, 0 => by simp
 | a :: l, n + 1 => by
  rw [List.take_succ_cons, List.flatMap_cons, List.flatMap_cons, ← flat_take hc l n, List.take_append, hc a, show (n + 1) * k - k = n * k by rw [Nat.succ_mul]; omega, List.take_of_length_le (by rw [hc a, Nat.succ_mul]; omega)]
/-- What changed turns: the list's own block, and what is new. -/
structure Chg (w0 w : World) (lv : Value) (w' : World) : Prop where
 E : Ext w0 w'
 M : Mod (fun k => lv.ownBlock = some k) w w'
 z : w0.heap.size ≤ w.heap.size
theorem Chg.ext {w0 w a c : World} {lv : Value} (h : Chg w0 w lv a) (hE : Ext a c) : Chg w0 w lv c := ⟨h.E.ext hE, h.M.ext hE, h.z⟩
theorem Chg.drew {w0 w a : World} {lv : Value} (h : Chg w0 w lv a) : Chg w0 w lv a.drew := ⟨h.E.drew, h.M.drew, h.z⟩
theorem Chg.drewN {w0 w a : World} {lv : Value} (h : Chg w0 w lv a) (n : Nat) : Chg w0 w lv (a.drewN n) := ⟨h.E.drewN n, h.M.drewN n, h.z⟩
theorem Chg.box {w0 w a c : World} {lv : Value} {b : Nat} (h : Chg w0 w lv a) (hM : Mod (fun k => k = b) a c) (hb : w.heap.size ≤ b) : Chg w0 w lv c :=
 ⟨h.E.trans hM (fun k hk e => by have := h.z; omega), h.M.trans hM (fun k hk e => by omega), h.z⟩
theorem Chg.app {w0 w a c : World} {lv : Value} (h : Chg w0 w lv a) (hM : Mod (fun k => lv.ownBlock = some k) a c) (hf : ∀ g, lv.ownBlock = some g → w0.heap.size ≤ g) : Chg w0 w lv c :=
 ⟨h.E.trans hM (fun k hk e => by have := hf k e; omega), h.M.self hM, h.z⟩
/-- What stands when changed is called. -/
structure ChIn (w0 w : World) (h : AHard) (As : Option Addr) (sl cs : Nat) (Al : Option Addr) (ll cl : Nat) : Prop where
 N : NewH w0 w (.slice As sl cs) (.slice Al ll cl) h
 E : Ext w0 w
 s : h.snap.length = sl
 l : h.log.length = ll
 l1 : ll ≤ 900000
 r : Right h
set_option maxRecDepth 100000 in
set_option maxHeartbeats 2000000 in
theorem st_changed0 (w w0 : World) (T : Nat → Prop) (h : AHard) (As : Option Addr) (sl cs : Nat) (Al : Option Addr) (ll cl : Nat) (A : Option Addr) (n c : Nat) (p : List UInt8) (hI : ChIn w0 w h As sl cs Al ll cl) (hp : Byt w T (.slice A n c) p) (hn : p.length = n) (hnl : n ≤ 100000) (h0 : n = 0) :
  Calls Tryz.prog 73 #[.agg #[.int .i64 h.term, .int .i64 h.vote, .int .i64 h.base, .int .i64 h.baseTerm, .int .i64 h.conf.full, .int .i64 h.conf.wit, .int .i64 h.conf.learn, .int .i64 h.conf.learnWit, .slice As sl cs, .slice Al ll cl], .slice A n c] w fun e w' => Chg w0 w (.slice Al ll cl) w' ∧ HrdO w0 w' (changedP h p) e := by
 have hpn : p = [] := List.eq_nil_of_length_eq_zero (by omega)
 subst h0
 obtain ⟨b, hb⟩ : ∃ b, w.heap.size = b := ⟨_, rfl⟩
 obtain ⟨W, hW⟩ : ∃ W, W = (w.alloc (.cells #[.int .i64 h.term, .int .i64 h.vote, .int .i64 h.base, .int .i64 h.baseTerm, .int .i64 h.conf.full, .int .i64 h.conf.wit, .int .i64 h.conf.learn, .int .i64 h.conf.learnWit, .slice As sl cs, .slice Al ll cl] 34)).alloc (.cells #[.int .i64 0, .int .i64 0, .int .i64 0, .int .i64 0, .int .i64 0, .int .i64 0, .int .i64 0, .int .i64 0, .slice none 0 0, .slice none 0 0] 34) := ⟨_, rfl⟩
 obtain ⟨hA, hB, hsz⟩ := two_new w (.cells #[.int .i64 h.term, .int .i64 h.vote, .int .i64 h.base, .int .i64 h.baseTerm, .int .i64 h.conf.full, .int .i64 h.conf.wit, .int .i64 h.conf.learn, .int .i64 h.conf.learnWit, .slice As sl cs, .slice Al ll cl] 34) (.cells #[.int .i64 0, .int .i64 0, .int .i64 0, .int .i64 0, .int .i64 0, .int .i64 0, .int .i64 0, .int .i64 0, .slice none 0 0, .slice none 0 0] 34)
 rw [← hW, hb] at hA hB hsz
 have hE : Ext w W := by rw [hW]; exact ((Mod.refl _ w).alloc _).alloc _
 have hN : NewH w0 W (.slice As sl cs) (.slice Al ll cl) h := hI.N.ext hE
 have hX : Chg w0 w (.slice Al ll cl) W := ⟨hI.E.ext hE, Ext.mod hE _, hI.E.size⟩
 have hwb : w.heap.size ≤ b := by rw [← hb]; exact Nat.le_refl _
 have hone := cells_one hN
 have hw0 : w0.heap.size ≤ b := by rw [← hb]; exact hI.E.size
 have HI := Lib.hid hI
 have HW := Lib.hid hW
 have HA := Lib.hid hA
 have HB := Lib.hid hB
 have Hb := Lib.hid hb
 have HE := Lib.hid hE
 have HN := Lib.hid hN
 have HX := Lib.hid hX
 clear hW hA hB hb hE hN hX hI hsz
 clear hp
 have hA' := HA.out
 have Hp : Hid (changedP h p = none) := Lib.hid (by rw [hpn]; rfl)
 have hld := load_row (P := Tryz.prog) (o := 0) (cs := h.cells (.slice As sl cs) (.slice Al ll cl)) str_hard HA.out rfl (fun j u hu => by rw [Nat.zero_add]; exact hu)
 go_enter Tryz.func73, Tryz.ntmps73
 go_wp2_with (first | (rw [← HW.out, Hb.out]; refine wpList_ld rfl 34 _ rfl _ _ rfl hld ?_) | (refine wpList_stR rfl 34 _ _ rfl 10 (b + 1) 0 (h.cells (.slice As sl cs) (.slice Al ll cl)) rfl rfl str_hard _ [.int .i64 0, .int .i64 0, .int .i64 0, .int .i64 0, .int .i64 0, .int .i64 0, .int .i64 0, .int .i64 0, .slice none 0 0, .slice none 0 0] (h.cells (.slice As sl cs) (.slice Al ll cl)) HB.out rfl (by simp) hone rfl ?_))
 intro wz hbz hmz hsz
 have HEz := Lib.hid (HX.out.box hmz (by omega))
 clear hld hmz hsz
 go_wp2_with fail
 exact bodyPost_ret (results_row2 rfl _ wz (b + 1) _ _ str_hard rfl hbz rfl) rfl ⟨HEz.out, HrdO.no Hp.out _ rfl hone rfl⟩
set_option maxRecDepth 100000 in
set_option maxHeartbeats 2000000 in
theorem st_changedX (w w0 : World) (T : Nat → Prop) (h : AHard) (As : Option Addr) (sl cs : Nat) (Al : Option Addr) (ll cl : Nat) (A : Option Addr) (n c : Nat) (p : List UInt8) (hI : ChIn w0 w h As sl cs Al ll cl) (hp : Byt w T (.slice A n c) p) (hn : p.length = n) (hnl : n ≤ 100000) (x : UInt8) (r : List UInt8) (hpx : p = x :: r) (h2 : x.toNat ≠ 2) (h3 : x.toNat ≠ 3) (h4 : x.toNat ≠ 4) :
  Calls Tryz.prog 73 #[.agg #[.int .i64 h.term, .int .i64 h.vote, .int .i64 h.base, .int .i64 h.baseTerm, .int .i64 h.conf.full, .int .i64 h.conf.wit, .int .i64 h.conf.learn, .int .i64 h.conf.learnWit, .slice As sl cs, .slice Al ll cl], .slice A n c] w fun e w' => Chg w0 w (.slice Al ll cl) w' ∧ HrdO w0 w' (changedP h p) e := by
 obtain ⟨hln, hnc, hcm, hAA⟩ := byt_cap' hp
 obtain ⟨g, off, rfl, _⟩ := hAA (by rw [← hn, hpx]; simp)
 have hs : Sl w T 1 (.slice (some ⟨g, off, none⟩) n c) n (p.map B) := by unfold Byt at hp; rw [hn] at hp; exact hp
 have hn1 : 1 ≤ n := by rw [← hn, hpx]; simp
 obtain ⟨_, _, x', e1, hx', x0⟩ := cellB hs (i := 0) (by omega)
 injection e1 with e1
 injection e1 with e1 e2
 subst e1; subst e2
 rw [Nat.add_zero] at x0
 have hxx : x' = x := by rw [hpx] at hx'; simpa using hx'.symm
 rw [hxx] at x0
 have hnz : ((n : Int) == 0) = false := by simp; omega
 have hnz2 : (n == 0) = false := by simp; omega
 have hrl : r.length = n - 1 := by rw [← hn, hpx]; simp
 have hbr0 : Byt w T (.slice (cutA (some ⟨g, off, none⟩) 1 c 1) (n - 1) (c - 1)) r := by
  have h1 := Sl.cutA hs (m := 1) (by omega)
  have e : (p.map B).drop (1 * 1) = r.map B := by rw [hpx]; rfl
  rw [e] at h1
  unfold Byt
  rw [hrl]
  exact h1
 clear hs hx' hxx hp hn
 obtain ⟨b, hb⟩ : ∃ b, w.heap.size = b := ⟨_, rfl⟩
 obtain ⟨W, hW⟩ : ∃ W, W = (w.alloc (.cells #[.int .i64 h.term, .int .i64 h.vote, .int .i64 h.base, .int .i64 h.baseTerm, .int .i64 h.conf.full, .int .i64 h.conf.wit, .int .i64 h.conf.learn, .int .i64 h.conf.learnWit, .slice As sl cs, .slice Al ll cl] 34)).alloc (.cells #[.int .i64 0, .int .i64 0, .int .i64 0, .int .i64 0, .int .i64 0, .int .i64 0, .int .i64 0, .int .i64 0, .slice none 0 0, .slice none 0 0] 34) := ⟨_, rfl⟩
 obtain ⟨hA, hB, hsz⟩ := two_new w (.cells #[.int .i64 h.term, .int .i64 h.vote, .int .i64 h.base, .int .i64 h.baseTerm, .int .i64 h.conf.full, .int .i64 h.conf.wit, .int .i64 h.conf.learn, .int .i64 h.conf.learnWit, .slice As sl cs, .slice Al ll cl] 34) (.cells #[.int .i64 0, .int .i64 0, .int .i64 0, .int .i64 0, .int .i64 0, .int .i64 0, .int .i64 0, .int .i64 0, .slice none 0 0, .slice none 0 0] 34)
 rw [← hW, hb] at hA hB hsz
 have hE : Ext w W := by rw [hW]; exact ((Mod.refl _ w).alloc _).alloc _
 have hN : NewH w0 W (.slice As sl cs) (.slice Al ll cl) h := hI.N.ext hE
 have hX : Chg w0 w (.slice Al ll cl) W := ⟨hI.E.ext hE, Ext.mod hE _, hI.E.size⟩
 have hwb : w.heap.size ≤ b := by rw [← hb]; exact Nat.le_refl _
 have hone := cells_one hN
 have hw0 : w0.heap.size ≤ b := by rw [← hb]; exact hI.E.size
 have HI := Lib.hid hI
 have HW := Lib.hid hW
 have HA := Lib.hid hA
 have HB := Lib.hid hB
 have Hb := Lib.hid hb
 have HE := Lib.hid hE
 have HN := Lib.hid hN
 have HX := Lib.hid hX
 clear hW hA hB hb hE hN hX hI hsz
 have Hbr := Lib.hid (hbr0.ext HE.out)
 have Hrl := Lib.hid hrl
 have hx0 : W.cell? ⟨g, off, none⟩ = some (.int .u8 (x.toNat : Int)) := HE.out.cell x0 id
 clear hbr0 hrl x0
 have b2 : ((x.toNat : Int) == 2) = false := by simp; omega
 have b3 : ((x.toNat : Int) == 3) = false := by simp; omega
 have b4 : ((x.toNat : Int) == 4) = false := by simp; omega
 have Hp : Hid (changedP h p = none) := Lib.hid (by rw [hpx]; exact ch_none (turn_other h2 h3 h4))
 have hld := load_row (P := Tryz.prog) (o := 0) (cs := h.cells (.slice As sl cs) (.slice Al ll cl)) str_hard HA.out rfl (fun j u hu => by rw [Nat.zero_add]; exact hu)
 rw [HW.out] at hx0
 clear h2 h3 h4
 go_enter Tryz.func73, Tryz.ntmps73
 go_wp2_with (first | (rw [← HW.out, Hb.out]; refine wpList_ld rfl 34 _ rfl _ _ rfl hld ?_) | (refine wpList_stR rfl 34 _ _ rfl 10 (b + 1) 0 (h.cells (.slice As sl cs) (.slice Al ll cl)) rfl rfl str_hard _ [.int .i64 0, .int .i64 0, .int .i64 0, .int .i64 0, .int .i64 0, .int .i64 0, .int .i64 0, .int .i64 0, .slice none 0 0, .slice none 0 0] (h.cells (.slice As sl cs) (.slice Al ll cl)) HB.out rfl (by simp) hone rfl ?_))
 intro wz hbz hmz hsz
 have HEz := Lib.hid (HX.out.box hmz (by omega))
 clear hld hmz hsz
 go_wp2_with fail
 exact bodyPost_ret (results_row2 rfl _ wz (b + 1) _ _ str_hard rfl hbz rfl) rfl ⟨HEz.out, HrdO.no Hp.out _ rfl hone rfl⟩
set_option maxRecDepth 100000 in
set_option maxHeartbeats 2000000 in
theorem st_changed2 (w w0 : World) (T : Nat → Prop) (h : AHard) (As : Option Addr) (sl cs : Nat) (Al : Option Addr) (ll cl : Nat) (A : Option Addr) (n c : Nat) (p : List UInt8) (hI : ChIn w0 w h As sl cs Al ll cl) (hp : Byt w T (.slice A n c) p) (hn : p.length = n) (hnl : n ≤ 100000) (x : UInt8) (r : List UInt8) (hpx : p = x :: r) (h2 : x.toNat = 2) :
  Calls Tryz.prog 73 #[.agg #[.int .i64 h.term, .int .i64 h.vote, .int .i64 h.base, .int .i64 h.baseTerm, .int .i64 h.conf.full, .int .i64 h.conf.wit, .int .i64 h.conf.learn, .int .i64 h.conf.learnWit, .slice As sl cs, .slice Al ll cl], .slice A n c] w fun e w' => Chg w0 w (.slice Al ll cl) w' ∧ HrdO w0 w' (changedP h p) e := by
 obtain ⟨hln, hnc, hcm, hAA⟩ := byt_cap' hp
 obtain ⟨g, off, rfl, _⟩ := hAA (by rw [← hn, hpx]; simp)
 have hs : Sl w T 1 (.slice (some ⟨g, off, none⟩) n c) n (p.map B) := by unfold Byt at hp; rw [hn] at hp; exact hp
 have hn1 : 1 ≤ n := by rw [← hn, hpx]; simp
 obtain ⟨_, _, x', e1, hx', x0⟩ := cellB hs (i := 0) (by omega)
 injection e1 with e1
 injection e1 with e1 e2
 subst e1; subst e2
 rw [Nat.add_zero] at x0
 have hxx : x' = x := by rw [hpx] at hx'; simpa using hx'.symm
 rw [hxx] at x0
 have hnz : ((n : Int) == 0) = false := by simp; omega
 have hnz2 : (n == 0) = false := by simp; omega
 have hrl : r.length = n - 1 := by rw [← hn, hpx]; simp
 have hbr0 : Byt w T (.slice (cutA (some ⟨g, off, none⟩) 1 c 1) (n - 1) (c - 1)) r := by
  have h1 := Sl.cutA hs (m := 1) (by omega)
  have e : (p.map B).drop (1 * 1) = r.map B := by rw [hpx]; rfl
  rw [e] at h1
  unfold Byt
  rw [hrl]
  exact h1
 clear hs hx' hxx hp hn
 obtain ⟨b, hb⟩ : ∃ b, w.heap.size = b := ⟨_, rfl⟩
 obtain ⟨W, hW⟩ : ∃ W, W = (w.alloc (.cells #[.int .i64 h.term, .int .i64 h.vote, .int .i64 h.base, .int .i64 h.baseTerm, .int .i64 h.conf.full, .int .i64 h.conf.wit, .int .i64 h.conf.learn, .int .i64 h.conf.learnWit, .slice As sl cs, .slice Al ll cl] 34)).alloc (.cells #[.int .i64 0, .int .i64 0, .int .i64 0, .int .i64 0, .int .i64 0, .int .i64 0, .int .i64 0, .int .i64 0, .slice none 0 0, .slice none 0 0] 34) := ⟨_, rfl⟩
 obtain ⟨hA, hB, hsz⟩ := two_new w (.cells #[.int .i64 h.term, .int .i64 h.vote, .int .i64 h.base, .int .i64 h.baseTerm, .int .i64 h.conf.full, .int .i64 h.conf.wit, .int .i64 h.conf.learn, .int .i64 h.conf.learnWit, .slice As sl cs, .slice Al ll cl] 34) (.cells #[.int .i64 0, .int .i64 0, .int .i64 0, .int .i64 0, .int .i64 0, .int .i64 0, .int .i64 0, .int .i64 0, .slice none 0 0, .slice none 0 0] 34)
 rw [← hW, hb] at hA hB hsz
 have hE : Ext w W := by rw [hW]; exact ((Mod.refl _ w).alloc _).alloc _
 have hN : NewH w0 W (.slice As sl cs) (.slice Al ll cl) h := hI.N.ext hE
 have hX : Chg w0 w (.slice Al ll cl) W := ⟨hI.E.ext hE, Ext.mod hE _, hI.E.size⟩
 have hwb : w.heap.size ≤ b := by rw [← hb]; exact Nat.le_refl _
 have hone := cells_one hN
 have hw0 : w0.heap.size ≤ b := by rw [← hb]; exact hI.E.size
 have HI := Lib.hid hI
 have HW := Lib.hid hW
 have HA := Lib.hid hA
 have HB := Lib.hid hB
 have Hb := Lib.hid hb
 have HE := Lib.hid hE
 have HN := Lib.hid hN
 have HX := Lib.hid hX
 clear hW hA hB hb hE hN hX hI hsz
 have Hbr := Lib.hid (hbr0.ext HE.out)
 have Hrl := Lib.hid hrl
 have hx0 : W.cell? ⟨g, off, none⟩ = some (.int .u8 (x.toNat : Int)) := HE.out.cell x0 id
 clear hbr0 hrl x0
 have hx2 : x.toNat = 2 := h2
 rw [h2] at hx0
 rw [HW.out] at hx0
 clear h2
 go_enter Tryz.func73, Tryz.ntmps73
 go_wp2_with fail
 rw [← HW.out, Hb.out]
 refine (st_read W T _ r 2 Hbr.out (by rw [Hrl.out]; omega) (by omega)).mono ?_
 rintro e w1 ⟨v', rfl, hI1, hX1⟩
 have HA1 := Lib.hid (hX1.blk HA.out id)
 have HB1 := Lib.hid (hX1.blk HB.out id)
 have HX1 := Lib.hid (HX.out.ext hX1)
 have HN1 := Lib.hid (HN.out.ext hX1)
 obtain ⟨t, ht⟩ : ∃ t, (RS.int ⟨r, 0⟩).1 = t := ⟨_, rfl⟩
 obtain ⟨u, hu⟩ : ∃ u, (RS.int ⟨r, 0⟩).2.int.1 = u := ⟨_, rfl⟩
 obtain ⟨q, hq⟩ : ∃ q, (RS.int ⟨r, 0⟩).2.int.2 = q := ⟨_, rfl⟩
 have hR : rdN 2 ⟨r, 0⟩ = ([t, u], q) := by rw [← ht, ← hu, ← hq]; rfl
 have hrd : read2 r = if q.done = 0 then some (t, u) else none := by unfold read2; rw [ht, hu, hq]
 rw [hR] at hI1 ⊢
 have Hrd := Lib.hid hrd
 clear hR ht hu hq hrd hX1 hx0
 simp only
 obtain ⟨g2, c2, rfl, z0, hc2⟩ := hI1.at (i := 0) (x := t) rfl
 obtain ⟨g3, c3, e3, z1, _⟩ := hI1.at (i := 1) (x := u) rfl
 injection e3 with e3 _ e4
 injection e3 with e3
 injection e3 with e3 _
 subst e3; subst e4
 have HI1 := Lib.hid hI1
 clear hI1
 have y0 : w1.cell? ⟨b, 0, none⟩ = some (.int .i64 h.term) := blk_cell (cs := h.cells (.slice As sl cs) (.slice Al ll cl)) HA1.out rfl
 simp only [List.length_cons, List.length_nil] at hc2 ⊢
 have hc2' : 2 ≤ c2 := hc2
 rcases hd : (q.done == 0) with _ | _
 ·
  have hrn : read2 r = none := by rw [Hrd.out, if_neg (by simpa using hd)]
  have Hp : Hid (changedP h p = none) := Lib.hid (by rw [hpx]; exact ch_none (by rw [hx2]; exact turn2_no hrn))
  have hldq := fun q => load_row (P := Tryz.prog) (w := w1.drewN q) (o := 0) (cs := h.cells (.slice As sl cs) (.slice Al ll cl)) str_hard HA1.out rfl (fun j u hu => by rw [Nat.zero_add]; exact hu)
  have hBq : ∀ q, (w1.drewN q).heap[b + 1]? = some (.cells #[.int .i64 0, .int .i64 0, .int .i64 0, .int .i64 0, .int .i64 0, .int .i64 0, .int .i64 0, .int .i64 0, .slice none 0 0, .slice none 0 0] 34 (0, 0)) := fun q => HB1.out
  clear z0 z1
  go_wp2_with fail
  go_quiet (fail)
  go_wp2_with (first | (refine wpList_ld rfl 34 _ rfl _ _ rfl (hldq _) ?_) | (refine wpList_stR rfl 34 _ _ rfl 10 (b + 1) 0 (h.cells (.slice As sl cs) (.slice Al ll cl)) rfl rfl str_hard _ [.int .i64 0, .int .i64 0, .int .i64 0, .int .i64 0, .int .i64 0, .int .i64 0, .int .i64 0, .int .i64 0, .slice none 0 0, .slice none 0 0] (h.cells (.slice As sl cs) (.slice Al ll cl)) (hBq _) rfl (by simp) hone rfl ?_))
  intro wz hbz hmz hsz
  have HEz := Lib.hid ((HX1.out.drewN _).box hmz (by omega))
  clear hldq hBq hmz hsz
  go_wp2_with fail
  exact bodyPost_ret (results_row2 rfl _ wz (b + 1) _ _ str_hard rfl hbz rfl) rfl ⟨HEz.out, HrdO.no Hp.out _ rfl hone rfl⟩
 have hrs : read2 r = some (t, u) := by rw [Hrd.out, if_pos (by simpa using hd)]
 by_cases hlt : t < h.term
 ·
  have Hp : Hid (changedP h p = none) := Lib.hid (by rw [hpx]; exact ch_none (by rw [hx2]; exact turn2_low hrs hlt))
  have hldq := fun q => load_row (P := Tryz.prog) (w := w1.drewN q) (o := 0) (cs := h.cells (.slice As sl cs) (.slice Al ll cl)) str_hard HA1.out rfl (fun j u hu => by rw [Nat.zero_add]; exact hu)
  have hBq : ∀ q, (w1.drewN q).heap[b + 1]? = some (.cells #[.int .i64 0, .int .i64 0, .int .i64 0, .int .i64 0, .int .i64 0, .int .i64 0, .int .i64 0, .int .i64 0, .slice none 0 0, .slice none 0 0] 34 (0, 0)) := fun q => HB1.out
  go_wp2_with fail
  go_quiet (fail)
  go_wp2_with (first | (refine wpList_ld rfl 34 _ rfl _ _ rfl (hldq _) ?_) | (refine wpList_stR rfl 34 _ _ rfl 10 (b + 1) 0 (h.cells (.slice As sl cs) (.slice Al ll cl)) rfl rfl str_hard _ [.int .i64 0, .int .i64 0, .int .i64 0, .int .i64 0, .int .i64 0, .int .i64 0, .int .i64 0, .int .i64 0, .slice none 0 0, .slice none 0 0] (h.cells (.slice As sl cs) (.slice Al ll cl)) (hBq _) rfl (by simp) hone rfl ?_))
  intro wz hbz hmz hsz
  have HEz := Lib.hid ((HX1.out.drewN _).box hmz (by omega))
  clear hldq hBq hmz hsz
  go_wp2_with fail
  exact bodyPost_ret (results_row2 rfl _ wz (b + 1) _ _ str_hard rfl hbz rfl) rfl ⟨HEz.out, HrdO.no Hp.out _ rfl hone rfl⟩
 have f0 : w1.frozen? ⟨b, 0, none⟩ = false := blk_free 0 HA1.out
 have f1 : w1.frozen? ⟨b, 1, none⟩ = false := blk_free 1 HA1.out
 have y1 : w1.cell? ⟨b, 1, none⟩ = some (.int .i64 h.vote) := blk_cell (cs := h.cells (.slice As sl cs) (.slice Al ll cl)) HA1.out rfl
 go_wp2_with fail
 go_quiet (fail)
 go_wp2_with fail
 obtain ⟨wd, hwd⟩ : ∃ wd, wd = w1.drewN nq := ⟨_, rfl⟩
 rw [← hwd]
 have HAd : Hid (wd.heap[b]? = some (.cells #[.int .i64 h.term, .int .i64 h.vote, .int .i64 h.base, .int .i64 h.baseTerm, .int .i64 h.conf.full, .int .i64 h.conf.wit, .int .i64 h.conf.learn, .int .i64 h.conf.learnWit, .slice As sl cs, .slice Al ll cl] 34 (0, 0))) := Lib.hid (by rw [hwd]; exact HA1.out)
 have HBd : Hid (wd.heap[b + 1]? = some (.cells #[.int .i64 0, .int .i64 0, .int .i64 0, .int .i64 0, .int .i64 0, .int .i64 0, .int .i64 0, .int .i64 0, .slice none 0 0, .slice none 0 0] 34 (0, 0))) := Lib.hid (by rw [hwd]; exact HB1.out)
 have HXd : Hid (Chg w0 w (.slice Al ll cl) wd) := Lib.hid (by rw [hwd]; exact HX1.out.drewN _)
 have HNd : Hid (NewH w0 wd (.slice As sl cs) (.slice Al ll cl) h) := Lib.hid (by rw [hwd]; exact HN1.out)
 have zd0 : wd.cell? ⟨g2, 0, none⟩ = some (.int .i64 t) := by rw [hwd]; exact z0
 have zd1 : wd.cell? ⟨g2, 1, none⟩ = some (.int .i64 u) := by rw [hwd]; exact z1
 have hgb : g2 ≠ b := fun e => by have h1 := HI1.out.2 g2 rfl; have h2 := (Array.getElem?_eq_some_iff.1 HB.out).1; omega
 clear z0 z1 y0 y1 f0 f1 hwd HA1 HB1 HX1 HN1
 have hone2 : ∀ v ∈ ({ h with term := t, vote := u } : AHard).cells (.slice As sl cs) (.slice Al ll cl), v.oneCell' = true := by
  intro v hv; simp only [List.mem_cons, List.not_mem_nil, or_false] at hv; rcases hv with rfl | rfl | rfl | rfl | rfl | rfl | rfl | rfl | rfl | rfl <;> rfl
 refine wp_region_held_drew (S := fun W' => Mod (fun k => k = b) wd W') (by kernel_rfl) (Mod.refl _ wd).drew (fun hS => ?_)
 refine tkH 0 (some 41) rfl rfl ?_ hS ?_ ?_
 rotate_left
 ·
  rintro W' hW'
  have q0 := hW'.cell zd0 hgb
  have q1 := hW'.cell zd1 hgb
  go_simp
  try with_reducible rfl
 try simp only [pL]
 refine tkH 1 (some 42) rfl rfl ?_ hS ?_ ?_
 rotate_left
 ·
  rintro W' hW'
  have q0 := hW'.cell zd0 hgb
  have q1 := hW'.cell zd1 hgb
  go_simp
  try with_reducible rfl
 try simp only [pL]
 refine tkH 2 (some 43) rfl rfl ?_ hS ?_ ?_
 rotate_left
 ·
  rintro W' hW'
  have q0 := hW'.cell zd0 hgb
  have q1 := hW'.cell zd1 hgb
  go_simp
  try with_reducible rfl
 try simp only [pL]
 refine tkH 3 (some 44) rfl rfl ?_ hS ?_ ?_
 rotate_left
 ·
  rintro W' hW'
  have q0 := hW'.cell zd0 hgb
  have q1 := hW'.cell zd1 hgb
  go_simp
  try with_reducible rfl
 try simp only [pL]
 refine tkH 4 (some 45) rfl rfl ?_ hS ?_ ?_
 rotate_left
 ·
  rintro W' hW'
  have q0 := hW'.cell zd0 hgb
  have q1 := hW'.cell zd1 hgb
  go_simp
  try with_reducible rfl
 try simp only [pL]
 refine tkH 5 (some 46) rfl rfl ?_ hS ?_ ?_
 rotate_left
 ·
  rintro W' hW'
  have q0 := hW'.cell zd0 hgb
  have q1 := hW'.cell zd1 hgb
  go_simp
  try with_reducible rfl
 try simp only [pL]
 refine tkH 6 (some 47) rfl rfl ?_ hS ?_ ?_
 rotate_left
 ·
  rintro W' hW'
  have q0 := hW'.cell zd0 hgb
  have q1 := hW'.cell zd1 hgb
  go_simp
  try with_reducible rfl
 try simp only [pL]
 refine wpAnyH_ready (rs := [7]) (by kernel_rfl) (by simp) ?_
 refine AllReadyH.cons rfl (fun K hK => ?_) AllReadyH.nil
 obtain ⟨we, hwe⟩ : ∃ we, we = wd.drew := ⟨_, rfl⟩
 rw [← hwe] at hS ⊢
 have HRwe : Hid (we.heap[b]? = some (.cells #[.int .i64 h.term, .int .i64 h.vote, .int .i64 h.base, .int .i64 h.baseTerm, .int .i64 h.conf.full, .int .i64 h.conf.wit, .int .i64 h.conf.learn, .int .i64 h.conf.learnWit, .slice As sl cs, .slice Al ll cl] 34 (0, 0))) := Lib.hid (by rw [hwe]; exact HAd.out)
 clear hwe
 have hR : we.heap[b]? = some (.cells #[.int .i64 h.term, .int .i64 h.vote, .int .i64 h.base, .int .i64 h.baseTerm, .int .i64 h.conf.full, .int .i64 h.conf.wit, .int .i64 h.conf.learn, .int .i64 h.conf.learnWit, .slice As sl cs, .slice Al ll cl] 34 (0, 0)) := HRwe.out
 have f0 : we.frozen? ⟨b, 0, none⟩ = false := blk_free 0 hR
 have d0 : we.cell? ⟨b, 0, none⟩ = some _ := blk_cell (cs := [.int .i64 h.term, .int .i64 h.vote, .int .i64 h.base, .int .i64 h.baseTerm, .int .i64 h.conf.full, .int .i64 h.conf.wit, .int .i64 h.conf.learn, .int .i64 h.conf.learnWit, .slice As sl cs, .slice Al ll cl]) hR rfl
 obtain ⟨w3, hwn⟩ : ∃ w3, we.setCell ⟨b, 0, none⟩ (.int .i64 t) = w3 := ⟨_, rfl⟩
 have HRw3 : Hid (w3.heap[b]? = some (.cells #[.int .i64 t, .int .i64 h.vote, .int .i64 h.base, .int .i64 h.baseTerm, .int .i64 h.conf.full, .int .i64 h.conf.wit, .int .i64 h.conf.learn, .int .i64 h.conf.learnWit, .slice As sl cs, .slice Al ll cl] 34 (0, 0))) := Lib.hid (by rw [← hwn]; simp [World.setCell, Array.getElem?_modify, hR])
 have HMw3 : Hid (Mod (fun k => k = b) wd w3) := Lib.hid (by rw [← hwn]; exact mod_same hS _ _)
 have Hwn := Lib.hid hwn
 clear hR hwn
 go_simp
 rw [Hwn.out]
 clear f0 d0 Hwn
 refine hK.out _ _ (HMw3.out) (fun hS => ?_)
 clear hK K
 try simp only [pL]
 refine tkH 8 (some 48) rfl rfl ?_ hS ?_ ?_
 rotate_left
 ·
  rintro W' hW'
  have q0 := hW'.cell zd0 hgb
  have q1 := hW'.cell zd1 hgb
  go_simp
  try with_reducible rfl
 try simp only [pL]
 refine wpAnyH_ready (rs := [9]) (by kernel_rfl) (by simp) ?_
 refine AllReadyH.cons rfl (fun K hK => ?_) AllReadyH.nil
 have hR : w3.heap[b]? = some (.cells #[.int .i64 t, .int .i64 h.vote, .int .i64 h.base, .int .i64 h.baseTerm, .int .i64 h.conf.full, .int .i64 h.conf.wit, .int .i64 h.conf.learn, .int .i64 h.conf.learnWit, .slice As sl cs, .slice Al ll cl] 34 (0, 0)) := HRw3.out
 have f0 : w3.frozen? ⟨b, 1, none⟩ = false := blk_free 1 hR
 have d0 : w3.cell? ⟨b, 1, none⟩ = some _ := blk_cell (cs := [.int .i64 t, .int .i64 h.vote, .int .i64 h.base, .int .i64 h.baseTerm, .int .i64 h.conf.full, .int .i64 h.conf.wit, .int .i64 h.conf.learn, .int .i64 h.conf.learnWit, .slice As sl cs, .slice Al ll cl]) hR rfl
 obtain ⟨w4, hwn⟩ : ∃ w4, w3.setCell ⟨b, 1, none⟩ (.int .i64 u) = w4 := ⟨_, rfl⟩
 have HRw4 : Hid (w4.heap[b]? = some (.cells #[.int .i64 t, .int .i64 u, .int .i64 h.base, .int .i64 h.baseTerm, .int .i64 h.conf.full, .int .i64 h.conf.wit, .int .i64 h.conf.learn, .int .i64 h.conf.learnWit, .slice As sl cs, .slice Al ll cl] 34 (0, 0))) := Lib.hid (by rw [← hwn]; simp [World.setCell, Array.getElem?_modify, hR])
 have HMw4 : Hid (Mod (fun k => k = b) wd w4) := Lib.hid (by rw [← hwn]; exact mod_same hS _ _)
 have Hwn := Lib.hid hwn
 clear hR hwn
 go_simp
 rw [Hwn.out]
 clear f0 d0 Hwn
 refine hK.out _ _ (HMw4.out) (fun hS => ?_)
 clear hK K
 try simp only [pL]
 refine wpAnyH_done (by kernel_rfl) ?_ _
 have HBw4 : Hid (w4.heap[b + 1]? = some (.cells #[.int .i64 0, .int .i64 0, .int .i64 0, .int .i64 0, .int .i64 0, .int .i64 0, .int .i64 0, .int .i64 0, .slice none 0 0, .slice none 0 0] 34 (0, 0))) := Lib.hid (HMw4.out.blk HBd.out (by omega))
 have HNw4 : Hid (NewH w0 w4 (.slice As sl cs) (.slice Al ll cl) ({ h with term := t, vote := u } : AHard)) := Lib.hid (HNd.out.box HAd.out HMw4.out (by decide) (by decide))
 have HXw4 : Hid (Chg w0 w (.slice Al ll cl) w4) := Lib.hid (HXd.out.box HMw4.out (by omega))
 have HAw4 := HRw4
 have hyl : ({ h with term := t, vote := u } : AHard).log.length ≤ 1000000 := by have := HI.out.l1; have := HI.out.l; simp only; omega
 have Hch : Hid (changedP h p = if checkH ({ h with term := t, vote := u } : AHard) then some ({ h with term := t, vote := u } : AHard) else none) := Lib.hid (by rw [hpx]; exact ch_some (by rw [hx2]; exact turn2 hrs (by omega)))
 clear zd0 zd1 hS HRw4 HAd HBd HNd HXd
 have hldt := fun (W' : World) (hW' : Mod (fun k => k = b + 1) w4 W') => load_row (P := Tryz.prog) (o := 0) (cs := ({ h with term := t, vote := u } : AHard).cells (.slice As sl cs) (.slice Al ll cl)) str_hard (hW'.blk HAw4.out (by omega)) rfl (fun j u hu => by rw [Nat.zero_add]; exact hu)
 rcases hck : checkH ({ h with term := t, vote := u } : AHard) with _ | _
 ·
  have Hp : Hid (changedP h p = none) := Lib.hid (by rw [Hch.out, hck]; rfl)
  go_wp2_with fail
  refine wp_region_held_drew (S := fun W' => Mod (fun k => k = b + 1) w4 W') (by kernel_rfl) (Mod.refl _ w4).drew (fun hS => ?_)
  refine takeH (i := 0) (v := .agg (({ h with term := t, vote := u } : AHard).cells (.slice As sl cs) (.slice Al ll cl)).toArray) (some 108) rfl rfl (by kernel_rfl) (by kernel_rfl) (by kernel_rfl) (fun _ _ _ h => h) (Or.inl ⟨by kernel_rfl, ?_⟩) hS ?_
  ·
   rintro W' hW'
   exact exec_ld _ _ rfl (.pointer (some ⟨b, 0, none⟩)) _ rfl (hldt W' hW')
  try simp only [pL]
  refine takeH (i := 1) (v := .agg (({ h with term := t, vote := u } : AHard).cells (.slice As sl cs) (.slice Al ll cl)).toArray) (some 109) rfl rfl (by kernel_rfl) (by kernel_rfl) (by kernel_rfl) (fun _ _ _ h => h) (Or.inl ⟨by kernel_rfl, ?_⟩) hS ?_
  ·
   rintro W' hW'
   exact exec_ld _ _ rfl (.pointer (some ⟨b, 0, none⟩)) _ rfl (hldt W' hW')
  try simp only [pL]
  refine wpAnyH_ready (rs := [2]) (by kernel_rfl) (by simp) ?_
  refine AllReadyH.cons rfl (fun K hK => ?_) AllReadyH.nil
  go_simp
  go_wp2_with fail
  refine (l_check w4.drew _ ({ h with term := t, vote := u } : AHard) _ _ (HNw4.out.mem) hyl).mono ?_
  rintro e w6 ⟨rfl, hE6⟩
  rw [hck, if_neg (by simp)]
  have HB6 := Lib.hid (hE6.blk HBw4.out id)
  have HN6 := Lib.hid (HNw4.out.ext (Mod.ext (Mod.refl _ w4).drew hE6))
  have hX := (hS.ext hE6)
  go_simp
  refine hK.out _ _ hX (fun hS => ?_)
  clear hK K hX
  try simp only [pL]
  refine tkH 3 (some 111) rfl rfl ?_ hS ?_ ?_; rotate_left; · rintro W' hW'; go_simp; try with_reducible rfl
  try simp only [pL]
  refine wpAnyH_ready (rs := [4]) (by kernel_rfl) (by simp) ?_
  refine AllReadyH.cons rfl (fun K hK => ?_) AllReadyH.nil
  refine step_stR rfl 34 _ _ rfl 10 (b + 1) 0 (({ h with term := t, vote := u } : AHard).cells (.slice As sl cs) (.slice Al ll cl)) rfl rfl str_hard _ [.int .i64 0, .int .i64 0, .int .i64 0, .int .i64 0, .int .i64 0, .int .i64 0, .int .i64 0, .int .i64 0, .slice none 0 0, .slice none 0 0] (({ h with term := t, vote := u } : AHard).cells (.slice As sl cs) (.slice Al ll cl)) HB6.out rfl (by simp) hone2 rfl ?_
  intro w7 hb7 hm7 hs7
  refine hK.out _ _ (hS.self hm7) (fun hS => ?_)
  clear hK K
  try simp only [pL]
  refine tkH 5 (some 5) rfl rfl ?_ hS ?_ ?_; rotate_left; · rintro W' hW'; go_simp; try with_reducible rfl
  try simp only [pL]
  refine wpAnyH_done (by kernel_rfl) ?_ _
  have HX7 : Hid (Chg w0 w (.slice Al ll cl) w7) := Lib.hid (HXw4.out.box hS (by omega))
  go_wp2_with fail
  exact bodyPost_ret (results_row2 rfl _ w7 (b + 1) _ _ str_hard rfl hb7 rfl) rfl ⟨HX7.out, HrdO.no Hp.out _ rfl hone2 rfl⟩
 ·
  have Hp : Hid (changedP h p = some ({ h with term := t, vote := u } : AHard)) := Lib.hid (by rw [Hch.out, hck]; rfl)
  go_wp2_with fail
  refine wp_region_held_drew (S := fun W' => Mod (fun k => k = b + 1) w4 W') (by kernel_rfl) (Mod.refl _ w4).drew (fun hS => ?_)
  refine takeH (i := 0) (v := .agg (({ h with term := t, vote := u } : AHard).cells (.slice As sl cs) (.slice Al ll cl)).toArray) (some 108) rfl rfl (by kernel_rfl) (by kernel_rfl) (by kernel_rfl) (fun _ _ _ h => h) (Or.inl ⟨by kernel_rfl, ?_⟩) hS ?_
  ·
   rintro W' hW'
   exact exec_ld _ _ rfl (.pointer (some ⟨b, 0, none⟩)) _ rfl (hldt W' hW')
  try simp only [pL]
  refine takeH (i := 1) (v := .agg (({ h with term := t, vote := u } : AHard).cells (.slice As sl cs) (.slice Al ll cl)).toArray) (some 109) rfl rfl (by kernel_rfl) (by kernel_rfl) (by kernel_rfl) (fun _ _ _ h => h) (Or.inl ⟨by kernel_rfl, ?_⟩) hS ?_
  ·
   rintro W' hW'
   exact exec_ld _ _ rfl (.pointer (some ⟨b, 0, none⟩)) _ rfl (hldt W' hW')
  try simp only [pL]
  refine wpAnyH_ready (rs := [2]) (by kernel_rfl) (by simp) ?_
  refine AllReadyH.cons rfl (fun K hK => ?_) AllReadyH.nil
  go_simp
  go_wp2_with fail
  refine (l_check w4.drew _ ({ h with term := t, vote := u } : AHard) _ _ (HNw4.out.mem) hyl).mono ?_
  rintro e w6 ⟨rfl, hE6⟩
  rw [hck, if_pos rfl]
  have HB6 := Lib.hid (hE6.blk HBw4.out id)
  have HN6 := Lib.hid (HNw4.out.ext (Mod.ext (Mod.refl _ w4).drew hE6))
  have hX := (hS.ext hE6)
  go_simp
  refine hK.out _ _ hX (fun hS => ?_)
  clear hK K hX
  try simp only [pL]
  refine tkH 3 (some 111) rfl rfl ?_ hS ?_ ?_; rotate_left; · rintro W' hW'; go_simp; try with_reducible rfl
  try simp only [pL]
  refine wpAnyH_ready (rs := [4]) (by kernel_rfl) (by simp) ?_
  refine AllReadyH.cons rfl (fun K hK => ?_) AllReadyH.nil
  refine step_stR rfl 34 _ _ rfl 10 (b + 1) 0 (({ h with term := t, vote := u } : AHard).cells (.slice As sl cs) (.slice Al ll cl)) rfl rfl str_hard _ [.int .i64 0, .int .i64 0, .int .i64 0, .int .i64 0, .int .i64 0, .int .i64 0, .int .i64 0, .int .i64 0, .slice none 0 0, .slice none 0 0] (({ h with term := t, vote := u } : AHard).cells (.slice As sl cs) (.slice Al ll cl)) HB6.out rfl (by simp) hone2 rfl ?_
  intro w7 hb7 hm7 hs7
  refine hK.out _ _ (hS.self hm7) (fun hS => ?_)
  clear hK K
  try simp only [pL]
  refine tkH 5 (some 5) rfl rfl ?_ hS ?_ ?_; rotate_left; · rintro W' hW'; go_simp; try with_reducible rfl
  try simp only [pL]
  refine wpAnyH_done (by kernel_rfl) ?_ _
  have HX7 : Hid (Chg w0 w (.slice Al ll cl) w7) := Lib.hid (HXw4.out.box hS (by omega))
  have HN7 := Lib.hid (HN6.out.box HB6.out hm7 (by decide) (by decide))
  go_wp2_with fail
  exact bodyPost_ret (results_row2 rfl _ w7 (b + 1) _ _ str_hard rfl hb7 rfl) rfl ⟨HX7.out, HrdO.yes Hp.out _ _ rfl HN7.out⟩
set_option maxRecDepth 100000 in
set_option maxHeartbeats 2000000 in
theorem st_changed3 (w w0 : World) (T : Nat → Prop) (h : AHard) (As : Option Addr) (sl cs : Nat) (Al : Option Addr) (ll cl : Nat) (A : Option Addr) (n c : Nat) (p : List UInt8) (hI : ChIn w0 w h As sl cs Al ll cl) (hp : Byt w T (.slice A n c) p) (hn : p.length = n) (hnl : n ≤ 100000) (x : UInt8) (r : List UInt8) (hpx : p = x :: r) (h2 : x.toNat = 3) :
  Calls Tryz.prog 73 #[.agg #[.int .i64 h.term, .int .i64 h.vote, .int .i64 h.base, .int .i64 h.baseTerm, .int .i64 h.conf.full, .int .i64 h.conf.wit, .int .i64 h.conf.learn, .int .i64 h.conf.learnWit, .slice As sl cs, .slice Al ll cl], .slice A n c] w fun e w' => Chg w0 w (.slice Al ll cl) w' ∧ HrdO w0 w' (changedP h p) e := by
 obtain ⟨hln, hnc, hcm, hAA⟩ := byt_cap' hp
 obtain ⟨g, off, rfl, _⟩ := hAA (by rw [← hn, hpx]; simp)
 have hs : Sl w T 1 (.slice (some ⟨g, off, none⟩) n c) n (p.map B) := by unfold Byt at hp; rw [hn] at hp; exact hp
 have hn1 : 1 ≤ n := by rw [← hn, hpx]; simp
 obtain ⟨_, _, x', e1, hx', x0⟩ := cellB hs (i := 0) (by omega)
 injection e1 with e1
 injection e1 with e1 e2
 subst e1; subst e2
 rw [Nat.add_zero] at x0
 have hxx : x' = x := by rw [hpx] at hx'; simpa using hx'.symm
 rw [hxx] at x0
 have hnz : ((n : Int) == 0) = false := by simp; omega
 have hnz2 : (n == 0) = false := by simp; omega
 have hrl : r.length = n - 1 := by rw [← hn, hpx]; simp
 have hbr0 : Byt w T (.slice (cutA (some ⟨g, off, none⟩) 1 c 1) (n - 1) (c - 1)) r := by
  have h1 := Sl.cutA hs (m := 1) (by omega)
  have e : (p.map B).drop (1 * 1) = r.map B := by rw [hpx]; rfl
  rw [e] at h1
  unfold Byt
  rw [hrl]
  exact h1
 clear hs hx' hxx hp hn
 obtain ⟨b, hb⟩ : ∃ b, w.heap.size = b := ⟨_, rfl⟩
 obtain ⟨W, hW⟩ : ∃ W, W = (w.alloc (.cells #[.int .i64 h.term, .int .i64 h.vote, .int .i64 h.base, .int .i64 h.baseTerm, .int .i64 h.conf.full, .int .i64 h.conf.wit, .int .i64 h.conf.learn, .int .i64 h.conf.learnWit, .slice As sl cs, .slice Al ll cl] 34)).alloc (.cells #[.int .i64 0, .int .i64 0, .int .i64 0, .int .i64 0, .int .i64 0, .int .i64 0, .int .i64 0, .int .i64 0, .slice none 0 0, .slice none 0 0] 34) := ⟨_, rfl⟩
 obtain ⟨hA, hB, hsz⟩ := two_new w (.cells #[.int .i64 h.term, .int .i64 h.vote, .int .i64 h.base, .int .i64 h.baseTerm, .int .i64 h.conf.full, .int .i64 h.conf.wit, .int .i64 h.conf.learn, .int .i64 h.conf.learnWit, .slice As sl cs, .slice Al ll cl] 34) (.cells #[.int .i64 0, .int .i64 0, .int .i64 0, .int .i64 0, .int .i64 0, .int .i64 0, .int .i64 0, .int .i64 0, .slice none 0 0, .slice none 0 0] 34)
 rw [← hW, hb] at hA hB hsz
 have hE : Ext w W := by rw [hW]; exact ((Mod.refl _ w).alloc _).alloc _
 have hN : NewH w0 W (.slice As sl cs) (.slice Al ll cl) h := hI.N.ext hE
 have hX : Chg w0 w (.slice Al ll cl) W := ⟨hI.E.ext hE, Ext.mod hE _, hI.E.size⟩
 have hwb : w.heap.size ≤ b := by rw [← hb]; exact Nat.le_refl _
 have hone := cells_one hN
 have hw0 : w0.heap.size ≤ b := by rw [← hb]; exact hI.E.size
 have HI := Lib.hid hI
 have HW := Lib.hid hW
 have HA := Lib.hid hA
 have HB := Lib.hid hB
 have Hb := Lib.hid hb
 have HE := Lib.hid hE
 have HN := Lib.hid hN
 have HX := Lib.hid hX
 clear hW hA hB hb hE hN hX hI hsz
 have Hbr := Lib.hid (hbr0.ext HE.out)
 have Hrl := Lib.hid hrl
 have hx0 : W.cell? ⟨g, off, none⟩ = some (.int .u8 (x.toNat : Int)) := HE.out.cell x0 id
 clear hbr0 hrl x0
 have hx2 : x.toNat = 3 := h2
 rw [h2] at hx0
 rw [HW.out] at hx0
 clear h2
 go_enter Tryz.func73, Tryz.ntmps73
 go_wp2_with fail
 rw [← HW.out, Hb.out]
 refine (st_read W T _ r 1 Hbr.out (by rw [Hrl.out]; omega) (by omega)).mono ?_
 rintro e w1 ⟨v', rfl, hI1, hX1⟩
 have HA1 := Lib.hid (hX1.blk HA.out id)
 have HB1 := Lib.hid (hX1.blk HB.out id)
 have HX1 := Lib.hid (HX.out.ext hX1)
 have HN1 := Lib.hid (HN.out.ext hX1)
 obtain ⟨t, ht⟩ : ∃ t, (RS.int ⟨r, 0⟩).1 = t := ⟨_, rfl⟩
 obtain ⟨q, hq⟩ : ∃ q, (RS.int ⟨r, 0⟩).2 = q := ⟨_, rfl⟩
 have hR : rdN 1 ⟨r, 0⟩ = ([t], q) := by rw [← ht, ← hq]; rfl
 have hrd : read1 r = if q.done = 0 then some t else none := by unfold read1; rw [ht, hq]
 rw [hR] at hI1 ⊢
 have Hrd := Lib.hid hrd
 clear hR hq hrd hX1 hx0
 simp only
 obtain ⟨g2, c2, rfl, z0, hc2⟩ := hI1.at (i := 0) (x := t) rfl
 have hti : I64 t := by rw [← ht]; exact wint_ok _
 have HI1 := Lib.hid hI1
 clear hI1 ht
 simp only [List.length_cons, List.length_nil] at hc2 ⊢
 have hc2' : 1 ≤ c2 := hc2
 have hld0 := load_row (P := Tryz.prog) (o := 0) (cs := h.cells (.slice As sl cs) (.slice Al ll cl)) str_hard HA1.out rfl (fun j u hu => by rw [Nat.zero_add]; exact hu)
 go_wp2_with (refine wpList_ld rfl 34 _ rfl _ _ rfl hld0 ?_)
 clear hld0
 refine (l_last w1 _ h _ _ HN1.out.mem (by have := HI.out.l; have := HI.out.l1; omega) HI.out.r.b0 HI.out.r.b1).mono ?_
 rintro e w2 ⟨rfl, hX2⟩
 obtain ⟨li, hli⟩ : ∃ i, lastI h = i := ⟨_, rfl⟩
 have hli2 : li = h.base + ll := by rw [← hli]; unfold lastI; rw [HI.out.l]
 rw [hli]
 replace z0 := hX2.cell z0 id
 replace HA1 := Lib.hid (hX2.blk HA1.out id)
 replace HB1 := Lib.hid (hX2.blk HB1.out id)
 replace HX1 := Lib.hid (HX1.out.ext hX2)
 replace HN1 := Lib.hid (HN1.out.ext hX2)
 have Hli2 := Lib.hid hli2
 clear hX2 hli hli2
 have y2 : w2.cell? ⟨b, 2, none⟩ = some (.int .i64 h.base) := blk_cell (cs := h.cells (.slice As sl cs) (.slice Al ll cl)) HA1.out rfl
 rcases hd : (q.done == 0) with _ | _
 ·
  have hrn : read1 r = none := by rw [Hrd.out, if_neg (by simpa using hd)]
  have Hp : Hid (changedP h p = none) := Lib.hid (by rw [hpx]; exact ch_none (by rw [hx2]; exact turn3_no hrn))
  have hldq := fun q => load_row (P := Tryz.prog) (w := w2.drewN q) (o := 0) (cs := h.cells (.slice As sl cs) (.slice Al ll cl)) str_hard HA1.out rfl (fun j u hu => by rw [Nat.zero_add]; exact hu)
  have hBq : ∀ q, (w2.drewN q).heap[b + 1]? = some (.cells #[.int .i64 0, .int .i64 0, .int .i64 0, .int .i64 0, .int .i64 0, .int .i64 0, .int .i64 0, .int .i64 0, .slice none 0 0, .slice none 0 0] 34 (0, 0)) := fun q => HB1.out
  clear z0
  go_wp2_with fail
  go_quiet (fail)
  go_wp2_with (first | (refine wpList_ld rfl 34 _ rfl _ _ rfl (hldq _) ?_) | (refine wpList_stR rfl 34 _ _ rfl 10 (b + 1) 0 (h.cells (.slice As sl cs) (.slice Al ll cl)) rfl rfl str_hard _ [.int .i64 0, .int .i64 0, .int .i64 0, .int .i64 0, .int .i64 0, .int .i64 0, .int .i64 0, .int .i64 0, .slice none 0 0, .slice none 0 0] (h.cells (.slice As sl cs) (.slice Al ll cl)) (hBq _) rfl (by simp) hone rfl ?_))
  intro wz hbz hmz hsz
  have HEz := Lib.hid ((HX1.out.drewN _).box hmz (by omega))
  clear hldq hBq hmz hsz
  go_wp2_with fail
  exact bodyPost_ret (results_row2 rfl _ wz (b + 1) _ _ str_hard rfl hbz rfl) rfl ⟨HEz.out, HrdO.no Hp.out _ rfl hone rfl⟩
 have hrs : read1 r = some t := by rw [Hrd.out, if_pos (by simpa using hd)]
 by_cases hlo : t ≤ h.base
 ·
  have Hp : Hid (changedP h p = none) := Lib.hid (by rw [hpx]; exact ch_none (by rw [hx2]; exact turn3_out hrs (.inl hlo)))
  have hldq := fun q => load_row (P := Tryz.prog) (w := w2.drewN q) (o := 0) (cs := h.cells (.slice As sl cs) (.slice Al ll cl)) str_hard HA1.out rfl (fun j u hu => by rw [Nat.zero_add]; exact hu)
  have hBq : ∀ q, (w2.drewN q).heap[b + 1]? = some (.cells #[.int .i64 0, .int .i64 0, .int .i64 0, .int .i64 0, .int .i64 0, .int .i64 0, .int .i64 0, .int .i64 0, .slice none 0 0, .slice none 0 0] 34 (0, 0)) := fun q => HB1.out
  go_wp2_with fail
  go_quiet (fail)
  go_wp2_with (first | (refine wpList_ld rfl 34 _ rfl _ _ rfl (hldq _) ?_) | (refine wpList_stR rfl 34 _ _ rfl 10 (b + 1) 0 (h.cells (.slice As sl cs) (.slice Al ll cl)) rfl rfl str_hard _ [.int .i64 0, .int .i64 0, .int .i64 0, .int .i64 0, .int .i64 0, .int .i64 0, .int .i64 0, .int .i64 0, .slice none 0 0, .slice none 0 0] (h.cells (.slice As sl cs) (.slice Al ll cl)) (hBq _) rfl (by simp) hone rfl ?_))
  intro wz hbz hmz hsz
  have HEz := Lib.hid ((HX1.out.drewN _).box hmz (by omega))
  clear hldq hBq hmz hsz
  go_wp2_with fail
  exact bodyPost_ret (results_row2 rfl _ wz (b + 1) _ _ str_hard rfl hbz rfl) rfl ⟨HEz.out, HrdO.no Hp.out _ rfl hone rfl⟩
 by_cases hhi : li < t
 ·
  have Hp : Hid (changedP h p = none) := Lib.hid (by rw [hpx]; exact ch_none (by rw [hx2]; exact turn3_out hrs (.inr (by have := Hli2.out; have := HI.out.l; omega))))
  have hldq := fun q => load_row (P := Tryz.prog) (w := w2.drewN q) (o := 0) (cs := h.cells (.slice As sl cs) (.slice Al ll cl)) str_hard HA1.out rfl (fun j u hu => by rw [Nat.zero_add]; exact hu)
  have hBq : ∀ q, (w2.drewN q).heap[b + 1]? = some (.cells #[.int .i64 0, .int .i64 0, .int .i64 0, .int .i64 0, .int .i64 0, .int .i64 0, .int .i64 0, .int .i64 0, .slice none 0 0, .slice none 0 0] 34 (0, 0)) := fun q => HB1.out
  go_wp2_with fail
  go_quiet (fail)
  go_wp2_with (first | (refine wpList_ld rfl 34 _ rfl _ _ rfl (hldq _) ?_) | (refine wpList_stR rfl 34 _ _ rfl 10 (b + 1) 0 (h.cells (.slice As sl cs) (.slice Al ll cl)) rfl rfl str_hard _ [.int .i64 0, .int .i64 0, .int .i64 0, .int .i64 0, .int .i64 0, .int .i64 0, .int .i64 0, .int .i64 0, .slice none 0 0, .slice none 0 0] (h.cells (.slice As sl cs) (.slice Al ll cl)) (hBq _) rfl (by simp) hone rfl ?_))
  intro wz hbz hmz hsz
  have HEz := Lib.hid ((HX1.out.drewN _).box hmz (by omega))
  clear hldq hBq hmz hsz
  go_wp2_with fail
  exact bodyPost_ret (results_row2 rfl _ wz (b + 1) _ _ str_hard rfl hbz rfl) rfl ⟨HEz.out, HrdO.no Hp.out _ rfl hone rfl⟩
 go_wp2_with fail
 go_quiet (fail)
 obtain ⟨k, hk⟩ : ∃ k, (t - h.base - 1).toNat = k := ⟨_, rfl⟩
 have hb0 := HI.out.r.b0
 have hb1 := HI.out.r.b1
 have hll := HI.out.l1
 have hl3 := Hli2.out
 have hkl : k ≤ ll := by omega
 have hki : (k : Int) = t - h.base - 1 := by omega
 have hkc : ll ≤ cl := by
  obtain ⟨_, A', c', e, h3, _⟩ := HN1.out.mem.2.1
  injection e with e1 e2 e3
  rw [HI.out.l] at e2 h3
  omega
 obtain ⟨wd, hwd⟩ : ∃ wd, wd = (w2.drewN nq).drew := ⟨_, rfl⟩
 have HAd : Hid (wd.heap[b]? = some (.cells #[.int .i64 h.term, .int .i64 h.vote, .int .i64 h.base, .int .i64 h.baseTerm, .int .i64 h.conf.full, .int .i64 h.conf.wit, .int .i64 h.conf.learn, .int .i64 h.conf.learnWit, .slice As sl cs, .slice Al ll cl] 34 (0, 0))) := Lib.hid (by rw [hwd]; exact HA1.out)
 have HBd : Hid (wd.heap[b + 1]? = some (.cells #[.int .i64 0, .int .i64 0, .int .i64 0, .int .i64 0, .int .i64 0, .int .i64 0, .int .i64 0, .int .i64 0, .slice none 0 0, .slice none 0 0] 34 (0, 0))) := Lib.hid (by rw [hwd]; exact HB1.out)
 have HXd : Hid (Chg w0 w (.slice Al ll cl) wd) := Lib.hid (by rw [hwd]; exact (HX1.out.drewN _).drew)
 have HNd : Hid (NewH w0 wd (.slice As sl cs) (.slice Al ll cl) h) := Lib.hid (by rw [hwd]; exact HN1.out)
 have q1 : IntKind.i64.wrap (t - h.base) = t - h.base := IntWalk.i64_in _ (by unfold I64 at hti; omega)
 have q2 : IntKind.i64.wrap (t - h.base - 1) = (k : Int) := by rw [IntWalk.i64_in _ (by unfold I64 at hti; omega)]; exact hki.symm
 have q3 : (0 : Int) ≤ (k : Int) := by omega
 have q4 : (k : Int) ≤ (cl : Int) := by omega
 have q5 : (1 : Int) ≤ t - h.base := by omega
 have q6 : t - h.base - 1 ≤ (cl : Int) := by omega
 have e9 : wd.cell? ⟨b, 9, none⟩ = some (.slice Al ll cl) := blk_cell (cs := h.cells (.slice As sl cs) (.slice Al ll cl)) HAd.out rfl
 have e2 : wd.cell? ⟨b, 2, none⟩ = some (.int .i64 h.base) := blk_cell (cs := h.cells (.slice As sl cs) (.slice Al ll cl)) HAd.out rfl
 have f9 : wd.frozen? ⟨b, 9, none⟩ = false := blk_free 9 HAd.out
 have z0d : wd.cell? ⟨g2, 0, none⟩ = some (.int .i64 t) := by rw [hwd]; exact z0
 obtain ⟨w4, hw4⟩ : ∃ w4, wd.setCell ⟨b, 9, none⟩ (.slice Al k cl) = w4 := ⟨_, rfl⟩
 have HAw4 : Hid (w4.heap[b]? = some (.cells #[.int .i64 h.term, .int .i64 h.vote, .int .i64 h.base, .int .i64 h.baseTerm, .int .i64 h.conf.full, .int .i64 h.conf.wit, .int .i64 h.conf.learn, .int .i64 h.conf.learnWit, .slice As sl cs, .slice Al k cl] 34 (0, 0))) := Lib.hid (by rw [← hw4]; simp [World.setCell, Array.getElem?_modify, HAd.out])
 have HMw4 : Hid (Mod (fun k => k = b) wd w4) := Lib.hid (by rw [← hw4]; exact mod_same (Mod.refl _ wd) _ _)
 have hE4 : NewE w0 wd (.slice Al k cl) (h.log.take k) := by
  have h1 := HNd.out.2.1
  rw [HI.out.l] at h1
  have h2 := own_upto h1 hkl
  refine ⟨?_, fun y hy => HNd.out.2.2.1 y (List.mem_of_mem_take hy), fun g hg => HNd.out.2.2.2 g (by cases Al <;> exact hg)⟩
  have hl4 : (h.log.take k).length = k := by rw [List.length_take, HI.out.l]; omega
  rw [hl4, ← flat_take (k := 16) (c := AEntry.cells) (fun _ => rfl)]
  exact h2
 have Hw4 := Lib.hid hw4
 have HE4 := Lib.hid hE4
 have Hwd := Lib.hid hwd
 clear hw4 hE4 hwd z0 y2
 go_wp2_with fail
 have hgb : g2 ≠ b := fun e => by have h1 := HI1.out.2 g2 rfl; have h2 := (Array.getElem?_eq_some_iff.1 HB.out).1; omega
 have hX4 : w4.cell? ⟨g2, 0, none⟩ = some (.int .i64 t) ∧ w4.cell? ⟨b, 2, none⟩ = some (.int .i64 h.base) := ⟨HMw4.out.cell z0d hgb, blk_cell (cs := [.int .i64 h.term, .int .i64 h.vote, .int .i64 h.base, .int .i64 h.baseTerm, .int .i64 h.conf.full, .int .i64 h.conf.wit, .int .i64 h.conf.learn, .int .i64 h.conf.learnWit, .slice As sl cs, .slice Al k cl]) HAw4.out rfl⟩
 refine wp_region_held_drew (S := fun W' => W'.cell? ⟨g2, 0, none⟩ = some (.int .i64 t) ∧ W'.cell? ⟨b, 2, none⟩ = some (.int .i64 h.base)) (by kernel_rfl) (by rw [← Hwd.out]; exact ⟨z0d, e2⟩) (fun hS => ?_)
 rw [← Hwd.out] at hS ⊢
 have hone2 : ∀ v ∈ ({ h with log := h.log.take k } : AHard).cells (.slice As sl cs) (.slice Al k cl), v.oneCell' = true := by
  intro v hv; simp only [List.mem_cons, List.not_mem_nil, or_false] at hv; rcases hv with rfl | rfl | rfl | rfl | rfl | rfl | rfl | rfl | rfl | rfl <;> rfl
 refine tkH 0 (some 80) rfl rfl ?_ hS ?_ ?_; rotate_left; · rintro W' ⟨_,_⟩; go_simp; try with_reducible rfl
 try simp only [pL]
 refine tkH 2 (some 82) rfl rfl ?_ hS ?_ ?_; rotate_left; · rintro W' ⟨_,_⟩; go_simp; try with_reducible rfl
 try simp only [pL]
 refine tkH 3 (some 83) rfl rfl ?_ hS ?_ ?_; rotate_left; · rintro W' ⟨_,_⟩; go_simp; try with_reducible rfl
 try simp only [pL]
 refine tkH 4 (some 84) rfl rfl ?_ hS ?_ ?_; rotate_left; · rintro W' ⟨_,_⟩; go_simp; try with_reducible rfl
 try simp only [pL]
 refine tkH 5 (some 85) rfl rfl ?_ hS ?_ ?_; rotate_left; · rintro W' ⟨_,_⟩; go_simp; try with_reducible rfl
 try simp only [pL]
 refine tkH 6 (some 86) rfl rfl ?_ hS ?_ ?_; rotate_left; · rintro W' ⟨_,_⟩; go_simp; try with_reducible rfl
 try simp only [pL]
 refine tkH 7 (some 87) rfl rfl ?_ hS ?_ ?_; rotate_left; · rintro W' ⟨_,_⟩; go_simp; try with_reducible rfl
 try simp only [pL]
 refine tkH 8 (some 88) rfl rfl ?_ hS ?_ ?_; rotate_left; · rintro W' ⟨_,_⟩; go_simp; try with_reducible rfl
 try simp only [pL]
 refine wpAnyH_ready (rs := [1]) (by kernel_rfl) (by simp) ?_
 refine AllReadyH.cons rfl (fun K hK => ?_) AllReadyH.nil
 go_simp
 refine hK.out _ _ (hS) (fun hS => ?_)
 clear hK K
 try simp only [pL]
 refine tkH 9 (some 89) rfl rfl ?_ hS ?_ ?_; rotate_left; · rintro W' ⟨_,_⟩; go_simp; try with_reducible rfl
 try simp only [pL]
 refine tkH 10 (some 90) rfl rfl ?_ hS ?_ ?_; rotate_left; · rintro W' ⟨_,_⟩; go_simp; try with_reducible rfl
 try simp only [pL]
 refine wpAnyH_ready (rs := [11]) (by kernel_rfl) (by simp) ?_
 refine AllReadyH.cons rfl (fun K hK => ?_) AllReadyH.nil
 go_simp
 rw [Hw4.out]
 refine hK.out _ _ (hX4) (fun hS => ?_)
 clear hK K
 try simp only [pL]
 refine wpAnyH_done (by kernel_rfl) ?_ _
 have hZ4 := HNd.out.box HAd.out HMw4.out (by decide) (by decide)
 have HNw4 : Hid (NewH w0 w4 (.slice As sl cs) (.slice Al k cl) ({ h with log := h.log.take k } : AHard)) := Lib.hid ⟨hZ4.1, newE_box HE4.out HAd.out HMw4.out (by decide)⟩
 have HBw4 : Hid (w4.heap[b + 1]? = some (.cells #[.int .i64 0, .int .i64 0, .int .i64 0, .int .i64 0, .int .i64 0, .int .i64 0, .int .i64 0, .int .i64 0, .slice none 0 0, .slice none 0 0] 34 (0, 0))) := Lib.hid (HMw4.out.blk HBd.out (by omega))
 have HXw4 : Hid (Chg w0 w (.slice Al ll cl) w4) := Lib.hid (HXd.out.box HMw4.out (by omega))
 have hyl : ({ h with log := h.log.take k } : AHard).log.length ≤ 1000000 := by have := HI.out.l; simp only [List.length_take]; omega
 have Hch : Hid (changedP h p = if checkH ({ h with log := h.log.take k } : AHard) then some ({ h with log := h.log.take k } : AHard) else none) := Lib.hid (by rw [hpx]; exact ch_some (by rw [hx2, ← hk]; exact turn3 hrs (by have := HI.out.l; omega)))
 clear hS hZ4 HAd HBd HNd HXd
 have hldt := fun (W' : World) (hW' : Mod (fun k => k = b + 1) w4 W') => load_row (P := Tryz.prog) (o := 0) (cs := ({ h with log := h.log.take k } : AHard).cells (.slice As sl cs) (.slice Al k cl)) str_hard (hW'.blk HAw4.out (by omega)) rfl (fun j u hu => by rw [Nat.zero_add]; exact hu)
 rcases hck : checkH ({ h with log := h.log.take k } : AHard) with _ | _
 ·
  have Hp : Hid (changedP h p = none) := Lib.hid (by rw [Hch.out, hck]; rfl)
  go_wp2_with fail
  refine wp_region_held_drew (S := fun W' => Mod (fun k => k = b + 1) w4 W') (by kernel_rfl) (Mod.refl _ w4).drew (fun hS => ?_)
  refine takeH (i := 0) (v := .agg (({ h with log := h.log.take k } : AHard).cells (.slice As sl cs) (.slice Al k cl)).toArray) (some 108) rfl rfl (by kernel_rfl) (by kernel_rfl) (by kernel_rfl) (fun _ _ _ h => h) (Or.inl ⟨by kernel_rfl, ?_⟩) hS ?_
  ·
   rintro W' hW'
   exact exec_ld _ _ rfl (.pointer (some ⟨b, 0, none⟩)) _ rfl (hldt W' hW')
  try simp only [pL]
  refine takeH (i := 1) (v := .agg (({ h with log := h.log.take k } : AHard).cells (.slice As sl cs) (.slice Al k cl)).toArray) (some 109) rfl rfl (by kernel_rfl) (by kernel_rfl) (by kernel_rfl) (fun _ _ _ h => h) (Or.inl ⟨by kernel_rfl, ?_⟩) hS ?_
  ·
   rintro W' hW'
   exact exec_ld _ _ rfl (.pointer (some ⟨b, 0, none⟩)) _ rfl (hldt W' hW')
  try simp only [pL]
  refine wpAnyH_ready (rs := [2]) (by kernel_rfl) (by simp) ?_
  refine AllReadyH.cons rfl (fun K hK => ?_) AllReadyH.nil
  go_simp
  go_wp2_with fail
  refine (l_check w4.drew _ ({ h with log := h.log.take k } : AHard) _ _ (HNw4.out.mem) hyl).mono ?_
  rintro e w6 ⟨rfl, hE6⟩
  rw [hck, if_neg (by simp)]
  have HB6 := Lib.hid (hE6.blk HBw4.out id)
  have HN6 := Lib.hid (HNw4.out.ext (Mod.ext (Mod.refl _ w4).drew hE6))
  have hX := (hS.ext hE6)
  go_simp
  refine hK.out _ _ hX (fun hS => ?_)
  clear hK K hX
  try simp only [pL]
  refine tkH 3 (some 111) rfl rfl ?_ hS ?_ ?_; rotate_left; · rintro W' hW'; go_simp; try with_reducible rfl
  try simp only [pL]
  refine wpAnyH_ready (rs := [4]) (by kernel_rfl) (by simp) ?_
  refine AllReadyH.cons rfl (fun K hK => ?_) AllReadyH.nil
  refine step_stR rfl 34 _ _ rfl 10 (b + 1) 0 (({ h with log := h.log.take k } : AHard).cells (.slice As sl cs) (.slice Al k cl)) rfl rfl str_hard _ [.int .i64 0, .int .i64 0, .int .i64 0, .int .i64 0, .int .i64 0, .int .i64 0, .int .i64 0, .int .i64 0, .slice none 0 0, .slice none 0 0] (({ h with log := h.log.take k } : AHard).cells (.slice As sl cs) (.slice Al k cl)) HB6.out rfl (by simp) hone2 rfl ?_
  intro w7 hb7 hm7 hs7
  refine hK.out _ _ (hS.self hm7) (fun hS => ?_)
  clear hK K
  try simp only [pL]
  refine tkH 5 (some 5) rfl rfl ?_ hS ?_ ?_; rotate_left; · rintro W' hW'; go_simp; try with_reducible rfl
  try simp only [pL]
  refine wpAnyH_done (by kernel_rfl) ?_ _
  have HX7 : Hid (Chg w0 w (.slice Al ll cl) w7) := Lib.hid (HXw4.out.box hS (by omega))
  go_wp2_with fail
  exact bodyPost_ret (results_row2 rfl _ w7 (b + 1) _ _ str_hard rfl hb7 rfl) rfl ⟨HX7.out, HrdO.no Hp.out _ rfl hone2 rfl⟩
 ·
  have Hp : Hid (changedP h p = some ({ h with log := h.log.take k } : AHard)) := Lib.hid (by rw [Hch.out, hck]; rfl)
  go_wp2_with fail
  refine wp_region_held_drew (S := fun W' => Mod (fun k => k = b + 1) w4 W') (by kernel_rfl) (Mod.refl _ w4).drew (fun hS => ?_)
  refine takeH (i := 0) (v := .agg (({ h with log := h.log.take k } : AHard).cells (.slice As sl cs) (.slice Al k cl)).toArray) (some 108) rfl rfl (by kernel_rfl) (by kernel_rfl) (by kernel_rfl) (fun _ _ _ h => h) (Or.inl ⟨by kernel_rfl, ?_⟩) hS ?_
  ·
   rintro W' hW'
   exact exec_ld _ _ rfl (.pointer (some ⟨b, 0, none⟩)) _ rfl (hldt W' hW')
  try simp only [pL]
  refine takeH (i := 1) (v := .agg (({ h with log := h.log.take k } : AHard).cells (.slice As sl cs) (.slice Al k cl)).toArray) (some 109) rfl rfl (by kernel_rfl) (by kernel_rfl) (by kernel_rfl) (fun _ _ _ h => h) (Or.inl ⟨by kernel_rfl, ?_⟩) hS ?_
  ·
   rintro W' hW'
   exact exec_ld _ _ rfl (.pointer (some ⟨b, 0, none⟩)) _ rfl (hldt W' hW')
  try simp only [pL]
  refine wpAnyH_ready (rs := [2]) (by kernel_rfl) (by simp) ?_
  refine AllReadyH.cons rfl (fun K hK => ?_) AllReadyH.nil
  go_simp
  go_wp2_with fail
  refine (l_check w4.drew _ ({ h with log := h.log.take k } : AHard) _ _ (HNw4.out.mem) hyl).mono ?_
  rintro e w6 ⟨rfl, hE6⟩
  rw [hck, if_pos rfl]
  have HB6 := Lib.hid (hE6.blk HBw4.out id)
  have HN6 := Lib.hid (HNw4.out.ext (Mod.ext (Mod.refl _ w4).drew hE6))
  have hX := (hS.ext hE6)
  go_simp
  refine hK.out _ _ hX (fun hS => ?_)
  clear hK K hX
  try simp only [pL]
  refine tkH 3 (some 111) rfl rfl ?_ hS ?_ ?_; rotate_left; · rintro W' hW'; go_simp; try with_reducible rfl
  try simp only [pL]
  refine wpAnyH_ready (rs := [4]) (by kernel_rfl) (by simp) ?_
  refine AllReadyH.cons rfl (fun K hK => ?_) AllReadyH.nil
  refine step_stR rfl 34 _ _ rfl 10 (b + 1) 0 (({ h with log := h.log.take k } : AHard).cells (.slice As sl cs) (.slice Al k cl)) rfl rfl str_hard _ [.int .i64 0, .int .i64 0, .int .i64 0, .int .i64 0, .int .i64 0, .int .i64 0, .int .i64 0, .int .i64 0, .slice none 0 0, .slice none 0 0] (({ h with log := h.log.take k } : AHard).cells (.slice As sl cs) (.slice Al k cl)) HB6.out rfl (by simp) hone2 rfl ?_
  intro w7 hb7 hm7 hs7
  refine hK.out _ _ (hS.self hm7) (fun hS => ?_)
  clear hK K
  try simp only [pL]
  refine tkH 5 (some 5) rfl rfl ?_ hS ?_ ?_; rotate_left; · rintro W' hW'; go_simp; try with_reducible rfl
  try simp only [pL]
  refine wpAnyH_done (by kernel_rfl) ?_ _
  have HX7 : Hid (Chg w0 w (.slice Al ll cl) w7) := Lib.hid (HXw4.out.box hS (by omega))
  have HN7 := Lib.hid (HN6.out.box HB6.out hm7 (by decide) (by decide))
  go_wp2_with fail
  exact bodyPost_ret (results_row2 rfl _ w7 (b + 1) _ _ str_hard rfl hb7 rfl) rfl ⟨HX7.out, HrdO.yes Hp.out _ _ rfl HN7.out⟩
end Go.Proofs.YtjhnlncgmejkcaaGreat
