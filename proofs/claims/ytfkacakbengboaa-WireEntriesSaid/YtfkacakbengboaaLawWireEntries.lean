/-
 The walk of WireEntries. Conditions: as the theorems name them.
-/
import Derived.Test.YtfkacakbengboaaWireP5
import Derived.Test.YtfkacakbengboaaWireOE
import Derived.Test.YtfkacakbengboaaHeavy
namespace Go.Proofs.Ytfkacakbengboaa
set_option linter.unusedSimpArgs false
open Go.RowKit

theorem eqEntry_self (y : AEntry) : eqEntry y y = true := by
 simp [eqEntry, eqCall, eqCmd, eqVal, eqConf, sameF, (eqT_iff _ _).2 rfl]
theorem ents_lit (w : World) (x : AEntry) (hx : x.ok) : Ents (w.alloc (.cells #[.int .i64 x.term, .int .i64 x.kind, .int .i64 x.call.client, .int .i64 x.call.seq, .int .i64 x.call.cmd.kind, .string x.call.cmd.key, .int .i64 x.call.cmd.old.kind, .float .f64 x.call.cmd.old.num, .string x.call.cmd.old.text, .int .i64 x.call.cmd.val.kind, .float .f64 x.call.cmd.val.num, .string x.call.cmd.val.text, .int .i64 x.conf.full, .int .i64 x.conf.wit, .int .i64 x.conf.learn, .int .i64 x.conf.learnWit] 44)) (fun g => g = w.heap.size) (.slice (some ⟨w.heap.size, 0, none⟩) 1 1) [x] := by
 refine ⟨⟨rfl, _, _, rfl, Nat.le_refl _, by simp [maxLen], fun _ => ⟨_, 0, rfl, rfl, fun j u hu => ?_⟩⟩, by simpa using hx⟩
 rw [cell_of_row _ _ _ _ _ _ (heap_alloc_new w _), Nat.zero_add]
 simpa using hu
theorem small_of_heavy {x : AEntry} (h : heavyEnts [x] = false) : x.small := by
 simp [heavyEnts, heavyCmd] at h
 exact ⟨by omega, by omega, by omega⟩
set_option maxRecDepth 100000 in
set_option maxHeartbeats 4000000 in
theorem law_wireEntries (w : World) (x : AEntry) (hx : x.ok) (v : Value) (bs : List UInt8) (hB : Byt w (fun g => g < w.heap.size) v bs) :
  Calls Try.prog 4 #[.agg #[.int .i64 x.term, .int .i64 x.kind, .int .i64 x.call.client, .int .i64 x.call.seq, .int .i64 x.call.cmd.kind, .string x.call.cmd.key, .int .i64 x.call.cmd.old.kind, .float .f64 x.call.cmd.old.num, .string x.call.cmd.old.text, .int .i64 x.call.cmd.val.kind, .float .f64 x.call.cmd.val.num, .string x.call.cmd.val.text, .int .i64 x.conf.full, .int .i64 x.conf.wit, .int .i64 x.conf.learn, .int .i64 x.conf.learnWit], v] w fun e w' => e = .returned (.bool true) ∧ Below w.heap.size w w' := by
 obtain ⟨n, hn⟩ : ∃ n, bs.length = n := ⟨_, rfl⟩
 obtain ⟨A, cp, rfl⟩ := hB.form
 obtain ⟨q, hq⟩ : ∃ q, w.heap.size = q := ⟨_, rfl⟩
 obtain ⟨W, hW⟩ : ∃ W, W = w.alloc (.cells #[.int .i64 x.term, .int .i64 x.kind, .int .i64 x.call.client, .int .i64 x.call.seq, .int .i64 x.call.cmd.kind, .string x.call.cmd.key, .int .i64 x.call.cmd.old.kind, .float .f64 x.call.cmd.old.num, .string x.call.cmd.old.text, .int .i64 x.call.cmd.val.kind, .float .f64 x.call.cmd.val.num, .string x.call.cmd.val.text, .int .i64 x.conf.full, .int .i64 x.conf.wit, .int .i64 x.conf.learn, .int .i64 x.conf.learnWit] 44) := ⟨_, rfl⟩
 have hE : Ext w W := by rw [hW]; exact (Mod.refl _ w).alloc _
 have hA : W.heap[q]? = some (.cells #[.int .i64 x.term, .int .i64 x.kind, .int .i64 x.call.client, .int .i64 x.call.seq, .int .i64 x.call.cmd.kind, .string x.call.cmd.key, .int .i64 x.call.cmd.old.kind, .float .f64 x.call.cmd.old.num, .string x.call.cmd.old.text, .int .i64 x.call.cmd.val.kind, .float .f64 x.call.cmd.val.num, .string x.call.cmd.val.text, .int .i64 x.conf.full, .int .i64 x.conf.wit, .int .i64 x.conf.learn, .int .i64 x.conf.learnWit] 44 (0, 0)) := by rw [hW, ← hq]; exact heap_alloc_new w _
 have hsz : W.heap.size = q + 1 := by rw [hW, ← hq]; simp
 have hld := load_row (P := Try.prog) (o := 0) (cs := [.int .i64 x.term, .int .i64 x.kind, .int .i64 x.call.client, .int .i64 x.call.seq, .int .i64 x.call.cmd.kind, .string x.call.cmd.key, .int .i64 x.call.cmd.old.kind, .float .f64 x.call.cmd.old.num, .string x.call.cmd.old.text, .int .i64 x.call.cmd.val.kind, .float .f64 x.call.cmd.val.num, .string x.call.cmd.val.text, .int .i64 x.conf.full, .int .i64 x.conf.wit, .int .i64 x.conf.learn, .int .i64 x.conf.learnWit]) str_entry (heap_alloc_new w (.cells #[.int .i64 x.term, .int .i64 x.kind, .int .i64 x.call.client, .int .i64 x.call.seq, .int .i64 x.call.cmd.kind, .string x.call.cmd.key, .int .i64 x.call.cmd.old.kind, .float .f64 x.call.cmd.old.num, .string x.call.cmd.old.text, .int .i64 x.call.cmd.val.kind, .float .f64 x.call.cmd.val.num, .string x.call.cmd.val.text, .int .i64 x.conf.full, .int .i64 x.conf.wit, .int .i64 x.conf.learn, .int .i64 x.conf.learnWit] 44)) rfl (fun j u hu => by rw [Nat.zero_add]; exact hu)
 have hle := hB.le
 have HB := Lib.hid hB
 have HW := Lib.hid hW
 have Hq := Lib.hid hq
 have HX := Lib.hid hE
 have HA := Lib.hid hA
 have Hsz := Lib.hid hsz
 have Hn := Lib.hid hn
 have Hx := Lib.hid hx
 rw [hn] at hle ⊢
 unfold maxLen at hle
 clear hW hq hE hA hsz hn hx hB
 go_enter Try.func4, Try.ntmps4
 go_wp2_with (refine wpList_ld rfl 44 _ rfl _ _ rfl hld ?_)
 clear hld
 rw [← HW.out, Hq.out]
 have hent := ents_lit W x Hx.out
 rw [Hsz.out] at hent
 have hE0 : Ext W (W.alloc (.cells #[.int .i64 x.term, .int .i64 x.kind, .int .i64 x.call.client, .int .i64 x.call.seq, .int .i64 x.call.cmd.kind, .string x.call.cmd.key, .int .i64 x.call.cmd.old.kind, .float .f64 x.call.cmd.old.num, .string x.call.cmd.old.text, .int .i64 x.call.cmd.val.kind, .float .f64 x.call.cmd.val.num, .string x.call.cmd.val.text, .int .i64 x.conf.full, .int .i64 x.conf.wit, .int .i64 x.conf.learn, .int .i64 x.conf.learnWit] 44)) := (Mod.refl _ W).alloc _
 refine (hv_entries _ _ _ [x] hent).mono ?_
 rintro e w1 ⟨rfl, hE1⟩
 have HX1 := Lib.hid ((HX.out.ext hE0).ext hE1)
 have HA1 := Lib.hid ((hE0.ext hE1).blk HA.out id)
 clear hE1 hE0 hent
 rcases hh : heavyEnts [x] with _ | _
 rotate_left
 ·
  go_wp2
  go_ret
  exact ⟨rfl, Ext.below HX1.out⟩
 have Hsm := Lib.hid (small_of_heavy hh)
 clear hh
 by_cases hn : 32768 < n
 ·
  have d : decide ((32768 : Int) < (n : Int)) = true := by simp; omega
  go_wp2
  go_ret
  exact ⟨rfl, Ext.below HX1.out⟩
 have d : decide ((32768 : Int) < (n : Int)) = false := by simp; omega
 have hld := load_row (P := Try.prog) (o := 0) (cs := [.int .i64 x.term, .int .i64 x.kind, .int .i64 x.call.client, .int .i64 x.call.seq, .int .i64 x.call.cmd.kind, .string x.call.cmd.key, .int .i64 x.call.cmd.old.kind, .float .f64 x.call.cmd.old.num, .string x.call.cmd.old.text, .int .i64 x.call.cmd.val.kind, .float .f64 x.call.cmd.val.num, .string x.call.cmd.val.text, .int .i64 x.conf.full, .int .i64 x.conf.wit, .int .i64 x.conf.learn, .int .i64 x.conf.learnWit]) str_entry HA1.out rfl (fun j u hu => by rw [Nat.zero_add]; exact hu)
 go_wp2_with (refine wpList_ld rfl 44 _ rfl _ _ rfl hld ?_)
 clear hld
 refine (wo_entry w1 x Hx.out).mono ?_
 rintro e w2 ⟨v2, rfl, hN2, hE2⟩
 rw [told_entry] at hN2 ⊢
 obtain ⟨P, hP⟩ : ∃ P, (entryP x).1 = P := ⟨_, rfl⟩
 obtain ⟨c, hc⟩ : ∃ c, (entryP x).2 = c := ⟨_, rfl⟩
 rw [hP] at hN2
 rw [hc]
 have HX2 := Lib.hid (HX1.out.ext hE2)
 have HA2 := Lib.hid (hE2.blk HA1.out id)
 have HN2 := Lib.hid hN2
 have HP := Lib.hid hP
 have Hc := Lib.hid hc
 obtain ⟨A2, c2, rfl⟩ := own_form hN2.1
 clear hN2 hE2 hP hc
 have hld := load_row (P := Try.prog) (o := 0) (cs := [.int .i64 x.term, .int .i64 x.kind, .int .i64 x.call.client, .int .i64 x.call.seq, .int .i64 x.call.cmd.kind, .string x.call.cmd.key, .int .i64 x.call.cmd.old.kind, .float .f64 x.call.cmd.old.num, .string x.call.cmd.old.text, .int .i64 x.call.cmd.val.kind, .float .f64 x.call.cmd.val.num, .string x.call.cmd.val.text, .int .i64 x.conf.full, .int .i64 x.conf.wit, .int .i64 x.conf.learn, .int .i64 x.conf.learnWit]) str_entry HA2.out rfl (fun j u hu => by rw [Nat.zero_add]; exact hu)
 go_wp2_with (refine wpList_ld rfl 44 _ rfl _ _ rfl hld ?_)
 clear hld
 refine (p_Entry x Hx.out Hsm.out w2).mono ?_
 rintro e w3 ⟨v3, rfl, hN3, hE3⟩
 rw [HP.out] at hN3
 rw [Hc.out]
 have HX3 := Lib.hid (HX2.out.ext hE3)
 have HN3 := Lib.hid hN3
 replace HN2 := Lib.hid (HN2.out.ext hE3)
 obtain ⟨A3, c3, rfl⟩ := own_form hN3.1
 clear hN3 hE3
 go_wp2_with fail
 refine (k_bytes w3 _ _ _ _ P P HN2.out.sl HN3.out.sl).mono ?_
 rintro e w4 ⟨rfl, hE4⟩
 rw [show (P == P) = true by simp]
 have HX4 := Lib.hid (HX3.out.ext hE4)
 clear hE4 HN2 HN3
 go_wp2_with fail
 rw [← Hn.out]
 refine (wo_readEnt w4 _ _ bs (HB.out.ext HX4.out) (by have := Hn.out; omega)).mono ?_
 rintro e w5 ⟨y, k, hy, hk, rfl, hE5⟩
 rw [Hn.out]
 obtain ⟨p, hp⟩ : ∃ p, w5.heap.size = p := ⟨_, rfl⟩
 obtain ⟨W5, hW5⟩ : ∃ W5, W5 = w5.alloc (.cells #[.int .i64 y.term, .int .i64 y.kind, .int .i64 y.call.client, .int .i64 y.call.seq, .int .i64 y.call.cmd.kind, .string y.call.cmd.key, .int .i64 y.call.cmd.old.kind, .float .f64 y.call.cmd.old.num, .string y.call.cmd.old.text, .int .i64 y.call.cmd.val.kind, .float .f64 y.call.cmd.val.num, .string y.call.cmd.val.text, .int .i64 y.conf.full, .int .i64 y.conf.wit, .int .i64 y.conf.learn, .int .i64 y.conf.learnWit] 44) := ⟨_, rfl⟩
 have hE5' : Ext w5 W5 := by rw [hW5]; exact (Mod.refl _ _).alloc _
 have hA5 : W5.heap[p]? = some (.cells #[.int .i64 y.term, .int .i64 y.kind, .int .i64 y.call.client, .int .i64 y.call.seq, .int .i64 y.call.cmd.kind, .string y.call.cmd.key, .int .i64 y.call.cmd.old.kind, .float .f64 y.call.cmd.old.num, .string y.call.cmd.old.text, .int .i64 y.call.cmd.val.kind, .float .f64 y.call.cmd.val.num, .string y.call.cmd.val.text, .int .i64 y.conf.full, .int .i64 y.conf.wit, .int .i64 y.conf.learn, .int .i64 y.conf.learnWit] 44 (0, 0)) := by rw [hW5, ← hp]; exact heap_alloc_new w5 _
 have HX5 := Lib.hid ((HX4.out.ext hE5).ext hE5')
 have HA5 := Lib.hid hA5
 have HW5 := Lib.hid hW5
 have Hp := Lib.hid hp
 have Hy := Lib.hid hy
 have Hk := Lib.hid hk
 clear hW5 hE5 hE5' hA5 hp hy hk
 go_wp2_with fail
 rw [← HW5.out, Hp.out, ← Hn.out]
 clear HW5
 refine (p_ReadEntry W5 _ _ bs (HB.out.ext HX5.out) (fun g hg => by have := HX5.out.size; omega) (by have := Hn.out; omega)).mono ?_
 rintro e w6 ⟨y', ok, hy', hok, rfl, hE6⟩
 rw [← read_ent] at hy' hok
 obtain rfl : y' = y := hy'.trans Hy.out.symm
 rw [Hn.out]
 obtain ⟨p2, hp2⟩ : ∃ p, w6.heap.size = p := ⟨_, rfl⟩
 obtain ⟨W6, hW6⟩ : ∃ W6, W6 = w6.alloc (.cells #[.int .i64 y'.term, .int .i64 y'.kind, .int .i64 y'.call.client, .int .i64 y'.call.seq, .int .i64 y'.call.cmd.kind, .string y'.call.cmd.key, .int .i64 y'.call.cmd.old.kind, .float .f64 y'.call.cmd.old.num, .string y'.call.cmd.old.text, .int .i64 y'.call.cmd.val.kind, .float .f64 y'.call.cmd.val.num, .string y'.call.cmd.val.text, .int .i64 y'.conf.full, .int .i64 y'.conf.wit, .int .i64 y'.conf.learn, .int .i64 y'.conf.learnWit] 44) := ⟨_, rfl⟩
 have hE6' : Ext w6 W6 := by rw [hW6]; exact (Mod.refl _ _).alloc _
 have hA6 : W6.heap[p2]? = some (.cells #[.int .i64 y'.term, .int .i64 y'.kind, .int .i64 y'.call.client, .int .i64 y'.call.seq, .int .i64 y'.call.cmd.kind, .string y'.call.cmd.key, .int .i64 y'.call.cmd.old.kind, .float .f64 y'.call.cmd.old.num, .string y'.call.cmd.old.text, .int .i64 y'.call.cmd.val.kind, .float .f64 y'.call.cmd.val.num, .string y'.call.cmd.val.text, .int .i64 y'.conf.full, .int .i64 y'.conf.wit, .int .i64 y'.conf.learn, .int .i64 y'.conf.learnWit] 44 (0, 0)) := by rw [hW6, ← hp2]; exact heap_alloc_new w6 _
 have hB6 := (hE6.ext hE6').blk HA5.out id
 have HX6 := Lib.hid ((HX5.out.ext hE6).ext hE6')
 have hk2 : (ok = true ∧ k = 0) ∨ (ok = false ∧ k = 3) := by
  rw [hok, Hk.out]
  cases (wReadEnt bs).isSome
  ·
   exact .inr ⟨rfl, rfl⟩
  ·
   exact .inl ⟨rfl, rfl⟩
 have hl1 := load_row (P := Try.prog) (o := 0) (cs := [.int .i64 y'.term, .int .i64 y'.kind, .int .i64 y'.call.client, .int .i64 y'.call.seq, .int .i64 y'.call.cmd.kind, .string y'.call.cmd.key, .int .i64 y'.call.cmd.old.kind, .float .f64 y'.call.cmd.old.num, .string y'.call.cmd.old.text, .int .i64 y'.call.cmd.val.kind, .float .f64 y'.call.cmd.val.num, .string y'.call.cmd.val.text, .int .i64 y'.conf.full, .int .i64 y'.conf.wit, .int .i64 y'.conf.learn, .int .i64 y'.conf.learnWit]) str_entry hB6 rfl (fun j u hu => by rw [Nat.zero_add]; exact hu)
 have hl2 := load_row (P := Try.prog) (o := 0) (cs := [.int .i64 y'.term, .int .i64 y'.kind, .int .i64 y'.call.client, .int .i64 y'.call.seq, .int .i64 y'.call.cmd.kind, .string y'.call.cmd.key, .int .i64 y'.call.cmd.old.kind, .float .f64 y'.call.cmd.old.num, .string y'.call.cmd.old.text, .int .i64 y'.call.cmd.val.kind, .float .f64 y'.call.cmd.val.num, .string y'.call.cmd.val.text, .int .i64 y'.conf.full, .int .i64 y'.conf.wit, .int .i64 y'.conf.learn, .int .i64 y'.conf.learnWit]) str_entry hA6 rfl (fun j u hu => by rw [Nat.zero_add]; exact hu)
 have HW6 := Lib.hid hW6
 have Hk2 := Lib.hid hk2
 rw [hW6] at hl1 hl2
 rw [← hp2] at hl2
 clear hW6 hE6 hE6' hA6 hB6 hp2 hy' hok hk2
 go_wp2_with (first | (refine wpList_ld rfl 44 _ rfl _ _ rfl hl1 ?_) | (refine wpList_ld rfl 44 _ rfl _ _ rfl hl2 ?_))
 clear hl1 hl2
 rw [← HW6.out]
 clear HW6
 refine (k_entry y' y' W6).mono ?_
 rintro e w7 ⟨rfl, hE7⟩
 rw [eqEntry_self]
 have HX7 := Lib.hid (HX6.out.ext hE7)
 clear hE7
 have hk2 := Hk2.out
 rcases hk2 with ⟨rfl, rfl⟩ | ⟨rfl, rfl⟩
 all_goals
  clear Hk2 Hk
  go_wp2_with fail
  refine (wo_wakes w7).mono ?_
  rintro e w8 ⟨rfl, hE8⟩
  have HX8 := Lib.hid (HX7.out.ext hE8)
  clear hE8
  go_wp2
  go_ret
  exact ⟨rfl, Ext.below HX8.out⟩
theorem wireEntries_a (w : World) (x : AEntry) (v : Value) (bs : List UInt8) (hx : x.ok) (hB : Byt w (fun g => g < w.heap.size) v bs) :
  Calls Try.prog 4 #[.agg #[.int .i64 x.term, .int .i64 x.kind, .int .i64 x.call.client, .int .i64 x.call.seq, .int .i64 x.call.cmd.kind, .string x.call.cmd.key, .int .i64 x.call.cmd.old.kind, .float .f64 x.call.cmd.old.num, .string x.call.cmd.old.text, .int .i64 x.call.cmd.val.kind, .float .f64 x.call.cmd.val.num, .string x.call.cmd.val.text, .int .i64 x.conf.full, .int .i64 x.conf.wit, .int .i64 x.conf.learn, .int .i64 x.conf.learnWit], v] w fun e w' => e = .returned (.bool true) ∧ Below w.heap.size w w' := law_wireEntries w x hx v bs hB
end Go.Proofs.Ytfkacakbengboaa
