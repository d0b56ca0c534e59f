/-
 The walk of WireHards. Conditions: as the theorems name them.
-/
import Derived.Test.YtfkacakbengboaaHardK
import Derived.Test.YtfkacakbengboaaWireH2
import Derived.Test.YtfkacakbengboaaWireH4
import Derived.Test.YtfkacakbengboaaWireR4
import Derived.Test.YtfkacakbengboaaWireOE
namespace Go.Proofs.Ytfkacakbengboaa
set_option linter.unusedSimpArgs false
open Go.RowKit

theorem eqEntry_refl (y : AEntry) : eqEntry y y = true := by
 simp [eqEntry, eqCall, eqCmd, eqVal, eqConf, sameF, (eqT_iff _ _).2 rfl]
theorem eqEnts_refl : ∀ l : List AEntry, eqEnts l l = true := fun l => by
 induction l with
 | nil => rfl
 | cons a l ih =>
  show (eqEntry a a && eqL eqEntry l l) = true
  rw [eqEntry_refl]
  exact ih
theorem eqHard_refl (h : AHard) : eqHard h h = true := by simp [eqHard, eqEnts_refl, eqConf]
theorem small_of {x : AEntry} (h : heavyCmd x.call.cmd = false) : x.small := by
 simp [heavyCmd] at h
 exact ⟨by omega, by omega, by omega⟩
set_option maxRecDepth 100000 in
set_option maxHeartbeats 4000000 in
theorem wireHards_a (w : World) (h : AHard) (sv lv v : Value) (bs : List UInt8) (hh : HardM w (fun g => g < w.heap.size) sv lv h) (ho : h.ok) (hB : Byt w (fun g => g < w.heap.size) v bs) :
  Calls Try.prog 5 #[.agg #[.int .i64 h.term, .int .i64 h.vote, .int .i64 h.base, .int .i64 h.baseTerm, .int .i64 h.conf.full, .int .i64 h.conf.wit, .int .i64 h.conf.learn, .int .i64 h.conf.learnWit, sv, lv], v] w fun e w' => e = .returned (.bool true) ∧ Below w.heap.size w w' := by
 obtain ⟨n, hn⟩ : ∃ n, bs.length = n := ⟨_, rfl⟩
 obtain ⟨A, cp, rfl⟩ := hB.form
 obtain ⟨q, hq⟩ : ∃ q, w.heap.size = q := ⟨_, rfl⟩
 obtain ⟨W, hW⟩ : ∃ W, W = w.alloc (.cells #[.int .i64 h.term, .int .i64 h.vote, .int .i64 h.base, .int .i64 h.baseTerm, .int .i64 h.conf.full, .int .i64 h.conf.wit, .int .i64 h.conf.learn, .int .i64 h.conf.learnWit, sv, lv] 54) := ⟨_, rfl⟩
 have hE : Ext w W := by rw [hW]; exact (Mod.refl _ w).alloc _
 have hA : W.heap[q]? = some (.cells #[.int .i64 h.term, .int .i64 h.vote, .int .i64 h.base, .int .i64 h.baseTerm, .int .i64 h.conf.full, .int .i64 h.conf.wit, .int .i64 h.conf.learn, .int .i64 h.conf.learnWit, sv, lv] 54 (0, 0)) := by rw [hW, ← hq]; exact heap_alloc_new w _
 have hld := load_row (P := Try.prog) (o := 0) (cs := [.int .i64 h.term, .int .i64 h.vote, .int .i64 h.base, .int .i64 h.baseTerm, .int .i64 h.conf.full, .int .i64 h.conf.wit, .int .i64 h.conf.learn, .int .i64 h.conf.learnWit, sv, lv]) str_hard (heap_alloc_new w (.cells #[.int .i64 h.term, .int .i64 h.vote, .int .i64 h.base, .int .i64 h.baseTerm, .int .i64 h.conf.full, .int .i64 h.conf.wit, .int .i64 h.conf.learn, .int .i64 h.conf.learnWit, sv, lv] 54)) rfl (fun j u hu => by rw [Nat.zero_add]; exact hu)
 have hle := hB.le
 have HB := Lib.hid hB
 have Hh := Lib.hid hh
 have HW := Lib.hid hW
 have Hq := Lib.hid hq
 have HX := Lib.hid hE
 have HA := Lib.hid hA
 have Hn := Lib.hid hn
 have Ho := Lib.hid ho
 rw [hn] at hle ⊢
 unfold maxLen at hle
 clear hW hq hE hA hn hB hh ho
 go_enter Try.func5, Try.ntmps5
 go_wp2_with (refine wpList_ld rfl 54 _ rfl _ _ rfl hld ?_)
 clear hld
 rw [← HW.out, Hq.out]
 refine (hv_hard W _ h sv lv (Hh.out.mod HX.out (fun _ _ => id))).mono ?_
 rintro e w1 ⟨rfl, hE1⟩
 replace HX := Lib.hid (HX.out.ext hE1)
 replace HA := Lib.hid (hE1.blk HA.out id)
 clear hE1
 rcases hv : heavyHard h with _ | _
 rotate_left
 ·
  go_wp2
  go_ret
  exact ⟨rfl, Ext.below HX.out⟩
 have Hv := Lib.hid (heavy_hard hv)
 clear hv
 by_cases hn : 32768 < n
 ·
  have d : decide ((32768 : Int) < (n : Int)) = true := by simp; omega
  go_wp2
  go_ret
  exact ⟨rfl, Ext.below HX.out⟩
 have d : decide ((32768 : Int) < (n : Int)) = false := by simp; omega
 have hld := load_row (P := Try.prog) (o := 0) (cs := [.int .i64 h.term, .int .i64 h.vote, .int .i64 h.base, .int .i64 h.baseTerm, .int .i64 h.conf.full, .int .i64 h.conf.wit, .int .i64 h.conf.learn, .int .i64 h.conf.learnWit, sv, lv]) str_hard HA.out rfl (fun j u hu => by rw [Nat.zero_add]; exact hu)
 go_wp2_with (refine wpList_ld rfl 54 _ rfl _ _ rfl hld ?_)
 clear hld
 refine (wo_hard w1 _ h sv lv (Hh.out.mod HX.out (fun _ _ => id)) Ho.out (fun g hg => by have := HX.out.size; omega) (by have := Hv.out.1; omega)).mono ?_
 rintro e w2 ⟨v2, rfl, hN2, hE2⟩
 have htd : told h.w = hardP h.term h.vote h.base h.baseTerm h.conf h.snap h.log := told_hard _ _ _ _ _ _ _
 obtain ⟨P, hP⟩ : ∃ P, hardP h.term h.vote h.base h.baseTerm h.conf h.snap h.log = P := ⟨_, rfl⟩
 rw [htd, hP] at hN2 ⊢
 replace HX := Lib.hid (HX.out.ext hE2)
 replace HA := Lib.hid (hE2.blk HA.out id)
 have HN2 := Lib.hid hN2
 have HP := Lib.hid hP
 obtain ⟨A2, c2, rfl⟩ := own_form hN2.1
 obtain ⟨P1, c⟩ := P
 clear hN2 hE2 hP htd
 have hld := load_row (P := Try.prog) (o := 0) (cs := [.int .i64 h.term, .int .i64 h.vote, .int .i64 h.base, .int .i64 h.baseTerm, .int .i64 h.conf.full, .int .i64 h.conf.wit, .int .i64 h.conf.learn, .int .i64 h.conf.learnWit, sv, lv]) str_hard HA.out rfl (fun j u hu => by rw [Nat.zero_add]; exact hu)
 go_wp2_with (refine wpList_ld rfl 54 _ rfl _ _ rfl hld ?_)
 clear hld
 refine (p_Hard w2 _ h sv lv (Hh.out.mod HX.out (fun _ _ => id)) Ho.out (fun x hx => small_of (Hv.out.2.1 x hx)) (by have := Hv.out.1; omega) (fun g hg => by have := HX.out.size; omega)).mono ?_
 rintro e w3 ⟨v3, rfl, hN3, hE3⟩
 rw [HP.out] at hN3 ⊢
 replace HX := Lib.hid (HX.out.ext hE3)
 have HN3 := Lib.hid hN3
 replace HN2 := Lib.hid (HN2.out.ext hE3)
 obtain ⟨A3, c3, rfl⟩ := own_form hN3.1
 clear hN3 hE3 HA
 go_wp2_with fail
 refine (k_bytes w3 _ _ _ _ P1 P1 HN2.out.sl HN3.out.sl).mono ?_
 rintro e w4 ⟨rfl, hE4⟩
 rw [show (P1 == P1) = true by simp]
 replace HX := Lib.hid (HX.out.ext hE4)
 clear hE4 HN2 HN3
 go_wp2_with fail
 rw [← Hn.out]
 refine (k_twin w4 _ _ bs (HB.out.ext HX.out) (by have := Hn.out; omega)).mono ?_
 rintro e w5 ⟨v5, rfl, hN5, hE5⟩
 rw [Hn.out]
 have hx4 := HX.out.size
 replace HX := Lib.hid (HX.out.ext hE5)
 have HN5 := Lib.hid hN5
 have HN5w : Hid (∀ g, v5.ownBlock = some g → w.heap.size ≤ g ∧ g < w5.heap.size) := Lib.hid (fun g hg => ⟨Nat.le_trans hx4 (hN5.2 g hg), (hN5.1.lt g hg).2⟩)
 obtain ⟨A9, c9, rfl⟩ := own_form hN5.1
 clear hN5 hE5 hx4
 go_wp2_with fail
 refine (wo_readHard w5 _ _ bs HN5.out.sl (by have := Hn.out; omega)).mono ?_
 rintro e w6 ⟨y, k, sv5, lv5, hy, hk, rfl, hNB, hNE, hE6⟩
 obtain ⟨A5, c5, rfl⟩ := own_form hNB.1
 obtain ⟨A6, c6, rfl⟩ := own_form hNE.1
 obtain ⟨p, hp⟩ : ∃ p, w6.heap.size = p := ⟨_, rfl⟩
 obtain ⟨W6, hW6⟩ : ∃ W6, W6 = w6.alloc (.cells #[.int .i64 y.term, .int .i64 y.vote, .int .i64 y.base, .int .i64 y.baseTerm, .int .i64 y.conf.full, .int .i64 y.conf.wit, .int .i64 y.conf.learn, .int .i64 y.conf.learnWit, .slice A5 y.snap.length c5, .slice A6 y.log.length c6] 54) := ⟨_, rfl⟩
 have hE6' : Ext w6 W6 := by rw [hW6]; exact (Mod.refl _ _).alloc _
 have hA6 : W6.heap[p]? = some (.cells #[.int .i64 y.term, .int .i64 y.vote, .int .i64 y.base, .int .i64 y.baseTerm, .int .i64 y.conf.full, .int .i64 y.conf.wit, .int .i64 y.conf.learn, .int .i64 y.conf.learnWit, .slice A5 y.snap.length c5, .slice A6 y.log.length c6] 54 (0, 0)) := by rw [hW6, ← hp]; exact heap_alloc_new w6 _
 have hp5 : w5.heap.size ≤ p := by rw [← hp]; exact hE6.size
 replace HX := Lib.hid ((HX.out.ext hE6).ext hE6')
 have HY := Lib.hid hA6
 have HNB := Lib.hid (hNB.ext hE6')
 have HNE := Lib.hid (newE_mod hNE hE6' (fun _ _ => id))
 replace HN5 := Lib.hid ((HN5.out.ext hE6).ext hE6')
 have HW6 := Lib.hid hW6
 have Hp := Lib.hid hp
 have Hp5 := Lib.hid hp5
 have Hy := Lib.hid hy
 have Hk := Lib.hid hk
 clear hW6 hE6 hE6' hA6 hp hy hk hNB hNE hp5
 go_wp2_with fail
 rw [← HW6.out, Hp.out, ← Hn.out]
 clear HW6
 refine (k_spoilB W6 _ bs HN5.out.1).mono ?_
 rintro e w7 ⟨rfl, hM⟩
 replace HX : Hid (Ext w w7) := Lib.hid (Mod.toExt ((Ext.mod HX.out (Since w.heap.size)).trans hM (fun g _ e => (HN5w.out g e).1)))
 replace HY := Lib.hid (hM.blk HY.out (fun e => by have := (HN5w.out p e).2; have := Hp5.out; omega))
 replace HNB : Hid (NewB w5 w7 (.slice A5 y.snap.length c5) y.snap) := Lib.hid ⟨own_mod HNB.out.1 hM (fun g g1 g2 => by have := HNB.out.2 g g1; have := (HN5w.out g g2).2; omega), HNB.out.2⟩
 replace HNE : Hid (NewE w5 w7 (.slice A6 y.log.length c6) y.log) := Lib.hid (newE_mod HNE.out hM (fun g g1 g2 => by have := HNE.out.2.2 g g1; have := (HN5w.out g g2).2; omega))
 rw [Hn.out]
 clear hM HN5 HN5w
 go_wp2_with fail
 rw [← Hn.out]
 refine (p_ReadHard w7 _ _ bs (HB.out.ext HX.out) (fun g hg => by have := HX.out.size; omega) (by have := Hn.out; omega)).mono ?_
 rintro e w8 ⟨y', ok, sv7, lv7, hy', hok, rfl, hNB2, hNE2, hE8⟩
 rw [← read_hard] at hy' hok
 have hyy : y' = y := hy'.trans Hy.out.symm
 clear hy'
 rw [hyy] at hNB2 hNE2 ⊢
 clear hyy
 rw [Hn.out]
 obtain ⟨A7, c7, rfl⟩ := own_form hNB2.1
 obtain ⟨A8, c8, rfl⟩ := own_form hNE2.1
 obtain ⟨p2, hp2⟩ : ∃ p, w8.heap.size = p := ⟨_, rfl⟩
 obtain ⟨W8, hW8⟩ : ∃ W8, W8 = w8.alloc (.cells #[.int .i64 y.term, .int .i64 y.vote, .int .i64 y.base, .int .i64 y.baseTerm, .int .i64 y.conf.full, .int .i64 y.conf.wit, .int .i64 y.conf.learn, .int .i64 y.conf.learnWit, .slice A7 y.snap.length c7, .slice A8 y.log.length c8] 54) := ⟨_, rfl⟩
 have hE8' : Ext w8 W8 := by rw [hW8]; exact (Mod.refl _ _).alloc _
 have hA8 : W8.heap[p2]? = some (.cells #[.int .i64 y.term, .int .i64 y.vote, .int .i64 y.base, .int .i64 y.baseTerm, .int .i64 y.conf.full, .int .i64 y.conf.wit, .int .i64 y.conf.learn, .int .i64 y.conf.learnWit, .slice A7 y.snap.length c7, .slice A8 y.log.length c8] 54 (0, 0)) := by rw [hW8, ← hp2]; exact heap_alloc_new w8 _
 have hB8 := (hE8.ext hE8').blk HY.out id
 replace HX := Lib.hid ((HX.out.ext hE8).ext hE8')
 have H1 : Hid (HardM W8 (fun _ => True) (.slice A5 y.snap.length c5) (.slice A6 y.log.length c6) y) := Lib.hid ⟨((HNB.out.ext (hE8.ext hE8')).sl).mono (fun _ _ => trivial), ((newE_mod HNE.out (hE8.ext hE8') (fun _ _ => id)).ents.1.mono (fun _ _ => trivial)), HNE.out.2.1⟩
 have H2 : Hid (HardM W8 (fun _ => True) (.slice A7 y.snap.length c7) (.slice A8 y.log.length c8) y) := Lib.hid ⟨((hNB2.ext hE8').sl).mono (fun _ _ => trivial), ((newE_mod hNE2 hE8' (fun _ _ => id)).ents.1.mono (fun _ _ => trivial)), hNE2.2.1⟩
 have hk2 : (ok = true ∧ k = 0) ∨ (ok = false ∧ k = 3) := by
  rw [hok, Hk.out]
  cases (wReadHard bs).isSome
  ·
   exact .inr ⟨rfl, rfl⟩
  ·
   exact .inl ⟨rfl, rfl⟩
 have hl1 := load_row (P := Try.prog) (o := 0) (cs := [.int .i64 y.term, .int .i64 y.vote, .int .i64 y.base, .int .i64 y.baseTerm, .int .i64 y.conf.full, .int .i64 y.conf.wit, .int .i64 y.conf.learn, .int .i64 y.conf.learnWit, .slice A5 y.snap.length c5, .slice A6 y.log.length c6]) str_hard hB8 rfl (fun j u hu => by rw [Nat.zero_add]; exact hu)
 have hl2 := load_row (P := Try.prog) (o := 0) (cs := [.int .i64 y.term, .int .i64 y.vote, .int .i64 y.base, .int .i64 y.baseTerm, .int .i64 y.conf.full, .int .i64 y.conf.wit, .int .i64 y.conf.learn, .int .i64 y.conf.learnWit, .slice A7 y.snap.length c7, .slice A8 y.log.length c8]) str_hard hA8 rfl (fun j u hu => by rw [Nat.zero_add]; exact hu)
 have HW8 := Lib.hid hW8
 have Hk2 := Lib.hid hk2
 rw [hW8] at hl1 hl2
 rw [← hp2] at hl2
 clear hW8 hE8 hE8' hA8 hB8 hp2 hok hk2 hNB2 hNE2 HNB HNE HY
 go_wp2_with (first | (refine wpList_ld rfl 54 _ rfl _ _ rfl hl1 ?_) | (refine wpList_ld rfl 54 _ rfl _ _ rfl hl2 ?_))
 clear hl1 hl2
 rw [← HW8.out]
 clear HW8
 refine (k_hard W8 _ _ y y _ _ _ _ H1.out H2.out).mono ?_
 rintro e w9 ⟨rfl, hE9⟩
 rw [eqHard_refl]
 replace HX := Lib.hid (HX.out.ext hE9)
 clear hE9 H1 H2
 have hk2 := Hk2.out
 rcases hk2 with ⟨rfl, rfl⟩ | ⟨rfl, rfl⟩
 all_goals
  clear Hk2 Hk
  go_wp2_with fail
  refine (wo_wakes w9).mono ?_
  rintro e w10 ⟨rfl, hE10⟩
  replace HX := Lib.hid (HX.out.ext hE10)
  clear hE10
  go_wp2
  go_ret
  exact ⟨rfl, Ext.below HX.out⟩
end Go.Proofs.Ytfkacakbengboaa
