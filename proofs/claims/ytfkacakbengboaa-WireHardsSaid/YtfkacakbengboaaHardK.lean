/-
 Contracts of keep.Hard and of the bound on a hard state's size. Conditions: as each theorem names them.
-/
import Derived.Test.YtfkacakbengboaaKeepList
import Derived.Test.YtfkacakbengboaaHeavy
import Derived.Test.YtfkacakbengboaaWireH1
namespace Go.Proofs.Ytfkacakbengboaa
set_option linter.unusedSimpArgs false
open Go.RowKit

def eqHard (a b : AHard) : Bool := a.term == b.term && a.vote == b.vote && a.base == b.base && a.baseTerm == b.baseTerm && eqConf a.conf b.conf && a.snap == b.snap && eqEnts a.log b.log
def heavyHard (h : AHard) : Bool := heavyEnts h.log || decide (32768 < h.snap.length)
set_option maxRecDepth 100000 in
set_option maxHeartbeats 2000000 in
theorem k_hard (w : World) (T U : Nat → Prop) (a b : AHard) (sa la sb lb : Value) (ha : HardM w T sa la a) (hb : HardM w U sb lb b) :
  Calls Try.prog 24 #[.agg #[.int .i64 a.term, .int .i64 a.vote, .int .i64 a.base, .int .i64 a.baseTerm, .int .i64 a.conf.full, .int .i64 a.conf.wit, .int .i64 a.conf.learn, .int .i64 a.conf.learnWit, sa, la], .agg #[.int .i64 b.term, .int .i64 b.vote, .int .i64 b.base, .int .i64 b.baseTerm, .int .i64 b.conf.full, .int .i64 b.conf.wit, .int .i64 b.conf.learn, .int .i64 b.conf.learnWit, sb, lb]] w fun e w' => e = .returned (.bool (eqHard a b)) ∧ Ext w w' := by
 have hE : Ext w ((w.alloc (.cells #[.int .i64 a.term, .int .i64 a.vote, .int .i64 a.base, .int .i64 a.baseTerm, .int .i64 a.conf.full, .int .i64 a.conf.wit, .int .i64 a.conf.learn, .int .i64 a.conf.learnWit, sa, la] 54)).alloc (.cells #[.int .i64 b.term, .int .i64 b.vote, .int .i64 b.base, .int .i64 b.baseTerm, .int .i64 b.conf.full, .int .i64 b.conf.wit, .int .i64 b.conf.learn, .int .i64 b.conf.learnWit, sb, lb] 54)) := ((Mod.refl _ w).alloc _).alloc _
 rcases h0 : (a.term == b.term) with _ | _
 ·
  go_enter Try.func24, Try.ntmps24
  go_wp2
  go_ret
  exact ⟨ret_bool (by simp [eqHard, h0]), hE⟩
 rcases h1 : (a.vote == b.vote) with _ | _
 ·
  go_enter Try.func24, Try.ntmps24
  go_wp2
  go_ret
  exact ⟨ret_bool (by simp [eqHard, h1]), hE⟩
 rcases h2 : (a.base == b.base) with _ | _
 ·
  go_enter Try.func24, Try.ntmps24
  go_wp2
  go_ret
  exact ⟨ret_bool (by simp [eqHard, h2]), hE⟩
 rcases h3 : (a.baseTerm == b.baseTerm) with _ | _
 ·
  go_enter Try.func24, Try.ntmps24
  go_wp2
  go_ret
  exact ⟨ret_bool (by simp [eqHard, h3]), hE⟩
 have He : Hid (eqHard a b = (eqConf a.conf b.conf && a.snap == b.snap && eqEnts a.log b.log)) := Lib.hid (by simp only [eqHard, h0, h1, h2, h3, Bool.true_and])
 obtain ⟨q, hq⟩ : ∃ q, w.heap.size = q := ⟨_, rfl⟩
 obtain ⟨W, hW⟩ : ∃ W, W = (w.alloc (.cells #[.int .i64 a.term, .int .i64 a.vote, .int .i64 a.base, .int .i64 a.baseTerm, .int .i64 a.conf.full, .int .i64 a.conf.wit, .int .i64 a.conf.learn, .int .i64 a.conf.learnWit, sa, la] 54)).alloc (.cells #[.int .i64 b.term, .int .i64 b.vote, .int .i64 b.base, .int .i64 b.baseTerm, .int .i64 b.conf.full, .int .i64 b.conf.wit, .int .i64 b.conf.learn, .int .i64 b.conf.learnWit, sb, lb] 54) := ⟨_, rfl⟩
 rw [← hW] at hE
 have hA : W.heap[q]? = some (.cells #[.int .i64 a.term, .int .i64 a.vote, .int .i64 a.base, .int .i64 a.baseTerm, .int .i64 a.conf.full, .int .i64 a.conf.wit, .int .i64 a.conf.learn, .int .i64 a.conf.learnWit, sa, la] 54 (0, 0)) := by rw [hW, ← hq, Below.heap_alloc _ _ _ (by simp)]; exact heap_alloc_new w _
 have hB : W.heap[q + 1]? = some (.cells #[.int .i64 b.term, .int .i64 b.vote, .int .i64 b.base, .int .i64 b.baseTerm, .int .i64 b.conf.full, .int .i64 b.conf.wit, .int .i64 b.conf.learn, .int .i64 b.conf.learnWit, sb, lb] 54 (0, 0)) := by
  rw [hW, ← hq]
  have := heap_alloc_new (w.alloc (.cells #[.int .i64 a.term, .int .i64 a.vote, .int .i64 a.base, .int .i64 a.baseTerm, .int .i64 a.conf.full, .int .i64 a.conf.wit, .int .i64 a.conf.learn, .int .i64 a.conf.learnWit, sa, la] 54)) (.cells #[.int .i64 b.term, .int .i64 b.vote, .int .i64 b.base, .int .i64 b.baseTerm, .int .i64 b.conf.full, .int .i64 b.conf.wit, .int .i64 b.conf.learn, .int .i64 b.conf.learnWit, sb, lb] 54)
  simpa using this
 have HW := Lib.hid hW
 have Hq := Lib.hid hq
 have HX := Lib.hid hE
 have HA := Lib.hid hA
 have HB := Lib.hid hB
 have Ha := Lib.hid (ha.mod hE (fun _ _ => id))
 have Hb := Lib.hid (hb.mod hE (fun _ _ => id))
 clear hW hq hE hA hB ha hb
 go_enter Try.func24, Try.ntmps24
 go_wp2_with fail
 rw [← HW.out, Hq.out]
 refine (k_conf a.conf b.conf W).mono ?_
 rintro e w1 ⟨rfl, hE1⟩
 replace HX := Lib.hid (HX.out.ext hE1)
 replace HA := Lib.hid (hE1.blk HA.out id)
 replace HB := Lib.hid (hE1.blk HB.out id)
 replace Ha := Lib.hid (Ha.out.mod hE1 (fun _ _ => id))
 replace Hb := Lib.hid (Hb.out.mod hE1 (fun _ _ => id))
 clear hE1
 have a8 : w1.cell? ⟨q, 8, none⟩ = some _ := blk_cell HA.out rfl
 have b8 : w1.cell? ⟨q + 1, 8, none⟩ = some _ := blk_cell HB.out rfl
 rcases g0 : eqConf a.conf b.conf with _ | _
 ·
  have Hr : Hid (eqHard a b = false) := Lib.hid (by rw [He.out, g0]; rfl)
  clear g0
  go_wp2
  go_ret
  exact ⟨ret_bool Hr.out.symm, HX.out⟩
 have G0 := Lib.hid g0
 clear g0
 go_wp2_with fail
 refine (k_bytes w1 T U sa sb a.snap b.snap Ha.out.1 Hb.out.1).mono ?_
 rintro e w2 ⟨rfl, hE1⟩
 replace HX := Lib.hid (HX.out.ext hE1)
 replace HA := Lib.hid (hE1.blk HA.out id)
 replace HB := Lib.hid (hE1.blk HB.out id)
 replace Ha := Lib.hid (Ha.out.mod hE1 (fun _ _ => id))
 replace Hb := Lib.hid (Hb.out.mod hE1 (fun _ _ => id))
 clear hE1 a8 b8
 have a9 : w2.cell? ⟨q, 9, none⟩ = some _ := blk_cell HA.out rfl
 have b9 : w2.cell? ⟨q + 1, 9, none⟩ = some _ := blk_cell HB.out rfl
 rcases g1 : (a.snap == b.snap) with _ | _
 ·
  have Hr : Hid (eqHard a b = false) := Lib.hid (by rw [He.out, g1, Bool.and_false]; rfl)
  clear g1
  go_wp2
  go_ret
  exact ⟨ret_bool Hr.out.symm, HX.out⟩
 have G1 := Lib.hid g1
 clear g1
 go_wp2_with fail
 refine (k_entries w2 T U la lb a.log b.log Ha.out.2 Hb.out.2).mono ?_
 rintro e w3 ⟨rfl, hE1⟩
 replace HX := Lib.hid (HX.out.ext hE1)
 have Hr : Hid (eqHard a b = eqEnts a.log b.log) := Lib.hid (by rw [He.out, G0.out, G1.out]; rfl)
 clear hE1
 go_wp2
 go_ret
 exact ⟨ret_bool Hr.out.symm, HX.out⟩
set_option maxRecDepth 100000 in
set_option maxHeartbeats 2000000 in
theorem hv_hard (w : World) (T : Nat → Prop) (h : AHard) (sv lv : Value) (hh : HardM w T sv lv h) :
  Calls Try.prog 17 #[.agg #[.int .i64 h.term, .int .i64 h.vote, .int .i64 h.base, .int .i64 h.baseTerm, .int .i64 h.conf.full, .int .i64 h.conf.wit, .int .i64 h.conf.learn, .int .i64 h.conf.learnWit, sv, lv]] w fun e w' => e = .returned (.bool (heavyHard h)) ∧ Ext w w' := by
 obtain ⟨q, hq⟩ : ∃ q, w.heap.size = q := ⟨_, rfl⟩
 obtain ⟨W, hW⟩ : ∃ W, W = w.alloc (.cells #[.int .i64 h.term, .int .i64 h.vote, .int .i64 h.base, .int .i64 h.baseTerm, .int .i64 h.conf.full, .int .i64 h.conf.wit, .int .i64 h.conf.learn, .int .i64 h.conf.learnWit, sv, lv] 54) := ⟨_, rfl⟩
 have hE : Ext w W := by rw [hW]; exact (Mod.refl _ w).alloc _
 have hA : W.heap[q]? = some (.cells #[.int .i64 h.term, .int .i64 h.vote, .int .i64 h.base, .int .i64 h.baseTerm, .int .i64 h.conf.full, .int .i64 h.conf.wit, .int .i64 h.conf.learn, .int .i64 h.conf.learnWit, sv, lv] 54 (0, 0)) := by rw [hW, ← hq]; exact heap_alloc_new w _
 obtain ⟨As, cs, hsv⟩ := hh.1.form
 have hle := hh.1.le
 obtain ⟨m, hm⟩ : ∃ m, h.snap.length = m := ⟨_, rfl⟩
 rw [hm] at hsv hle
 unfold maxLen at hle
 have HW := Lib.hid hW
 have Hq := Lib.hid hq
 have HX := Lib.hid hE
 have HA := Lib.hid hA
 have Hh := Lib.hid (hh.mod hE (fun _ _ => id))
 have Hsv := Lib.hid hsv
 have Hm := Lib.hid hm
 clear hW hq hE hA hh hsv hm
 go_enter Try.func17, Try.ntmps17
 go_wp2_with fail
 rw [← HW.out, Hq.out]
 refine (hv_entries W T lv h.log Hh.out.2).mono ?_
 rintro e w1 ⟨rfl, hE1⟩
 replace HX := Lib.hid (HX.out.ext hE1)
 replace HA := Lib.hid (hE1.blk HA.out id)
 clear hE1
 have a8 : w1.cell? ⟨q, 8, none⟩ = some _ := blk_cell HA.out rfl
 rw [Hsv.out] at a8
 rcases g0 : heavyEnts h.log with _ | _
 ·
  by_cases hl : 32768 < m
  ·
   have hd : decide ((32768 : Int) < (m : Int)) = true := by simp; omega
   have Hr : Hid (heavyHard h = true) := Lib.hid (by rw [heavyHard, g0, Hm.out]; simp [hl])
   clear g0
   go_wp2
   go_ret
   exact ⟨ret_bool Hr.out.symm, HX.out⟩
  ·
   have hd : decide ((32768 : Int) < (m : Int)) = false := by simp; omega
   have Hr : Hid (heavyHard h = false) := Lib.hid (by rw [heavyHard, g0, Hm.out]; simp; omega)
   clear g0
   go_wp2
   go_ret
   exact ⟨ret_bool Hr.out.symm, HX.out⟩
 ·
  have Hr : Hid (heavyHard h = true) := Lib.hid (by rw [heavyHard, g0]; rfl)
  clear g0
  go_wp2
  go_ret
  exact ⟨ret_bool Hr.out.symm, HX.out⟩
theorem heavy_ents {l : List AEntry} (h : heavyEnts l = false) : l.length ≤ 200 ∧ ∀ x ∈ l, heavyCmd x.call.cmd = false := by
 simp only [heavyEnts, Bool.or_eq_false_iff, decide_eq_false_iff_not] at h
 refine ⟨by omega, fun x hx => ?_⟩
 have := List.any_eq_false.1 h.2 x hx
 simpa using this
theorem heavy_hard {h : AHard} (hh : heavyHard h = false) : h.log.length ≤ 200 ∧ (∀ x ∈ h.log, heavyCmd x.call.cmd = false) ∧ h.snap.length ≤ 32768 := by
 simp only [heavyHard, Bool.or_eq_false_iff, decide_eq_false_iff_not] at hh
 have := heavy_ents hh.1
 exact ⟨this.1, this.2, by omega⟩
end Go.Proofs.Ytfkacakbengboaa
