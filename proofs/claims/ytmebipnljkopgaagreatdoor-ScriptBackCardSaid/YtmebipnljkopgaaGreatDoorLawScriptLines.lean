/-
 Layer 27 (script): the law ScriptLines: any act has just the line that the page says, or none. Conditions: the package variables are as start-up lays them (Glb); the act's numbers are ints.
-/
import Derived.Test.YtmebipnljkopgaaGreatDoorScrLn
import Derived.Test.YtmebipnljkopgaaGreatDoorScrPm
import Derived.Test.YtmebipnljkopgaaGreatDoorLawScriptReads
namespace Go.Proofs.YtmebipnljkopgaaGreatDoor
set_option linter.unusedSimpArgs false
set_option linter.unusedVariables false
open Go.RowKit
/-- An act as the model hands it over. -/
structure AIn (a : AAct) : Prop where
  node : -9223372036854775808 ≤ a.node ∧ a.node ≤ 9223372036854775807
  client : -9223372036854775808 ≤ a.client ∧ a.client ≤ 9223372036854775807
  n : -9223372036854775808 ≤ a.n ∧ a.n ≤ 9223372036854775807
  m : -9223372036854775808 ≤ a.m ∧ a.m ≤ 9223372036854775807
  conf : ∀ x ∈ [a.conf.full, a.conf.wit, a.conf.learn, a.conf.learnWit], -9223372036854775808 ≤ x ∧ x ≤ 9223372036854775807
  oldn : a.cmd.old.num < 18446744073709551616
  valn : a.cmd.val.num < 18446744073709551616
def heavyAct (a : AAct) : Bool := heavyCmd a.cmd || decide (6000 < a.bytes.length)
theorem AIn.lt {a : AAct} (h : AIn a) (hh : heavyAct a = false) : ALt a := by
 simp only [heavyAct, heavyCmd, Bool.or_eq_false_iff, decide_eq_false_iff_not, Nat.not_lt] at hh
 obtain ⟨⟨⟨h1, h2⟩, h3⟩, h4⟩ := hh
 exact ⟨h.node, h.client, h.n, h.m, h.conf, by omega, h.oldn, by omega, h.valn, by omega, h4⟩
set_option maxRecDepth 100000 in
set_option maxHeartbeats 1000000 in
theorem l_heavy27 (a : AAct) (bv : Value) (w : World) (T : Nat → Prop) (hB : Byt w T bv a.bytes) : Calls Tryz.prog 10 #[.agg (a.cells bv).toArray] w fun e w' => e = .returned (.bool (heavyAct a)) ∧ Ext w w' := by
 obtain ⟨b, hb⟩ : ∃ b, w.heap.size = b := ⟨_, rfl⟩
 obtain ⟨A, cp, rfl⟩ := Sl.form hB
 obtain ⟨n, hn⟩ : ∃ n, a.bytes.length = n := ⟨_, rfl⟩
 have e4 : decide ((6000 : Int) < (n : Int)) = decide (6000 < n) := by rw [decide_eq_decide]; omega
 obtain ⟨q, hq⟩ : ∃ q, heavyCmd a.cmd = q := ⟨_, rfl⟩
 have hhv := fun W => hv_cmd a.cmd W
 rw [hq] at hhv
 have Hh : Hid (heavyAct a = (q || decide (6000 < n))) := Lib.hid (by unfold heavyAct; rw [hq, hn])
 rw [hn]
 have Hhv := Lib.hid hhv
 clear hB hn hq hhv
 go_enter Tryz.func10, Tryz.ntmps10
 go_upto_region 1 with fail
 obtain ⟨W1, hW1⟩ : ∃ W1, w.alloc (.cells (a.cells (.slice A n cp)).toArray 31) = W1 := ⟨_, rfl⟩
 have hE1 : Ext w W1 := hW1 ▸ ((Mod.refl _ w).alloc _)
 have hb1 : W1.heap[b]? = some (.cells (a.cells (.slice A n cp)).toArray 31 (0, 0)) := hb ▸ hW1 ▸ heap_new _ _
 rw [hW1]
 clear hW1
 have hl1 : (Instr.loadAt 26 (.pointer (some ⟨b, 5, none⟩))).run Tryz.prog W1 = .ok (.agg #[.int .i64 a.cmd.kind, .string a.cmd.key, .int .i64 a.cmd.old.kind, .float .f64 a.cmd.old.num, .string a.cmd.old.text, .int .i64 a.cmd.val.kind, .float .f64 a.cmd.val.num, .string a.cmd.val.text]) W1 := load_row (cs := [.int .i64 a.cmd.kind, .string a.cmd.key, .int .i64 a.cmd.old.kind, .float .f64 a.cmd.old.num, .string a.cmd.old.text, .int .i64 a.cmd.val.kind, .float .f64 a.cmd.val.num, .string a.cmd.val.text]) str_cmd hb1 rfl (fun j u hu => by rcases j with _ | _ | _ | _ | _ | _ | _ | _ | j <;> first | exact hu | cases hu)
 have Hb1 := Lib.hid hb1
 have HE1 := Lib.hid hE1
 clear hb1 hE1
 rcases q with _ | _
 · go_wp2_with (first
    | (refine wpList_ld rfl 26 _ rfl (.pointer (some ⟨b, 5, none⟩)) _ rfl hl1 ?_)
    | (go_at_call 29; refine (Hhv.out _).mono ?_; rintro e w3 ⟨rfl, hE3⟩; have q17 : w3.cell? ⟨b, 17, none⟩ = some (.slice A n cp) := blk_cell (hE3.blk Hb1.out id) rfl))
   go_ret
   exact ⟨by rw [Hh.out]; rfl, HE1.out.ext hE3⟩
 · go_wp2_with (first
    | (refine wpList_ld rfl 26 _ rfl (.pointer (some ⟨b, 5, none⟩)) _ rfl hl1 ?_)
    | (go_at_call 29; refine (Hhv.out _).mono ?_; rintro e w3 ⟨rfl, hE3⟩))
   go_ret
   exact ⟨by rw [Hh.out]; rfl, HE1.out.ext hE3⟩
set_option maxRecDepth 100000 in
set_option maxHeartbeats 2000000 in
theorem l_lines (a : AAct) (bv : Value) (w : World) (hg : Glb w) (hi : AIn a) (hB : Byt w (fun g => g < w.heap.size) bv a.bytes) : Calls Tryz.prog 4 #[.agg (a.cells bv).toArray] w fun e w' => e = .returned (.bool true) ∧ Ext w w' := by
 obtain ⟨b, hb⟩ : ∃ b, w.heap.size = b := ⟨_, rfl⟩
 obtain ⟨q, hq⟩ : ∃ q, heavyAct a = q := ⟨_, rfl⟩
 obtain ⟨A0, n0, c0, rfl⟩ : ∃ A n cp, bv = .slice A n cp := by obtain ⟨A, c, e⟩ := Sl.form hB; exact ⟨A, _, c, e⟩
 have HB := Lib.hid hB
 have Hg := Lib.hid hg
 have hlt0 : q = false → ALt a := fun e => hi.lt (hq.trans e)
 have Hlt0 := Lib.hid hlt0
 have hhv : ∀ W, Ext w W → Calls Tryz.prog 10 #[.agg (a.cells (.slice A0 n0 c0)).toArray] W fun e w' => e = .returned (.bool q) ∧ Ext W w' := fun W hE => hq ▸ l_heavy27 a (.slice A0 n0 c0) W _ (hB.ext hE)
 have Hhv := Lib.hid hhv
 clear hB hg hi hq hhv hlt0
 go_enter Tryz.func4, Tryz.ntmps4
 go_upto_region 1 with fail
 obtain ⟨W1, hW1⟩ : ∃ W1, w.alloc (.cells (a.cells (.slice A0 n0 c0)).toArray 31) = W1 := ⟨_, rfl⟩
 have hE1 : Ext w W1 := hW1 ▸ ((Mod.refl _ w).alloc _)
 have hb1 : W1.heap[b]? = some (.cells (a.cells (.slice A0 n0 c0)).toArray 31 (0, 0)) := hb ▸ hW1 ▸ heap_new _ _
 rw [hW1]
 clear hW1
 have hl1 : (Instr.loadAt 31 (.pointer (some ⟨b, 0, none⟩))).run Tryz.prog W1 = .ok (.agg (a.cells (.slice A0 n0 c0)).toArray) W1 := load_row str_act hb1 rfl (fun j u hu => by rw [Nat.zero_add]; exact hu)
 have Hb1 := Lib.hid hb1
 have HE1 := Lib.hid hE1
 clear hb1 hE1
 rcases q with _ | _
 rotate_left
 · go_wp2_with (first
    | (refine wpList_ld rfl 31 _ rfl (.pointer (some ⟨b, 0, none⟩)) _ rfl hl1 ?_)
    | (go_at_call 10; refine (Hhv.out _ HE1.out).mono ?_; rintro e w3 ⟨rfl, hE3⟩))
   go_ret
   exact ⟨rfl, HE1.out.ext hE3⟩
 have hlt := Hlt0.out rfl
 have Hlt := Lib.hid hlt
 clear hlt Hlt0
 go_upto_region 3 with (first
  | (refine wpList_ld rfl 31 _ rfl (.pointer (some ⟨b, 0, none⟩)) _ rfl hl1 ?_)
  | (go_at_call 10; refine (Hhv.out _ HE1.out).mono ?_; rintro e w3 ⟨rfl, hE3⟩))
 have hb3 := hE3.blk Hb1.out id
 have hl3 : (Instr.loadAt 31 (.pointer (some ⟨b, 0, none⟩))).run Tryz.prog w3 = .ok (.agg (a.cells (.slice A0 n0 c0)).toArray) w3 := load_row str_act hb3 rfl (fun j u hu => by rw [Nat.zero_add]; exact hu)
 have HE3 := Lib.hid (HE1.out.ext hE3)
 have Hb3 := Lib.hid hb3
 clear hb3 hE3 hl1
 obtain ⟨d, hd⟩ : ∃ d, w3.heap.size = d := ⟨_, rfl⟩
 have hbd : b < d := by rw [← hd]; exact (Array.getElem?_eq_some_iff.1 Hb3.out).1
 have hn3 : (w3.alloc (.cells (AAct.zero.cells (.slice none 0 0)).toArray 31)).heap[d]? = some (.cells (AAct.zero.cells (.slice none 0 0)).toArray 31 (0, 0)) := hd ▸ heap_new w3 _
 go_upto_region 4 with (first
  | (refine wpList_ld rfl 31 _ rfl (.pointer (some ⟨b, 0, none⟩)) _ rfl hl3 ?_)
  | (refine wpList_stR rfl 31 _ _ rfl 18 d 0 (a.cells (.slice A0 n0 c0)) rfl rfl str_act _ _ (a.cells (.slice A0 n0 c0)) hn3 rfl (by simp) (by simp [Value.oneCell']) rfl ?_; intro W4 ha4 hm4 hs4))
 have hX4 : Ext w3 W4 := Mod.toExt (((Mod.refl (Since w3.heap.size) w3).alloc _).trans hm4 (fun k hk e => by unfold Since; omega))
 have hb4 := hX4.blk Hb3.out id
 have q17 : W4.cell? ⟨b, 17, none⟩ = some (.slice A0 n0 c0) := blk_cell hb4 rfl
 have htw := k_twin W4 _ (.slice A0 n0 c0) a.bytes (HB.out.ext (HE3.out.ext hX4)) (by have := Hlt.out.bytes; omega)
 have HX4 := Lib.hid (HE3.out.ext hX4)
 have Hb4 := Lib.hid hb4
 have Ha4 := Lib.hid ha4
 have hdW : d < W4.heap.size := (Array.getElem?_eq_some_iff.1 ha4).1
 clear hX4 hb4 ha4 hm4 hs4 hn3 hl3
 go_wp2_with fail
 refine htw.mono ?_
 rintro e w5 ⟨v5, rfl, hN5, hE5⟩
 obtain ⟨A5, n5, c5, rfl⟩ : ∃ A n c, v5 = .slice A n c := by obtain ⟨A, c, e⟩ := Sl.form hN5.byt; exact ⟨A, _, c, e⟩
 have ha5 := hE5.blk Ha4.out id
 have p17 : w5.cell? ⟨d, 17, none⟩ = some (.slice A0 n0 c0) := blk_cell ha5 rfl
 have f17 : w5.frozen? ⟨d, 17, none⟩ = false := blk_free 17 ha5
 go_upto_region 5 with fail
 have hb6 := blk_set (u := (.slice A5 n5 c5)) ha5 17
 obtain ⟨W6, hW6⟩ : ∃ W6, w5.setCell ⟨d, 17, none⟩ (.slice A5 n5 c5) = W6 := ⟨_, rfl⟩
 have hM6 : Mod (fun g => g = d) w5 W6 := hW6 ▸ mod_same (Mod.refl _ w5) 17 (.slice A5 n5 c5)
 rw [hW6] at hb6 ⊢
 have ha6 : W6.heap[d]? = some (.cells (a.cells (.slice A5 n5 c5)).toArray 31 (0, 0)) := hb6
 have HE5 := Lib.hid (HX4.out.ext hE5)
 have HE6 : Hid (Ext w W6) := Lib.hid (Mod.toExt ((Ext.mod HE5.out (Since w.heap.size)).trans hM6 (fun k hk e => by unfold Since; omega)))
 have HBa : Hid (Byt W6 (fun g => g < W6.heap.size) (.slice A0 n0 c0) a.bytes) := Lib.hid ((HB.out.ext HE6.out).mono (fun g hg => Nat.lt_of_lt_of_le hg HE6.out.size))
 have HBv : Hid (Byt W6 (fun g => g < W6.heap.size) (.slice A5 n5 c5) a.bytes) := Lib.hid (by
  have h5 := hN5.byt
  refine (h5.mod hM6 (fun g hg e => by have := hN5.2 g hg; omega)).mono (fun g hg => Nat.lt_of_lt_of_le (own_lt hN5.1 hg) hM6.size))
 have Hb6 := Lib.hid ((hM6.blk (hE5.blk Hb4.out id) (fun e => by omega)))
 have Ha6 := Lib.hid ha6
 have hl6 : (Instr.loadAt 31 (.pointer (some ⟨d, 0, none⟩))).run Tryz.prog W6 = .ok (.agg (a.cells (.slice A5 n5 c5)).toArray) W6 := load_row str_act ha6 rfl (fun j u hu => by rw [Nat.zero_add]; exact hu)
 have hln := s_line a (.slice A5 n5 c5) W6 (Hg.out.ext HE6.out) Hlt.out HBv.out
 obtain ⟨res, hres⟩ : ∃ res, lineP a = res := ⟨_, rfl⟩
 rw [hres] at hln
 have Hres := Lib.hid hres
 clear hW6 hM6 ha6 hb6 ha5 p17 f17 hN5 hE5 htw q17 hres
 obtain ⟨z, hz⟩ : ∃ z : ByteArray, res.getD ⟨#[]⟩ = z := ⟨_, rfl⟩
 obtain ⟨y1, hy1⟩ : ∃ y1 : Int, lnCode res = y1 := ⟨_, rfl⟩
 rw [hz, hy1] at hln
 go_upto_region 6 with (first
  | (refine wpList_ld rfl 31 _ rfl (.pointer (some ⟨d, 0, none⟩)) _ rfl hl6 ?_)
  | (go_at_call 12; refine hln.mono ?_; rintro e w7 ⟨rfl, hE7⟩))
 have hb7 := hE7.blk Hb6.out id
 have hl7 : (Instr.loadAt 31 (.pointer (some ⟨b, 0, none⟩))).run Tryz.prog w7 = .ok (.agg (a.cells (.slice A0 n0 c0)).toArray) w7 := load_row str_act hb7 rfl (fun j u hu => by rw [Nat.zero_add]; exact hu)
 have hpl := r_line a (.slice A0 n0 c0) w7 (Hg.out.ext (HE6.out.ext hE7)) Hlt.out ((HBa.out.ext hE7).mono (fun g hg => Nat.lt_of_lt_of_le hg hE7.size))
 unfold LineOut at hpl
 rw [Hres.out, hz] at hpl
 have HE7 := Lib.hid hE7
 clear hE7 hb7 hl6 hln
 obtain ⟨y2, hy2⟩ : ∃ y2, res.isSome = y2 := ⟨_, rfl⟩
 rw [hy2] at hpl
 have Hy1 := Lib.hid hy1
 have Hy2 := Lib.hid hy2
 clear hy1 hy2
 go_upto_region 7 with (first
  | (refine wpList_ld rfl 31 _ rfl (.pointer (some ⟨b, 0, none⟩)) _ rfl hl7 ?_)
  | (go_at_call 13; refine hpl.mono ?_; rintro e w8 ⟨rfl, hE8⟩))
 have hE68 := HE7.out.ext hE8
 have u17 : w8.cell? ⟨b, 17, none⟩ = some (.slice A0 n0 c0) := blk_cell (hE68.blk Hb6.out id) rfl
 have t17 : w8.cell? ⟨d, 17, none⟩ = some (.slice A5 n5 c5) := blk_cell (hE68.blk Ha6.out id) rfl
 have hkb : Calls Tryz.prog 14 #[(.slice A5 n5 c5), (.slice A0 n0 c0)] w8 fun e w' => e = .returned (.bool true) ∧ Ext w8 w' := (k_bytes w8 _ _ (.slice A5 n5 c5) (.slice A0 n0 c0) a.bytes a.bytes (HBv.out.ext hE68) (HBa.out.ext hE68)).mono fun e w' h => ⟨by rw [h.1]; simp, h.2⟩
 have HE8 := Lib.hid (HE6.out.ext hE68)
 have hwk := fun W hE => l_wakes27 W (Hg.out.ext (HE8.out.ext hE))
 have Hwk := Lib.hid hwk
 clear hE68 hE8 hl7 hpl hwk hz
 rcases res with _ | _
 · obtain rfl : (16 : Int) = y1 := Hy1.out
   obtain rfl : false = y2 := Hy2.out
   go_wp2_with (first
     | (go_at_call 14; refine hkb.mono ?_; rintro e w9 ⟨rfl, hE9⟩)
     | (go_at_call 9; refine (Hwk.out _ hE9).mono ?_; rintro e wa ⟨rfl, hEa⟩))
   go_ret
   exact ⟨rfl, (HE8.out.ext hE9).ext hEa⟩
 obtain rfl : (0 : Int) = y1 := Hy1.out
 obtain rfl : true = y2 := Hy2.out
 go_wp2_with (first
   | (go_at_call 14; refine hkb.mono ?_; rintro e w9 ⟨rfl, hE9⟩)
   | (go_at_call 9; refine (Hwk.out _ hE9).mono ?_; rintro e wa ⟨rfl, hEa⟩))
 go_ret
 exact ⟨rfl, (HE8.out.ext hE9).ext hEa⟩
end Go.Proofs.YtmebipnljkopgaaGreatDoor
