/-
 Layer 27 (script): the program's own comparisons: value.Same, script.same. Conditions: as each theorem names them.
-/
import Derived.Test.YtmebipnljkopgaaGreatDoorScrEg
import Derived.Test.YtmebipnljkopgaaGreatDoorKvVal
import Derived.Test.YtmebipnljkopgaaGreatDoorScrTl
namespace Go.Proofs.YtmebipnljkopgaaGreatDoor
set_option linter.unusedSimpArgs false
set_option linter.unusedVariables false
open Go.RowKit
attribute [local irreducible] wpList
set_option maxRecDepth 100000 in
set_option maxHeartbeats 400000 in
theorem v_same (a b : AVal) (w : World) : Calls Tryz.prog 58 #[.agg #[.int .i64 a.kind, .float .f64 a.num, .string a.text], .agg #[.int .i64 b.kind, .float .f64 b.num, .string b.text]] w fun e w' => e = .returned (.bool (eqVal a b)) ∧ Ext w w' := by
 have hT : (a.text.toList == b.text.toList) = eqT a.text b.text := rfl
 have hE : Ext w ((w.alloc (.cells #[.int .i64 a.kind, .float .f64 a.num, .string a.text] 24)).alloc (.cells #[.int .i64 b.kind, .float .f64 b.num, .string b.text] 24)) := ((Mod.refl _ w).alloc _).alloc _
 unfold eqVal
 rw [← sameNum_sameF]
 rcases h1 : (a.kind == b.kind) with _ | _
 · go_enter Tryz.func58, Tryz.ntmps58
   go_wp2
   go_ret
   exact ⟨rfl, hE⟩
 · rcases h2 : sameNum a.num b.num with _ | _
   all_goals
     go_enter Tryz.func58, Tryz.ntmps58
     go_wp2_with (go_at_call 86; refine (nsame _ _ _).mono ?_; rintro e w' ⟨rfl, rfl⟩)
     go_ret
     exact ⟨rfl, hE⟩
theorem c_bytesEq (w : World) (T U : Nat → Prop) (va vb : Value) (xs ys : List UInt8) (ha : Byt w T va xs) (hb : Byt w U vb ys) :
  Calls Tryz.prog 59 #[va, vb] w fun e w' => e = .returned (.bool (xs == ys)) ∧ w = w' := by
 refine (Tryz.bytes_Equal_strs va vb _ _ w (conv_bs ha) (conv_bs hb)).mono fun e w' h => ⟨?_, h.2.symm⟩
 rw [h.1]
 congr 2
 rw [ByteArray.toList_eq, ByteArray.toList_eq]
theorem bne_conf (a b : AConf) : eqConf a b = (a.full == b.full && a.wit == b.wit && a.learn == b.learn && a.learnWit == b.learnWit) := rfl
set_option maxRecDepth 100000 in
set_option maxHeartbeats 4000000 in
theorem c_same (a b : AAct) (w : World) (T U : Nat → Prop) (va vb : Value) (ha : Byt w T va a.bytes) (hb : Byt w U vb b.bytes) :
  Calls Tryz.prog 35 #[.agg (a.cells va).toArray, .agg (b.cells vb).toArray] w fun e w' => e = .returned (.bool (eqAct a b)) ∧ Ext w w' := by
 obtain ⟨bb, hbb⟩ : ∃ b, w.heap.size = b := ⟨_, rfl⟩
 obtain ⟨A, c, rfl⟩ := Sl.form ha
 obtain ⟨A', c', rfl⟩ := Sl.form hb
 have hv1 := v_same a.cmd.old b.cmd.old
 have hv2 := v_same a.cmd.val b.cmd.val
 have Hky : Hid (∀ W, Ext w W → Calls Tryz.prog 59 #[.slice A a.bytes.length c, .slice A' b.bytes.length c'] W fun e w' => e = .returned (.bool (a.bytes == b.bytes)) ∧ W = w') := Lib.hid (fun W hE => c_bytesEq W T U _ _ a.bytes b.bytes (ha.ext hE) (hb.ext hE))
 obtain ⟨yb, hyb⟩ : ∃ yb, (a.bytes == b.bytes) = yb := ⟨_, rfl⟩
 obtain ⟨n, hn⟩ : ∃ n, a.bytes.length = n := ⟨_, rfl⟩
 obtain ⟨n', hn'⟩ : ∃ n, b.bytes.length = n := ⟨_, rfl⟩
 rw [hyb, hn, hn'] at Hky
 rw [hn, hn']
 have Hyb := Lib.hid hyb
 clear ha hb hyb hn hn'
 go_enter Tryz.func35, Tryz.ntmps35
 go_upto_region 1 with fail
 obtain ⟨W2, hW2⟩ : ∃ W2, (w.alloc (.cells (a.cells (.slice A n c)).toArray 31)).alloc (.cells (b.cells (.slice A' n' c')).toArray 31) = W2 := ⟨_, rfl⟩
 have hE2 : Ext w W2 := hW2 ▸ (((Mod.refl _ w).alloc _).alloc _)
 have hA : W2.heap[bb]? = some (.cells (a.cells (.slice A n c)).toArray 31 (0, 0)) := hbb ▸ hW2 ▸ heap_new2 _ _ _
 have hB : W2.heap[bb + 1]? = some (.cells (b.cells (.slice A' n' c')).toArray 31 (0, 0)) := by
  have h := heap_new (w.alloc (.cells (a.cells (.slice A n c)).toArray 31)) (.cells (b.cells (.slice A' n' c')).toArray 31)
  rw [hW2] at h
  rw [← show (w.alloc (.cells (a.cells (.slice A n c)).toArray 31)).heap.size = bb + 1 by simp [hbb]]
  exact h
 rw [hW2]
 clear hW2
 have p0 : W2.cell? ⟨bb, 0, none⟩ = some (.int .i64 a.kind) := blk_cell hA rfl
 have r0 : W2.cell? ⟨bb + 1, 0, none⟩ = some (.int .i64 b.kind) := blk_cell hB rfl
 have p1 : W2.cell? ⟨bb, 1, none⟩ = some (.int .i64 a.node) := blk_cell hA rfl
 have r1 : W2.cell? ⟨bb + 1, 1, none⟩ = some (.int .i64 b.node) := blk_cell hB rfl
 have p2 : W2.cell? ⟨bb, 2, none⟩ = some (.int .i64 a.client) := blk_cell hA rfl
 have r2 : W2.cell? ⟨bb + 1, 2, none⟩ = some (.int .i64 b.client) := blk_cell hB rfl
 have p3 : W2.cell? ⟨bb, 3, none⟩ = some (.int .i64 a.n) := blk_cell hA rfl
 have r3 : W2.cell? ⟨bb + 1, 3, none⟩ = some (.int .i64 b.n) := blk_cell hB rfl
 have p4 : W2.cell? ⟨bb, 4, none⟩ = some (.int .i64 a.m) := blk_cell hA rfl
 have r4 : W2.cell? ⟨bb + 1, 4, none⟩ = some (.int .i64 b.m) := blk_cell hB rfl
 have p5 : W2.cell? ⟨bb, 5, none⟩ = some (.int .i64 a.cmd.kind) := blk_cell hA rfl
 have r5 : W2.cell? ⟨bb + 1, 5, none⟩ = some (.int .i64 b.cmd.kind) := blk_cell hB rfl
 have p6 : W2.cell? ⟨bb, 6, none⟩ = some (.string a.cmd.key) := blk_cell hA rfl
 have r6 : W2.cell? ⟨bb + 1, 6, none⟩ = some (.string b.cmd.key) := blk_cell hB rfl
 have hl1 : (Instr.loadAt 24 (.pointer (some ⟨bb, 7, none⟩))).run Tryz.prog W2 = .ok (.agg #[.int .i64 a.cmd.old.kind, .float .f64 a.cmd.old.num, .string a.cmd.old.text]) W2 := load_row (o := 7) (cs := [.int .i64 a.cmd.old.kind, .float .f64 a.cmd.old.num, .string a.cmd.old.text]) str_val hA rfl (fun j u hu => by rcases j with _ | _ | _ | j <;> first | exact hu | cases hu)
 have hl2 : (Instr.loadAt 24 (.pointer (some ⟨bb + 1, 7, none⟩))).run Tryz.prog W2 = .ok (.agg #[.int .i64 b.cmd.old.kind, .float .f64 b.cmd.old.num, .string b.cmd.old.text]) W2 := load_row (o := 7) (cs := [.int .i64 b.cmd.old.kind, .float .f64 b.cmd.old.num, .string b.cmd.old.text]) str_val hB rfl (fun j u hu => by rcases j with _ | _ | _ | j <;> first | exact hu | cases hu)
 have HA := Lib.hid hA
 have HB := Lib.hid hB
 have HE2 := Lib.hid hE2
 clear hA hB hE2
 obtain ⟨y6, h6⟩ : ∃ y, (a.cmd.key.toList == b.cmd.key.toList) = y := ⟨_, rfl⟩
 have H6 : Hid (eqT a.cmd.key b.cmd.key = y6) := Lib.hid h6
 obtain ⟨y0, h0⟩ : ∃ y, (a.kind == b.kind) = y := ⟨_, rfl⟩
 have H0 := Lib.hid h0
 obtain ⟨y1, h1⟩ : ∃ y, (a.node == b.node) = y := ⟨_, rfl⟩
 have H1 := Lib.hid h1
 obtain ⟨y2, h2⟩ : ∃ y, (a.client == b.client) = y := ⟨_, rfl⟩
 have H2 := Lib.hid h2
 obtain ⟨y3, h3⟩ : ∃ y, (a.n == b.n) = y := ⟨_, rfl⟩
 have H3 := Lib.hid h3
 obtain ⟨y4, h4⟩ : ∃ y, (a.m == b.m) = y := ⟨_, rfl⟩
 have H4 := Lib.hid h4
 obtain ⟨y5, h5⟩ : ∃ y, (a.cmd.kind == b.cmd.kind) = y := ⟨_, rfl⟩
 have H5 := Lib.hid h5
 go_upto_region 99 with (refine wpList_stop 10 y0 rfl ?_)
 refine stop_go ?_
 rcases y0 with _ | _
 · refine wpList_tail 88 10 false 4 false (by kernel_rfl) rfl rfl ?_
   intro a' hr hd
   go_wp2_with fail
   refine bodyPost_ret (results_tmp rfl _ _ _) hd ?_
   rw [getD_some hr]
   exact ⟨ret_bool (by simp [eqAct, eqCmd, eqConf, H0.out]), HE2.out⟩
 clear h0
 go_upto_region 99 with (refine wpList_stop 17 y1 rfl ?_)
 refine stop_go ?_
 rcases y1 with _ | _
 · refine wpList_tail 88 17 false 4 false (by kernel_rfl) rfl rfl ?_
   intro a' hr hd
   go_wp2_with fail
   refine bodyPost_ret (results_tmp rfl _ _ _) hd ?_
   rw [getD_some hr]
   exact ⟨ret_bool (by simp [eqAct, eqCmd, eqConf, H1.out]), HE2.out⟩
 clear h1
 go_upto_region 99 with (refine wpList_stop 24 y2 rfl ?_)
 refine stop_go ?_
 rcases y2 with _ | _
 · refine wpList_tail 88 24 false 4 false (by kernel_rfl) rfl rfl ?_
   intro a' hr hd
   go_wp2_with fail
   refine bodyPost_ret (results_tmp rfl _ _ _) hd ?_
   rw [getD_some hr]
   exact ⟨ret_bool (by simp [eqAct, eqCmd, eqConf, H2.out]), HE2.out⟩
 clear h2
 go_upto_region 99 with (refine wpList_stop 31 y3 rfl ?_)
 refine stop_go ?_
 rcases y3 with _ | _
 · refine wpList_tail 88 31 false 4 false (by kernel_rfl) rfl rfl ?_
   intro a' hr hd
   go_wp2_with fail
   refine bodyPost_ret (results_tmp rfl _ _ _) hd ?_
   rw [getD_some hr]
   exact ⟨ret_bool (by simp [eqAct, eqCmd, eqConf, H3.out]), HE2.out⟩
 clear h3
 go_upto_region 99 with (refine wpList_stop 38 y4 rfl ?_)
 refine stop_go ?_
 rcases y4 with _ | _
 · refine wpList_tail 88 38 false 4 false (by kernel_rfl) rfl rfl ?_
   intro a' hr hd
   go_wp2_with fail
   refine bodyPost_ret (results_tmp rfl _ _ _) hd ?_
   rw [getD_some hr]
   exact ⟨ret_bool (by simp [eqAct, eqCmd, eqConf, H4.out]), HE2.out⟩
 clear h4
 go_upto_region 99 with (refine wpList_stop 47 y5 rfl ?_)
 refine stop_go ?_
 rcases y5 with _ | _
 · refine wpList_tail 88 47 false 4 false (by kernel_rfl) rfl rfl ?_
   intro a' hr hd
   go_wp2_with fail
   refine bodyPost_ret (results_tmp rfl _ _ _) hd ?_
   rw [getD_some hr]
   exact ⟨ret_bool (by simp [eqAct, eqCmd, eqConf, H5.out]), HE2.out⟩
 clear h5
 go_upto_region 99 with (refine wpList_stop 56 y6 rfl ?_)
 refine stop_go ?_
 rcases y6 with _ | _
 · refine wpList_tail 88 56 false 4 false (by kernel_rfl) rfl rfl ?_
   intro a' hr hd
   go_wp2_with fail
   refine bodyPost_ret (results_tmp rfl _ _ _) hd ?_
   rw [getD_some hr]
   exact ⟨ret_bool (by simp [eqAct, eqCmd, eqConf, H6.out]), HE2.out⟩
 clear h6
 obtain ⟨y7, h7⟩ : ∃ y, eqVal a.cmd.old b.cmd.old = y := ⟨_, rfl⟩
 rw [h7] at hv1
 have H7 := Lib.hid h7
 obtain ⟨y8, h8⟩ : ∃ y, eqVal a.cmd.val b.cmd.val = y := ⟨_, rfl⟩
 rw [h8] at hv2
 have H8 := Lib.hid h8
 clear h7 h8
 have Hv2 := Lib.hid hv2
 clear hv2
 go_upto_region 99 with (first
  | (refine wpList_ldW (by kernel_rfl) 24 _ rfl (.pointer (some ⟨bb, 7, none⟩)) _ rfl hl1 ?_)
  | (refine wpList_ldW (by kernel_rfl) 24 _ rfl (.pointer (some ⟨bb + 1, 7, none⟩)) _ rfl hl2 ?_)
  | (go_at_call 58; refine (hv1 _).mono ?_; rintro e w3 ⟨rfl, hE3⟩)
  | (refine wpList_stop 65 y7 rfl ?_))
 refine stop_go ?_
 have HE3 := Lib.hid (HE2.out.ext hE3)
 have hA3 := hE3.blk HA.out id
 have hB3 := hE3.blk HB.out id
 clear hE3 hl1 hl2
 rcases y7 with _ | _
 · refine wpList_tail 88 65 false 4 false (by kernel_rfl) rfl rfl ?_
   intro a' hr hd
   go_wp2_with fail
   refine bodyPost_ret (results_tmp rfl _ _ _) hd ?_
   rw [getD_some hr]
   exact ⟨ret_bool (by simp [eqAct, eqCmd, eqConf, H7.out]), HE3.out⟩
 have hl3 : (Instr.loadAt 24 (.pointer (some ⟨bb, 10, none⟩))).run Tryz.prog w3 = .ok (.agg #[.int .i64 a.cmd.val.kind, .float .f64 a.cmd.val.num, .string a.cmd.val.text]) w3 := load_row (o := 10) (cs := [.int .i64 a.cmd.val.kind, .float .f64 a.cmd.val.num, .string a.cmd.val.text]) str_val hA3 rfl (fun j u hu => by rcases j with _ | _ | _ | j <;> first | exact hu | cases hu)
 have hl4 : (Instr.loadAt 24 (.pointer (some ⟨bb + 1, 10, none⟩))).run Tryz.prog w3 = .ok (.agg #[.int .i64 b.cmd.val.kind, .float .f64 b.cmd.val.num, .string b.cmd.val.text]) w3 := load_row (o := 10) (cs := [.int .i64 b.cmd.val.kind, .float .f64 b.cmd.val.num, .string b.cmd.val.text]) str_val hB3 rfl (fun j u hu => by rcases j with _ | _ | _ | j <;> first | exact hu | cases hu)
 have HA3 := Lib.hid hA3
 have HB3 := Lib.hid hB3
 clear hA3 hB3 hv1
 go_upto_region 99 with (first
  | (refine wpList_ldW (by kernel_rfl) 24 _ rfl (.pointer (some ⟨bb, 10, none⟩)) _ rfl hl3 ?_)
  | (refine wpList_ldW (by kernel_rfl) 24 _ rfl (.pointer (some ⟨bb + 1, 10, none⟩)) _ rfl hl4 ?_)
  | (go_at_call 58; refine (Hv2.out _).mono ?_; rintro e w4 ⟨rfl, hE4⟩)
  | (refine wpList_stop 74 y8 rfl ?_))
 refine stop_go ?_
 have HE4 := Lib.hid (HE3.out.ext hE4)
 have hA4 := hE4.blk HA3.out id
 have hB4 := hE4.blk HB3.out id
 clear hE4 hl3 hl4
 rcases y8 with _ | _
 · refine wpList_tail 88 74 false 4 false (by kernel_rfl) rfl rfl ?_
   intro a' hr hd
   go_wp2_with fail
   refine bodyPost_ret (results_tmp rfl _ _ _) hd ?_
   rw [getD_some hr]
   exact ⟨ret_bool (by simp [eqAct, eqCmd, eqConf, H8.out]), HE4.out⟩
 have hl5 : (Instr.loadAt 28 (.pointer (some ⟨bb, 13, none⟩))).run Tryz.prog w4 = .ok (.agg #[.int .i64 a.conf.full, .int .i64 a.conf.wit, .int .i64 a.conf.learn, .int .i64 a.conf.learnWit]) w4 := load_row (o := 13) (cs := [.int .i64 a.conf.full, .int .i64 a.conf.wit, .int .i64 a.conf.learn, .int .i64 a.conf.learnWit]) str_conf hA4 rfl (fun j u hu => by rcases j with _ | _ | _ | _ | j <;> first | exact hu | cases hu)
 have hl6 : (Instr.loadAt 28 (.pointer (some ⟨bb + 1, 13, none⟩))).run Tryz.prog w4 = .ok (.agg #[.int .i64 b.conf.full, .int .i64 b.conf.wit, .int .i64 b.conf.learn, .int .i64 b.conf.learnWit]) w4 := load_row (o := 13) (cs := [.int .i64 b.conf.full, .int .i64 b.conf.wit, .int .i64 b.conf.learn, .int .i64 b.conf.learnWit]) str_conf hB4 rfl (fun j u hu => by rcases j with _ | _ | _ | _ | j <;> first | exact hu | cases hu)
 have k0 : w4.cell? ⟨bb, 17, none⟩ = some (.slice A n c) := blk_cell hA4 rfl
 have k1 : w4.cell? ⟨bb + 1, 17, none⟩ = some (.slice A' n' c') := blk_cell hB4 rfl
 have hky := Hky.out w4 HE4.out
 clear hA4 hB4
 go_wp2_with (first
  | (refine wpList_ldW (by kernel_rfl) 28 _ rfl (.pointer (some ⟨bb, 13, none⟩)) _ rfl hl5 ?_)
  | (refine wpList_ldW (by kernel_rfl) 28 _ rfl (.pointer (some ⟨bb + 1, 13, none⟩)) _ rfl hl6 ?_))
 all_goals clear hl5 hl6 k0 k1
 · refine hky.mono ?_
   rintro e w5 ⟨rfl, rfl⟩
   clear hky
   go_wp2
   go_ret
   exact ⟨ret_bool (by simp_all [eqAct, eqCmd, eqConf, H0.out, H1.out, H2.out, H3.out, H4.out, H5.out, H6.out, H7.out, H8.out, Hyb.out]), HE4.out⟩
 all_goals
  go_ret
  exact ⟨ret_bool (by simp_all [eqAct, eqCmd, eqConf]), HE4.out⟩
end Go.Proofs.YtmebipnljkopgaaGreatDoor
