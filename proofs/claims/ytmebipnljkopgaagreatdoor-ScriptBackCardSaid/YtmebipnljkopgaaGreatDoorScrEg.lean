/-
 Layer 27 (script): two acts compared: skerrykeep.Act, and the program's same. Conditions: as each theorem names them.
-/
import Derived.Test.YtmebipnljkopgaaGreatDoorScrE
import Derived.Test.YtmebipnljkopgaaGreatDoorScrLp
namespace Go.Proofs.YtmebipnljkopgaaGreatDoor
set_option linter.unusedSimpArgs false
set_option linter.unusedVariables false
open Go.RowKit
set_option maxRecDepth 100000 in
set_option maxHeartbeats 4000000 in
theorem k_actG (a b : AAct) (w : World) (T U : Nat → Prop) (va vb : Value) (ha : Byt w T va a.bytes) (hb : Byt w U vb b.bytes) :
  Calls Tryz.prog 8 #[.agg (a.cells va).toArray, .agg (b.cells vb).toArray] w fun e w' => e = .returned (.bool (eqAct a b)) ∧ Ext w w' := by
 obtain ⟨bb, hbb⟩ : ∃ b, w.heap.size = b := ⟨_, rfl⟩
 obtain ⟨A, c, rfl⟩ := Sl.form ha
 obtain ⟨A', c', rfl⟩ := Sl.form hb
 have hkc := k_cmd a.cmd b.cmd
 have hkf := k_conf a.conf b.conf
 have Hky : Hid (∀ W, Ext w W → Calls Tryz.prog 14 #[.slice A a.bytes.length c, .slice A' b.bytes.length c'] W fun e w' => e = .returned (.bool (a.bytes == b.bytes)) ∧ Ext W w') := Lib.hid (fun W hE => k_bytes W T U _ _ a.bytes b.bytes (ha.ext hE) (hb.ext hE))
 obtain ⟨yb, hyb⟩ : ∃ yb, (a.bytes == b.bytes) = yb := ⟨_, rfl⟩
 obtain ⟨n, hn⟩ : ∃ n, a.bytes.length = n := ⟨_, rfl⟩
 obtain ⟨n', hn'⟩ : ∃ n, b.bytes.length = n := ⟨_, rfl⟩
 rw [hyb, hn, hn'] at Hky
 rw [hn, hn']
 have Hyb := Lib.hid hyb
 clear ha hb hyb hn hn'
 go_enter Tryz.func8, Tryz.ntmps8
 go_upto_region 1 with fail
 obtain ⟨W2, hW2⟩ : ∃ W2, (w.alloc (.cells (a.cells (.slice A n c)).toArray 31)).alloc (.cells (b.cells (.slice A' n' c')).toArray 31) = W2 := ⟨_, rfl⟩
 have hE2 : Ext w W2 := hW2 ▸ (((Mod.refl _ w).alloc _).alloc _)
 have hA : W2.heap[bb]? = some (.cells (a.cells (.slice A n c)).toArray 31 (0, 0)) := hbb ▸ hW2 ▸ heap_new2 _ _ _
 have hB : W2.heap[bb + 1]? = some (.cells (b.cells (.slice A' n' c')).toArray 31 (0, 0)) := by
  have h := heap_new (w.alloc (.cells (a.cells (.slice A n c)).toArray 31)) (.cells (b.cells (.slice A' n' c')).toArray 31)
  rw [hW2] at h
  rw [← show (w.alloc (.cells (a.cells (.slice A n c)).toArray 31)).heap.size = bb + 1 by simp [hbb]]
  exact h
 rw [hW2]
 clear hW2
 have p0 : W2.cell? ⟨bb, 0, none⟩ = some (.int .i64 a.kind) := blk_cell hA rfl
 have r0 : W2.cell? ⟨bb + 1, 0, none⟩ = some (.int .i64 b.kind) := blk_cell hB rfl
 have p1 : W2.cell? ⟨bb, 1, none⟩ = some (.int .i64 a.node) := blk_cell hA rfl
 have r1 : W2.cell? ⟨bb + 1, 1, none⟩ = some (.int .i64 b.node) := blk_cell hB rfl
 have p2 : W2.cell? ⟨bb, 2, none⟩ = some (.int .i64 a.client) := blk_cell hA rfl
 have r2 : W2.cell? ⟨bb + 1, 2, none⟩ = some (.int .i64 b.client) := blk_cell hB rfl
 have p3 : W2.cell? ⟨bb, 3, none⟩ = some (.int .i64 a.n) := blk_cell hA rfl
 have r3 : W2.cell? ⟨bb + 1, 3, none⟩ = some (.int .i64 b.n) := blk_cell hB rfl
 have p4 : W2.cell? ⟨bb, 4, none⟩ = some (.int .i64 a.m) := blk_cell hA rfl
 have r4 : W2.cell? ⟨bb + 1, 4, none⟩ = some (.int .i64 b.m) := blk_cell hB rfl
 have hl1 : (Instr.loadAt 26 (.pointer (some ⟨bb, 5, none⟩))).run Tryz.prog W2 = .ok (.agg #[.int .i64 a.cmd.kind, .string a.cmd.key, .int .i64 a.cmd.old.kind, .float .f64 a.cmd.old.num, .string a.cmd.old.text, .int .i64 a.cmd.val.kind, .float .f64 a.cmd.val.num, .string a.cmd.val.text]) W2 := load_row (cs := [.int .i64 a.cmd.kind, .string a.cmd.key, .int .i64 a.cmd.old.kind, .float .f64 a.cmd.old.num, .string a.cmd.old.text, .int .i64 a.cmd.val.kind, .float .f64 a.cmd.val.num, .string a.cmd.val.text]) str_cmd hA rfl (fun j u hu => by rcases j with _ | _ | _ | _ | _ | _ | _ | _ | j <;> first | exact hu | cases hu)
 have hl2 : (Instr.loadAt 26 (.pointer (some ⟨bb + 1, 5, none⟩))).run Tryz.prog W2 = .ok (.agg #[.int .i64 b.cmd.kind, .string b.cmd.key, .int .i64 b.cmd.old.kind, .float .f64 b.cmd.old.num, .string b.cmd.old.text, .int .i64 b.cmd.val.kind, .float .f64 b.cmd.val.num, .string b.cmd.val.text]) W2 := load_row (cs := [.int .i64 b.cmd.kind, .string b.cmd.key, .int .i64 b.cmd.old.kind, .float .f64 b.cmd.old.num, .string b.cmd.old.text, .int .i64 b.cmd.val.kind, .float .f64 b.cmd.val.num, .string b.cmd.val.text]) str_cmd hB rfl (fun j u hu => by rcases j with _ | _ | _ | _ | _ | _ | _ | _ | j <;> first | exact hu | cases hu)
 have HA := Lib.hid hA
 have HB := Lib.hid hB
 have HE2 := Lib.hid hE2
 clear hA hB hE2
 rcases h0 : (a.kind == b.kind) with _ | _
 · go_wp2
   go_ret
   exact ⟨ret_bool (by simp [eqAct, h0]), HE2.out⟩
 rcases h1 : (a.node == b.node) with _ | _
 · go_wp2
   go_ret
   exact ⟨ret_bool (by simp [eqAct, h1]), HE2.out⟩
 rcases h2 : (a.client == b.client) with _ | _
 · go_wp2
   go_ret
   exact ⟨ret_bool (by simp [eqAct, h2]), HE2.out⟩
 rcases h3 : (a.n == b.n) with _ | _
 · go_wp2
   go_ret
   exact ⟨ret_bool (by simp [eqAct, h3]), HE2.out⟩
 rcases h4 : (a.m == b.m) with _ | _
 · go_wp2
   go_ret
   exact ⟨ret_bool (by simp [eqAct, h4]), HE2.out⟩
 go_wp2_with (first | (refine wpList_ldW (by kernel_rfl) 26 _ rfl (.pointer (some ⟨bb, 5, none⟩)) _ rfl hl1 ?_) | (refine wpList_ldW (by kernel_rfl) 26 _ rfl (.pointer (some ⟨bb + 1, 5, none⟩)) _ rfl hl2 ?_))
 refine (hkc W2).mono ?_
 rintro e w3 ⟨rfl, hE3⟩
 have hA := hE3.blk HA.out id
 have hB := hE3.blk HB.out id
 have hl3 : (Instr.loadAt 28 (.pointer (some ⟨bb, 13, none⟩))).run Tryz.prog w3 = .ok (.agg #[.int .i64 a.conf.full, .int .i64 a.conf.wit, .int .i64 a.conf.learn, .int .i64 a.conf.learnWit]) w3 := load_row (cs := [.int .i64 a.conf.full, .int .i64 a.conf.wit, .int .i64 a.conf.learn, .int .i64 a.conf.learnWit]) str_conf hA rfl (fun j u hu => by rcases j with _ | _ | _ | _ | j <;> first | exact hu | cases hu)
 have hl4 : (Instr.loadAt 28 (.pointer (some ⟨bb + 1, 13, none⟩))).run Tryz.prog w3 = .ok (.agg #[.int .i64 b.conf.full, .int .i64 b.conf.wit, .int .i64 b.conf.learn, .int .i64 b.conf.learnWit]) w3 := load_row (cs := [.int .i64 b.conf.full, .int .i64 b.conf.wit, .int .i64 b.conf.learn, .int .i64 b.conf.learnWit]) str_conf hB rfl (fun j u hu => by rcases j with _ | _ | _ | _ | j <;> first | exact hu | cases hu)
 have HA3 := Lib.hid hA
 have HB3 := Lib.hid hB
 have HE3 := Lib.hid (HE2.out.ext hE3)
 clear hA hB hE3 hl1 hl2 p0 r0 p1 r1 p2 r2 p3 r3 p4 r4 hkc
 rcases h5 : eqCmd a.cmd b.cmd with _ | _
 · go_wp2
   go_ret
   exact ⟨ret_bool (by simp [eqAct, h5]), HE3.out⟩
 go_wp2_with (first | (refine wpList_ldW (by kernel_rfl) 28 _ rfl (.pointer (some ⟨bb, 13, none⟩)) _ rfl hl3 ?_) | (refine wpList_ldW (by kernel_rfl) 28 _ rfl (.pointer (some ⟨bb + 1, 13, none⟩)) _ rfl hl4 ?_))
 refine (hkf w3).mono ?_
 rintro e w4 ⟨rfl, hE4⟩
 have k0 : w4.cell? ⟨bb, 17, none⟩ = some (.slice A n c) := blk_cell (hE4.blk HA3.out id) rfl
 have k1 : w4.cell? ⟨bb + 1, 17, none⟩ = some (.slice A' n' c') := blk_cell (hE4.blk HB3.out id) rfl
 have hi := Hky.out w4 (HE3.out.ext hE4)
 have HE4 := Lib.hid (HE3.out.ext hE4)
 clear hE4 hl3 hl4 hkf
 rcases h6 : eqConf a.conf b.conf with _ | _
 · go_wp2
   go_ret
   exact ⟨ret_bool (by simp [eqAct, h6]), HE4.out⟩
 go_wp2_with fail
 refine hi.mono ?_
 rintro e w5 ⟨rfl, hE5⟩
 have HE5 := Lib.hid (HE4.out.ext hE5)
 clear hE5 hi
 go_wp2
 go_ret
 exact ⟨ret_bool (by simp [eqAct, h0, h1, h2, h3, h4, h5, h6, Hyb.out]), HE5.out⟩
end Go.Proofs.YtmebipnljkopgaaGreatDoor
