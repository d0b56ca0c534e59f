/-
 Layer 27 (script): the verifier's comparisons (skerrykeep): bytes, commands, configurations, acts. Conditions: as each theorem names them.
-/
import Derived.Test.YtmebipnljkopgaaGreatDoorScrD
import Derived.Test.YtmebipnljkopgaaGreatDoorCopyW
namespace Go.Proofs.YtmebipnljkopgaaGreatDoor
set_option linter.unusedSimpArgs false
set_option linter.unusedVariables false
open Go.RowKit
attribute [local go_sem] call_frombits call_bits
theorem Byt.len {w : World} {T : Nat → Prop} {v : Value} {bs : List UInt8} (h : Byt w T v bs) : bs.length ≤ 9223372036854775807 := by have := Sl.le h; unfold maxLen at this; omega

def SameB (w : World) (xs bs : List UInt8) (e : Ending) (w' : World) : Prop := e = .returned (.bool (xs == bs)) ∧ Ext w w'
theorem cellB {w : World} {T : Nat → Prop} {A : Option Addr} {n c : Nat} {l : List UInt8} (hs : Sl w T 1 (.slice A n c) n (l.map B)) {i : Nat} (hi : i < n) :
    ∃ g off x, A = some ⟨g, off, none⟩ ∧ l[i]? = some x ∧ w.cell? ⟨g, off + i, none⟩ = some (.int .u8 (x.toNat : Int)) := by
  obtain ⟨hl, A', c', e, hn, hc, hx⟩ := hs
  injection e with e1 _ e3; subst e1; subst e3
  obtain ⟨g, off, rfl, hT, hcell⟩ := hx (by omega)
  have hli : i < l.length := by simp at hl; omega
  exact ⟨g, off, l[i], rfl, List.getElem?_eq_getElem hli, hcell i _ (by simp [List.getElem?_eq_getElem hli, B])⟩

theorem Sl.form {w : World} {T : Nat → Prop} {k n : Nat} {v : Value} {xs : List Value} (h : Sl w T k v n xs) : ∃ A c, v = .slice A n c := by
  obtain ⟨_, A, c, rfl, _⟩ := h; exact ⟨A, c, rfl⟩

set_option maxRecDepth 100000 in
set_option maxHeartbeats 4000000 in
theorem k_cmd (a b : ACmd) (w : World) : Calls Tryz.prog 27 #[.agg #[.int .i64 a.kind, .string a.key, .int .i64 a.old.kind, .float .f64 a.old.num, .string a.old.text, .int .i64 a.val.kind, .float .f64 a.val.num, .string a.val.text], .agg #[.int .i64 b.kind, .string b.key, .int .i64 b.old.kind, .float .f64 b.old.num, .string b.old.text, .int .i64 b.val.kind, .float .f64 b.val.num, .string b.val.text]] w fun e w' => e = .returned (.bool (eqCmd a b)) ∧ Ext w w' := by
  have hE : Ext w ((w.alloc (.cells #[.int .i64 a.kind, .string a.key, .int .i64 a.old.kind, .float .f64 a.old.num, .string a.old.text, .int .i64 a.val.kind, .float .f64 a.val.num, .string a.val.text] 26)).alloc (.cells #[.int .i64 b.kind, .string b.key, .int .i64 b.old.kind, .float .f64 b.old.num, .string b.old.text, .int .i64 b.val.kind, .float .f64 b.val.num, .string b.val.text] 26)) := ((Mod.refl _ w).alloc _).alloc _
  have hT : (a.key.toList == b.key.toList) = eqT a.key b.key := rfl
  rcases h0 : (a.kind == b.kind) with _ | _
  · go_enter Tryz.func27, Tryz.ntmps27
    go_wp2
    go_ret
    exact ⟨ret_bool (by simp [eqCmd, h0]), hE⟩
  rcases h1 : eqT a.key b.key with _ | _
  · go_enter Tryz.func27, Tryz.ntmps27
    go_wp2
    go_ret
    exact ⟨ret_bool (by simp [eqCmd, h1]), hE⟩
  go_enter Tryz.func27, Tryz.ntmps27
  go_wp2_with fail
  refine (k_value a.old b.old _).mono ?_
  rintro e w0 ⟨rfl, hE0⟩
  have hF0 : Ext w w0 := Mod.ext hE hE0
  have HF0 := Lib.hid hF0
  have ca5 := hE0.cell (p := ⟨w.heap.size, 5, none⟩) (v := .int .i64 a.val.kind) (by simp) id
  have ca6 := hE0.cell (p := ⟨w.heap.size, 6, none⟩) (v := .float .f64 a.val.num) (by simp) id
  have ca7 := hE0.cell (p := ⟨w.heap.size, 7, none⟩) (v := .string a.val.text) (by simp) id
  have cb5 := hE0.cell (p := ⟨w.heap.size + 1, 5, none⟩) (v := .int .i64 b.val.kind) (by simp) id
  have cb6 := hE0.cell (p := ⟨w.heap.size + 1, 6, none⟩) (v := .float .f64 b.val.num) (by simp) id
  have cb7 := hE0.cell (p := ⟨w.heap.size + 1, 7, none⟩) (v := .string b.val.text) (by simp) id
  clear hF0 hE0
  rcases g0 : eqVal a.old b.old with _ | _
  · go_wp2
    go_ret
    exact ⟨ret_bool (by simp [eqCmd, g0]), HF0.out⟩
  go_wp2_with fail
  refine (k_value a.val b.val _).mono ?_
  rintro e w1 ⟨rfl, hE1⟩
  have hF1 : Ext w w1 := Mod.ext HF0.out hE1
  have HF1 := Lib.hid hF1
  clear hF1 hE1
  go_wp2
  go_ret
  exact ⟨ret_bool (by simp [eqCmd, h0, h1, g0]), HF1.out⟩

set_option maxRecDepth 100000 in
set_option maxHeartbeats 1000000 in
theorem k_conf (a b : AConf) (w : World) : Calls Tryz.prog 28 #[.agg #[.int .i64 a.full, .int .i64 a.wit, .int .i64 a.learn, .int .i64 a.learnWit], .agg #[.int .i64 b.full, .int .i64 b.wit, .int .i64 b.learn, .int .i64 b.learnWit]] w fun e w' => e = .returned (.bool (eqConf a b)) ∧ Ext w w' := by
  have hE : Ext w ((w.alloc (.cells #[.int .i64 a.full, .int .i64 a.wit, .int .i64 a.learn, .int .i64 a.learnWit] 28)).alloc (.cells #[.int .i64 b.full, .int .i64 b.wit, .int .i64 b.learn, .int .i64 b.learnWit] 28)) := ((Mod.refl _ w).alloc _).alloc _
  rcases h0 : (a.full == b.full) with _ | _
  · go_enter Tryz.func28, Tryz.ntmps28
    go_wp2
    go_ret
    exact ⟨ret_bool (by simp [eqConf, h0]), hE⟩
  rcases h1 : (a.wit == b.wit) with _ | _
  · go_enter Tryz.func28, Tryz.ntmps28
    go_wp2
    go_ret
    exact ⟨ret_bool (by simp [eqConf, h1]), hE⟩
  rcases h2 : (a.learn == b.learn) with _ | _
  · go_enter Tryz.func28, Tryz.ntmps28
    go_wp2
    go_ret
    exact ⟨ret_bool (by simp [eqConf, h2]), hE⟩
  go_enter Tryz.func28, Tryz.ntmps28
  go_wp2
  go_ret
  exact ⟨ret_bool (by simp [eqConf, h0, h1, h2]), hE⟩

theorem take_at {l : List UInt8} {i : Nat} {x : UInt8} (h : l[i]? = some x) : l.take (i + 1) = l.take i ++ [x] := by
  obtain ⟨hi, rfl⟩ := List.getElem?_eq_some_iff.1 h
  exact List.take_succ_eq_append_getElem hi

theorem take_eq_step {xs bs : List UInt8} {i : Nat} {x y : UInt8} (h : xs.take i = bs.take i) (hx : xs[i]? = some x) (hy : bs[i]? = some y) (e : x = y) : xs.take (i + 1) = bs.take (i + 1) := by
  rw [take_at hx, take_at hy, h, e]
theorem take_ne_step {xs bs : List UInt8} {i : Nat} {x y : UInt8} (hx : xs[i]? = some x) (hy : bs[i]? = some y) (e : x ≠ y) : (xs == bs) = false := by
  rw [beq_eq_false_iff_ne]; intro h; subst h; rw [hx] at hy; injection hy with hy; exact e hy
set_option maxRecDepth 100000 in
set_option maxHeartbeats 400000 in
theorem k_bytes (w : World) (T U : Nat → Prop) (va vb : Value) (xs bs : List UInt8) (ha : Byt w T va xs) (hb : Byt w U vb bs) :
    Calls Tryz.prog 14 #[va, vb] w (SameB w xs bs) := by
  have hla := ha.len
  have hlb := hb.len
  obtain ⟨n, hn⟩ : ∃ n, xs.length = n := ⟨_, rfl⟩
  obtain ⟨m, hm⟩ : ∃ m, bs.length = m := ⟨_, rfl⟩
  unfold Byt at ha hb
  rw [hn] at ha hla
  rw [hm] at hb hlb
  obtain ⟨A, c, rfl⟩ := ha.form
  obtain ⟨A', c', rfl⟩ := hb.form
  by_cases hnm : n = m
  · subst hnm
    have hnb : ((n : Int) != (n : Int)) = false := by simp
    have Hn := Lib.hid hn
    have Hm := Lib.hid hm
    clear hn hm
    go_enter Tryz.func14, Tryz.ntmps14
    go_wp2
    go_loopw [5] (fun iv wr => ∃ i q : Nat, i ≤ n ∧ iv = .int .i64 i ∧ wr = w.drewN q ∧ xs.take i = bs.take i) (fun iv _ => n - (intOf iv).toNat)
    case atStart => exact ⟨0, 0, by omega, rfl, rfl, by simp⟩
    case round =>
      obtain ⟨i, q, hin, rfl, rfl, htk⟩ := hrel
      have Htk := Lib.hid htk
      clear htk
      by_cases hi : i < n
      · obtain ⟨g, off, x, rfl, hx, hcell⟩ := cellB ha hi
        obtain ⟨g', off', y, rfl, hy, hcell'⟩ := cellB hb hi
        have Hx := Lib.hid hx
        have Hy := Lib.hid hy
        clear hx hy
        have hi0 : (0 : Int) ≤ (i : Int) := by omega
        have hi1 : (i : Int) < (n : Int) := by omega
        obtain ⟨p, hp⟩ : ∃ p : Int, (x.toNat : Int) = p := ⟨_, rfl⟩
        obtain ⟨r, hr⟩ : ∃ r : Int, (y.toNat : Int) = r := ⟨_, rfl⟩
        rw [hp] at hcell
        rw [hr] at hcell'
        by_cases hxy : p = r
        · have hne : (p != r) = false := by simp [hxy]
          have Hxy : Hid (x = y) := Lib.hid (UInt8.toNat_inj.1 (by omega))
          have hpr : (p == r) = true := by simp [hxy]
          clear hp hr hxy
          go_wp2
          go_quiet (fail)
          go_wp2
          refine ⟨⟨i + 1, _, by omega, by go_num, rfl, take_eq_step Htk.out Hx.out Hy.out Hxy.out⟩, by simp [intOf]; omega⟩
        · have hne : (p != r) = true := by simp [hxy]
          have Hxy : Hid (x ≠ y) := Lib.hid (fun e => by subst e; omega)
          have hpr : (p == r) = false := by simp [hxy]
          clear hp hr hxy
          go_wp2
          go_quiet (fail)
          go_wp2
          go_ret
          exact ⟨ret_bool (take_ne_step Hx.out Hy.out Hxy.out).symm, ((Mod.refl _ w).drewN _).drewN _⟩
      · have Hf : Hid ((xs == bs) = true) := Lib.hid (by
          have := Htk.out
          rw [List.take_of_length_le (by rw [Hn.out]; omega), List.take_of_length_le (by rw [Hm.out]; omega)] at this
          simp [this])
        go_wp2
        go_ret
        exact ⟨ret_bool Hf.out.symm, (Mod.refl _ w).drewN _⟩
  · have hnb : ((n : Int) != (m : Int)) = true := by simp; omega
    have Hf : Hid ((xs == bs) = false) := Lib.hid (by rw [beq_eq_false_iff_ne]; intro e; subst e; omega)
    clear hn hm
    go_enter Tryz.func14, Tryz.ntmps14
    go_wp2
    go_ret
    exact ⟨ret_bool Hf.out.symm, Mod.refl _ w⟩

theorem eqCmd_same (c : ACmd) : eqCmd c c = true := by simp [eqCmd, eqVal_refl, eqT_refl]
theorem str_cmd : Str Tryz.prog 26 8 := ⟨⟨_, Tryz.underlying26⟩, by kernel_rfl⟩
theorem eqConf_same (c : AConf) : eqConf c c = true := by simp [eqConf]
set_option maxRecDepth 100000 in
set_option maxHeartbeats 4000000 in
theorem k_act (a : AAct) (w : World) (T U : Nat → Prop) (va vb : Value) (ha : Byt w T va a.bytes) (hb : Byt w U vb a.bytes) :
  Calls Tryz.prog 8 #[.agg (a.cells va).toArray, .agg (a.cells vb).toArray] w fun e w' => e = .returned (.bool true) ∧ Ext w w' := by
 obtain ⟨b, hbb⟩ : ∃ b, w.heap.size = b := ⟨_, rfl⟩
 have hkc := k_cmd a.cmd a.cmd
 rw [eqCmd_same] at hkc
 have hkf := k_conf a.conf a.conf
 rw [eqConf_same] at hkf
 have hky : ∀ W, Ext w W → Calls Tryz.prog 14 #[va, vb] W fun e w' => e = .returned (.bool true) ∧ Ext W w' := fun W hE => (k_bytes W T U va vb a.bytes a.bytes (ha.ext hE) (hb.ext hE)).mono fun e w' h => by
  obtain ⟨he, hX⟩ := h
  exact ⟨by rw [he]; simp, hX⟩
 obtain ⟨A, n, c, rfl⟩ : ∃ A n c, va = .slice A n c := by obtain ⟨A, c, e⟩ := Sl.form ha; exact ⟨A, _, c, e⟩
 obtain ⟨A', n', c', rfl⟩ : ∃ A n c, vb = .slice A n c := by obtain ⟨A, c, e⟩ := Sl.form hb; exact ⟨A, _, c, e⟩
 have Hky := Lib.hid hky
 clear ha hb hky
 go_enter Tryz.func8, Tryz.ntmps8
 go_upto_region 1 with fail
 obtain ⟨W2, hW2⟩ : ∃ W2, (w.alloc (.cells (a.cells (.slice A n c)).toArray 31)).alloc (.cells (a.cells (.slice A' n' c')).toArray 31) = W2 := ⟨_, rfl⟩
 have hE2 : Ext w W2 := hW2 ▸ (((Mod.refl _ w).alloc _).alloc _)
 have hA : W2.heap[b]? = some (.cells (a.cells (.slice A n c)).toArray 31 (0, 0)) := hbb ▸ hW2 ▸ heap_new2 _ _ _
 have hB : W2.heap[b + 1]? = some (.cells (a.cells (.slice A' n' c')).toArray 31 (0, 0)) := by
  have h := heap_new (w.alloc (.cells (a.cells (.slice A n c)).toArray 31)) (.cells (a.cells (.slice A' n' c')).toArray 31)
  rw [hW2] at h
  rw [← show (w.alloc (.cells (a.cells (.slice A n c)).toArray 31)).heap.size = b + 1 by simp [hbb]]
  exact h
 rw [hW2]
 clear hW2
 have p0 : W2.cell? ⟨b, 0, none⟩ = some (.int .i64 a.kind) := blk_cell hA rfl
 have r0 : W2.cell? ⟨b + 1, 0, none⟩ = some (.int .i64 a.kind) := blk_cell hB rfl
 have p1 : W2.cell? ⟨b, 1, none⟩ = some (.int .i64 a.node) := blk_cell hA rfl
 have r1 : W2.cell? ⟨b + 1, 1, none⟩ = some (.int .i64 a.node) := blk_cell hB rfl
 have p2 : W2.cell? ⟨b, 2, none⟩ = some (.int .i64 a.client) := blk_cell hA rfl
 have r2 : W2.cell? ⟨b + 1, 2, none⟩ = some (.int .i64 a.client) := blk_cell hB rfl
 have p3 : W2.cell? ⟨b, 3, none⟩ = some (.int .i64 a.n) := blk_cell hA rfl
 have r3 : W2.cell? ⟨b + 1, 3, none⟩ = some (.int .i64 a.n) := blk_cell hB rfl
 have p4 : W2.cell? ⟨b, 4, none⟩ = some (.int .i64 a.m) := blk_cell hA rfl
 have r4 : W2.cell? ⟨b + 1, 4, none⟩ = some (.int .i64 a.m) := blk_cell hB rfl
 have hl1 : (Instr.loadAt 26 (.pointer (some ⟨b, 5, none⟩))).run Tryz.prog W2 = .ok (.agg #[.int .i64 a.cmd.kind, .string a.cmd.key, .int .i64 a.cmd.old.kind, .float .f64 a.cmd.old.num, .string a.cmd.old.text, .int .i64 a.cmd.val.kind, .float .f64 a.cmd.val.num, .string a.cmd.val.text]) W2 := load_row (cs := [.int .i64 a.cmd.kind, .string a.cmd.key, .int .i64 a.cmd.old.kind, .float .f64 a.cmd.old.num, .string a.cmd.old.text, .int .i64 a.cmd.val.kind, .float .f64 a.cmd.val.num, .string a.cmd.val.text]) str_cmd hA rfl (fun j u hu => by rcases j with _ | _ | _ | _ | _ | _ | _ | _ | j <;> first | exact hu | cases hu)
 have hl2 : (Instr.loadAt 26 (.pointer (some ⟨b + 1, 5, none⟩))).run Tryz.prog W2 = .ok (.agg #[.int .i64 a.cmd.kind, .string a.cmd.key, .int .i64 a.cmd.old.kind, .float .f64 a.cmd.old.num, .string a.cmd.old.text, .int .i64 a.cmd.val.kind, .float .f64 a.cmd.val.num, .string a.cmd.val.text]) W2 := load_row (cs := [.int .i64 a.cmd.kind, .string a.cmd.key, .int .i64 a.cmd.old.kind, .float .f64 a.cmd.old.num, .string a.cmd.old.text, .int .i64 a.cmd.val.kind, .float .f64 a.cmd.val.num, .string a.cmd.val.text]) str_cmd hB rfl (fun j u hu => by rcases j with _ | _ | _ | _ | _ | _ | _ | _ | j <;> first | exact hu | cases hu)
 have HA := Lib.hid hA
 have HB := Lib.hid hB
 have HE2 := Lib.hid hE2
 clear hA hB hE2
 go_wp2_with (first | (refine wpList_ldW (by kernel_rfl) 26 _ rfl (.pointer (some ⟨b, 5, none⟩)) _ rfl hl1 ?_) | (refine wpList_ldW (by kernel_rfl) 26 _ rfl (.pointer (some ⟨b + 1, 5, none⟩)) _ rfl hl2 ?_))
 refine (hkc W2).mono ?_
 rintro e w3 ⟨rfl, hE3⟩
 have hA := hE3.blk HA.out id
 have hB := hE3.blk HB.out id
 have hl3 : (Instr.loadAt 28 (.pointer (some ⟨b, 13, none⟩))).run Tryz.prog w3 = .ok (.agg #[.int .i64 a.conf.full, .int .i64 a.conf.wit, .int .i64 a.conf.learn, .int .i64 a.conf.learnWit]) w3 := load_row (cs := [.int .i64 a.conf.full, .int .i64 a.conf.wit, .int .i64 a.conf.learn, .int .i64 a.conf.learnWit]) str_conf hA rfl (fun j u hu => by rcases j with _ | _ | _ | _ | j <;> first | exact hu | cases hu)
 have hl4 : (Instr.loadAt 28 (.pointer (some ⟨b + 1, 13, none⟩))).run Tryz.prog w3 = .ok (.agg #[.int .i64 a.conf.full, .int .i64 a.conf.wit, .int .i64 a.conf.learn, .int .i64 a.conf.learnWit]) w3 := load_row (cs := [.int .i64 a.conf.full, .int .i64 a.conf.wit, .int .i64 a.conf.learn, .int .i64 a.conf.learnWit]) str_conf hB rfl (fun j u hu => by rcases j with _ | _ | _ | _ | j <;> first | exact hu | cases hu)
 have HA3 := Lib.hid hA
 have HB3 := Lib.hid hB
 have HE3 := Lib.hid (HE2.out.ext hE3)
 clear hA hB hE3 hl1 hl2 p0 r0 p1 r1 p2 r2 p3 r3 p4 r4 hkc
 go_wp2_with (first | (refine wpList_ldW (by kernel_rfl) 28 _ rfl (.pointer (some ⟨b, 13, none⟩)) _ rfl hl3 ?_) | (refine wpList_ldW (by kernel_rfl) 28 _ rfl (.pointer (some ⟨b + 1, 13, none⟩)) _ rfl hl4 ?_))
 refine (hkf w3).mono ?_
 rintro e w4 ⟨rfl, hE4⟩
 have k0 : w4.cell? ⟨b, 17, none⟩ = some (.slice A n c) := blk_cell (hE4.blk HA3.out id) rfl
 have k1 : w4.cell? ⟨b + 1, 17, none⟩ = some (.slice A' n' c') := blk_cell (hE4.blk HB3.out id) rfl
 have hi := Hky.out w4 (HE3.out.ext hE4)
 have HE4 := Lib.hid (HE3.out.ext hE4)
 clear hE4 hl3 hl4 hkf
 go_wp2_with fail
 refine hi.mono ?_
 rintro e w5 ⟨rfl, hE5⟩
 have HE5 := Lib.hid (HE4.out.ext hE5)
 clear hE5 hi
 go_wp2
 go_ret
 exact ⟨rfl, HE5.out⟩
end Go.Proofs.YtmebipnljkopgaaGreatDoor
