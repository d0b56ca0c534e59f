/-
 Contracts of the verifier's comparisons (skerrykeep.Cmd, Call, Conf, Entry, Entries; Told and Events of the same). Conditions: as each theorem names them.
-/
import Derived.Test.YtbclnghbgoblcaaGreatGGet
import Derived.Test.YtbclnghbgoblcaaGreatGNum
import Derived.Test.YtbclnghbgoblcaaGreatEnts
import Derived.Test.YtbclnghbgoblcaaGreatGOpen
import Derived.Test.YtbclnghbgoblcaaGreatHisSpec
import Derived.Test.YtbclnghbgoblcaaGreatHisCopy
import Derived.Test.YtbclnghbgoblcaaGreatSesMore
import Derived.StillTailTactics
namespace Go.Proofs.YtbclnghbgoblcaaGreat
set_option linter.unusedSimpArgs false
open Go.RowKit



-- GEN
set_option maxRecDepth 100000 in
set_option maxHeartbeats 1000000 in
theorem k_cmd (a b : ACmd) (w : World) : Calls Tryz.prog 37 #[.agg #[.int .i64 a.kind, .string a.key, .int .i64 a.old.kind, .float .f64 a.old.num, .string a.old.text, .int .i64 a.val.kind, .float .f64 a.val.num, .string a.val.text], .agg #[.int .i64 b.kind, .string b.key, .int .i64 b.old.kind, .float .f64 b.old.num, .string b.old.text, .int .i64 b.val.kind, .float .f64 b.val.num, .string b.val.text]] w fun e w' => e = .returned (.bool (eqCmd a b)) ∧ Ext w w' := by
 have hE : Ext w ((w.alloc (.cells #[.int .i64 a.kind, .string a.key, .int .i64 a.old.kind, .float .f64 a.old.num, .string a.old.text, .int .i64 a.val.kind, .float .f64 a.val.num, .string a.val.text] 42)).alloc (.cells #[.int .i64 b.kind, .string b.key, .int .i64 b.old.kind, .float .f64 b.old.num, .string b.old.text, .int .i64 b.val.kind, .float .f64 b.val.num, .string b.val.text] 42)) := ((Mod.refl _ w).alloc _).alloc _
 have hT : (a.key.toList == b.key.toList) = eqT a.key b.key := rfl
 rcases h0 : (a.kind == b.kind) with _ | _
 ·
  go_enter Tryz.func37, Tryz.ntmps37
  go_wp2
  go_ret
  exact ⟨ret_bool (by simp [eqCmd, h0]), hE⟩
 rcases h1 : eqT a.key b.key with _ | _
 ·
  go_enter Tryz.func37, Tryz.ntmps37
  go_wp2
  go_ret
  exact ⟨ret_bool (by simp [eqCmd, h1]), hE⟩
 go_enter Tryz.func37, Tryz.ntmps37
 go_wp2_with fail
 refine (k_value a.old b.old _).mono ?_
 rintro e w0 ⟨rfl, hE0⟩
 have hF0 : Ext w w0 := Mod.ext hE hE0
 have HF0 := Lib.hid hF0
 have ca5 := hE0.cell (p := ⟨w.heap.size, 5, none⟩) (v := .int .i64 a.val.kind) (by simp) id
 have ca6 := hE0.cell (p := ⟨w.heap.size, 6, none⟩) (v := .float .f64 a.val.num) (by simp) id
 have ca7 := hE0.cell (p := ⟨w.heap.size, 7, none⟩) (v := .string a.val.text) (by simp) id
 have cb5 := hE0.cell (p := ⟨w.heap.size + 1, 5, none⟩) (v := .int .i64 b.val.kind) (by simp) id
 have cb6 := hE0.cell (p := ⟨w.heap.size + 1, 6, none⟩) (v := .float .f64 b.val.num) (by simp) id
 have cb7 := hE0.cell (p := ⟨w.heap.size + 1, 7, none⟩) (v := .string b.val.text) (by simp) id
 clear hF0 hE0
 rcases g0 : eqVal a.old b.old with _ | _
 ·
  go_wp2
  go_ret
  exact ⟨ret_bool (by simp [eqCmd, g0]), HF0.out⟩
 go_wp2_with fail
 refine (k_value a.val b.val _).mono ?_
 rintro e w1 ⟨rfl, hE1⟩
 have hF1 : Ext w w1 := Mod.ext HF0.out hE1
 have HF1 := Lib.hid hF1
 clear hF1 hE1
 go_wp2
 go_ret
 exact ⟨ret_bool (by simp [eqCmd, h0, h1, g0]), HF1.out⟩

set_option maxRecDepth 100000 in
set_option maxHeartbeats 1000000 in
theorem k_call (a b : ACall) (w : World) : Calls Tryz.prog 27 #[.agg #[.int .i64 a.client, .int .i64 a.seq, .int .i64 a.cmd.kind, .string a.cmd.key, .int .i64 a.cmd.old.kind, .float .f64 a.cmd.old.num, .string a.cmd.old.text, .int .i64 a.cmd.val.kind, .float .f64 a.cmd.val.num, .string a.cmd.val.text], .agg #[.int .i64 b.client, .int .i64 b.seq, .int .i64 b.cmd.kind, .string b.cmd.key, .int .i64 b.cmd.old.kind, .float .f64 b.cmd.old.num, .string b.cmd.old.text, .int .i64 b.cmd.val.kind, .float .f64 b.cmd.val.num, .string b.cmd.val.text]] w fun e w' => e = .returned (.bool (eqCall a b)) ∧ Ext w w' := by
 have hE : Ext w ((w.alloc (.cells #[.int .i64 a.client, .int .i64 a.seq, .int .i64 a.cmd.kind, .string a.cmd.key, .int .i64 a.cmd.old.kind, .float .f64 a.cmd.old.num, .string a.cmd.old.text, .int .i64 a.cmd.val.kind, .float .f64 a.cmd.val.num, .string a.cmd.val.text] 44)).alloc (.cells #[.int .i64 b.client, .int .i64 b.seq, .int .i64 b.cmd.kind, .string b.cmd.key, .int .i64 b.cmd.old.kind, .float .f64 b.cmd.old.num, .string b.cmd.old.text, .int .i64 b.cmd.val.kind, .float .f64 b.cmd.val.num, .string b.cmd.val.text] 44)) := ((Mod.refl _ w).alloc _).alloc _
 rcases h0 : (a.client == b.client) with _ | _
 ·
  go_enter Tryz.func27, Tryz.ntmps27
  go_wp2
  go_ret
  exact ⟨ret_bool (by simp [eqCall, h0]), hE⟩
 rcases h1 : (a.seq == b.seq) with _ | _
 ·
  go_enter Tryz.func27, Tryz.ntmps27
  go_wp2
  go_ret
  exact ⟨ret_bool (by simp [eqCall, h1]), hE⟩
 go_enter Tryz.func27, Tryz.ntmps27
 go_wp2_with fail
 refine (k_cmd a.cmd b.cmd _).mono ?_
 rintro e w0 ⟨rfl, hE0⟩
 have hF0 : Ext w w0 := Mod.ext hE hE0
 have HF0 := Lib.hid hF0
 clear hF0 hE0
 go_wp2
 go_ret
 exact ⟨ret_bool (by simp [eqCall, h0, h1]), HF0.out⟩

set_option maxRecDepth 100000 in
set_option maxHeartbeats 1000000 in
theorem k_conf (a b : AConf) (w : World) : Calls Tryz.prog 66 #[.agg #[.int .i64 a.full, .int .i64 a.wit, .int .i64 a.learn, .int .i64 a.learnWit], .agg #[.int .i64 b.full, .int .i64 b.wit, .int .i64 b.learn, .int .i64 b.learnWit]] w fun e w' => e = .returned (.bool (eqConf a b)) ∧ Ext w w' := by
 have hE : Ext w ((w.alloc (.cells #[.int .i64 a.full, .int .i64 a.wit, .int .i64 a.learn, .int .i64 a.learnWit] 65)).alloc (.cells #[.int .i64 b.full, .int .i64 b.wit, .int .i64 b.learn, .int .i64 b.learnWit] 65)) := ((Mod.refl _ w).alloc _).alloc _
 rcases h0 : (a.full == b.full) with _ | _
 ·
  go_enter Tryz.func66, Tryz.ntmps66
  go_wp2
  go_ret
  exact ⟨ret_bool (by simp [eqConf, h0]), hE⟩
 rcases h1 : (a.wit == b.wit) with _ | _
 ·
  go_enter Tryz.func66, Tryz.ntmps66
  go_wp2
  go_ret
  exact ⟨ret_bool (by simp [eqConf, h1]), hE⟩
 rcases h2 : (a.learn == b.learn) with _ | _
 ·
  go_enter Tryz.func66, Tryz.ntmps66
  go_wp2
  go_ret
  exact ⟨ret_bool (by simp [eqConf, h2]), hE⟩
 go_enter Tryz.func66, Tryz.ntmps66
 go_wp2
 go_ret
 exact ⟨ret_bool (by simp [eqConf, h0, h1, h2]), hE⟩

set_option maxRecDepth 100000 in
set_option maxHeartbeats 1000000 in
theorem k_entry (a b : AEntry) (w : World) : Calls Tryz.prog 42 #[.agg #[.int .i64 a.term, .int .i64 a.kind, .int .i64 a.call.client, .int .i64 a.call.seq, .int .i64 a.call.cmd.kind, .string a.call.cmd.key, .int .i64 a.call.cmd.old.kind, .float .f64 a.call.cmd.old.num, .string a.call.cmd.old.text, .int .i64 a.call.cmd.val.kind, .float .f64 a.call.cmd.val.num, .string a.call.cmd.val.text, .int .i64 a.conf.full, .int .i64 a.conf.wit, .int .i64 a.conf.learn, .int .i64 a.conf.learnWit], .agg #[.int .i64 b.term, .int .i64 b.kind, .int .i64 b.call.client, .int .i64 b.call.seq, .int .i64 b.call.cmd.kind, .string b.call.cmd.key, .int .i64 b.call.cmd.old.kind, .float .f64 b.call.cmd.old.num, .string b.call.cmd.old.text, .int .i64 b.call.cmd.val.kind, .float .f64 b.call.cmd.val.num, .string b.call.cmd.val.text, .int .i64 b.conf.full, .int .i64 b.conf.wit, .int .i64 b.conf.learn, .int .i64 b.conf.learnWit]] w fun e w' => e = .returned (.bool (eqEntry a b)) ∧ Ext w w' := by
 have hE : Ext w ((w.alloc (.cells #[.int .i64 a.term, .int .i64 a.kind, .int .i64 a.call.client, .int .i64 a.call.seq, .int .i64 a.call.cmd.kind, .string a.call.cmd.key, .int .i64 a.call.cmd.old.kind, .float .f64 a.call.cmd.old.num, .string a.call.cmd.old.text, .int .i64 a.call.cmd.val.kind, .float .f64 a.call.cmd.val.num, .string a.call.cmd.val.text, .int .i64 a.conf.full, .int .i64 a.conf.wit, .int .i64 a.conf.learn, .int .i64 a.conf.learnWit] 67)).alloc (.cells #[.int .i64 b.term, .int .i64 b.kind, .int .i64 b.call.client, .int .i64 b.call.seq, .int .i64 b.call.cmd.kind, .string b.call.cmd.key, .int .i64 b.call.cmd.old.kind, .float .f64 b.call.cmd.old.num, .string b.call.cmd.old.text, .int .i64 b.call.cmd.val.kind, .float .f64 b.call.cmd.val.num, .string b.call.cmd.val.text, .int .i64 b.conf.full, .int .i64 b.conf.wit, .int .i64 b.conf.learn, .int .i64 b.conf.learnWit] 67)) := ((Mod.refl _ w).alloc _).alloc _
 rcases h0 : (a.term == b.term) with _ | _
 ·
  go_enter Tryz.func42, Tryz.ntmps42
  go_wp2
  go_ret
  exact ⟨ret_bool (by simp [eqEntry, h0]), hE⟩
 rcases h1 : (a.kind == b.kind) with _ | _
 ·
  go_enter Tryz.func42, Tryz.ntmps42
  go_wp2
  go_ret
  exact ⟨ret_bool (by simp [eqEntry, h1]), hE⟩
 go_enter Tryz.func42, Tryz.ntmps42
 go_wp2_with fail
 refine (k_call a.call b.call _).mono ?_
 rintro e w0 ⟨rfl, hE0⟩
 have hF0 : Ext w w0 := Mod.ext hE hE0
 have HF0 := Lib.hid hF0
 have ca12 := hE0.cell (p := ⟨w.heap.size, 12, none⟩) (v := .int .i64 a.conf.full) (by simp) id
 have ca13 := hE0.cell (p := ⟨w.heap.size, 13, none⟩) (v := .int .i64 a.conf.wit) (by simp) id
 have ca14 := hE0.cell (p := ⟨w.heap.size, 14, none⟩) (v := .int .i64 a.conf.learn) (by simp) id
 have ca15 := hE0.cell (p := ⟨w.heap.size, 15, none⟩) (v := .int .i64 a.conf.learnWit) (by simp) id
 have cb12 := hE0.cell (p := ⟨w.heap.size + 1, 12, none⟩) (v := .int .i64 b.conf.full) (by simp) id
 have cb13 := hE0.cell (p := ⟨w.heap.size + 1, 13, none⟩) (v := .int .i64 b.conf.wit) (by simp) id
 have cb14 := hE0.cell (p := ⟨w.heap.size + 1, 14, none⟩) (v := .int .i64 b.conf.learn) (by simp) id
 have cb15 := hE0.cell (p := ⟨w.heap.size + 1, 15, none⟩) (v := .int .i64 b.conf.learnWit) (by simp) id
 clear hF0 hE0
 rcases g0 : eqCall a.call b.call with _ | _
 ·
  go_wp2
  go_ret
  exact ⟨ret_bool (by simp [eqEntry, g0]), HF0.out⟩
 go_wp2_with fail
 refine (k_conf a.conf b.conf _).mono ?_
 rintro e w1 ⟨rfl, hE1⟩
 have hF1 : Ext w w1 := Mod.ext HF0.out hE1
 have HF1 := Lib.hid hF1
 clear hF1 hE1
 go_wp2
 go_ret
 exact ⟨ret_bool (by simp [eqEntry, h0, h1, g0]), HF1.out⟩





def eqEnts (l m : List AEntry) : Bool := eqL eqEntry l m

set_option maxRecDepth 100000 in
set_option maxHeartbeats 2000000 in
theorem k_entries (w : World) (T U : Nat → Prop) (va vb : Value) (la lb : List AEntry) (ha : Ents w T va la) (hb : Ents w U vb lb) :
  Calls Tryz.prog 19 #[va, vb] w fun e w' => e = .returned (.bool (eqEnts la lb)) ∧ Ext w w' := by
 have hla := ha.1.le
 have hlb := hb.1.le
 unfold maxLen at hla hlb
 obtain ⟨n, hn⟩ : ∃ n, la.length = n := ⟨_, rfl⟩
 obtain ⟨m, hm⟩ : ∃ m, lb.length = m := ⟨_, rfl⟩
 obtain ⟨A, c, rfl⟩ := ha.form
 obtain ⟨A', c', rfl⟩ := hb.form
 rw [hn] at ha hla ⊢
 rw [hm] at hb hlb ⊢
 by_cases hnm : n = m
 case neg =>
  have hnb : ((n : Int) != (m : Int)) = true := by simp; omega
  have Hf : Hid (eqEnts la lb = false) := Lib.hid (eqL_len (by omega))
  clear hn hm
  go_enter Tryz.func19, Tryz.ntmps19
  go_wp2
  go_ret
  exact ⟨ret_bool Hf.out.symm, Mod.refl _ w⟩
 subst hnm
 have hnb : ((n : Int) != (n : Int)) = false := by simp
 have Hn := Lib.hid hn
 have Hm := Lib.hid hm
 clear hn hm
 go_enter Tryz.func19, Tryz.ntmps19
 go_wp2
 go_loopw [5] (fun iv wr => ∃ i : Nat, i ≤ n ∧ iv = .int .i64 i ∧ Ext w wr ∧ ∀ j < i, ∀ x y, la[j]? = some x → lb[j]? = some y → eqEntry x y = true) (fun iv _ => n - (intOf iv).toNat)
 case atStart => exact ⟨0, by omega, rfl, Mod.refl _ w, fun j hj => by omega⟩
 case round =>
  obtain ⟨i, hin, rfl, hE, hs⟩ := hrel
  have Hs := Lib.hid hs
  have ha2 := ha.mod hE (fun _ _ => id)
  have hb2 := hb.mod hE (fun _ _ => id)
  clear hs
  by_cases hi : i < n
  ·
   obtain ⟨g, off, x, rfl, hgT, hx, hxok, hcells⟩ := ha2.at hi
   obtain ⟨g', off', y, rfl, hgT', hy, hyok, hcells'⟩ := hb2.at hi
   have hi0 : (0 : Int) ≤ (i : Int) := by omega
   have hi1 : (i : Int) < (n : Int) := by omega
   have x0 := hcells 0 _ rfl
   have x1 := hcells 1 _ rfl
   have x2 := hcells 2 _ rfl
   have x3 := hcells 3 _ rfl
   have x4 := hcells 4 _ rfl
   have x5 := hcells 5 _ rfl
   have x6 := hcells 6 _ rfl
   have x7 := hcells 7 _ rfl
   have x8 := hcells 8 _ rfl
   have x9 := hcells 9 _ rfl
   have x10 := hcells 10 _ rfl
   have x11 := hcells 11 _ rfl
   have x12 := hcells 12 _ rfl
   have x13 := hcells 13 _ rfl
   have x14 := hcells 14 _ rfl
   have x15 := hcells 15 _ rfl
   have y0 := hcells' 0 _ rfl
   have y1 := hcells' 1 _ rfl
   have y2 := hcells' 2 _ rfl
   have y3 := hcells' 3 _ rfl
   have y4 := hcells' 4 _ rfl
   have y5 := hcells' 5 _ rfl
   have y6 := hcells' 6 _ rfl
   have y7 := hcells' 7 _ rfl
   have y8 := hcells' 8 _ rfl
   have y9 := hcells' 9 _ rfl
   have y10 := hcells' 10 _ rfl
   have y11 := hcells' 11 _ rfl
   have y12 := hcells' 12 _ rfl
   have y13 := hcells' 13 _ rfl
   have y14 := hcells' 14 _ rfl
   have y15 := hcells' 15 _ rfl
   rw [Nat.add_zero] at x0 y0
   have Hx := Lib.hid hx
   have Hy := Lib.hid hy
   clear hcells hcells' hx hy ha2 hb2 hxok hyok
   go_wp2_with fail
   go_still_tail 8, (by kernel_rfl)
   change wpList _ _ _ _ _ wr.drew
   go_wp2_with fail
   refine (k_entry x y _).mono ?_
   rintro e w1 ⟨rfl, hE1⟩
   have hE1 := Mod.ext hE.drew hE1
   have HE1 := Lib.hid hE1
   clear hE1 x0 x1 x2 x3 x4 x5 x6 x7 x8 x9 x10 x11 x12 x13 x14 x15 y0 y1 y2 y3 y4 y5 y6 y7 y8 y9 y10 y11 y12 y13 y14 y15
   rcases hq : eqEntry x y with _ | _
   ·
    have Hf : Hid (eqEnts la lb = false) := Lib.hid (eqL_no Hx.out Hy.out hq)
    go_wp2
    go_ret
    exact ⟨ret_bool Hf.out.symm, HE1.out⟩
   ·
    have Hq := Lib.hid hq
    clear hq
    go_wp2
    exact ⟨⟨i + 1, by omega, by go_num, HE1.out, eqL_step Hs.out Hx.out Hy.out Hq.out⟩, by simp [intOf]; omega⟩
  ·
   have Hf : Hid (eqEnts la lb = true) := Lib.hid (eqL_yes (n := n) (fun j hj => Hs.out j (by omega)) Hn.out Hm.out)
   go_wp2
   go_ret
   exact ⟨ret_bool Hf.out.symm, hE⟩

theorem eqCmd_same (c : ACmd) : eqCmd c c = true := by simp [eqCmd, eqVal_refl, eqT_refl]
theorem eqCall_same (c : ACall) : eqCall c c = true := by simp [eqCall, eqCmd_same]
theorem eqEntry_same (x : AEntry) : eqEntry x x = true := by simp [eqEntry, eqCall_same, eqConf]
theorem eqEnts_same (l : List AEntry) : eqEnts l l = true := by
 unfold eqEnts
 rw [eqL_iff]
 refine ⟨rfl, fun i x y hx hy => ?_⟩
 rw [hx] at hy
 injection hy with hy
 rw [← hy]
 exact eqEntry_same x
set_option maxRecDepth 100000 in
set_option maxHeartbeats 4000000 in
theorem k_told_same (a : ATold) (w : World) : Calls Tryz.prog 43 #[.agg #[.int .i64 a.call.client, .int .i64 a.call.seq, .int .i64 a.call.cmd.kind, .string a.call.cmd.key, .int .i64 a.call.cmd.old.kind, .float .f64 a.call.cmd.old.num, .string a.call.cmd.old.text, .int .i64 a.call.cmd.val.kind, .float .f64 a.call.cmd.val.num, .string a.call.cmd.val.text, .int .i64 a.reply.code, .int .i64 a.reply.val.kind, .float .f64 a.reply.val.num, .string a.reply.val.text, .int .i64 a.index], .agg #[.int .i64 a.call.client, .int .i64 a.call.seq, .int .i64 a.call.cmd.kind, .string a.call.cmd.key, .int .i64 a.call.cmd.old.kind, .float .f64 a.call.cmd.old.num, .string a.call.cmd.old.text, .int .i64 a.call.cmd.val.kind, .float .f64 a.call.cmd.val.num, .string a.call.cmd.val.text, .int .i64 a.reply.code, .int .i64 a.reply.val.kind, .float .f64 a.reply.val.num, .string a.reply.val.text, .int .i64 a.index]] w fun e w' => e = .returned (.bool true) ∧ Ext w w' := by
 have HX : Hid (Ext w w) := Lib.hid (Mod.refl _ w)
 go_enter Tryz.func43, Tryz.ntmps43
 go_wp2_with fail
 obtain ⟨w1, hw1⟩ : ∃ w1, w1 = w.alloc (.cells #[.int .i64 a.call.client, .int .i64 a.call.seq, .int .i64 a.call.cmd.kind, .string a.call.cmd.key, .int .i64 a.call.cmd.old.kind, .float .f64 a.call.cmd.old.num, .string a.call.cmd.old.text, .int .i64 a.call.cmd.val.kind, .float .f64 a.call.cmd.val.num, .string a.call.cmd.val.text, .int .i64 a.reply.code, .int .i64 a.reply.val.kind, .float .f64 a.reply.val.num, .string a.reply.val.text, .int .i64 a.index] 48) := ⟨_, rfl⟩
 obtain ⟨ba, hba⟩ : ∃ ba, ba = w.heap.size := ⟨_, rfl⟩
 have hzz : w.heap.size = ba := hba.symm
 have hE : Ext w w1 := by rw [hw1]; exact (Mod.refl _ w).alloc _
 have hKn : w1.heap[ba]? = some (.cells #[.int .i64 a.call.client, .int .i64 a.call.seq, .int .i64 a.call.cmd.kind, .string a.call.cmd.key, .int .i64 a.call.cmd.old.kind, .float .f64 a.call.cmd.old.num, .string a.call.cmd.old.text, .int .i64 a.call.cmd.val.kind, .float .f64 a.call.cmd.val.num, .string a.call.cmd.val.text, .int .i64 a.reply.code, .int .i64 a.reply.val.kind, .float .f64 a.reply.val.num, .string a.reply.val.text, .int .i64 a.index] 48 (0, 0)) := by rw [hw1, ← hzz]; exact heap_alloc_new w _
 have hzn : w1.heap.size = ba + 1 := by rw [hw1, ← hzz]; simp
 rw [← hw1, ← hba]
 have HXo := HX
 replace HX := Lib.hid (HX.out.ext hE)
 have Kaw1 := Lib.hid hKn
 have hbz : w.heap.size ≤ ba := by have := HXo.out.size; omega
 clear hKn hE hw1 hba HXo hzz
 have hba := hbz
 clear hbz
 obtain ⟨w2, hw2⟩ : ∃ w2, w2 = w1.alloc (.cells #[.int .i64 a.call.client, .int .i64 a.call.seq, .int .i64 a.call.cmd.kind, .string a.call.cmd.key, .int .i64 a.call.cmd.old.kind, .float .f64 a.call.cmd.old.num, .string a.call.cmd.old.text, .int .i64 a.call.cmd.val.kind, .float .f64 a.call.cmd.val.num, .string a.call.cmd.val.text, .int .i64 a.reply.code, .int .i64 a.reply.val.kind, .float .f64 a.reply.val.num, .string a.reply.val.text, .int .i64 a.index] 48) := ⟨_, rfl⟩
 obtain ⟨bb, hbb⟩ : ∃ bb, bb = ba + 1 := ⟨_, rfl⟩
 have hzz : w1.heap.size = bb := hzn.trans hbb.symm
 clear hzn
 have hE : Ext w1 w2 := by rw [hw2]; exact (Mod.refl _ w1).alloc _
 have hKn : w2.heap[bb]? = some (.cells #[.int .i64 a.call.client, .int .i64 a.call.seq, .int .i64 a.call.cmd.kind, .string a.call.cmd.key, .int .i64 a.call.cmd.old.kind, .float .f64 a.call.cmd.old.num, .string a.call.cmd.old.text, .int .i64 a.call.cmd.val.kind, .float .f64 a.call.cmd.val.num, .string a.call.cmd.val.text, .int .i64 a.reply.code, .int .i64 a.reply.val.kind, .float .f64 a.reply.val.num, .string a.reply.val.text, .int .i64 a.index] 48 (0, 0)) := by rw [hw2, ← hzz]; exact heap_alloc_new w1 _
 have hzn : w2.heap.size = bb + 1 := by rw [hw2, ← hzz]; simp
 rw [← hw2, ← hbb]
 have hltab : ba < bb := by have := (Array.getElem?_eq_some_iff.1 Kaw1.out).1; omega
 have HXo := HX
 have Kaw2 := Lib.hid (hE.blk Kaw1.out id)
 replace HX := Lib.hid (HX.out.ext hE)
 clear Kaw1
 have Kbw2 := Lib.hid hKn
 have hbz : w.heap.size ≤ bb := by have := HXo.out.size; omega
 clear hKn hE hw2 hbb HXo hzz
 have hbb := hbz
 clear hbz
 clear hzn
 refine (k_call a.call a.call w2).mono ?_
 rintro e w3 ⟨rfl, hE⟩
 have Kaw3 := Lib.hid (hE.blk Kaw2.out id)
 have Kbw3 := Lib.hid (hE.blk Kbw2.out id)
 replace HX := Lib.hid (HX.out.ext hE)
 clear Kaw2
 clear Kbw2
 rw [eqCall_same]
 clear hE
 obtain ⟨a_0, a_1, a_2, a_3, a_4, a_5, a_6, a_7, a_8, a_9, a_10, a_11, a_12, a_13, a_14⟩ := cq15 Kaw3.out
 have a_l : ba < w3.heap.size := (Array.getElem?_eq_some_iff.1 Kaw3.out).1
 obtain ⟨b_0, b_1, b_2, b_3, b_4, b_5, b_6, b_7, b_8, b_9, b_10, b_11, b_12, b_13, b_14⟩ := cq15 Kbw3.out
 have b_l : bb < w3.heap.size := (Array.getElem?_eq_some_iff.1 Kbw3.out).1
 go_wp2_with fail
 refine (k_reply a.reply a.reply w3).mono ?_
 rintro e w4 ⟨rfl, hE⟩
 clear a_0 a_1 a_2 a_3 a_4 a_5 a_6 a_7 a_8 a_9 a_10 a_11 a_12 a_13 a_14 a_l b_0 b_1 b_2 b_3 b_4 b_5 b_6 b_7 b_8 b_9 b_10 b_11 b_12 b_13 b_14 b_l
 have Kaw4 := Lib.hid (hE.blk Kaw3.out id)
 have Kbw4 := Lib.hid (hE.blk Kbw3.out id)
 replace HX := Lib.hid (HX.out.ext hE)
 clear Kaw3
 clear Kbw3
 rw [eqReply_refl]
 clear hE
 obtain ⟨a_0, a_1, a_2, a_3, a_4, a_5, a_6, a_7, a_8, a_9, a_10, a_11, a_12, a_13, a_14⟩ := cq15 Kaw4.out
 have a_l : ba < w4.heap.size := (Array.getElem?_eq_some_iff.1 Kaw4.out).1
 obtain ⟨b_0, b_1, b_2, b_3, b_4, b_5, b_6, b_7, b_8, b_9, b_10, b_11, b_12, b_13, b_14⟩ := cq15 Kbw4.out
 have b_l : bb < w4.heap.size := (Array.getElem?_eq_some_iff.1 Kbw4.out).1
 go_wp2
 go_ret
 exact ⟨rfl, HX.out⟩
set_option maxRecDepth 100000 in
set_option maxHeartbeats 4000000 in
theorem k_events_same (w : World) (T U : Nat → Prop) (va vb : Value) (l : List AEvent) (ha : Evs w T va l) (hb : Evs w U vb l) :
  Calls Tryz.prog 20 #[va, vb] w fun e w' => e = .returned (.bool true) ∧ Ext w w' := by
 have hl := ha.1.le
 unfold maxLen at hl
 obtain ⟨n, hn⟩ : ∃ n, l.length = n := ⟨_, rfl⟩
 obtain ⟨A, c, rfl⟩ := ha.form
 obtain ⟨A', c', rfl⟩ := hb.form
 rw [hn] at ha hb hl ⊢
 have hnb : ((n : Int) != (n : Int)) = false := by simp
 have Ha := Lib.hid ha
 have Hb := Lib.hid hb
 clear hn ha hb
 go_enter Tryz.func20, Tryz.ntmps20
 go_wp2
 go_loopw [5] (fun iv wr => ∃ i : Nat, i ≤ n ∧ iv = .int .i64 i ∧ Ext w wr) (fun iv _ => n - (intOf iv).toNat)
 case atStart => exact ⟨0, by omega, rfl, Mod.refl _ w⟩
 case round =>
  obtain ⟨i, hin, rfl, hE⟩ := hrel
  have HX := Lib.hid hE
  clear hE
  by_cases hi : i < n
  case neg =>
   go_wp2
   go_ret
   exact ⟨rfl, HX.out⟩
  obtain ⟨g, off, x, rfl, hgT, hx, hxok, hcells⟩ := (Ha.out.ext HX.out).at hi
  obtain ⟨g', off', y, rfl, hgT', hy, hyok, hcells'⟩ := (Hb.out.ext HX.out).at hi
  obtain rfl : x = y := by rw [hx] at hy; injection hy
  have hi0 : (0 : Int) ≤ (i : Int) := by omega
  have hi1 : (i : Int) < (n : Int) := by omega
  have x0 : wr.cell? ⟨g, off + i * 16, none⟩ = some _ := hcells 0 _ rfl
  have y0 : wr.cell? ⟨g', off' + i * 16, none⟩ = some _ := hcells' 0 _ rfl
  have x1 : wr.cell? ⟨g, off + i * 16 + 1, none⟩ = some _ := hcells 1 _ rfl
  have y1 : wr.cell? ⟨g', off' + i * 16 + 1, none⟩ = some _ := hcells' 1 _ rfl
  have x2 : wr.cell? ⟨g, off + i * 16 + 1 + 1, none⟩ = some _ := hcells 2 _ rfl
  have y2 : wr.cell? ⟨g', off' + i * 16 + 1 + 1, none⟩ = some _ := hcells' 2 _ rfl
  have x3 : wr.cell? ⟨g, off + i * 16 + 1 + 2, none⟩ = some _ := hcells 3 _ rfl
  have y3 : wr.cell? ⟨g', off' + i * 16 + 1 + 2, none⟩ = some _ := hcells' 3 _ rfl
  have x4 : wr.cell? ⟨g, off + i * 16 + 1 + 3, none⟩ = some _ := hcells 4 _ rfl
  have y4 : wr.cell? ⟨g', off' + i * 16 + 1 + 3, none⟩ = some _ := hcells' 4 _ rfl
  have x5 : wr.cell? ⟨g, off + i * 16 + 1 + 4, none⟩ = some _ := hcells 5 _ rfl
  have y5 : wr.cell? ⟨g', off' + i * 16 + 1 + 4, none⟩ = some _ := hcells' 5 _ rfl
  have x6 : wr.cell? ⟨g, off + i * 16 + 1 + 5, none⟩ = some _ := hcells 6 _ rfl
  have y6 : wr.cell? ⟨g', off' + i * 16 + 1 + 5, none⟩ = some _ := hcells' 6 _ rfl
  have x7 : wr.cell? ⟨g, off + i * 16 + 1 + 6, none⟩ = some _ := hcells 7 _ rfl
  have y7 : wr.cell? ⟨g', off' + i * 16 + 1 + 6, none⟩ = some _ := hcells' 7 _ rfl
  have x8 : wr.cell? ⟨g, off + i * 16 + 1 + 7, none⟩ = some _ := hcells 8 _ rfl
  have y8 : wr.cell? ⟨g', off' + i * 16 + 1 + 7, none⟩ = some _ := hcells' 8 _ rfl
  have x9 : wr.cell? ⟨g, off + i * 16 + 1 + 8, none⟩ = some _ := hcells 9 _ rfl
  have y9 : wr.cell? ⟨g', off' + i * 16 + 1 + 8, none⟩ = some _ := hcells' 9 _ rfl
  have x10 : wr.cell? ⟨g, off + i * 16 + 1 + 9, none⟩ = some _ := hcells 10 _ rfl
  have y10 : wr.cell? ⟨g', off' + i * 16 + 1 + 9, none⟩ = some _ := hcells' 10 _ rfl
  have x11 : wr.cell? ⟨g, off + i * 16 + 1 + 10, none⟩ = some _ := hcells 11 _ rfl
  have y11 : wr.cell? ⟨g', off' + i * 16 + 1 + 10, none⟩ = some _ := hcells' 11 _ rfl
  have x12 : wr.cell? ⟨g, off + i * 16 + 1 + 11, none⟩ = some _ := hcells 12 _ rfl
  have y12 : wr.cell? ⟨g', off' + i * 16 + 1 + 11, none⟩ = some _ := hcells' 12 _ rfl
  have x13 : wr.cell? ⟨g, off + i * 16 + 1 + 12, none⟩ = some _ := hcells 13 _ rfl
  have y13 : wr.cell? ⟨g', off' + i * 16 + 1 + 12, none⟩ = some _ := hcells' 13 _ rfl
  have x14 : wr.cell? ⟨g, off + i * 16 + 1 + 13, none⟩ = some _ := hcells 14 _ rfl
  have y14 : wr.cell? ⟨g', off' + i * 16 + 1 + 13, none⟩ = some _ := hcells' 14 _ rfl
  have x15 : wr.cell? ⟨g, off + i * 16 + 1 + 14, none⟩ = some _ := hcells 15 _ rfl
  have y15 : wr.cell? ⟨g', off' + i * 16 + 1 + 14, none⟩ = some _ := hcells' 15 _ rfl
  have gl : g < wr.heap.size := World.block_lt_of_cell? _ _ x0
  have gl' : g' < wr.heap.size := World.block_lt_of_cell? _ _ y0
  have dn : (x.ask != x.ask) = false := by cases x.ask <;> rfl
  clear hcells hcells' hx hy hxok hyok hgT hgT'
  go_wp2_with fail
  refine wp_region_held_drew (S := fun W' => Ext wr W') (by kernel_rfl) (Mod.refl _ wr).drew (fun hS => ?_)
  refine tkE 0 (some 17) rfl rfl ?_ hS ?_ ?_; rotate_left; · rintro W' _ _; go_simp; try with_reducible rfl
  try simp only [pL]
  refine tkE 1 (some 18) rfl rfl ?_ hS ?_ ?_; rotate_left; · rintro W' _ _; go_simp; try with_reducible rfl
  try simp only [pL]
  refine tkE 2 (some 19) rfl rfl ?_ hS ?_ ?_; rotate_left; · rintro W' _ _; go_simp; try with_reducible rfl
  try simp only [pL]
  refine tkE 3 (some 20) rfl rfl ?_ hS ?_ ?_; rotate_left; · rintro W' _ _; go_simp; try with_reducible rfl
  try simp only [pL]
  refine tkE 4 (some 21) rfl rfl ?_ hS ?_ ?_; rotate_left; · rintro W' _ _; go_simp; try with_reducible rfl
  try simp only [pL]
  refine tkE 5 (some 22) rfl rfl ?_ hS ?_ ?_; rotate_left; · rintro W' _ _; go_simp; try with_reducible rfl
  try simp only [pL]
  refine tkE 6 (some 23) rfl rfl ?_ hS ?_ ?_; rotate_left; · rintro W' _ _; go_simp; try with_reducible rfl
  try simp only [pL]
  refine tkE 7 (some 24) rfl rfl ?_ hS ?_ ?_; rotate_left; · rintro W' _ _; go_simp; try with_reducible rfl
  try simp only [pL]
  refine tkE 8 (some 25) rfl rfl ?_ hS ?_ ?_; rotate_left; · rintro W' _ _; go_simp; try with_reducible rfl
  try simp only [pL]
  refine tkE 9 (some 26) rfl rfl ?_ hS ?_ ?_; rotate_left; · rintro W' _ _; go_simp; try with_reducible rfl
  try simp only [pL]
  refine tkE 10 (some 27) rfl rfl ?_ hS ?_ ?_; rotate_left; · rintro W' _ _; go_simp; try with_reducible rfl
  try simp only [pL]
  refine tkE 11 (some 28) rfl rfl ?_ hS ?_ ?_; rotate_left; · rintro W' _ _; go_simp; try with_reducible rfl
  try simp only [pL]
  refine tkE 12 (some 29) rfl rfl ?_ hS ?_ ?_; rotate_left; · rintro W' _ _; go_simp; try with_reducible rfl
  try simp only [pL]
  refine tkE 13 (some 30) rfl rfl ?_ hS ?_ ?_; rotate_left; · rintro W' _ _; go_simp; try with_reducible rfl
  try simp only [pL]
  refine tkE 14 (some 31) rfl rfl ?_ hS ?_ ?_; rotate_left; · rintro W' _ _; go_simp; try with_reducible rfl
  try simp only [pL]
  refine tkE 15 (some 32) rfl rfl ?_ hS ?_ ?_; rotate_left; · rintro W' _ _; go_simp; try with_reducible rfl
  try simp only [pL]
  refine tkE 16 (some 33) rfl rfl ?_ hS ?_ ?_; rotate_left; · rintro W' _ _; go_simp; try with_reducible rfl
  try simp only [pL]
  refine tkE 17 (some 34) rfl rfl ?_ hS ?_ ?_; rotate_left; · rintro W' _ _; go_simp; try with_reducible rfl
  try simp only [pL]
  refine tkE 18 (some 35) rfl rfl ?_ hS ?_ ?_; rotate_left; · rintro W' _ _; go_simp; try with_reducible rfl
  try simp only [pL]
  refine tkE 19 (some 36) rfl rfl ?_ hS ?_ ?_; rotate_left; · rintro W' _ _; go_simp; try with_reducible rfl
  try simp only [pL]
  refine tkE 20 (some 37) rfl rfl ?_ hS ?_ ?_; rotate_left; · rintro W' _ _; go_simp; try with_reducible rfl
  try simp only [pL]
  refine tkE 21 (some 38) rfl rfl ?_ hS ?_ ?_; rotate_left; · rintro W' _ _; go_simp; try with_reducible rfl
  try simp only [pL]
  refine wpAnyH_ready (rs := [22]) (by kernel_rfl) (by simp) ?_
  refine AllReadyH.cons rfl (fun K hK => ?_) AllReadyH.nil
  go_simp
  go_wp2_with fail
  refine (k_told_same x.told _).mono ?_
  rintro e w1 ⟨rfl, hE⟩
  have hX := Mod.ext hS hE
  clear hE hS
  go_simp
  refine hK.out _ _ hX (fun hS => ?_)
  clear hK K hX
  refine tkE 23 (some 40) rfl rfl ?_ hS ?_ ?_; rotate_left; · rintro W' _ _; go_simp; try with_reducible rfl
  try simp only [pL]
  refine tkE 24 (some 41) rfl rfl ?_ hS ?_ ?_; rotate_left; · rintro W' _ _; go_simp; try with_reducible rfl
  try simp only [pL]
  refine wpAnyH_done (by kernel_rfl) ?_ _
  have hE := hS
  clear hS
  replace HX := Lib.hid (HX.out.ext hE)
  clear hE
  clear x0 x1 x2 x3 x4 x5 x6 x7 x8 x9 x10 x11 x12 x13 x14 x15 y0 y1 y2 y3 y4 y5 y6 y7 y8 y9 y10 y11 y12 y13 y14 y15 gl gl' dn
  go_wp2
  exact ⟨⟨i + 1, by omega, by go_num, HX.out⟩, by simp [intOf]; omega⟩
end Go.Proofs.YtbclnghbgoblcaaGreat
