/-
 Layer 27 (script): the writer's call. Conditions: few words, the texts no longer than 100000 bytes; the package variables are as start-up lays them (Glb).
-/
import Derived.Test.YtmebipnljkopgaaGreatDoorScrZe
namespace Go.Proofs.YtmebipnljkopgaaGreatDoor
set_option linter.unusedSimpArgs false
set_option linter.unusedVariables false
open Go.RowKit
theorem cmds_opW (k : Nat) (h1 : 1 ≤ k) (h6 : k ≤ 6) : [bA [], bA [103, 101, 116], bA [112, 117, 116], bA [100, 101, 108], bA [99, 97, 115], bA [97, 100, 100], bA [109, 97, 120]].getD k ByteArray.empty = bA (opW k) := by
 have hk : k = 1 ∨ k = 2 ∨ k = 3 ∨ k = 4 ∨ k = 5 ∨ k = 6 := by omega
 rcases hk with rfl | rfl | rfl | rfl | rfl | rfl <;> rfl
/-- What an act's fields may be. -/
structure AOk (a : AAct) : Prop where
  node : -9223372036854775808 ≤ a.node ∧ a.node ≤ 9223372036854775807
  client : -9223372036854775808 ≤ a.client ∧ a.client ≤ 9223372036854775807
  n : -9223372036854775808 ≤ a.n ∧ a.n ≤ 9223372036854775807
  m : -9223372036854775808 ≤ a.m ∧ a.m ≤ 9223372036854775807
  conf : ∀ x ∈ [a.conf.full, a.conf.wit, a.conf.learn, a.conf.learnWit], -9223372036854775808 ≤ x ∧ x ≤ 9223372036854775807
  key : a.cmd.key.size ≤ 100000
  oldn : a.cmd.old.num < 18446744073709551616
  oldt : a.cmd.old.text.size ≤ 100000
  valn : a.cmd.val.num < 18446744073709551616
  valt : a.cmd.val.text.size ≤ 100000
  bytes : a.bytes.length ≤ 100000
set_option maxRecDepth 100000 in
set_option maxHeartbeats 1000000 in
theorem s_wcall (W : World) (hg : Glb W) (wb : Nat) (X : Nat → Prop) (a : AAct) (bv : Value) (hok : AOk a) (h : WrE W wb X []) (h9 : 9 ≤ wb) :
  Calls Tryz.prog 33 #[.pointer (some ⟨wb, 0, none⟩), .agg (a.cells bv).toArray] W (WeOut W wb X (callW a)) := by
 obtain ⟨b, hb⟩ : ∃ b, W.heap.size = b := ⟨_, rfl⟩
 have hwb := h.2.1
 have H := Lib.hid h
 have Hg := Lib.hid hg
 have Hok := Lib.hid hok
 clear h hg hok
 go_enter Tryz.func33, Tryz.ntmps33
 go_upto_region 1 with fail
 obtain ⟨W2, hW2⟩ : ∃ W2, W.alloc (.cells (a.cells bv).toArray 31) = W2 := ⟨_, rfl⟩
 have hE2 : Ext W W2 := hW2 ▸ ((Mod.refl _ W).alloc _)
 have hb2 : W2.heap[b]? = some (.cells (a.cells bv).toArray 31 (0, 0)) := hb ▸ hW2 ▸ heap_new _ _
 rw [hW2]
 clear hW2
 have p5 : W2.cell? ⟨b, 5, none⟩ = some (.int .i64 a.cmd.kind) := blk_cell hb2 rfl
 have HW2 := Lib.hid (H.out.add (b := b) hE2 (by omega) (Array.getElem?_eq_some_iff.1 hb2).1)
 have Hb2 := Lib.hid hb2
 have HE2 := Lib.hid hE2
 clear hb2 hE2
 by_cases hr : a.cmd.kind < 1 ∨ 6 < a.cmd.kind
 · have Hcw : Hid (callW a = []) := Lib.hid (by unfold callW; rw [if_pos hr])
   rcases hr with hr | hr
   all_goals
    go_wp2
    go_end0
    rw [Hcw.out]
    exact ⟨rfl, H.out.ext HE2.out, Ext.mod HE2.out _⟩
 obtain ⟨k, hk⟩ : ∃ k : Nat, a.cmd.kind = k := ⟨a.cmd.kind.toNat, by omega⟩
 have hk1 : 1 ≤ k := by omega
 have hk6 : k ≤ 6 := by omega
 rw [hk] at p5
 have Hcw : Hid (callW a = [opW k, Lib.itoa a.client, Lib.itoa a.node, 107 :: hexB (bsOf a.cmd.key)] ++ (if (k : Int) = 4 then [valW a.cmd.old] else []) ++ (if (k : Int) ≠ 1 ∧ (k : Int) ≠ 3 then [valW a.cmd.val] else [])) := Lib.hid (by unfold callW; rw [if_neg hr, hk])
 have Hk := Lib.hid hk
 clear hr hk
 obtain ⟨z, hz⟩ : ∃ z, bA (opW k) = z := ⟨_, rfl⟩
 have hco := cmds_opW k hk1 hk6
 rw [hz] at hco
 have hw1 := fun W' (h' : WrE W' wb (fun g => X g ∨ g = b) []) => e_word h' (opW k) (by simp)
 rw [hz] at hw1
 have Hco := Lib.hid hco
 have Hw1 := Lib.hid hw1
 clear hz hco hw1
 go_upto_region 2 with fail
 go_cut [21] (fun _ wx => WrE wx wb (fun g => X g ∨ g = b) [opW k] ∧ Mod (fun g => wb ≤ g ∧ ¬ (X g ∨ g = b)) W2 wx)
 case first =>
  go_region_with (first
   | (go_at_call 18; refine (c_cmds _).mono ?_; rintro e w5 ⟨cb, rfl, hC, hE5⟩; have hE25 : Ext W2 w5 := (by first | exact ((Mod.refl _ W2).drew).ext hE5 | exact hE5); have p5 : w5.cell? ⟨b, 5, none⟩ = some (.int .i64 (k : Int)) := hE25.cell (p := ⟨b, 5, none⟩) p5 id; have hck : w5.cell? ⟨cb, k, none⟩ = some (.string z) := (by have h := hC k (by omega); rw [Nat.zero_add] at h; rw [h, Hco.out]); clear hC hE5)
   | (go_at_call 30; refine (Hw1.out _ (HW2.out.ext hE25)).mono ?_; rintro e w6 ⟨rfl, hW6, hM6⟩))
  all_goals
   go_wp2_with fail
   go_meet
   exact ⟨hW6, (Ext.mod hE25 _).self hM6⟩
 case rest =>
  obtain ⟨hW6, hM6⟩ := hcut
  obtain ⟨W6, hW6e⟩ : ∃ W6, W6 = wc := ⟨_, rfl⟩
  subst hW6e
  have hb6 := hM6.blk Hb2.out (fun e => e.2 (.inr rfl))
  have hG2 := Hg.out.ext HE2.out
  have hG6 := hG2.mod hM6 (by rintro j hj e; omega)
  have hi6 := e_ints hW6 hG6 h9 [a.client, a.node] 3 (by simp) (by intro i hi; simp only [List.mem_cons, List.not_mem_nil, or_false] at hi; rcases hi with rfl | rfl; exact Hok.out.client; exact Hok.out.node)
  simp only [List.map_cons, List.map_nil, List.length_cons, List.length_nil] at hi6
  have p2 : W6.cell? ⟨b, 2, none⟩ = some (.int .i64 a.client) := blk_cell hb6 rfl
  have p1 : W6.cell? ⟨b, 1, none⟩ = some (.int .i64 a.node) := blk_cell hb6 rfl
  have Hb6 := Lib.hid hb6
  have HM6 := Lib.hid hM6
  clear hW6 hM6 hb6 hG2 hG6 p5
  go_upto_region 4 with (go_at_call 31; refine hi6.mono ?_; rintro e w7 ⟨rfl, hW7, hM7⟩)
  have hb7 := hM7.blk Hb6.out (fun e => e.2 (.inr rfl))
  have HM7 := Lib.hid (HM6.out.self hM7)
  have HW7 := Lib.hid hW7
  have p6 : w7.cell? ⟨b, 6, none⟩ = some (.string a.cmd.key) := blk_cell hb7 rfl
  have hhx := s_hex a.cmd.key w7 Hok.out.key
  obtain ⟨zz, hzz⟩ : ∃ zz, bA (hexB (bsOf a.cmd.key)) = zz := ⟨_, rfl⟩
  have hzs : zz.size ≤ 200000 := by
   rw [← hzz]; show (hexB (bsOf a.cmd.key)).length ≤ 200000
   rw [hexB_len]; have : (bsOf a.cmd.key).length = a.cmd.key.size := rfl
   have := Hok.out.key; omega
  rw [hzz] at hhx
  have hke : bA (107 :: hexB (bsOf a.cmd.key)) = (⟨#[107]⟩ : ByteArray) ++ zz := by rw [← hzz]; exact (bA_app [107] _).symm
  have hw8 := fun W' (h' : WrE W' wb (fun g => X g ∨ g = b) ([opW k] ++ [Lib.itoa a.client, Lib.itoa a.node])) => e_word h' (107 :: hexB (bsOf a.cmd.key)) (by simp)
  rw [hke] at hw8
  have Hw8 := Lib.hid hw8
  have Hb7 := Lib.hid hb7
  clear hW7 hM7 hb7 hi6 p2 p1 hzz hke hw8
  go_upto_region 5 with (first
   | (go_at_call 55; refine hhx.mono ?_; rintro e w8 ⟨rfl, hE8⟩)
   | (go_at_call 30; refine (Hw8.out _ (HW7.out.ext hE8)).mono ?_; rintro e w9 ⟨rfl, hW9, hM9⟩))
  have hb9 := hM9.blk (hE8.blk Hb7.out id) (fun e => e.2 (.inr rfl))
  have HM := Lib.hid ((HM7.out.ext hE8).self hM9)
  have HW := Lib.hid hW9
  have HB := Lib.hid hb9
  have HG := Lib.hid (((Hg.out.ext HE2.out).mod ((HM7.out.ext hE8).self hM9) (by rintro j hj e; omega)))
  have q5 : w9.cell? ⟨b, 5, none⟩ = some (.int .i64 (k : Int)) := by have h : w9.cell? ⟨b, 5, none⟩ = some (.int .i64 a.cmd.kind) := blk_cell hb9 rfl; rwa [Hk.out] at h
  clear hb9 hW9 hM9 hE8 hhx p6
  have hkc : k = 1 ∨ k = 2 ∨ k = 3 ∨ k = 4 ∨ k = 5 ∨ k = 6 := by omega
  rcases hkc with rfl | rfl | rfl | rfl | rfl | rfl
  · go_wp2
    go_end0
    rw [Hcw.out]
    exact ⟨rfl, HW.out.drop (fun g hg => .inl hg), (Ext.mod HE2.out (fun g => wb ≤ g ∧ ¬ X g)).self (HM.out.mono (fun g _ hg => ⟨hg.1, fun e => hg.2 (.inl e)⟩))⟩
  · have hld : (Instr.loadAt 24 (.pointer (some ⟨b, 10, none⟩))).run Tryz.prog w9 = .ok (.agg #[.int .i64 a.cmd.val.kind, .float .f64 a.cmd.val.num, .string a.cmd.val.text]) w9 := load_row (o := 10) (cs := [.int .i64 a.cmd.val.kind, .float .f64 a.cmd.val.num, .string a.cmd.val.text]) str_val HB.out rfl (fun j u hu => by rcases j with _ | _ | _ | j <;> first | exact hu | cases hu)
    have hv := e_value HW.out HG.out a.cmd.val Hok.out.valn Hok.out.valt (by simp)
    go_wp2_with (first
      | (refine wpList_ld rfl 24 _ rfl (.pointer (some ⟨b, 10, none⟩)) _ rfl hld ?_)
      | (go_at_call 56; refine hv.mono ?_; rintro e w10 ⟨rfl, hWa, hMa⟩))
    go_end0
    rw [Hcw.out]
    exact ⟨rfl, hWa.drop (fun g hg => .inl hg), (Ext.mod HE2.out (fun g => wb ≤ g ∧ ¬ X g)).self ((HM.out.self hMa).mono (fun g _ hg => ⟨hg.1, fun e => hg.2 (.inl e)⟩))⟩
  · go_wp2
    go_end0
    rw [Hcw.out]
    exact ⟨rfl, HW.out.drop (fun g hg => .inl hg), (Ext.mod HE2.out (fun g => wb ≤ g ∧ ¬ X g)).self (HM.out.mono (fun g _ hg => ⟨hg.1, fun e => hg.2 (.inl e)⟩))⟩
  · have hld : (Instr.loadAt 24 (.pointer (some ⟨b, 7, none⟩))).run Tryz.prog w9 = .ok (.agg #[.int .i64 a.cmd.old.kind, .float .f64 a.cmd.old.num, .string a.cmd.old.text]) w9 := load_row (o := 7) (cs := [.int .i64 a.cmd.old.kind, .float .f64 a.cmd.old.num, .string a.cmd.old.text]) str_val HB.out rfl (fun j u hu => by rcases j with _ | _ | _ | j <;> first | exact hu | cases hu)
    have hv := e_value HW.out HG.out a.cmd.old Hok.out.oldn Hok.out.oldt (by simp)
    go_upto_region 7 with (first
      | (refine wpList_ld rfl 24 _ rfl (.pointer (some ⟨b, 7, none⟩)) _ rfl hld ?_)
      | (go_at_call 56; refine hv.mono ?_; rintro e w10 ⟨rfl, hWa, hMa⟩))
    have HB' := Lib.hid (hMa.blk HB.out (fun e => e.2 (.inr rfl)))
    have HM' := Lib.hid (HM.out.self hMa)
    have HG' := Lib.hid (HG.out.mod hMa (by rintro j hj e; omega))
    have HW' := Lib.hid hWa
    have q5 : w10.cell? ⟨b, 5, none⟩ = some (.int .i64 4) := by have h : w10.cell? ⟨b, 5, none⟩ = some (.int .i64 a.cmd.kind) := blk_cell HB'.out rfl; rwa [Hk.out] at h
    clear hWa hMa hv hld
    
    have hld : (Instr.loadAt 24 (.pointer (some ⟨b, 10, none⟩))).run Tryz.prog w10 = .ok (.agg #[.int .i64 a.cmd.val.kind, .float .f64 a.cmd.val.num, .string a.cmd.val.text]) w10 := load_row (o := 10) (cs := [.int .i64 a.cmd.val.kind, .float .f64 a.cmd.val.num, .string a.cmd.val.text]) str_val HB'.out rfl (fun j u hu => by rcases j with _ | _ | _ | j <;> first | exact hu | cases hu)
    have hv := e_value HW'.out HG'.out a.cmd.val Hok.out.valn Hok.out.valt (by simp)
    go_wp2_with (first
      | (refine wpList_ld rfl 24 _ rfl (.pointer (some ⟨b, 10, none⟩)) _ rfl hld ?_)
      | (go_at_call 56; refine hv.mono ?_; rintro e w11 ⟨rfl, hWb, hMb⟩))
    go_end0
    rw [Hcw.out]
    exact ⟨rfl, hWb.drop (fun g hg => .inl hg), (Ext.mod HE2.out (fun g => wb ≤ g ∧ ¬ X g)).self ((HM'.out.self hMb).mono (fun g _ hg => ⟨hg.1, fun e => hg.2 (.inl e)⟩))⟩
  · have hld : (Instr.loadAt 24 (.pointer (some ⟨b, 10, none⟩))).run Tryz.prog w9 = .ok (.agg #[.int .i64 a.cmd.val.kind, .float .f64 a.cmd.val.num, .string a.cmd.val.text]) w9 := load_row (o := 10) (cs := [.int .i64 a.cmd.val.kind, .float .f64 a.cmd.val.num, .string a.cmd.val.text]) str_val HB.out rfl (fun j u hu => by rcases j with _ | _ | _ | j <;> first | exact hu | cases hu)
    have hv := e_value HW.out HG.out a.cmd.val Hok.out.valn Hok.out.valt (by simp)
    go_wp2_with (first
      | (refine wpList_ld rfl 24 _ rfl (.pointer (some ⟨b, 10, none⟩)) _ rfl hld ?_)
      | (go_at_call 56; refine hv.mono ?_; rintro e w10 ⟨rfl, hWa, hMa⟩))
    go_end0
    rw [Hcw.out]
    exact ⟨rfl, hWa.drop (fun g hg => .inl hg), (Ext.mod HE2.out (fun g => wb ≤ g ∧ ¬ X g)).self ((HM.out.self hMa).mono (fun g _ hg => ⟨hg.1, fun e => hg.2 (.inl e)⟩))⟩
  · have hld : (Instr.loadAt 24 (.pointer (some ⟨b, 10, none⟩))).run Tryz.prog w9 = .ok (.agg #[.int .i64 a.cmd.val.kind, .float .f64 a.cmd.val.num, .string a.cmd.val.text]) w9 := load_row (o := 10) (cs := [.int .i64 a.cmd.val.kind, .float .f64 a.cmd.val.num, .string a.cmd.val.text]) str_val HB.out rfl (fun j u hu => by rcases j with _ | _ | _ | j <;> first | exact hu | cases hu)
    have hv := e_value HW.out HG.out a.cmd.val Hok.out.valn Hok.out.valt (by simp)
    go_wp2_with (first
      | (refine wpList_ld rfl 24 _ rfl (.pointer (some ⟨b, 10, none⟩)) _ rfl hld ?_)
      | (go_at_call 56; refine hv.mono ?_; rintro e w10 ⟨rfl, hWa, hMa⟩))
    go_end0
    rw [Hcw.out]
    exact ⟨rfl, hWa.drop (fun g hg => .inl hg), (Ext.mod HE2.out (fun g => wb ≤ g ∧ ¬ X g)).self ((HM.out.self hMa).mono (fun g _ hg => ⟨hg.1, fun e => hg.2 (.inl e)⟩))⟩
end Go.Proofs.YtmebipnljkopgaaGreatDoor
