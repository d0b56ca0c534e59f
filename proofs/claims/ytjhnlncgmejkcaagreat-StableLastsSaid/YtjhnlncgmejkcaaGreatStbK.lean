/-
 Contracts of kv.Right, sess.Right and of the page's Cmd and Call, for layer 11 (printed by stbk.py from the texts of layers 6 and 7). Conditions: as each theorem names them.
-/
import Derived.Test.YtjhnlncgmejkcaaGreatS1
import Derived.Test.YtjhnlncgmejkcaaGreatS2
import Derived.Test.YtjhnlncgmejkcaaGreatS4
import Derived.Deep.QuietTactic
import Derived.BigQuiet
import Derived.Deep.RegionHeld3
import Derived.Deep.MidRow
namespace Go.Proofs.YtjhnlncgmejkcaaGreat
set_option linter.unusedSimpArgs false
open Go.RowKit
attribute [local go_sem] call_frombits call_bits

set_option maxRecDepth 100000 in
set_option maxHeartbeats 400000 in
theorem r_nought (x : Nat) (w : World) : Calls Tryz.prog 204 #[.float .f64 x] w fun e w' => e = .returned (.bool (decide (x = 0))) ∧ w = w' := by
 have h : ((x : Int) == 0) = decide (x = 0) := by rw [Bool.eq_iff_iff]; simp
 go_enter Tryz.func204, Tryz.ntmps204
 go_wp2
 go_ret
 exact ⟨rfl, rfl⟩
set_option maxRecDepth 100000 in
set_option maxHeartbeats 2000000 in
theorem r_check (v : AVal) (w : World) : Calls Tryz.prog 197 #[.agg #[.int .i64 v.kind, .float .f64 v.num, .string v.text]] w fun e w' => e = .returned (.int .i64 (chk v)) ∧ Ext w w' := by
 obtain ⟨k, x, t⟩ := v
 have hT : t.toList.isEmpty = isEmptyT t := rfl
 have hE : Ext w (w.alloc (.cells #[.int .i64 k, .float .f64 x, .string t] 50)) := (Mod.refl _ w).alloc _
 have e1 : (FloatKind.f64.format.order x x != some Ordering.eq) = isNaN x := rfl
 simp only
 by_cases h0 : k = 0
 ·
  subst h0
  rw [chk0, same_zero]
  rcases he : isEmptyT t with _ | _
  ·
   rw [he] at hT
   rw [Bool.and_false]
   go_enter Tryz.func197, Tryz.ntmps197
   go_wp2_with (first | (go_at_call 204; refine (r_nought _ _).mono ?_; rintro e w' ⟨rfl, rfl⟩) | (go_at_call 147; refine (refnan_any _).mono ?_; rintro e w' ⟨rfl, rfl⟩))
   go_ret
   exact ⟨rfl, hE⟩
  ·
   rw [he] at hT
   by_cases hx : x = 0
   ·
    subst hx
    have e2 : (FloatKind.f64.format.order 0 0 != some Ordering.eq) = false := by kernel_rfl
    clear e1
    go_enter Tryz.func197, Tryz.ntmps197
    go_wp2_with (first | (go_at_call 204; refine (r_nought _ _).mono ?_; rintro e w' ⟨rfl, rfl⟩) | (go_at_call 147; refine (refnan_any _).mono ?_; rintro e w' ⟨rfl, rfl⟩))
    go_ret
    exact ⟨rfl, hE⟩
   ·
    have d : decide (x = 0) = false := by simpa using hx
    rw [d]
    clear hx
    go_enter Tryz.func197, Tryz.ntmps197
    go_wp2_with (first | (go_at_call 204; refine (r_nought _ _).mono ?_; rintro e w' ⟨rfl, rfl⟩) | (go_at_call 147; refine (refnan_any _).mono ?_; rintro e w' ⟨rfl, rfl⟩))
    go_ret
    exact ⟨rfl, hE⟩
 by_cases h1 : k = 1
 ·
  subst h1
  rw [chk1, canonB_iff]
  rcases he : isEmptyT t with _ | _
  ·
   rw [he] at hT
   rw [Bool.and_false]
   go_enter Tryz.func197, Tryz.ntmps197
   go_wp2_with (first | (go_at_call 204; refine (r_nought _ _).mono ?_; rintro e w' ⟨rfl, rfl⟩) | (go_at_call 147; refine (refnan_any _).mono ?_; rintro e w' ⟨rfl, rfl⟩))
   go_ret
   exact ⟨rfl, hE⟩
  ·
   rw [he] at hT
   rcases hn : isNaN x with _ | _
   ·
    rw [hn] at e1
    go_enter Tryz.func197, Tryz.ntmps197
    go_wp2_with (first | (go_at_call 204; refine (r_nought _ _).mono ?_; rintro e w' ⟨rfl, rfl⟩) | (go_at_call 147; refine (refnan_any _).mono ?_; rintro e w' ⟨rfl, rfl⟩))
    go_ret
    exact ⟨rfl, hE⟩
   ·
    rw [hn] at e1
    by_cases hx : x = theNaN
    ·
     subst hx
     go_enter Tryz.func197, Tryz.ntmps197
     go_wp2_with (first | (go_at_call 204; refine (r_nought _ _).mono ?_; rintro e w' ⟨rfl, rfl⟩) | (go_at_call 147; refine (refnan_any _).mono ?_; rintro e w' ⟨rfl, rfl⟩))
     go_ret
     exact ⟨rfl, hE⟩
    ·
     have d : ((x : Int) != (theNaN : Int)) = true := by rw [bne_iff_ne]; omega
     have d2 : decide (true = true ∧ x ≠ theNaN) = true := by simpa using hx
     rw [d2]
     clear d2 hx
     go_enter Tryz.func197, Tryz.ntmps197
     go_wp2_with (first | (go_at_call 204; refine (r_nought _ _).mono ?_; rintro e w' ⟨rfl, rfl⟩) | (go_at_call 147; refine (refnan_any _).mono ?_; rintro e w' ⟨rfl, rfl⟩))
     go_ret
     exact ⟨rfl, hE⟩
 by_cases h2 : k = 2
 ·
  subst h2
  rw [chk2, same_zero]
  by_cases hl : 32 < t.size
  ·
   rw [if_pos hl]
   have d : decide ((32 : Int) < (t.size : Int)) = true := by simp; omega
   go_enter Tryz.func197, Tryz.ntmps197
   go_wp2_with (first | (go_at_call 204; refine (r_nought _ _).mono ?_; rintro e w' ⟨rfl, rfl⟩) | (go_at_call 147; refine (refnan_any _).mono ?_; rintro e w' ⟨rfl, rfl⟩))
   go_ret
   exact ⟨rfl, hE⟩
  ·
   rw [if_neg hl]
   have d : decide ((32 : Int) < (t.size : Int)) = false := by simp; omega
   by_cases hx : x = 0
   ·
    subst hx
    have e2 : (FloatKind.f64.format.order 0 0 != some Ordering.eq) = false := by kernel_rfl
    clear e1
    go_enter Tryz.func197, Tryz.ntmps197
    go_wp2_with (first | (go_at_call 204; refine (r_nought _ _).mono ?_; rintro e w' ⟨rfl, rfl⟩) | (go_at_call 147; refine (refnan_any _).mono ?_; rintro e w' ⟨rfl, rfl⟩))
    go_ret
    exact ⟨rfl, hE⟩
   ·
    have d : decide (x = 0) = false := by simpa using hx
    rw [d]
    clear hx
    go_enter Tryz.func197, Tryz.ntmps197
    go_wp2_with (first | (go_at_call 204; refine (r_nought _ _).mono ?_; rintro e w' ⟨rfl, rfl⟩) | (go_at_call 147; refine (refnan_any _).mono ?_; rintro e w' ⟨rfl, rfl⟩))
    go_ret
    exact ⟨rfl, hE⟩
 ·
  rw [chk3 x t h0 h1 h2]
  by_cases hk : k < 0
  ·
   have d : decide (k < 0) = true := by simpa using hk
   clear h0 h1 h2
   go_enter Tryz.func197, Tryz.ntmps197
   go_wp2_with (first | (go_at_call 204; refine (r_nought _ _).mono ?_; rintro e w' ⟨rfl, rfl⟩) | (go_at_call 147; refine (refnan_any _).mono ?_; rintro e w' ⟨rfl, rfl⟩))
   go_ret
   exact ⟨rfl, hE⟩
  ·
   have d : decide (k < 0) = false := by simpa using hk
   have d2 : decide (2 < k) = true := by rw [decide_eq_true_iff]; omega
   clear h0 h1 h2
   go_enter Tryz.func197, Tryz.ntmps197
   go_wp2_with (first | (go_at_call 204; refine (r_nought _ _).mono ?_; rintro e w' ⟨rfl, rfl⟩) | (go_at_call 147; refine (refnan_any _).mono ?_; rintro e w' ⟨rfl, rfl⟩))
   go_ret
   exact ⟨rfl, hE⟩
set_option maxRecDepth 100000 in
set_option maxHeartbeats 400000 in
theorem r_zero (v : AVal) (w : World) : Calls Tryz.prog 196 #[.agg #[.int .i64 v.kind, .float .f64 v.num, .string v.text]] w fun e w' => e = .returned (.bool (zeroV v)) ∧ Ext w w' := by
 have hE : Ext w (w.alloc (.cells #[.int .i64 v.kind, .float .f64 v.num, .string v.text] 50)) := (Mod.refl _ w).alloc _
 unfold zeroV
 rcases h : (v.kind == 0) with _ | _
 ·
  go_enter Tryz.func196, Tryz.ntmps196
  go_wp2
  go_ret
  exact ⟨rfl, hE⟩
 ·
  go_enter Tryz.func196, Tryz.ntmps196
  go_wp2_with fail
  refine (r_check v _).mono ?_
  rintro e w1 ⟨rfl, hE1⟩
  have HE := Lib.hid (Mod.ext hE hE1)
  clear hE hE1
  go_wp2
  go_ret
  exact ⟨rfl, HE.out⟩
set_option maxRecDepth 100000 in
set_option maxHeartbeats 400000 in
theorem kv_rightKey (k : ByteArray) (w : World) : Calls Tryz.prog 189 #[.string k] w fun e w' => e = .returned (.bool (rightKeyB k)) ∧ w = w' := by
 unfold rightKeyB
 have e1 : decide ((1 : Int) ≤ (k.size : Int)) = decide (1 ≤ k.size) := by rw [decide_eq_decide]; omega
 have e2 : decide ((k.size : Int) ≤ 8) = decide (k.size ≤ 8) := by rw [decide_eq_decide]; omega
 rcases h : decide (1 ≤ k.size) with _ | _
 all_goals
  rw [h] at e1
  go_enter Tryz.func189, Tryz.ntmps189
  go_wp2
  go_ret
  exact ⟨rfl, rfl⟩
theorem noneV_zero (v : AVal) : noneV v = zeroV v := by
 unfold noneV zeroV
 rcases h : (v.kind == 0) with _ | _
 ·
  rfl
 ·
  obtain ⟨k, x, t⟩ := v
  have : k = 0 := by simpa using h
  subst this
  rw [chk0]
  simp only [Bool.true_and]
  rcases (sameNum x 0 && isEmptyT t) with _ | _ <;> rfl
set_option maxRecDepth 100000 in
set_option maxHeartbeats 400000 in
theorem kv_none (v : AVal) (w : World) : Calls Tryz.prog 191 #[.agg #[.int .i64 v.kind, .float .f64 v.num, .string v.text]] w fun e w' => e = .returned (.bool (zeroV v)) ∧ Ext w w' := by
 rw [← noneV_zero]
 unfold noneV
 have hT : v.text.toList.isEmpty = isEmptyT v.text := rfl
 have hE : Ext w (w.alloc (.cells #[.int .i64 v.kind, .float .f64 v.num, .string v.text] 50)) := (Mod.refl _ w).alloc _
 rcases h1 : (v.kind == 0) with _ | _
 ·
  go_enter Tryz.func191, Tryz.ntmps191
  go_wp2
  go_ret
  exact ⟨rfl, hE⟩
 ·
  rcases h2 : sameNum v.num 0 with _ | _
  all_goals
   go_enter Tryz.func191, Tryz.ntmps191
   go_wp2_with (go_at_call 188; refine (nsame _ _ _).mono ?_; rintro e w' ⟨rfl, rfl⟩)
   go_ret
   exact ⟨rfl, hE⟩
theorem range_ext {W w1 : World} {b o : Nat} {cs : List Value} (h : W.rangeAt b o cs) (hE : Ext W w1) : w1.rangeAt b o cs := fun j v hv => hE.cell (h j v hv) id
theorem cmdE_kind {c : ACmd} (h : c.kind < 1 ∨ 6 < c.kind) : cmdE c = 15 := by unfold cmdE; rw [if_pos h]
theorem cmdE_long {c : ACmd} (h : ¬ (c.kind < 1 ∨ 6 < c.kind)) (h2 : 8 < c.key.size) : cmdE c = 2 := by unfold cmdE; rw [if_neg h, if_pos h2]
theorem cmdE_type {c : ACmd} (h : ¬ (c.kind < 1 ∨ 6 < c.kind)) (h2 : ¬ 8 < c.key.size) (h3 : c.key.size < 1 ∨ (c.kind ≠ 4 ∧ zeroV c.old = false) ∨ chk c.old ≠ 0 ∨ chk c.val ≠ 0) : cmdE c = 8 := by unfold cmdE; rw [if_neg h, if_neg h2, if_pos h3]
/-- What is left to be asked. -/
def restV (c : ACmd) : Bool := (c.kind == 4 || zeroV c.old) && okV c
theorem cmdE_rest {c : ACmd} (h : ¬ (c.kind < 1 ∨ 6 < c.kind)) (h2 : ¬ 8 < c.key.size) (h3 : ¬ c.key.size < 1) (h4 : chk c.old = 0) (h5 : chk c.val = 0) : cmdE c = if restV c = true then 0 else 8 := by
 unfold cmdE restV
 rw [if_neg h, if_neg h2]
 by_cases hk : c.kind = 4
 ·
  rw [if_neg (by simp [h3, h4, h5, hk])]
  have : (c.kind == 4) = true := by simpa using hk
  rw [this]; simp
 ·
  have : (c.kind == 4) = false := by simpa using hk
  rw [this]
  rcases hz : zeroV c.old with _ | _
  ·
   rw [if_pos (.inr (.inl ⟨hk, rfl⟩))]; simp
  ·
   rw [if_neg (by simp [h3, h4, h5])]; simp
theorem restV_cases (c : ACmd) : (c.kind = 1 → restV c = (zeroV c.old && zeroV c.val)) ∧ (c.kind = 2 → restV c = (zeroV c.old && (c.val.kind != 0))) ∧ (c.kind = 3 → restV c = (zeroV c.old && zeroV c.val)) ∧
  (c.kind = 4 → restV c = true) ∧ (c.kind = 5 → restV c = (zeroV c.old && (c.val.kind == 1))) ∧ (c.kind = 6 → restV c = (zeroV c.old && (c.val.kind == 1))) := by
 refine ⟨fun h => ?_, fun h => ?_, fun h => ?_, fun h => ?_, fun h => ?_, fun h => ?_⟩ <;> simp [restV, okV, h]

set_option maxRecDepth 100000 in
set_option maxHeartbeats 4000000 in
theorem kv_right (c : ACmd) (w : World) : Calls Tryz.prog 163 #[.agg #[.int .i64 c.kind, .string c.key, .int .i64 c.old.kind, .float .f64 c.old.num, .string c.old.text, .int .i64 c.val.kind, .float .f64 c.val.num, .string c.val.text]] w fun e w' => e = .returned (.int .i64 (cmdE c)) ∧ Ext w w' := by
 have hE : Ext w (w.alloc (.cells #[.int .i64 c.kind, .string c.key, .int .i64 c.old.kind, .float .f64 c.old.num, .string c.old.text, .int .i64 c.val.kind, .float .f64 c.val.num, .string c.val.text] 52)) := (Mod.refl _ w).alloc _
 have d0 : decide (c.kind < 1) = decide (c.kind < 1) := rfl
 by_cases hk1 : c.kind < 1
 ·
  rw [cmdE_kind (.inl hk1)]
  have d : decide (c.kind < 1) = true := by simpa using hk1
  go_enter Tryz.func163, Tryz.ntmps163
  go_wp2
  go_ret
  exact ⟨rfl, hE⟩
 have d1 : decide (c.kind < 1) = false := by simpa using hk1
 by_cases hk2 : 6 < c.kind
 ·
  rw [cmdE_kind (.inr hk2)]
  have d : decide (6 < c.kind) = true := by simpa using hk2
  go_enter Tryz.func163, Tryz.ntmps163
  go_wp2
  go_ret
  exact ⟨rfl, hE⟩
 have d2 : decide (6 < c.kind) = false := by simpa using hk2
 have hk : ¬ (c.kind < 1 ∨ 6 < c.kind) := by omega
 by_cases hl : 8 < c.key.size
 ·
  rw [cmdE_long hk hl]
  have d : decide ((8 : Int) < (c.key.size : Int)) = true := by simp; omega
  go_enter Tryz.func163, Tryz.ntmps163
  go_wp2
  go_ret
  exact ⟨rfl, hE⟩
 have d3 : decide ((8 : Int) < (c.key.size : Int)) = false := by simp; omega
 by_cases hs : c.key.size < 1
 ·
  rw [cmdE_type hk hl (.inl hs)]
  have r : rightKeyB c.key = false := by unfold rightKeyB; have : ¬ 1 ≤ c.key.size := by omega
                                         simp [this]
  go_enter Tryz.func163, Tryz.ntmps163
  go_wp2_with (go_at_call 189; refine (kv_rightKey _ _).mono ?_; rintro e w' ⟨rfl, rfl⟩)
  go_ret
  exact ⟨rfl, hE⟩
 have r : rightKeyB c.key = true := by unfold rightKeyB; have h1 : 1 ≤ c.key.size := by omega
                                       have h2 : c.key.size ≤ 8 := by omega
                                       simp [h1, h2]
 obtain ⟨W, hW⟩ : ∃ W, W = w.alloc (.cells #[.int .i64 c.kind, .string c.key, .int .i64 c.old.kind, .float .f64 c.old.num, .string c.old.text, .int .i64 c.val.kind, .float .f64 c.val.num, .string c.val.text] 52) := ⟨_, rfl⟩
 have hcs : ∀ j u, c.cells[j]? = some u → W.cell? ⟨w.heap.size, j, none⟩ = some u := by
  intro j u hu
  rw [hW, cell_of_row _ _ _ _ _ _ (heap_alloc_new w _)]
  simpa using hu
 rw [← hW] at hE
 have HW := Lib.hid hW
 have Hcs := Lib.hid hcs
 have Hrest : Hid (chk c.old = 0 → chk c.val = 0 → cmdE c = if restV c = true then 0 else 8) := Lib.hid (cmdE_rest hk hl hs)
 have Htype : Hid (chk c.old ≠ 0 ∨ chk c.val ≠ 0 → cmdE c = 8) := Lib.hid (fun h => cmdE_type hk hl (.inr (.inr h)))
 clear hW hcs hl hs hk d0
 have hk3 : 1 ≤ c.kind ∧ c.kind ≤ 6 := by omega
 clear hk1 hk2
 go_enter Tryz.func163, Tryz.ntmps163
 go_wp2_with (go_at_call 189; refine (kv_rightKey _ _).mono ?_; rintro e w' ⟨rfl, rfl⟩)
 rw [← HW.out]
 refine (v_check c.old _).mono ?_
 rintro e w1 ⟨rfl, hE1⟩
 have hF1 := Mod.ext hE hE1
 have x5 := hE1.cell (Hcs.out 5 _ rfl) id
 have x6 := hE1.cell (Hcs.out 6 _ rfl) id
 have x7 := hE1.cell (Hcs.out 7 _ rfl) id
 have HE1 := Lib.hid hE1
 clear hE1
 by_cases ho : chk c.old = 0
 case neg =>
  have n : (chk c.old != 0) = true := by simpa using ho
  have Hc := Lib.hid (Htype.out (.inl ho))
  clear ho
  go_wp2
  go_ret
  exact ⟨ret_int Hc.out.symm, hF1⟩
 have n1 : (chk c.old != 0) = false := by simpa using ho
 go_wp2_with fail
 refine (v_check c.val _).mono ?_
 rintro e w2 ⟨rfl, hE2⟩
 have hF2 := Mod.ext hF1 hE2
 have hG2 := Mod.ext HE1.out hE2
 clear x5 x6 x7 hF1 hE2
 by_cases hv : chk c.val = 0
 case neg =>
  have n : (chk c.val != 0) = true := by simpa using hv
  have Hc := Lib.hid (Htype.out (.inr hv))
  clear hv ho
  go_wp2
  go_ret
  exact ⟨ret_int Hc.out.symm, hF2⟩
 have n2 : (chk c.val != 0) = false := by simpa using hv
 have Hc := Lib.hid (Hrest.out ho hv)
 clear ho hv
 have ro : w2.rangeAt w.heap.size 2 [.int .i64 c.old.kind, .float .f64 c.old.num, .string c.old.text] := by
  intro j u hu
  have hj : j < 3 := (List.getElem?_eq_some_iff.1 hu).1
  refine hG2.cell (Hcs.out (2 + j) u ?_) id
  rw [← hu]
  match j, hj with
  | 0, _ => rfl
  | 1, _ => rfl
  | 2, _ => rfl
 have rv : w2.rangeAt w.heap.size 5 [.int .i64 c.val.kind, .float .f64 c.val.num, .string c.val.text] := by
  intro j u hu
  have hj : j < 3 := (List.getElem?_eq_some_iff.1 hu).1
  refine hG2.cell (Hcs.out (5 + j) u ?_) id
  rw [← hu]
  match j, hj with
  | 0, _ => rfl
  | 1, _ => rfl
  | 2, _ => rfl
 have hu25 := Tryz.underlying50
 have hio : (Tryz.prog.info? 50).map (·.size) = some ([.int .i64 c.old.kind, .float .f64 c.old.num, .string c.old.text] : List Value).length := by kernel_rfl
 have hiv : (Tryz.prog.info? 50).map (·.size) = some ([.int .i64 c.val.kind, .float .f64 c.val.num, .string c.val.text] : List Value).length := by kernel_rfl
 go_wp2_with fail
 refine wp_region_held_drew (S := (fun W' => Ext w W' ∧ Ext W W' ∧ W'.rangeAt w.heap.size 2 [.int .i64 c.old.kind, .float .f64 c.old.num, .string c.old.text] ∧ W'.rangeAt w.heap.size 5 [.int .i64 c.val.kind, .float .f64 c.val.num, .string c.val.text])) (by kernel_rfl) ⟨hF2.drew, hG2.drew, ro, rv⟩ (fun hS => ?_)
 refine wpAnyH_take (i := 0) (v := .pointer (some ⟨w.heap.size, 2, none⟩)) rfl (by kernel_rfl) (by kernel_rfl) (by kernel_rfl) (fun _ _ _ h => h) (Or.inl ⟨by kernel_rfl, fun _ _ => by kernel_rfl⟩) hS ?_
 refine wpAnyH_take (i := 3) (v := .pointer (some ⟨w.heap.size, 5, none⟩)) rfl (by kernel_rfl) (by kernel_rfl) (by kernel_rfl) (fun _ _ _ h => h) (Or.inl ⟨by kernel_rfl, fun _ _ => by kernel_rfl⟩) hS ?_
 refine wpAnyH_take (i := 1) (v := .agg #[.int .i64 c.old.kind, .float .f64 c.old.num, .string c.old.text]) rfl (by kernel_rfl) (by kernel_rfl) (by kernel_rfl) (fun _ _ _ h => h) (yieldsIf_load_mid (by kernel_rfl) 50 _ rfl (w.heap.size) 2 (by kernel_rfl) [.int .i64 c.old.kind, .float .f64 c.old.num, .string c.old.text] _ (fun _ h => h.2.2.1) hu25 rfl hio) hS ?_
 refine wpAnyH_take (i := 4) (v := .agg #[.int .i64 c.val.kind, .float .f64 c.val.num, .string c.val.text]) rfl (by kernel_rfl) (by kernel_rfl) (by kernel_rfl) (fun _ _ _ h => h) (yieldsIf_load_mid (by kernel_rfl) 50 _ rfl (w.heap.size) 5 (by kernel_rfl) [.int .i64 c.val.kind, .float .f64 c.val.num, .string c.val.text] _ (fun _ h => h.2.2.2) hu25 rfl hiv) hS ?_
 refine wpAnyH_ready (rs := [2]) (by kernel_rfl) (by simp) ?_
 refine AllReadyH.cons rfl (fun K hK => ?_) AllReadyH.nil
 go_simp
 go_wp2_with fail
 refine (kv_none c.old _).mono ?_
 rintro e w3 ⟨rfl, hE3⟩
 have hX := (⟨Mod.ext hS.1 hE3, Mod.ext hS.2.1 hE3, range_ext hS.2.2.1 hE3, range_ext hS.2.2.2 hE3⟩ : Ext w w3 ∧ Ext W w3 ∧ w3.rangeAt w.heap.size 2 [.int .i64 c.old.kind, .float .f64 c.old.num, .string c.old.text] ∧ w3.rangeAt w.heap.size 5 [.int .i64 c.val.kind, .float .f64 c.val.num, .string c.val.text])
 go_simp
 refine hK.out _ _ hX (fun hS => ?_)
 clear hK K
 refine wpAnyH_ready (rs := [5]) (by kernel_rfl) (by simp) ?_
 refine AllReadyH.cons rfl (fun K hK => ?_) AllReadyH.nil
 go_simp
 go_wp2_with fail
 refine (kv_none c.val _).mono ?_
 rintro e w4 ⟨rfl, hE4⟩
 have hX := (⟨Mod.ext hS.1 hE4, Mod.ext hS.2.1 hE4, range_ext hS.2.2.1 hE4, range_ext hS.2.2.2 hE4⟩ : Ext w w4 ∧ Ext W w4 ∧ w4.rangeAt w.heap.size 2 [.int .i64 c.old.kind, .float .f64 c.old.num, .string c.old.text] ∧ w4.rangeAt w.heap.size 5 [.int .i64 c.val.kind, .float .f64 c.val.num, .string c.val.text])
 go_simp
 refine hK.out _ _ hX (fun hS => ?_)
 clear hK K
 refine wpAnyH_take (i := 6) (v := .bool (zeroV c.old)) rfl (by kernel_rfl) (by kernel_rfl) (by kernel_rfl) (fun _ _ _ h => h) (Or.inl ⟨by kernel_rfl, fun _ _ => by kernel_rfl⟩) hS ?_
 refine wpAnyH_take (i := 7) (v := .bool (zeroV c.val)) rfl (by kernel_rfl) (by kernel_rfl) (by kernel_rfl) (fun _ _ _ h => h) (Or.inl ⟨by kernel_rfl, fun _ _ => by kernel_rfl⟩) hS ?_
 refine wpAnyH_done (by kernel_rfl) ?_ _
 have hF4 := hX.1
 have y0 := hX.2.1.cell (Hcs.out 0 _ rfl) id
 have y5 := hX.2.1.cell (Hcs.out 5 _ rfl) id
 clear hX hS hE3 hE4 hF2 hG2 ro rv hu25 hio hiv
 have hkk : c.kind = 1 ∨ c.kind = 2 ∨ c.kind = 3 ∨ c.kind = 4 ∨ c.kind = 5 ∨ c.kind = 6 := by omega
 clear hk3 d1 d2 d3 r n1 n2
 obtain ⟨zo, hzo⟩ : ∃ b, zeroV c.old = b := ⟨_, rfl⟩
 obtain ⟨zv, hzv⟩ : ∃ b, zeroV c.val = b := ⟨_, rfl⟩
 rw [hzo, hzv]
 have hrest := restV_cases c
 rw [hzo, hzv] at hrest
 have HR := Lib.hid hrest
 clear hrest hzo hzv
 rcases hkk with h | h | h | h | h | h
 ·
  have H : Hid _ := Lib.hid (HR.out.1 h)
  have t1 : (c.kind == 1) = true := by rw [h]; rfl
  have t2 : (c.kind == 2) = false := by rw [h]; rfl
  have t3 : (c.kind == 3) = false := by rw [h]; rfl
  have t4 : (c.kind == 4) = false := by rw [h]; rfl
  have t5 : (c.kind == 5) = false := by rw [h]; rfl
  have t6 : (c.kind == 6) = false := by rw [h]; rfl
  clear h
  rcases zo with _ | _ <;> rcases zv with _ | _
  all_goals
   go_wp2
   go_ret
   exact ⟨ret_int (by rw [Hc.out, H.out]; rfl), hF4⟩
 ·
  have H : Hid _ := Lib.hid (HR.out.2.1 h)
  have t1 : (c.kind == 1) = false := by rw [h]; rfl
  have t2 : (c.kind == 2) = true := by rw [h]; rfl
  have t3 : (c.kind == 3) = false := by rw [h]; rfl
  have t4 : (c.kind == 4) = false := by rw [h]; rfl
  have t5 : (c.kind == 5) = false := by rw [h]; rfl
  have t6 : (c.kind == 6) = false := by rw [h]; rfl
  clear h
  rcases hq : (c.val.kind != 0) with _ | _ <;> rcases zo with _ | _
  all_goals
   rw [hq] at H
   go_wp2
   go_ret
   exact ⟨ret_int (by rw [Hc.out, H.out]; rfl), hF4⟩
 ·
  have H : Hid _ := Lib.hid (HR.out.2.2.1 h)
  have t1 : (c.kind == 1) = false := by rw [h]; rfl
  have t2 : (c.kind == 2) = false := by rw [h]; rfl
  have t3 : (c.kind == 3) = true := by rw [h]; rfl
  have t4 : (c.kind == 4) = false := by rw [h]; rfl
  have t5 : (c.kind == 5) = false := by rw [h]; rfl
  have t6 : (c.kind == 6) = false := by rw [h]; rfl
  clear h
  rcases zo with _ | _ <;> rcases zv with _ | _
  all_goals
   go_wp2
   go_ret
   exact ⟨ret_int (by rw [Hc.out, H.out]; rfl), hF4⟩
 ·
  have H : Hid _ := Lib.hid (HR.out.2.2.2.1 h)
  have t1 : (c.kind == 1) = false := by rw [h]; rfl
  have t2 : (c.kind == 2) = false := by rw [h]; rfl
  have t3 : (c.kind == 3) = false := by rw [h]; rfl
  have t4 : (c.kind == 4) = true := by rw [h]; rfl
  have t5 : (c.kind == 5) = false := by rw [h]; rfl
  have t6 : (c.kind == 6) = false := by rw [h]; rfl
  clear h
  go_wp2
  go_ret
  exact ⟨ret_int (by rw [Hc.out, H.out]; rfl), hF4⟩
 ·
  have H : Hid _ := Lib.hid (HR.out.2.2.2.2.1 h)
  have t1 : (c.kind == 1) = false := by rw [h]; rfl
  have t2 : (c.kind == 2) = false := by rw [h]; rfl
  have t3 : (c.kind == 3) = false := by rw [h]; rfl
  have t4 : (c.kind == 4) = false := by rw [h]; rfl
  have t5 : (c.kind == 5) = true := by rw [h]; rfl
  have t6 : (c.kind == 6) = false := by rw [h]; rfl
  clear h
  rcases hq : (c.val.kind == 1) with _ | _ <;> rcases zo with _ | _
  all_goals
   rw [hq] at H
   go_wp2
   go_ret
   exact ⟨ret_int (by rw [Hc.out, H.out]; rfl), hF4⟩
 ·
  have H : Hid _ := Lib.hid (HR.out.2.2.2.2.2 h)
  have t1 : (c.kind == 1) = false := by rw [h]; rfl
  have t2 : (c.kind == 2) = false := by rw [h]; rfl
  have t3 : (c.kind == 3) = false := by rw [h]; rfl
  have t4 : (c.kind == 4) = false := by rw [h]; rfl
  have t5 : (c.kind == 5) = false := by rw [h]; rfl
  have t6 : (c.kind == 6) = true := by rw [h]; rfl
  clear h
  rcases hq : (c.val.kind == 1) with _ | _ <;> rcases zo with _ | _
  all_goals
   rw [hq] at H
   go_wp2
   go_ret
   exact ⟨ret_int (by rw [Hc.out, H.out]; rfl), hF4⟩
set_option maxRecDepth 100000 in
set_option maxHeartbeats 4000000 in
theorem r_cmd (c : ACmd) (w : World) : Calls Tryz.prog 184 #[.agg #[.int .i64 c.kind, .string c.key, .int .i64 c.old.kind, .float .f64 c.old.num, .string c.old.text, .int .i64 c.val.kind, .float .f64 c.val.num, .string c.val.text]] w fun e w' => e = .returned (.int .i64 (cmdE c)) ∧ Ext w w' := by
 have hE : Ext w (w.alloc (.cells #[.int .i64 c.kind, .string c.key, .int .i64 c.old.kind, .float .f64 c.old.num, .string c.old.text, .int .i64 c.val.kind, .float .f64 c.val.num, .string c.val.text] 52)) := (Mod.refl _ w).alloc _
 by_cases hk1 : c.kind < 1
 ·
  rw [cmdE_kind (.inl hk1)]
  have d : decide (c.kind < 1) = true := by simpa using hk1
  go_enter Tryz.func184, Tryz.ntmps184
  go_wp2
  go_ret
  exact ⟨rfl, hE⟩
 have d1 : decide (c.kind < 1) = false := by simpa using hk1
 by_cases hk2 : 6 < c.kind
 ·
  rw [cmdE_kind (.inr hk2)]
  have d : decide (6 < c.kind) = true := by simpa using hk2
  go_enter Tryz.func184, Tryz.ntmps184
  go_wp2
  go_ret
  exact ⟨rfl, hE⟩
 have d2 : decide (6 < c.kind) = false := by simpa using hk2
 have hk : ¬ (c.kind < 1 ∨ 6 < c.kind) := by omega
 by_cases hl : 8 < c.key.size
 ·
  rw [cmdE_long hk hl]
  have d : decide ((8 : Int) < (c.key.size : Int)) = true := by simp; omega
  go_enter Tryz.func184, Tryz.ntmps184
  go_wp2
  go_ret
  exact ⟨rfl, hE⟩
 have d3 : decide ((8 : Int) < (c.key.size : Int)) = false := by simp; omega
 by_cases hs : c.key.size < 1
 ·
  rw [cmdE_type hk hl (.inl hs)]
  have d : decide ((c.key.size : Int) < 1) = true := by simp; omega
  go_enter Tryz.func184, Tryz.ntmps184
  go_wp2
  go_ret
  exact ⟨rfl, hE⟩
 have d4 : decide ((c.key.size : Int) < 1) = false := by simp; omega
 obtain ⟨W, hW⟩ : ∃ W, W = w.alloc (.cells #[.int .i64 c.kind, .string c.key, .int .i64 c.old.kind, .float .f64 c.old.num, .string c.old.text, .int .i64 c.val.kind, .float .f64 c.val.num, .string c.val.text] 52) := ⟨_, rfl⟩
 have hcs : ∀ j u, c.cells[j]? = some u → W.cell? ⟨w.heap.size, j, none⟩ = some u := by
  intro j u hu
  rw [hW, cell_of_row _ _ _ _ _ _ (heap_alloc_new w _)]
  simpa using hu
 rw [← hW] at hE
 have HW := Lib.hid hW
 have Hcs := Lib.hid hcs
 have Hrest : Hid (chk c.old = 0 → chk c.val = 0 → cmdE c = if restV c = true then 0 else 8) := Lib.hid (cmdE_rest hk hl hs)
 have Htype : Hid ((c.kind ≠ 4 ∧ zeroV c.old = false) ∨ chk c.old ≠ 0 ∨ chk c.val ≠ 0 → cmdE c = 8) := Lib.hid (fun h => cmdE_type hk hl (.inr h))
 clear hW hcs hl hs hk
 have hkk : c.kind = 1 ∨ c.kind = 2 ∨ c.kind = 3 ∨ c.kind = 4 ∨ c.kind = 5 ∨ c.kind = 6 := by omega
 clear hk1 hk2
 have HR := Lib.hid (restV_cases c)
 rcases hkk with h | h | h | h | h | h
 ·
  have H : Hid _ := Lib.hid (HR.out.1 h)
  have h4 : (c.kind != 4) = true := by rw [h]; rfl
  have Hn : Hid (c.kind = 1) := Lib.hid h
  have t1 : (c.kind == 1) = true := by rw [h]; rfl
  have t2 : (c.kind == 2) = false := by rw [h]; rfl
  have t3 : (c.kind == 3) = false := by rw [h]; rfl
  have t4 : (c.kind == 4) = false := by rw [h]; rfl
  have t5 : (c.kind == 5) = false := by rw [h]; rfl
  have t6 : (c.kind == 6) = false := by rw [h]; rfl
  clear h
  go_enter Tryz.func184, Tryz.ntmps184
  go_wp2_with fail
  rw [← HW.out]
  refine (r_zero c.old _).mono ?_
  rintro e w0 ⟨rfl, hE0⟩
  have hF0 := Mod.ext hE hE0
  rcases hz : zeroV c.old with _ | _
  ·
   have Hc := Lib.hid (Htype.out (.inl ⟨by rw [Hn.out]; decide, hz⟩))
   go_wp2
   go_ret
   exact ⟨ret_int Hc.out.symm, hF0⟩
  have x2 := hE0.cell (Hcs.out 2 _ rfl) id
  have x3 := hE0.cell (Hcs.out 3 _ rfl) id
  have x4 := hE0.cell (Hcs.out 4 _ rfl) id
  rw [hz] at H
  have HE0 := Lib.hid hE0
  clear hE0 hz
  go_wp2_with fail
  refine (r_check c.old _).mono ?_
  rintro e w1 ⟨rfl, hE1⟩
  have hF1 := Mod.ext hF0 hE1
  have hG1 := Mod.ext HE0.out hE1
  by_cases ho : chk c.old = 0
  case neg =>
   have n : (chk c.old != 0) = true := by simpa using ho
   have Hc := Lib.hid (Htype.out (.inr (.inl ho)))
   clear ho
   go_wp2
   go_ret
   exact ⟨ret_int Hc.out.symm, hF1⟩
  have n1 : (chk c.old != 0) = false := by simpa using ho
  have x5 := hG1.cell (Hcs.out 5 _ rfl) id
  have x6 := hG1.cell (Hcs.out 6 _ rfl) id
  have x7 := hG1.cell (Hcs.out 7 _ rfl) id
  have HG1 := Lib.hid hG1
  clear hE1 hG1
  go_wp2_with fail
  refine (r_check c.val _).mono ?_
  rintro e w2 ⟨rfl, hE2⟩
  have hF2 := Mod.ext hF1 hE2
  have hG2 := Mod.ext HG1.out hE2
  by_cases hv : chk c.val = 0
  case neg =>
   have n : (chk c.val != 0) = true := by simpa using hv
   have Hc := Lib.hid (Htype.out (.inr (.inr hv)))
   clear hv ho
   go_wp2
   go_ret
   exact ⟨ret_int Hc.out.symm, hF2⟩
  have n2 : (chk c.val != 0) = false := by simpa using hv
  have Hc := Lib.hid (Hrest.out ho hv)
  have y0 := hG2.cell (Hcs.out 0 _ rfl) id
  have y5 := hG2.cell (Hcs.out 5 _ rfl) id
  have y6 := hG2.cell (Hcs.out 6 _ rfl) id
  have y7 := hG2.cell (Hcs.out 7 _ rfl) id
  clear ho hv x5 x6 x7 hE2 hG2
  go_wp2_with fail
  refine (r_zero c.val _).mono ?_
  rintro e w3 ⟨rfl, hE3⟩
  have hF3 := Mod.ext hF2 hE3
  clear hE3
  rcases hz2 : zeroV c.val with _ | _
  all_goals
   rw [hz2] at H
   go_wp2
   go_ret
   exact ⟨ret_int (by rw [Hc.out, H.out]; rfl), hF3⟩
 ·
  have H : Hid _ := Lib.hid (HR.out.2.1 h)
  have h4 : (c.kind != 4) = true := by rw [h]; rfl
  have Hn : Hid (c.kind = 2) := Lib.hid h
  have t1 : (c.kind == 1) = false := by rw [h]; rfl
  have t2 : (c.kind == 2) = true := by rw [h]; rfl
  have t3 : (c.kind == 3) = false := by rw [h]; rfl
  have t4 : (c.kind == 4) = false := by rw [h]; rfl
  have t5 : (c.kind == 5) = false := by rw [h]; rfl
  have t6 : (c.kind == 6) = false := by rw [h]; rfl
  clear h
  go_enter Tryz.func184, Tryz.ntmps184
  go_wp2_with fail
  rw [← HW.out]
  refine (r_zero c.old _).mono ?_
  rintro e w0 ⟨rfl, hE0⟩
  have hF0 := Mod.ext hE hE0
  rcases hz : zeroV c.old with _ | _
  ·
   have Hc := Lib.hid (Htype.out (.inl ⟨by rw [Hn.out]; decide, hz⟩))
   go_wp2
   go_ret
   exact ⟨ret_int Hc.out.symm, hF0⟩
  have x2 := hE0.cell (Hcs.out 2 _ rfl) id
  have x3 := hE0.cell (Hcs.out 3 _ rfl) id
  have x4 := hE0.cell (Hcs.out 4 _ rfl) id
  rw [hz] at H
  have HE0 := Lib.hid hE0
  clear hE0 hz
  go_wp2_with fail
  refine (r_check c.old _).mono ?_
  rintro e w1 ⟨rfl, hE1⟩
  have hF1 := Mod.ext hF0 hE1
  have hG1 := Mod.ext HE0.out hE1
  by_cases ho : chk c.old = 0
  case neg =>
   have n : (chk c.old != 0) = true := by simpa using ho
   have Hc := Lib.hid (Htype.out (.inr (.inl ho)))
   clear ho
   go_wp2
   go_ret
   exact ⟨ret_int Hc.out.symm, hF1⟩
  have n1 : (chk c.old != 0) = false := by simpa using ho
  have x5 := hG1.cell (Hcs.out 5 _ rfl) id
  have x6 := hG1.cell (Hcs.out 6 _ rfl) id
  have x7 := hG1.cell (Hcs.out 7 _ rfl) id
  have HG1 := Lib.hid hG1
  clear hE1 hG1
  go_wp2_with fail
  refine (r_check c.val _).mono ?_
  rintro e w2 ⟨rfl, hE2⟩
  have hF2 := Mod.ext hF1 hE2
  have hG2 := Mod.ext HG1.out hE2
  by_cases hv : chk c.val = 0
  case neg =>
   have n : (chk c.val != 0) = true := by simpa using hv
   have Hc := Lib.hid (Htype.out (.inr (.inr hv)))
   clear hv ho
   go_wp2
   go_ret
   exact ⟨ret_int Hc.out.symm, hF2⟩
  have n2 : (chk c.val != 0) = false := by simpa using hv
  have Hc := Lib.hid (Hrest.out ho hv)
  have y0 := hG2.cell (Hcs.out 0 _ rfl) id
  have y5 := hG2.cell (Hcs.out 5 _ rfl) id
  have y6 := hG2.cell (Hcs.out 6 _ rfl) id
  have y7 := hG2.cell (Hcs.out 7 _ rfl) id
  clear ho hv x5 x6 x7 hE2 hG2
  rcases hq : (c.val.kind != 0) with _ | _
  all_goals
   rw [hq] at H
   go_wp2
   go_ret
   exact ⟨ret_int (by rw [Hc.out, H.out]; rfl), hF2⟩
 ·
  have H : Hid _ := Lib.hid (HR.out.2.2.1 h)
  have h4 : (c.kind != 4) = true := by rw [h]; rfl
  have Hn : Hid (c.kind = 3) := Lib.hid h
  have t1 : (c.kind == 1) = false := by rw [h]; rfl
  have t2 : (c.kind == 2) = false := by rw [h]; rfl
  have t3 : (c.kind == 3) = true := by rw [h]; rfl
  have t4 : (c.kind == 4) = false := by rw [h]; rfl
  have t5 : (c.kind == 5) = false := by rw [h]; rfl
  have t6 : (c.kind == 6) = false := by rw [h]; rfl
  clear h
  go_enter Tryz.func184, Tryz.ntmps184
  go_wp2_with fail
  rw [← HW.out]
  refine (r_zero c.old _).mono ?_
  rintro e w0 ⟨rfl, hE0⟩
  have hF0 := Mod.ext hE hE0
  rcases hz : zeroV c.old with _ | _
  ·
   have Hc := Lib.hid (Htype.out (.inl ⟨by rw [Hn.out]; decide, hz⟩))
   go_wp2
   go_ret
   exact ⟨ret_int Hc.out.symm, hF0⟩
  have x2 := hE0.cell (Hcs.out 2 _ rfl) id
  have x3 := hE0.cell (Hcs.out 3 _ rfl) id
  have x4 := hE0.cell (Hcs.out 4 _ rfl) id
  rw [hz] at H
  have HE0 := Lib.hid hE0
  clear hE0 hz
  go_wp2_with fail
  refine (r_check c.old _).mono ?_
  rintro e w1 ⟨rfl, hE1⟩
  have hF1 := Mod.ext hF0 hE1
  have hG1 := Mod.ext HE0.out hE1
  by_cases ho : chk c.old = 0
  case neg =>
   have n : (chk c.old != 0) = true := by simpa using ho
   have Hc := Lib.hid (Htype.out (.inr (.inl ho)))
   clear ho
   go_wp2
   go_ret
   exact ⟨ret_int Hc.out.symm, hF1⟩
  have n1 : (chk c.old != 0) = false := by simpa using ho
  have x5 := hG1.cell (Hcs.out 5 _ rfl) id
  have x6 := hG1.cell (Hcs.out 6 _ rfl) id
  have x7 := hG1.cell (Hcs.out 7 _ rfl) id
  have HG1 := Lib.hid hG1
  clear hE1 hG1
  go_wp2_with fail
  refine (r_check c.val _).mono ?_
  rintro e w2 ⟨rfl, hE2⟩
  have hF2 := Mod.ext hF1 hE2
  have hG2 := Mod.ext HG1.out hE2
  by_cases hv : chk c.val = 0
  case neg =>
   have n : (chk c.val != 0) = true := by simpa using hv
   have Hc := Lib.hid (Htype.out (.inr (.inr hv)))
   clear hv ho
   go_wp2
   go_ret
   exact ⟨ret_int Hc.out.symm, hF2⟩
  have n2 : (chk c.val != 0) = false := by simpa using hv
  have Hc := Lib.hid (Hrest.out ho hv)
  have y0 := hG2.cell (Hcs.out 0 _ rfl) id
  have y5 := hG2.cell (Hcs.out 5 _ rfl) id
  have y6 := hG2.cell (Hcs.out 6 _ rfl) id
  have y7 := hG2.cell (Hcs.out 7 _ rfl) id
  clear ho hv x5 x6 x7 hE2 hG2
  go_wp2_with fail
  refine (r_zero c.val _).mono ?_
  rintro e w3 ⟨rfl, hE3⟩
  have hF3 := Mod.ext hF2 hE3
  clear hE3
  rcases hz2 : zeroV c.val with _ | _
  all_goals
   rw [hz2] at H
   go_wp2
   go_ret
   exact ⟨ret_int (by rw [Hc.out, H.out]; rfl), hF3⟩
 ·
  have H : Hid _ := Lib.hid (HR.out.2.2.2.1 h)
  have h4 : (c.kind != 4) = false := by rw [h]; rfl
  have Hn : Hid (c.kind = 4) := Lib.hid h
  have t1 : (c.kind == 1) = false := by rw [h]; rfl
  have t2 : (c.kind == 2) = false := by rw [h]; rfl
  have t3 : (c.kind == 3) = false := by rw [h]; rfl
  have t4 : (c.kind == 4) = true := by rw [h]; rfl
  have t5 : (c.kind == 5) = false := by rw [h]; rfl
  have t6 : (c.kind == 6) = false := by rw [h]; rfl
  clear h
  go_enter Tryz.func184, Tryz.ntmps184
  go_wp2_with fail
  rw [← HW.out]
  refine (r_check c.old _).mono ?_
  rintro e w1 ⟨rfl, hE1⟩
  have hF1 := Mod.ext hE hE1
  have hG1 := Mod.ext (Mod.refl (fun _ => False) W) hE1
  by_cases ho : chk c.old = 0
  case neg =>
   have n : (chk c.old != 0) = true := by simpa using ho
   have Hc := Lib.hid (Htype.out (.inr (.inl ho)))
   clear ho
   go_wp2
   go_ret
   exact ⟨ret_int Hc.out.symm, hF1⟩
  have n1 : (chk c.old != 0) = false := by simpa using ho
  have x5 := hG1.cell (Hcs.out 5 _ rfl) id
  have x6 := hG1.cell (Hcs.out 6 _ rfl) id
  have x7 := hG1.cell (Hcs.out 7 _ rfl) id
  have HG1 := Lib.hid hG1
  clear hE1 hG1
  go_wp2_with fail
  refine (r_check c.val _).mono ?_
  rintro e w2 ⟨rfl, hE2⟩
  have hF2 := Mod.ext hF1 hE2
  have hG2 := Mod.ext HG1.out hE2
  by_cases hv : chk c.val = 0
  case neg =>
   have n : (chk c.val != 0) = true := by simpa using hv
   have Hc := Lib.hid (Htype.out (.inr (.inr hv)))
   clear hv ho
   go_wp2
   go_ret
   exact ⟨ret_int Hc.out.symm, hF2⟩
  have n2 : (chk c.val != 0) = false := by simpa using hv
  have Hc := Lib.hid (Hrest.out ho hv)
  have y0 := hG2.cell (Hcs.out 0 _ rfl) id
  have y5 := hG2.cell (Hcs.out 5 _ rfl) id
  have y6 := hG2.cell (Hcs.out 6 _ rfl) id
  have y7 := hG2.cell (Hcs.out 7 _ rfl) id
  clear ho hv x5 x6 x7 hE2 hG2
  go_wp2
  go_ret
  exact ⟨ret_int (by rw [Hc.out, H.out]; rfl), hF2⟩
 ·
  have H : Hid _ := Lib.hid (HR.out.2.2.2.2.1 h)
  have h4 : (c.kind != 4) = true := by rw [h]; rfl
  have Hn : Hid (c.kind = 5) := Lib.hid h
  have t1 : (c.kind == 1) = false := by rw [h]; rfl
  have t2 : (c.kind == 2) = false := by rw [h]; rfl
  have t3 : (c.kind == 3) = false := by rw [h]; rfl
  have t4 : (c.kind == 4) = false := by rw [h]; rfl
  have t5 : (c.kind == 5) = true := by rw [h]; rfl
  have t6 : (c.kind == 6) = false := by rw [h]; rfl
  clear h
  go_enter Tryz.func184, Tryz.ntmps184
  go_wp2_with fail
  rw [← HW.out]
  refine (r_zero c.old _).mono ?_
  rintro e w0 ⟨rfl, hE0⟩
  have hF0 := Mod.ext hE hE0
  rcases hz : zeroV c.old with _ | _
  ·
   have Hc := Lib.hid (Htype.out (.inl ⟨by rw [Hn.out]; decide, hz⟩))
   go_wp2
   go_ret
   exact ⟨ret_int Hc.out.symm, hF0⟩
  have x2 := hE0.cell (Hcs.out 2 _ rfl) id
  have x3 := hE0.cell (Hcs.out 3 _ rfl) id
  have x4 := hE0.cell (Hcs.out 4 _ rfl) id
  rw [hz] at H
  have HE0 := Lib.hid hE0
  clear hE0 hz
  go_wp2_with fail
  refine (r_check c.old _).mono ?_
  rintro e w1 ⟨rfl, hE1⟩
  have hF1 := Mod.ext hF0 hE1
  have hG1 := Mod.ext HE0.out hE1
  by_cases ho : chk c.old = 0
  case neg =>
   have n : (chk c.old != 0) = true := by simpa using ho
   have Hc := Lib.hid (Htype.out (.inr (.inl ho)))
   clear ho
   go_wp2
   go_ret
   exact ⟨ret_int Hc.out.symm, hF1⟩
  have n1 : (chk c.old != 0) = false := by simpa using ho
  have x5 := hG1.cell (Hcs.out 5 _ rfl) id
  have x6 := hG1.cell (Hcs.out 6 _ rfl) id
  have x7 := hG1.cell (Hcs.out 7 _ rfl) id
  have HG1 := Lib.hid hG1
  clear hE1 hG1
  go_wp2_with fail
  refine (r_check c.val _).mono ?_
  rintro e w2 ⟨rfl, hE2⟩
  have hF2 := Mod.ext hF1 hE2
  have hG2 := Mod.ext HG1.out hE2
  by_cases hv : chk c.val = 0
  case neg =>
   have n : (chk c.val != 0) = true := by simpa using hv
   have Hc := Lib.hid (Htype.out (.inr (.inr hv)))
   clear hv ho
   go_wp2
   go_ret
   exact ⟨ret_int Hc.out.symm, hF2⟩
  have n2 : (chk c.val != 0) = false := by simpa using hv
  have Hc := Lib.hid (Hrest.out ho hv)
  have y0 := hG2.cell (Hcs.out 0 _ rfl) id
  have y5 := hG2.cell (Hcs.out 5 _ rfl) id
  have y6 := hG2.cell (Hcs.out 6 _ rfl) id
  have y7 := hG2.cell (Hcs.out 7 _ rfl) id
  clear ho hv x5 x6 x7 hE2 hG2
  rcases hq : (c.val.kind == 1) with _ | _
  all_goals
   rw [hq] at H
   go_wp2
   go_ret
   exact ⟨ret_int (by rw [Hc.out, H.out]; rfl), hF2⟩
 ·
  have H : Hid _ := Lib.hid (HR.out.2.2.2.2.2 h)
  have h4 : (c.kind != 4) = true := by rw [h]; rfl
  have Hn : Hid (c.kind = 6) := Lib.hid h
  have t1 : (c.kind == 1) = false := by rw [h]; rfl
  have t2 : (c.kind == 2) = false := by rw [h]; rfl
  have t3 : (c.kind == 3) = false := by rw [h]; rfl
  have t4 : (c.kind == 4) = false := by rw [h]; rfl
  have t5 : (c.kind == 5) = false := by rw [h]; rfl
  have t6 : (c.kind == 6) = true := by rw [h]; rfl
  clear h
  go_enter Tryz.func184, Tryz.ntmps184
  go_wp2_with fail
  rw [← HW.out]
  refine (r_zero c.old _).mono ?_
  rintro e w0 ⟨rfl, hE0⟩
  have hF0 := Mod.ext hE hE0
  rcases hz : zeroV c.old with _ | _
  ·
   have Hc := Lib.hid (Htype.out (.inl ⟨by rw [Hn.out]; decide, hz⟩))
   go_wp2
   go_ret
   exact ⟨ret_int Hc.out.symm, hF0⟩
  have x2 := hE0.cell (Hcs.out 2 _ rfl) id
  have x3 := hE0.cell (Hcs.out 3 _ rfl) id
  have x4 := hE0.cell (Hcs.out 4 _ rfl) id
  rw [hz] at H
  have HE0 := Lib.hid hE0
  clear hE0 hz
  go_wp2_with fail
  refine (r_check c.old _).mono ?_
  rintro e w1 ⟨rfl, hE1⟩
  have hF1 := Mod.ext hF0 hE1
  have hG1 := Mod.ext HE0.out hE1
  by_cases ho : chk c.old = 0
  case neg =>
   have n : (chk c.old != 0) = true := by simpa using ho
   have Hc := Lib.hid (Htype.out (.inr (.inl ho)))
   clear ho
   go_wp2
   go_ret
   exact ⟨ret_int Hc.out.symm, hF1⟩
  have n1 : (chk c.old != 0) = false := by simpa using ho
  have x5 := hG1.cell (Hcs.out 5 _ rfl) id
  have x6 := hG1.cell (Hcs.out 6 _ rfl) id
  have x7 := hG1.cell (Hcs.out 7 _ rfl) id
  have HG1 := Lib.hid hG1
  clear hE1 hG1
  go_wp2_with fail
  refine (r_check c.val _).mono ?_
  rintro e w2 ⟨rfl, hE2⟩
  have hF2 := Mod.ext hF1 hE2
  have hG2 := Mod.ext HG1.out hE2
  by_cases hv : chk c.val = 0
  case neg =>
   have n : (chk c.val != 0) = true := by simpa using hv
   have Hc := Lib.hid (Htype.out (.inr (.inr hv)))
   clear hv ho
   go_wp2
   go_ret
   exact ⟨ret_int Hc.out.symm, hF2⟩
  have n2 : (chk c.val != 0) = false := by simpa using hv
  have Hc := Lib.hid (Hrest.out ho hv)
  have y0 := hG2.cell (Hcs.out 0 _ rfl) id
  have y5 := hG2.cell (Hcs.out 5 _ rfl) id
  have y6 := hG2.cell (Hcs.out 6 _ rfl) id
  have y7 := hG2.cell (Hcs.out 7 _ rfl) id
  clear ho hv x5 x6 x7 hE2 hG2
  rcases hq : (c.val.kind == 1) with _ | _
  all_goals
   rw [hq] at H
   go_wp2
   go_ret
   exact ⟨ret_int (by rw [Hc.out, H.out]; rfl), hF2⟩
theorem n_right (c s : Int) (w : World) : Calls Tryz.prog 162 #[.int .i64 c, .int .i64 s] w fun e w' => e = .returned (.bool (numB c s)) ∧ w' = w := by
 unfold numB
 by_cases h1 : 1 ≤ c
 case neg =>
  have d1 : decide (c ≥ 1) = false := decide_eq_false h1
  have d1' : decide (1 ≤ c) = false := decide_eq_false h1
  clear h1
  go_enter Tryz.func162, Tryz.ntmps162
  go_wp2
  go_ret
  exact ⟨by rw [d1']; rfl, rfl⟩
 have d1 : decide (c ≥ 1) = true := decide_eq_true h1
 have d1' : decide (1 ≤ c) = true := decide_eq_true h1
 clear h1
 by_cases h2 : c ≤ 4
 case neg =>
  have d2 : decide (c ≤ 4) = false := decide_eq_false h2
  clear h2
  go_enter Tryz.func162, Tryz.ntmps162
  go_wp2
  go_ret
  exact ⟨by rw [d1', d2]; rfl, rfl⟩
 have d2 : decide (c ≤ 4) = true := decide_eq_true h2
 clear h2
 by_cases h3 : 1 ≤ s
 case neg =>
  have d3 : decide (s ≥ 1) = false := decide_eq_false h3
  have d3' : decide (1 ≤ s) = false := decide_eq_false h3
  clear h3
  go_enter Tryz.func162, Tryz.ntmps162
  go_wp2
  go_ret
  exact ⟨by rw [d1', d2, d3']; rfl, rfl⟩
 have d3 : decide (s ≥ 1) = true := decide_eq_true h3
 have d3' : decide (1 ≤ s) = true := decide_eq_true h3
 clear h3
 by_cases h4 : s ≤ 1099511627776
 case neg =>
  have d4 : decide (s ≤ 1099511627776) = false := decide_eq_false h4
  clear h4
  go_enter Tryz.func162, Tryz.ntmps162
  go_wp2
  go_ret
  exact ⟨by rw [d1', d2, d3', d4]; rfl, rfl⟩
 have d4 : decide (s ≤ 1099511627776) = true := decide_eq_true h4
 clear h4
 go_enter Tryz.func162, Tryz.ntmps162
 go_wp2
 go_ret
 exact ⟨by rw [d1', d2, d3', d4]; rfl, rfl⟩
theorem callE_no {c : ACall} (h : numB c.client c.seq = false) : callE c = 1 := by unfold callE; rw [if_pos h]
theorem callE_yes {c : ACall} (h : numB c.client c.seq = true) : callE c = cmdE c.cmd := by unfold callE; rw [if_neg (by rw [h]; simp)]
set_option maxRecDepth 100000 in
set_option maxHeartbeats 1000000 in
theorem s_right (c : ACall) (w : World) : Calls Tryz.prog 125 #[.agg #[.int .i64 c.client, .int .i64 c.seq, .int .i64 c.cmd.kind, .string c.cmd.key, .int .i64 c.cmd.old.kind, .float .f64 c.cmd.old.num, .string c.cmd.old.text, .int .i64 c.cmd.val.kind, .float .f64 c.cmd.val.num, .string c.cmd.val.text]] w fun e w' => e = .returned (.int .i64 (callE c)) ∧ Ext w w' := by
 have hE : Ext w (w.alloc (.cells #[.int .i64 c.client, .int .i64 c.seq, .int .i64 c.cmd.kind, .string c.cmd.key, .int .i64 c.cmd.old.kind, .float .f64 c.cmd.old.num, .string c.cmd.old.text, .int .i64 c.cmd.val.kind, .float .f64 c.cmd.val.num, .string c.cmd.val.text] 54)) := (Mod.refl _ w).alloc _
 rcases hr : numB c.client c.seq with _ | _
 ·
  rw [callE_no hr]
  go_enter Tryz.func125, Tryz.ntmps125
  go_wp2_with fail
  refine (n_right c.client c.seq _).mono ?_
  rintro e w' ⟨rfl, rfl⟩
  rw [hr]
  go_wp2
  go_ret
  exact ⟨rfl, hE⟩
 ·
  rw [callE_yes hr]
  go_enter Tryz.func125, Tryz.ntmps125
  go_wp2_with fail
  refine (n_right c.client c.seq _).mono ?_
  rintro e w' ⟨rfl, rfl⟩
  rw [hr]
  go_wp2_with fail
  refine (kv_right c.cmd _).mono ?_
  rintro e w' ⟨rfl, hE1⟩
  have HE := Lib.hid (Mod.ext hE hE1)
  clear hE hE1
  go_wp2
  go_ret
  exact ⟨rfl, HE.out⟩
set_option maxRecDepth 100000 in
set_option maxHeartbeats 1000000 in
theorem r_call (c : ACall) (w : World) : Calls Tryz.prog 146 #[.agg #[.int .i64 c.client, .int .i64 c.seq, .int .i64 c.cmd.kind, .string c.cmd.key, .int .i64 c.cmd.old.kind, .float .f64 c.cmd.old.num, .string c.cmd.old.text, .int .i64 c.cmd.val.kind, .float .f64 c.cmd.val.num, .string c.cmd.val.text]] w fun e w' => e = .returned (.int .i64 (callE c)) ∧ Ext w w' := by
 have hE : Ext w (w.alloc (.cells #[.int .i64 c.client, .int .i64 c.seq, .int .i64 c.cmd.kind, .string c.cmd.key, .int .i64 c.cmd.old.kind, .float .f64 c.cmd.old.num, .string c.cmd.old.text, .int .i64 c.cmd.val.kind, .float .f64 c.cmd.val.num, .string c.cmd.val.text] 54)) := (Mod.refl _ w).alloc _
 by_cases h1 : c.client < 1
 ·
  rw [callE_no (by unfold numB; rw [decide_eq_false (show ¬ 1 ≤ c.client by omega)]; rfl)]
  have d1 : decide (c.client < 1) = true := decide_eq_true h1
  clear h1
  go_enter Tryz.func146, Tryz.ntmps146
  go_wp2
  go_ret
  exact ⟨rfl, hE⟩
 have d1 : decide (c.client < 1) = false := decide_eq_false h1
 by_cases h2 : 4 < c.client
 ·
  rw [callE_no (by unfold numB; rw [decide_eq_false (show ¬ c.client ≤ 4 by omega)]; simp)]
  have d2 : decide (4 < c.client) = true := decide_eq_true h2
  clear h1 h2
  go_enter Tryz.func146, Tryz.ntmps146
  go_wp2
  go_ret
  exact ⟨rfl, hE⟩
 have d2 : decide (4 < c.client) = false := decide_eq_false h2
 by_cases h3 : c.seq < 1
 ·
  rw [callE_no (by unfold numB; rw [decide_eq_false (show ¬ 1 ≤ c.seq by omega)]; simp)]
  have d3 : decide (c.seq < 1) = true := decide_eq_true h3
  clear h1 h2 h3
  go_enter Tryz.func146, Tryz.ntmps146
  go_wp2
  go_ret
  exact ⟨rfl, hE⟩
 have d3 : decide (c.seq < 1) = false := decide_eq_false h3
 by_cases h4 : 1099511627776 < c.seq
 ·
  rw [callE_no (by unfold numB; rw [decide_eq_false (show ¬ c.seq ≤ 1099511627776 by omega)]; simp)]
  have d4 : decide (1099511627776 < c.seq) = true := decide_eq_true h4
  clear h1 h2 h3 h4
  go_enter Tryz.func146, Tryz.ntmps146
  go_wp2
  go_ret
  exact ⟨rfl, hE⟩
 have d4 : decide (1099511627776 < c.seq) = false := decide_eq_false h4
 rw [callE_yes (by unfold numB; rw [decide_eq_true (show 1 ≤ c.client by omega), decide_eq_true (show c.client ≤ 4 by omega), decide_eq_true (show 1 ≤ c.seq by omega), decide_eq_true (show c.seq ≤ 1099511627776 by omega)]; rfl)]
 clear h1 h2 h3 h4
 go_enter Tryz.func146, Tryz.ntmps146
 go_wp2_with fail
 refine (r_cmd c.cmd _).mono ?_
 rintro e w' ⟨rfl, hE1⟩
 have HE := Lib.hid (Mod.ext hE hE1)
 clear hE hE1
 go_wp2
 go_ret
 exact ⟨rfl, HE.out⟩
end Go.Proofs.YtjhnlncgmejkcaaGreat
