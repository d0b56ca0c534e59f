/-
  Contracts of kv.Right and of the page's Cmd. Conditions: as each theorem names them.
-/
import Derived.Test.YthhjaneadbkccaaKvCmd2
namespace Go.Proofs.Ythhjaneadbkccaa
set_option linter.unusedSimpArgs false
open Go.RowKit

theorem range_ext {W w1 : World} {b o : Nat} {cs : List Value} (h : W.rangeAt b o cs) (hE : Ext W w1) : w1.rangeAt b o cs := fun j v hv => hE.cell (h j v hv) id
theorem cmdE_kind {c : ACmd} (h : c.kind < 1 ∨ 6 < c.kind) : cmdE c = 15 := by unfold cmdE; rw [if_pos h]
theorem cmdE_long {c : ACmd} (h : ¬ (c.kind < 1 ∨ 6 < c.kind)) (h2 : 8 < c.key.size) : cmdE c = 2 := by unfold cmdE; rw [if_neg h, if_pos h2]
theorem cmdE_type {c : ACmd} (h : ¬ (c.kind < 1 ∨ 6 < c.kind)) (h2 : ¬ 8 < c.key.size) (h3 : c.key.size < 1 ∨ (c.kind ≠ 4 ∧ zeroV c.old = false) ∨ chk c.old ≠ 0 ∨ chk c.val ≠ 0) : cmdE c = 8 := by unfold cmdE; rw [if_neg h, if_neg h2, if_pos h3]
/-- What is left to be asked. -/
def restV (c : ACmd) : Bool := (c.kind == 4 || zeroV c.old) && okV c
theorem cmdE_rest {c : ACmd} (h : ¬ (c.kind < 1 ∨ 6 < c.kind)) (h2 : ¬ 8 < c.key.size) (h3 : ¬ c.key.size < 1) (h4 : chk c.old = 0) (h5 : chk c.val = 0) : cmdE c = if restV c = true then 0 else 8 := by
  unfold cmdE restV
  rw [if_neg h, if_neg h2]
  by_cases hk : c.kind = 4
  · rw [if_neg (by simp [h3, h4, h5, hk])]
    have : (c.kind == 4) = true := by simpa using hk
    rw [this]; simp
  · have : (c.kind == 4) = false := by simpa using hk
    rw [this]
    rcases hz : zeroV c.old with _ | _
    · rw [if_pos (.inr (.inl ⟨hk, rfl⟩))]; simp
    · rw [if_neg (by simp [h3, h4, h5])]; simp
theorem restV_cases (c : ACmd) : (c.kind = 1 → restV c = (zeroV c.old && zeroV c.val)) ∧ (c.kind = 2 → restV c = (zeroV c.old && (c.val.kind != 0))) ∧ (c.kind = 3 → restV c = (zeroV c.old && zeroV c.val)) ∧
    (c.kind = 4 → restV c = true) ∧ (c.kind = 5 → restV c = (zeroV c.old && (c.val.kind == 1))) ∧ (c.kind = 6 → restV c = (zeroV c.old && (c.val.kind == 1))) := by
  refine ⟨fun h => ?_, fun h => ?_, fun h => ?_, fun h => ?_, fun h => ?_, fun h => ?_⟩ <;> simp [restV, okV, h]

set_option maxRecDepth 100000 in
set_option maxHeartbeats 4000000 in
theorem kv_right (c : ACmd) (w : World) : Calls Try.prog 26 #[.agg #[.int .i64 c.kind, .string c.key, .int .i64 c.old.kind, .float .f64 c.old.num, .string c.old.text, .int .i64 c.val.kind, .float .f64 c.val.num, .string c.val.text]] w fun e w' => e = .returned (.int .i64 (cmdE c)) ∧ Ext w w' := by
  have hE : Ext w (w.alloc (.cells #[.int .i64 c.kind, .string c.key, .int .i64 c.old.kind, .float .f64 c.old.num, .string c.old.text, .int .i64 c.val.kind, .float .f64 c.val.num, .string c.val.text] 27)) := (Mod.refl _ w).alloc _
  have d0 : decide (c.kind < 1) = decide (c.kind < 1) := rfl
  by_cases hk1 : c.kind < 1
  · rw [cmdE_kind (.inl hk1)]
    have d : decide (c.kind < 1) = true := by simpa using hk1
    go_enter Try.func26, Try.ntmps26
    go_wp2
    go_ret
    exact ⟨rfl, hE⟩
  have d1 : decide (c.kind < 1) = false := by simpa using hk1
  by_cases hk2 : 6 < c.kind
  · rw [cmdE_kind (.inr hk2)]
    have d : decide (6 < c.kind) = true := by simpa using hk2
    go_enter Try.func26, Try.ntmps26
    go_wp2
    go_ret
    exact ⟨rfl, hE⟩
  have d2 : decide (6 < c.kind) = false := by simpa using hk2
  have hk : ¬ (c.kind < 1 ∨ 6 < c.kind) := by omega
  by_cases hl : 8 < c.key.size
  · rw [cmdE_long hk hl]
    have d : decide ((8 : Int) < (c.key.size : Int)) = true := by simp; omega
    go_enter Try.func26, Try.ntmps26
    go_wp2
    go_ret
    exact ⟨rfl, hE⟩
  have d3 : decide ((8 : Int) < (c.key.size : Int)) = false := by simp; omega
  by_cases hs : c.key.size < 1
  · rw [cmdE_type hk hl (.inl hs)]
    have r : rightKeyB c.key = false := by unfold rightKeyB; have : ¬ 1 ≤ c.key.size := by omega
                                           simp [this]
    go_enter Try.func26, Try.ntmps26
    go_wp2_with (go_at_call 42; refine (kv_rightKey _ _).mono ?_; rintro e w' ⟨rfl, rfl⟩)
    go_ret
    exact ⟨rfl, hE⟩
  have r : rightKeyB c.key = true := by unfold rightKeyB; have h1 : 1 ≤ c.key.size := by omega
                                        have h2 : c.key.size ≤ 8 := by omega
                                        simp [h1, h2]
  obtain ⟨W, hW⟩ : ∃ W, W = w.alloc (.cells #[.int .i64 c.kind, .string c.key, .int .i64 c.old.kind, .float .f64 c.old.num, .string c.old.text, .int .i64 c.val.kind, .float .f64 c.val.num, .string c.val.text] 27) := ⟨_, rfl⟩
  have hcs : ∀ j u, c.cells[j]? = some u → W.cell? ⟨w.heap.size, j, none⟩ = some u := by
    intro j u hu
    rw [hW, cell_of_row _ _ _ _ _ _ (heap_alloc_new w _)]
    simpa using hu
  rw [← hW] at hE
  have HW := Lib.hid hW
  have Hcs := Lib.hid hcs
  have Hrest : Hid (chk c.old = 0 → chk c.val = 0 → cmdE c = if restV c = true then 0 else 8) := Lib.hid (cmdE_rest hk hl hs)
  have Htype : Hid (chk c.old ≠ 0 ∨ chk c.val ≠ 0 → cmdE c = 8) := Lib.hid (fun h => cmdE_type hk hl (.inr (.inr h)))
  clear hW hcs hl hs hk d0
  have hk3 : 1 ≤ c.kind ∧ c.kind ≤ 6 := by omega
  clear hk1 hk2
  go_enter Try.func26, Try.ntmps26
  go_wp2_with (go_at_call 42; refine (kv_rightKey _ _).mono ?_; rintro e w' ⟨rfl, rfl⟩)
  rw [← HW.out]
  refine (v_check c.old _).mono ?_
  rintro e w1 ⟨rfl, hE1⟩
  have hF1 := Mod.ext hE hE1
  have x5 := hE1.cell (Hcs.out 5 _ rfl) id
  have x6 := hE1.cell (Hcs.out 6 _ rfl) id
  have x7 := hE1.cell (Hcs.out 7 _ rfl) id
  have HE1 := Lib.hid hE1
  clear hE1
  by_cases ho : chk c.old = 0
  case neg =>
    have n : (chk c.old != 0) = true := by simpa using ho
    have Hc := Lib.hid (Htype.out (.inl ho))
    clear ho
    go_wp2
    go_ret
    exact ⟨ret_int Hc.out.symm, hF1⟩
  have n1 : (chk c.old != 0) = false := by simpa using ho
  go_wp2_with fail
  refine (v_check c.val _).mono ?_
  rintro e w2 ⟨rfl, hE2⟩
  have hF2 := Mod.ext hF1 hE2
  have hG2 := Mod.ext HE1.out hE2
  clear x5 x6 x7 hF1 hE2
  by_cases hv : chk c.val = 0
  case neg =>
    have n : (chk c.val != 0) = true := by simpa using hv
    have Hc := Lib.hid (Htype.out (.inr hv))
    clear hv ho
    go_wp2
    go_ret
    exact ⟨ret_int Hc.out.symm, hF2⟩
  have n2 : (chk c.val != 0) = false := by simpa using hv
  have Hc := Lib.hid (Hrest.out ho hv)
  clear ho hv
  have ro : w2.rangeAt w.heap.size 2 [.int .i64 c.old.kind, .float .f64 c.old.num, .string c.old.text] := by
    intro j u hu
    have hj : j < 3 := (List.getElem?_eq_some_iff.1 hu).1
    refine hG2.cell (Hcs.out (2 + j) u ?_) id
    rw [← hu]
    match j, hj with
    | 0, _ => rfl
    | 1, _ => rfl
    | 2, _ => rfl
  have rv : w2.rangeAt w.heap.size 5 [.int .i64 c.val.kind, .float .f64 c.val.num, .string c.val.text] := by
    intro j u hu
    have hj : j < 3 := (List.getElem?_eq_some_iff.1 hu).1
    refine hG2.cell (Hcs.out (5 + j) u ?_) id
    rw [← hu]
    match j, hj with
    | 0, _ => rfl
    | 1, _ => rfl
    | 2, _ => rfl
  have hu25 := Try.underlying25
  have hio : (Try.prog.info? 25).map (·.size) = some ([.int .i64 c.old.kind, .float .f64 c.old.num, .string c.old.text] : List Value).length := by kernel_rfl
  have hiv : (Try.prog.info? 25).map (·.size) = some ([.int .i64 c.val.kind, .float .f64 c.val.num, .string c.val.text] : List Value).length := by kernel_rfl
  go_wp2_with fail
  refine wp_region_held_drew (S := (fun W' => Ext w W' ∧ Ext W W' ∧ W'.rangeAt w.heap.size 2 [.int .i64 c.old.kind, .float .f64 c.old.num, .string c.old.text] ∧ W'.rangeAt w.heap.size 5 [.int .i64 c.val.kind, .float .f64 c.val.num, .string c.val.text])) (by kernel_rfl) ⟨hF2.drew, hG2.drew, ro, rv⟩ (fun hS => ?_)
  refine wpAnyH_take (i := 0) (v := .pointer (some ⟨w.heap.size, 2, none⟩)) rfl (by kernel_rfl) (by kernel_rfl) (by kernel_rfl) (fun _ _ _ h => h) (Or.inl ⟨by kernel_rfl, fun _ _ => by kernel_rfl⟩) hS ?_
  refine wpAnyH_take (i := 3) (v := .pointer (some ⟨w.heap.size, 5, none⟩)) rfl (by kernel_rfl) (by kernel_rfl) (by kernel_rfl) (fun _ _ _ h => h) (Or.inl ⟨by kernel_rfl, fun _ _ => by kernel_rfl⟩) hS ?_
  refine wpAnyH_take (i := 1) (v := .agg #[.int .i64 c.old.kind, .float .f64 c.old.num, .string c.old.text]) rfl (by kernel_rfl) (by kernel_rfl) (by kernel_rfl) (fun _ _ _ h => h) (yieldsIf_load_mid (by kernel_rfl) 25 _ rfl (w.heap.size) 2 (by kernel_rfl) [.int .i64 c.old.kind, .float .f64 c.old.num, .string c.old.text] _ (fun _ h => h.2.2.1) hu25 rfl hio) hS ?_
  refine wpAnyH_take (i := 4) (v := .agg #[.int .i64 c.val.kind, .float .f64 c.val.num, .string c.val.text]) rfl (by kernel_rfl) (by kernel_rfl) (by kernel_rfl) (fun _ _ _ h => h) (yieldsIf_load_mid (by kernel_rfl) 25 _ rfl (w.heap.size) 5 (by kernel_rfl) [.int .i64 c.val.kind, .float .f64 c.val.num, .string c.val.text] _ (fun _ h => h.2.2.2) hu25 rfl hiv) hS ?_
  refine wpAnyH_ready (rs := [2]) (by kernel_rfl) (by simp) ?_
  refine AllReadyH.cons rfl (fun K hK => ?_) AllReadyH.nil
  go_simp
  go_wp2_with fail
  refine (kv_none c.old _).mono ?_
  rintro e w3 ⟨rfl, hE3⟩
  have hX := (⟨Mod.ext hS.1 hE3, Mod.ext hS.2.1 hE3, range_ext hS.2.2.1 hE3, range_ext hS.2.2.2 hE3⟩ : Ext w w3 ∧ Ext W w3 ∧ w3.rangeAt w.heap.size 2 [.int .i64 c.old.kind, .float .f64 c.old.num, .string c.old.text] ∧ w3.rangeAt w.heap.size 5 [.int .i64 c.val.kind, .float .f64 c.val.num, .string c.val.text])
  go_simp
  refine hK.out _ _ hX (fun hS => ?_)
  clear hK K
  refine wpAnyH_ready (rs := [5]) (by kernel_rfl) (by simp) ?_
  refine AllReadyH.cons rfl (fun K hK => ?_) AllReadyH.nil
  go_simp
  go_wp2_with fail
  refine (kv_none c.val _).mono ?_
  rintro e w4 ⟨rfl, hE4⟩
  have hX := (⟨Mod.ext hS.1 hE4, Mod.ext hS.2.1 hE4, range_ext hS.2.2.1 hE4, range_ext hS.2.2.2 hE4⟩ : Ext w w4 ∧ Ext W w4 ∧ w4.rangeAt w.heap.size 2 [.int .i64 c.old.kind, .float .f64 c.old.num, .string c.old.text] ∧ w4.rangeAt w.heap.size 5 [.int .i64 c.val.kind, .float .f64 c.val.num, .string c.val.text])
  go_simp
  refine hK.out _ _ hX (fun hS => ?_)
  clear hK K
  refine wpAnyH_take (i := 6) (v := .bool (zeroV c.old)) rfl (by kernel_rfl) (by kernel_rfl) (by kernel_rfl) (fun _ _ _ h => h) (Or.inl ⟨by kernel_rfl, fun _ _ => by kernel_rfl⟩) hS ?_
  refine wpAnyH_take (i := 7) (v := .bool (zeroV c.val)) rfl (by kernel_rfl) (by kernel_rfl) (by kernel_rfl) (fun _ _ _ h => h) (Or.inl ⟨by kernel_rfl, fun _ _ => by kernel_rfl⟩) hS ?_
  refine wpAnyH_done (by kernel_rfl) ?_ _
  have hF4 := hX.1
  have y0 := hX.2.1.cell (Hcs.out 0 _ rfl) id
  have y5 := hX.2.1.cell (Hcs.out 5 _ rfl) id
  clear hX hS hE3 hE4 hF2 hG2 ro rv hu25 hio hiv
  have hkk : c.kind = 1 ∨ c.kind = 2 ∨ c.kind = 3 ∨ c.kind = 4 ∨ c.kind = 5 ∨ c.kind = 6 := by omega
  clear hk3 d1 d2 d3 r n1 n2
  obtain ⟨zo, hzo⟩ : ∃ b, zeroV c.old = b := ⟨_, rfl⟩
  obtain ⟨zv, hzv⟩ : ∃ b, zeroV c.val = b := ⟨_, rfl⟩
  rw [hzo, hzv]
  have hrest := restV_cases c
  rw [hzo, hzv] at hrest
  have HR := Lib.hid hrest
  clear hrest hzo hzv
  rcases hkk with h | h | h | h | h | h
  · have H : Hid _ := Lib.hid (HR.out.1 h)
    have t1 : (c.kind == 1) = true := by rw [h]; rfl
    have t2 : (c.kind == 2) = false := by rw [h]; rfl
    have t3 : (c.kind == 3) = false := by rw [h]; rfl
    have t4 : (c.kind == 4) = false := by rw [h]; rfl
    have t5 : (c.kind == 5) = false := by rw [h]; rfl
    have t6 : (c.kind == 6) = false := by rw [h]; rfl
    clear h
    rcases zo with _ | _ <;> rcases zv with _ | _
    all_goals
      go_wp2
      go_ret
      exact ⟨ret_int (by rw [Hc.out, H.out]; rfl), hF4⟩
  · have H : Hid _ := Lib.hid (HR.out.2.1 h)
    have t1 : (c.kind == 1) = false := by rw [h]; rfl
    have t2 : (c.kind == 2) = true := by rw [h]; rfl
    have t3 : (c.kind == 3) = false := by rw [h]; rfl
    have t4 : (c.kind == 4) = false := by rw [h]; rfl
    have t5 : (c.kind == 5) = false := by rw [h]; rfl
    have t6 : (c.kind == 6) = false := by rw [h]; rfl
    clear h
    rcases hq : (c.val.kind != 0) with _ | _ <;> rcases zo with _ | _
    all_goals
      rw [hq] at H
      go_wp2
      go_ret
      exact ⟨ret_int (by rw [Hc.out, H.out]; rfl), hF4⟩
  · have H : Hid _ := Lib.hid (HR.out.2.2.1 h)
    have t1 : (c.kind == 1) = false := by rw [h]; rfl
    have t2 : (c.kind == 2) = false := by rw [h]; rfl
    have t3 : (c.kind == 3) = true := by rw [h]; rfl
    have t4 : (c.kind == 4) = false := by rw [h]; rfl
    have t5 : (c.kind == 5) = false := by rw [h]; rfl
    have t6 : (c.kind == 6) = false := by rw [h]; rfl
    clear h
    rcases zo with _ | _ <;> rcases zv with _ | _
    all_goals
      go_wp2
      go_ret
      exact ⟨ret_int (by rw [Hc.out, H.out]; rfl), hF4⟩
  · have H : Hid _ := Lib.hid (HR.out.2.2.2.1 h)
    have t1 : (c.kind == 1) = false := by rw [h]; rfl
    have t2 : (c.kind == 2) = false := by rw [h]; rfl
    have t3 : (c.kind == 3) = false := by rw [h]; rfl
    have t4 : (c.kind == 4) = true := by rw [h]; rfl
    have t5 : (c.kind == 5) = false := by rw [h]; rfl
    have t6 : (c.kind == 6) = false := by rw [h]; rfl
    clear h
    go_wp2
    go_ret
    exact ⟨ret_int (by rw [Hc.out, H.out]; rfl), hF4⟩
  · have H : Hid _ := Lib.hid (HR.out.2.2.2.2.1 h)
    have t1 : (c.kind == 1) = false := by rw [h]; rfl
    have t2 : (c.kind == 2) = false := by rw [h]; rfl
    have t3 : (c.kind == 3) = false := by rw [h]; rfl
    have t4 : (c.kind == 4) = false := by rw [h]; rfl
    have t5 : (c.kind == 5) = true := by rw [h]; rfl
    have t6 : (c.kind == 6) = false := by rw [h]; rfl
    clear h
    rcases hq : (c.val.kind == 1) with _ | _ <;> rcases zo with _ | _
    all_goals
      rw [hq] at H
      go_wp2
      go_ret
      exact ⟨ret_int (by rw [Hc.out, H.out]; rfl), hF4⟩
  · have H : Hid _ := Lib.hid (HR.out.2.2.2.2.2 h)
    have t1 : (c.kind == 1) = false := by rw [h]; rfl
    have t2 : (c.kind == 2) = false := by rw [h]; rfl
    have t3 : (c.kind == 3) = false := by rw [h]; rfl
    have t4 : (c.kind == 4) = false := by rw [h]; rfl
    have t5 : (c.kind == 5) = false := by rw [h]; rfl
    have t6 : (c.kind == 6) = true := by rw [h]; rfl
    clear h
    rcases hq : (c.val.kind == 1) with _ | _ <;> rcases zo with _ | _
    all_goals
      rw [hq] at H
      go_wp2
      go_ret
      exact ⟨ret_int (by rw [Hc.out, H.out]; rfl), hF4⟩
end Go.Proofs.Ythhjaneadbkccaa
