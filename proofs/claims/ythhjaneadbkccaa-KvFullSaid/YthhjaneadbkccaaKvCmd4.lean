/-
  The contract of the page's Cmd. Conditions: as each theorem names them.
-/
import Derived.Test.YthhjaneadbkccaaKvCmd3
namespace Go.Proofs.Ythhjaneadbkccaa
set_option linter.unusedSimpArgs false
open Go.RowKit

set_option maxRecDepth 100000 in
set_option maxHeartbeats 4000000 in
theorem r_cmd (c : ACmd) (w : World) : Calls Try.prog 27 #[.agg #[.int .i64 c.kind, .string c.key, .int .i64 c.old.kind, .float .f64 c.old.num, .string c.old.text, .int .i64 c.val.kind, .float .f64 c.val.num, .string c.val.text]] w fun e w' => e = .returned (.int .i64 (cmdE c)) ∧ Ext w w' := by
  have hE : Ext w (w.alloc (.cells #[.int .i64 c.kind, .string c.key, .int .i64 c.old.kind, .float .f64 c.old.num, .string c.old.text, .int .i64 c.val.kind, .float .f64 c.val.num, .string c.val.text] 27)) := (Mod.refl _ w).alloc _
  by_cases hk1 : c.kind < 1
  · rw [cmdE_kind (.inl hk1)]
    have d : decide (c.kind < 1) = true := by simpa using hk1
    go_enter Try.func27, Try.ntmps27
    go_wp2
    go_ret
    exact ⟨rfl, hE⟩
  have d1 : decide (c.kind < 1) = false := by simpa using hk1
  by_cases hk2 : 6 < c.kind
  · rw [cmdE_kind (.inr hk2)]
    have d : decide (6 < c.kind) = true := by simpa using hk2
    go_enter Try.func27, Try.ntmps27
    go_wp2
    go_ret
    exact ⟨rfl, hE⟩
  have d2 : decide (6 < c.kind) = false := by simpa using hk2
  have hk : ¬ (c.kind < 1 ∨ 6 < c.kind) := by omega
  by_cases hl : 8 < c.key.size
  · rw [cmdE_long hk hl]
    have d : decide ((8 : Int) < (c.key.size : Int)) = true := by simp; omega
    go_enter Try.func27, Try.ntmps27
    go_wp2
    go_ret
    exact ⟨rfl, hE⟩
  have d3 : decide ((8 : Int) < (c.key.size : Int)) = false := by simp; omega
  by_cases hs : c.key.size < 1
  · rw [cmdE_type hk hl (.inl hs)]
    have d : decide ((c.key.size : Int) < 1) = true := by simp; omega
    go_enter Try.func27, Try.ntmps27
    go_wp2
    go_ret
    exact ⟨rfl, hE⟩
  have d4 : decide ((c.key.size : Int) < 1) = false := by simp; omega
  obtain ⟨W, hW⟩ : ∃ W, W = w.alloc (.cells #[.int .i64 c.kind, .string c.key, .int .i64 c.old.kind, .float .f64 c.old.num, .string c.old.text, .int .i64 c.val.kind, .float .f64 c.val.num, .string c.val.text] 27) := ⟨_, rfl⟩
  have hcs : ∀ j u, c.cells[j]? = some u → W.cell? ⟨w.heap.size, j, none⟩ = some u := by
    intro j u hu
    rw [hW, cell_of_row _ _ _ _ _ _ (heap_alloc_new w _)]
    simpa using hu
  rw [← hW] at hE
  have HW := Lib.hid hW
  have Hcs := Lib.hid hcs
  have Hrest : Hid (chk c.old = 0 → chk c.val = 0 → cmdE c = if restV c = true then 0 else 8) := Lib.hid (cmdE_rest hk hl hs)
  have Htype : Hid ((c.kind ≠ 4 ∧ zeroV c.old = false) ∨ chk c.old ≠ 0 ∨ chk c.val ≠ 0 → cmdE c = 8) := Lib.hid (fun h => cmdE_type hk hl (.inr h))
  clear hW hcs hl hs hk
  have hkk : c.kind = 1 ∨ c.kind = 2 ∨ c.kind = 3 ∨ c.kind = 4 ∨ c.kind = 5 ∨ c.kind = 6 := by omega
  clear hk1 hk2
  have HR := Lib.hid (restV_cases c)
  rcases hkk with h | h | h | h | h | h
  · have H : Hid _ := Lib.hid (HR.out.1 h)
    have h4 : (c.kind != 4) = true := by rw [h]; rfl
    have Hn : Hid (c.kind = 1) := Lib.hid h
    have t1 : (c.kind == 1) = true := by rw [h]; rfl
    have t2 : (c.kind == 2) = false := by rw [h]; rfl
    have t3 : (c.kind == 3) = false := by rw [h]; rfl
    have t4 : (c.kind == 4) = false := by rw [h]; rfl
    have t5 : (c.kind == 5) = false := by rw [h]; rfl
    have t6 : (c.kind == 6) = false := by rw [h]; rfl
    clear h
    go_enter Try.func27, Try.ntmps27
    go_wp2_with fail
    rw [← HW.out]
    refine (r_zero c.old _).mono ?_
    rintro e w0 ⟨rfl, hE0⟩
    have hF0 := Mod.ext hE hE0
    rcases hz : zeroV c.old with _ | _
    · have Hc := Lib.hid (Htype.out (.inl ⟨by rw [Hn.out]; decide, hz⟩))
      go_wp2
      go_ret
      exact ⟨ret_int Hc.out.symm, hF0⟩
    have x2 := hE0.cell (Hcs.out 2 _ rfl) id
    have x3 := hE0.cell (Hcs.out 3 _ rfl) id
    have x4 := hE0.cell (Hcs.out 4 _ rfl) id
    rw [hz] at H
    have HE0 := Lib.hid hE0
    clear hE0 hz
    go_wp2_with fail
    refine (r_check c.old _).mono ?_
    rintro e w1 ⟨rfl, hE1⟩
    have hF1 := Mod.ext hF0 hE1
    have hG1 := Mod.ext HE0.out hE1
    by_cases ho : chk c.old = 0
    case neg =>
      have n : (chk c.old != 0) = true := by simpa using ho
      have Hc := Lib.hid (Htype.out (.inr (.inl ho)))
      clear ho
      go_wp2
      go_ret
      exact ⟨ret_int Hc.out.symm, hF1⟩
    have n1 : (chk c.old != 0) = false := by simpa using ho
    have x5 := hG1.cell (Hcs.out 5 _ rfl) id
    have x6 := hG1.cell (Hcs.out 6 _ rfl) id
    have x7 := hG1.cell (Hcs.out 7 _ rfl) id
    have HG1 := Lib.hid hG1
    clear hE1 hG1
    go_wp2_with fail
    refine (r_check c.val _).mono ?_
    rintro e w2 ⟨rfl, hE2⟩
    have hF2 := Mod.ext hF1 hE2
    have hG2 := Mod.ext HG1.out hE2
    by_cases hv : chk c.val = 0
    case neg =>
      have n : (chk c.val != 0) = true := by simpa using hv
      have Hc := Lib.hid (Htype.out (.inr (.inr hv)))
      clear hv ho
      go_wp2
      go_ret
      exact ⟨ret_int Hc.out.symm, hF2⟩
    have n2 : (chk c.val != 0) = false := by simpa using hv
    have Hc := Lib.hid (Hrest.out ho hv)
    have y0 := hG2.cell (Hcs.out 0 _ rfl) id
    have y5 := hG2.cell (Hcs.out 5 _ rfl) id
    have y6 := hG2.cell (Hcs.out 6 _ rfl) id
    have y7 := hG2.cell (Hcs.out 7 _ rfl) id
    clear ho hv x5 x6 x7 hE2 hG2
    go_wp2_with fail
    refine (r_zero c.val _).mono ?_
    rintro e w3 ⟨rfl, hE3⟩
    have hF3 := Mod.ext hF2 hE3
    clear hE3
    rcases hz2 : zeroV c.val with _ | _
    all_goals
      rw [hz2] at H
      go_wp2
      go_ret
      exact ⟨ret_int (by rw [Hc.out, H.out]; rfl), hF3⟩
  · have H : Hid _ := Lib.hid (HR.out.2.1 h)
    have h4 : (c.kind != 4) = true := by rw [h]; rfl
    have Hn : Hid (c.kind = 2) := Lib.hid h
    have t1 : (c.kind == 1) = false := by rw [h]; rfl
    have t2 : (c.kind == 2) = true := by rw [h]; rfl
    have t3 : (c.kind == 3) = false := by rw [h]; rfl
    have t4 : (c.kind == 4) = false := by rw [h]; rfl
    have t5 : (c.kind == 5) = false := by rw [h]; rfl
    have t6 : (c.kind == 6) = false := by rw [h]; rfl
    clear h
    go_enter Try.func27, Try.ntmps27
    go_wp2_with fail
    rw [← HW.out]
    refine (r_zero c.old _).mono ?_
    rintro e w0 ⟨rfl, hE0⟩
    have hF0 := Mod.ext hE hE0
    rcases hz : zeroV c.old with _ | _
    · have Hc := Lib.hid (Htype.out (.inl ⟨by rw [Hn.out]; decide, hz⟩))
      go_wp2
      go_ret
      exact ⟨ret_int Hc.out.symm, hF0⟩
    have x2 := hE0.cell (Hcs.out 2 _ rfl) id
    have x3 := hE0.cell (Hcs.out 3 _ rfl) id
    have x4 := hE0.cell (Hcs.out 4 _ rfl) id
    rw [hz] at H
    have HE0 := Lib.hid hE0
    clear hE0 hz
    go_wp2_with fail
    refine (r_check c.old _).mono ?_
    rintro e w1 ⟨rfl, hE1⟩
    have hF1 := Mod.ext hF0 hE1
    have hG1 := Mod.ext HE0.out hE1
    by_cases ho : chk c.old = 0
    case neg =>
      have n : (chk c.old != 0) = true := by simpa using ho
      have Hc := Lib.hid (Htype.out (.inr (.inl ho)))
      clear ho
      go_wp2
      go_ret
      exact ⟨ret_int Hc.out.symm, hF1⟩
    have n1 : (chk c.old != 0) = false := by simpa using ho
    have x5 := hG1.cell (Hcs.out 5 _ rfl) id
    have x6 := hG1.cell (Hcs.out 6 _ rfl) id
    have x7 := hG1.cell (Hcs.out 7 _ rfl) id
    have HG1 := Lib.hid hG1
    clear hE1 hG1
    go_wp2_with fail
    refine (r_check c.val _).mono ?_
    rintro e w2 ⟨rfl, hE2⟩
    have hF2 := Mod.ext hF1 hE2
    have hG2 := Mod.ext HG1.out hE2
    by_cases hv : chk c.val = 0
    case neg =>
      have n : (chk c.val != 0) = true := by simpa using hv
      have Hc := Lib.hid (Htype.out (.inr (.inr hv)))
      clear hv ho
      go_wp2
      go_ret
      exact ⟨ret_int Hc.out.symm, hF2⟩
    have n2 : (chk c.val != 0) = false := by simpa using hv
    have Hc := Lib.hid (Hrest.out ho hv)
    have y0 := hG2.cell (Hcs.out 0 _ rfl) id
    have y5 := hG2.cell (Hcs.out 5 _ rfl) id
    have y6 := hG2.cell (Hcs.out 6 _ rfl) id
    have y7 := hG2.cell (Hcs.out 7 _ rfl) id
    clear ho hv x5 x6 x7 hE2 hG2
    rcases hq : (c.val.kind != 0) with _ | _
    all_goals
      rw [hq] at H
      go_wp2
      go_ret
      exact ⟨ret_int (by rw [Hc.out, H.out]; rfl), hF2⟩
  · have H : Hid _ := Lib.hid (HR.out.2.2.1 h)
    have h4 : (c.kind != 4) = true := by rw [h]; rfl
    have Hn : Hid (c.kind = 3) := Lib.hid h
    have t1 : (c.kind == 1) = false := by rw [h]; rfl
    have t2 : (c.kind == 2) = false := by rw [h]; rfl
    have t3 : (c.kind == 3) = true := by rw [h]; rfl
    have t4 : (c.kind == 4) = false := by rw [h]; rfl
    have t5 : (c.kind == 5) = false := by rw [h]; rfl
    have t6 : (c.kind == 6) = false := by rw [h]; rfl
    clear h
    go_enter Try.func27, Try.ntmps27
    go_wp2_with fail
    rw [← HW.out]
    refine (r_zero c.old _).mono ?_
    rintro e w0 ⟨rfl, hE0⟩
    have hF0 := Mod.ext hE hE0
    rcases hz : zeroV c.old with _ | _
    · have Hc := Lib.hid (Htype.out (.inl ⟨by rw [Hn.out]; decide, hz⟩))
      go_wp2
      go_ret
      exact ⟨ret_int Hc.out.symm, hF0⟩
    have x2 := hE0.cell (Hcs.out 2 _ rfl) id
    have x3 := hE0.cell (Hcs.out 3 _ rfl) id
    have x4 := hE0.cell (Hcs.out 4 _ rfl) id
    rw [hz] at H
    have HE0 := Lib.hid hE0
    clear hE0 hz
    go_wp2_with fail
    refine (r_check c.old _).mono ?_
    rintro e w1 ⟨rfl, hE1⟩
    have hF1 := Mod.ext hF0 hE1
    have hG1 := Mod.ext HE0.out hE1
    by_cases ho : chk c.old = 0
    case neg =>
      have n : (chk c.old != 0) = true := by simpa using ho
      have Hc := Lib.hid (Htype.out (.inr (.inl ho)))
      clear ho
      go_wp2
      go_ret
      exact ⟨ret_int Hc.out.symm, hF1⟩
    have n1 : (chk c.old != 0) = false := by simpa using ho
    have x5 := hG1.cell (Hcs.out 5 _ rfl) id
    have x6 := hG1.cell (Hcs.out 6 _ rfl) id
    have x7 := hG1.cell (Hcs.out 7 _ rfl) id
    have HG1 := Lib.hid hG1
    clear hE1 hG1
    go_wp2_with fail
    refine (r_check c.val _).mono ?_
    rintro e w2 ⟨rfl, hE2⟩
    have hF2 := Mod.ext hF1 hE2
    have hG2 := Mod.ext HG1.out hE2
    by_cases hv : chk c.val = 0
    case neg =>
      have n : (chk c.val != 0) = true := by simpa using hv
      have Hc := Lib.hid (Htype.out (.inr (.inr hv)))
      clear hv ho
      go_wp2
      go_ret
      exact ⟨ret_int Hc.out.symm, hF2⟩
    have n2 : (chk c.val != 0) = false := by simpa using hv
    have Hc := Lib.hid (Hrest.out ho hv)
    have y0 := hG2.cell (Hcs.out 0 _ rfl) id
    have y5 := hG2.cell (Hcs.out 5 _ rfl) id
    have y6 := hG2.cell (Hcs.out 6 _ rfl) id
    have y7 := hG2.cell (Hcs.out 7 _ rfl) id
    clear ho hv x5 x6 x7 hE2 hG2
    go_wp2_with fail
    refine (r_zero c.val _).mono ?_
    rintro e w3 ⟨rfl, hE3⟩
    have hF3 := Mod.ext hF2 hE3
    clear hE3
    rcases hz2 : zeroV c.val with _ | _
    all_goals
      rw [hz2] at H
      go_wp2
      go_ret
      exact ⟨ret_int (by rw [Hc.out, H.out]; rfl), hF3⟩
  · have H : Hid _ := Lib.hid (HR.out.2.2.2.1 h)
    have h4 : (c.kind != 4) = false := by rw [h]; rfl
    have Hn : Hid (c.kind = 4) := Lib.hid h
    have t1 : (c.kind == 1) = false := by rw [h]; rfl
    have t2 : (c.kind == 2) = false := by rw [h]; rfl
    have t3 : (c.kind == 3) = false := by rw [h]; rfl
    have t4 : (c.kind == 4) = true := by rw [h]; rfl
    have t5 : (c.kind == 5) = false := by rw [h]; rfl
    have t6 : (c.kind == 6) = false := by rw [h]; rfl
    clear h
    go_enter Try.func27, Try.ntmps27
    go_wp2_with fail
    rw [← HW.out]
    refine (r_check c.old _).mono ?_
    rintro e w1 ⟨rfl, hE1⟩
    have hF1 := Mod.ext hE hE1
    have hG1 := Mod.ext (Mod.refl (fun _ => False) W) hE1
    by_cases ho : chk c.old = 0
    case neg =>
      have n : (chk c.old != 0) = true := by simpa using ho
      have Hc := Lib.hid (Htype.out (.inr (.inl ho)))
      clear ho
      go_wp2
      go_ret
      exact ⟨ret_int Hc.out.symm, hF1⟩
    have n1 : (chk c.old != 0) = false := by simpa using ho
    have x5 := hG1.cell (Hcs.out 5 _ rfl) id
    have x6 := hG1.cell (Hcs.out 6 _ rfl) id
    have x7 := hG1.cell (Hcs.out 7 _ rfl) id
    have HG1 := Lib.hid hG1
    clear hE1 hG1
    go_wp2_with fail
    refine (r_check c.val _).mono ?_
    rintro e w2 ⟨rfl, hE2⟩
    have hF2 := Mod.ext hF1 hE2
    have hG2 := Mod.ext HG1.out hE2
    by_cases hv : chk c.val = 0
    case neg =>
      have n : (chk c.val != 0) = true := by simpa using hv
      have Hc := Lib.hid (Htype.out (.inr (.inr hv)))
      clear hv ho
      go_wp2
      go_ret
      exact ⟨ret_int Hc.out.symm, hF2⟩
    have n2 : (chk c.val != 0) = false := by simpa using hv
    have Hc := Lib.hid (Hrest.out ho hv)
    have y0 := hG2.cell (Hcs.out 0 _ rfl) id
    have y5 := hG2.cell (Hcs.out 5 _ rfl) id
    have y6 := hG2.cell (Hcs.out 6 _ rfl) id
    have y7 := hG2.cell (Hcs.out 7 _ rfl) id
    clear ho hv x5 x6 x7 hE2 hG2
    go_wp2
    go_ret
    exact ⟨ret_int (by rw [Hc.out, H.out]; rfl), hF2⟩
  · have H : Hid _ := Lib.hid (HR.out.2.2.2.2.1 h)
    have h4 : (c.kind != 4) = true := by rw [h]; rfl
    have Hn : Hid (c.kind = 5) := Lib.hid h
    have t1 : (c.kind == 1) = false := by rw [h]; rfl
    have t2 : (c.kind == 2) = false := by rw [h]; rfl
    have t3 : (c.kind == 3) = false := by rw [h]; rfl
    have t4 : (c.kind == 4) = false := by rw [h]; rfl
    have t5 : (c.kind == 5) = true := by rw [h]; rfl
    have t6 : (c.kind == 6) = false := by rw [h]; rfl
    clear h
    go_enter Try.func27, Try.ntmps27
    go_wp2_with fail
    rw [← HW.out]
    refine (r_zero c.old _).mono ?_
    rintro e w0 ⟨rfl, hE0⟩
    have hF0 := Mod.ext hE hE0
    rcases hz : zeroV c.old with _ | _
    · have Hc := Lib.hid (Htype.out (.inl ⟨by rw [Hn.out]; decide, hz⟩))
      go_wp2
      go_ret
      exact ⟨ret_int Hc.out.symm, hF0⟩
    have x2 := hE0.cell (Hcs.out 2 _ rfl) id
    have x3 := hE0.cell (Hcs.out 3 _ rfl) id
    have x4 := hE0.cell (Hcs.out 4 _ rfl) id
    rw [hz] at H
    have HE0 := Lib.hid hE0
    clear hE0 hz
    go_wp2_with fail
    refine (r_check c.old _).mono ?_
    rintro e w1 ⟨rfl, hE1⟩
    have hF1 := Mod.ext hF0 hE1
    have hG1 := Mod.ext HE0.out hE1
    by_cases ho : chk c.old = 0
    case neg =>
      have n : (chk c.old != 0) = true := by simpa using ho
      have Hc := Lib.hid (Htype.out (.inr (.inl ho)))
      clear ho
      go_wp2
      go_ret
      exact ⟨ret_int Hc.out.symm, hF1⟩
    have n1 : (chk c.old != 0) = false := by simpa using ho
    have x5 := hG1.cell (Hcs.out 5 _ rfl) id
    have x6 := hG1.cell (Hcs.out 6 _ rfl) id
    have x7 := hG1.cell (Hcs.out 7 _ rfl) id
    have HG1 := Lib.hid hG1
    clear hE1 hG1
    go_wp2_with fail
    refine (r_check c.val _).mono ?_
    rintro e w2 ⟨rfl, hE2⟩
    have hF2 := Mod.ext hF1 hE2
    have hG2 := Mod.ext HG1.out hE2
    by_cases hv : chk c.val = 0
    case neg =>
      have n : (chk c.val != 0) = true := by simpa using hv
      have Hc := Lib.hid (Htype.out (.inr (.inr hv)))
      clear hv ho
      go_wp2
      go_ret
      exact ⟨ret_int Hc.out.symm, hF2⟩
    have n2 : (chk c.val != 0) = false := by simpa using hv
    have Hc := Lib.hid (Hrest.out ho hv)
    have y0 := hG2.cell (Hcs.out 0 _ rfl) id
    have y5 := hG2.cell (Hcs.out 5 _ rfl) id
    have y6 := hG2.cell (Hcs.out 6 _ rfl) id
    have y7 := hG2.cell (Hcs.out 7 _ rfl) id
    clear ho hv x5 x6 x7 hE2 hG2
    rcases hq : (c.val.kind == 1) with _ | _
    all_goals
      rw [hq] at H
      go_wp2
      go_ret
      exact ⟨ret_int (by rw [Hc.out, H.out]; rfl), hF2⟩
  · have H : Hid _ := Lib.hid (HR.out.2.2.2.2.2 h)
    have h4 : (c.kind != 4) = true := by rw [h]; rfl
    have Hn : Hid (c.kind = 6) := Lib.hid h
    have t1 : (c.kind == 1) = false := by rw [h]; rfl
    have t2 : (c.kind == 2) = false := by rw [h]; rfl
    have t3 : (c.kind == 3) = false := by rw [h]; rfl
    have t4 : (c.kind == 4) = false := by rw [h]; rfl
    have t5 : (c.kind == 5) = false := by rw [h]; rfl
    have t6 : (c.kind == 6) = true := by rw [h]; rfl
    clear h
    go_enter Try.func27, Try.ntmps27
    go_wp2_with fail
    rw [← HW.out]
    refine (r_zero c.old _).mono ?_
    rintro e w0 ⟨rfl, hE0⟩
    have hF0 := Mod.ext hE hE0
    rcases hz : zeroV c.old with _ | _
    · have Hc := Lib.hid (Htype.out (.inl ⟨by rw [Hn.out]; decide, hz⟩))
      go_wp2
      go_ret
      exact ⟨ret_int Hc.out.symm, hF0⟩
    have x2 := hE0.cell (Hcs.out 2 _ rfl) id
    have x3 := hE0.cell (Hcs.out 3 _ rfl) id
    have x4 := hE0.cell (Hcs.out 4 _ rfl) id
    rw [hz] at H
    have HE0 := Lib.hid hE0
    clear hE0 hz
    go_wp2_with fail
    refine (r_check c.old _).mono ?_
    rintro e w1 ⟨rfl, hE1⟩
    have hF1 := Mod.ext hF0 hE1
    have hG1 := Mod.ext HE0.out hE1
    by_cases ho : chk c.old = 0
    case neg =>
      have n : (chk c.old != 0) = true := by simpa using ho
      have Hc := Lib.hid (Htype.out (.inr (.inl ho)))
      clear ho
      go_wp2
      go_ret
      exact ⟨ret_int Hc.out.symm, hF1⟩
    have n1 : (chk c.old != 0) = false := by simpa using ho
    have x5 := hG1.cell (Hcs.out 5 _ rfl) id
    have x6 := hG1.cell (Hcs.out 6 _ rfl) id
    have x7 := hG1.cell (Hcs.out 7 _ rfl) id
    have HG1 := Lib.hid hG1
    clear hE1 hG1
    go_wp2_with fail
    refine (r_check c.val _).mono ?_
    rintro e w2 ⟨rfl, hE2⟩
    have hF2 := Mod.ext hF1 hE2
    have hG2 := Mod.ext HG1.out hE2
    by_cases hv : chk c.val = 0
    case neg =>
      have n : (chk c.val != 0) = true := by simpa using hv
      have Hc := Lib.hid (Htype.out (.inr (.inr hv)))
      clear hv ho
      go_wp2
      go_ret
      exact ⟨ret_int Hc.out.symm, hF2⟩
    have n2 : (chk c.val != 0) = false := by simpa using hv
    have Hc := Lib.hid (Hrest.out ho hv)
    have y0 := hG2.cell (Hcs.out 0 _ rfl) id
    have y5 := hG2.cell (Hcs.out 5 _ rfl) id
    have y6 := hG2.cell (Hcs.out 6 _ rfl) id
    have y7 := hG2.cell (Hcs.out 7 _ rfl) id
    clear ho hv x5 x6 x7 hE2 hG2
    rcases hq : (c.val.kind == 1) with _ | _
    all_goals
      rw [hq] at H
      go_wp2
      go_ret
      exact ⟨ret_int (by rw [Hc.out, H.out]; rfl), hF2⟩
end Go.Proofs.Ythhjaneadbkccaa
