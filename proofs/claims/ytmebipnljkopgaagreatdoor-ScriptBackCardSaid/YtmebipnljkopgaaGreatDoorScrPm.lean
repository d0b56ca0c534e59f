/-
 Layer 27 (script): the page's Line of a call; Line as a whole: lineP. Conditions: the act is not heavy (ALt); the package variables are as start-up lays them (Glb).
-/
import Derived.Test.YtmebipnljkopgaaGreatDoorScrPl
import Derived.Test.YtmebipnljkopgaaGreatDoorTake
namespace Go.Proofs.YtmebipnljkopgaaGreatDoor
set_option linter.unusedSimpArgs false
set_option linter.unusedVariables false
open Go.RowKit
theorem cmds_opN (k : Nat) (h1 : 1 ≤ k) (h6 : k ≤ 6) : [bA [], bA [103, 101, 116], bA [112, 117, 116], bA [100, 101, 108], bA [99, 97, 115], bA [97, 100, 100], bA [109, 97, 120]].getD k ByteArray.empty = bA (opW k) := by
 have hk : k = 1 ∨ k = 2 ∨ k = 3 ∨ k = 4 ∨ k = 5 ∨ k = 6 := by omega
 rcases hk with rfl | rfl | rfl | rfl | rfl | rfl <;> rfl
/-- The words of a call, as far as its key. -/
def callU (a : AAct) : List (List UInt8) := [opW a.cmd.kind, Lib.itoa a.client, Lib.itoa a.node, 107 :: hexB (bsOf a.cmd.key)]
theorem say_key (m k : List UInt8) (c i : Int) : bA (m ++ tailW [Lib.itoa c, Lib.itoa i]) ++ ⟨#[32, 107]⟩ ++ bA k = bA (joinL [m, Lib.itoa c, Lib.itoa i, 107 :: k]) := by
 rw [show (⟨#[32, 107]⟩ : ByteArray) = bA [32, 107] from rfl, bA_app, bA_app, joinL_tail]
 simp [tailW]
theorem join_one (ws : List (List UInt8)) (h : ws ≠ []) (x : List UInt8) : bA (joinL ws) ++ ⟨#[32]⟩ ++ bA x = bA (joinL (ws ++ [x])) := by
 rcases ws with _ | ⟨y, r⟩
 · exact absurd rfl h
 rw [show (⟨#[32]⟩ : ByteArray) = bA [32] from rfl, bA_app, bA_app, List.cons_append, joinL_tail, joinL_tail, tailW_app]
 simp [tailW]
theorem join_pre (a b : List (List UInt8)) : (joinL a).length ≤ (joinL (a ++ b)).length := by
 rcases a with _ | ⟨y, r⟩
 · simp [joinL]
 rw [List.cons_append, joinL_tail, joinL_tail, tailW_app]; simp only [List.length_append]; omega
set_option maxRecDepth 100000 in
set_option maxHeartbeats 8000000 in
theorem r_line_call (a : AAct) (bv : Value) (w : World) (hg : Glb w) (hlt : ALt a) (hB : Byt w (fun g => g < w.heap.size) bv a.bytes) (hk10 : a.kind = 10) :
  Calls Tryz.prog 13 #[.agg (a.cells bv).toArray] w (LineOut w a) := by
 obtain ⟨b, hb⟩ : ∃ b, w.heap.size = b := ⟨_, rfl⟩
 have hll := line_len hlt
 have Hg := Lib.hid hg
 have Hlt := Lib.hid hlt
 have Hll := Lib.hid hll
 have HB := Lib.hid hB
 clear hg hlt hll hB
 go_enter Tryz.func13, Tryz.ntmps13
 go_upto_region 1 with fail
 obtain ⟨W1, hW1⟩ : ∃ W1, w.alloc (.cells (a.cells bv).toArray 31) = W1 := ⟨_, rfl⟩
 have hE1 : Ext w W1 := hW1 ▸ ((Mod.refl _ w).alloc _)
 have hb1 : W1.heap[b]? = some (.cells (a.cells bv).toArray 31 (0, 0)) := hb ▸ hW1 ▸ heap_new _ _
 rw [hW1]
 clear hW1
 have p0 : W1.cell? ⟨b, 0, none⟩ = some (.int .i64 a.kind) := blk_cell hb1 rfl
 have Hb1 := Lib.hid hb1
 have HE1 := Lib.hid hE1
 clear hb1 hE1
 rw [hk10] at p0
 have p5 : W1.cell? ⟨b, 5, none⟩ = some (.int .i64 a.cmd.kind) := blk_cell Hb1.out rfl
 by_cases hr : a.cmd.kind < 1 ∨ 6 < a.cmd.kind
 · have Hn : Hid (lineP a = none) := Lib.hid (line_none (by unfold wordsA callW; rw [if_pos hr]; simp [hk10]))
   rcases hr with hr | hr
   all_goals
    go_wp2
    go_ret2
    exact ⟨by rw [Hn.out]; rfl, HE1.out⟩
 obtain ⟨k, hk⟩ : ∃ k : Nat, a.cmd.kind = k := ⟨a.cmd.kind.toNat, by omega⟩
 have hk1 : 1 ≤ k := by omega
 have hk6 : k ≤ 6 := by omega
 rw [hk] at p5
 have HW : Hid (wordsA a = callU a ++ (if (k : Int) = 4 then [valW a.cmd.old] else []) ++ (if (k : Int) ≠ 1 ∧ (k : Int) ≠ 3 then [valW a.cmd.val] else [])) := Lib.hid (by unfold wordsA callW; rw [if_neg hr, hk]; simp [hk10, callU, hk])
 have hk7 : (k : Int) < 7 := by omega
 have hk0 : (0 : Int) ≤ (k : Int) := by omega
 have Hk := Lib.hid hk
 have Hk10 := Lib.hid hk10
 clear hr hk hk10
 have hco := cmds_opN k hk1 hk6
 obtain ⟨z, hz⟩ : ∃ z, bA (opW k) = z := ⟨_, rfl⟩
 rw [hz] at hco
 have Hz := Lib.hid hco
 obtain ⟨kk, hkk⟩ : ∃ kk, a.cmd.key = kk := ⟨_, rfl⟩
 have Hhx := Lib.hid (fun W => r_hex a.cmd.key W (by have := Hlt.out.key; omega))
 obtain ⟨hz2, hhz2⟩ : ∃ h, bA (hexB (bsOf a.cmd.key)) = h := ⟨_, rfl⟩
 have hz2s : hz2.size ≤ 12000 := by
  rw [← hhz2]; show (hexB (bsOf a.cmd.key)).length ≤ 12000
  rw [hexB_len]; have : (bsOf a.cmd.key).length = a.cmd.key.size := rfl
  have := Hlt.out.key; omega
 obtain ⟨S1, hS1⟩ : ∃ S1, bA (opW k ++ tailW [Lib.itoa a.client, Lib.itoa a.node]) = S1 := ⟨_, rfl⟩
 have hS1s : S1.size ≤ 100 := by
  rw [← hS1]; show (opW k ++ tailW (List.map Lib.itoa [a.client, a.node])).length ≤ 100
  have h1 := tailW_itoa [a.client, a.node] (by intro x hx; exact Hlt.out.ok' x (by simp only [List.mem_cons, List.not_mem_nil, or_false] at hx ⊢; omega))
  have h2 := opW_len k
  simp only [List.length_cons, List.length_nil] at h1
  rw [List.length_append]; omega
 have HS : Hid (S1 ++ ⟨#[32, 107]⟩ ++ hz2 = bA (joinL (callU a))) := Lib.hid (by rw [← hS1, ← hhz2, say_key]; unfold callU; rw [Hk.out])
 rw [hhz2] at Hhx
 have hq1 : ¬ 9223372036854775807 < S1.size + 2 := by omega
 have hq2 : ¬ 9223372036854775807 < S1.size + 2 + hz2.size := by omega
 have Hsy : Hid (∀ W g, Ext W1 W → Sl W (fun x => x = g) 1 (.slice (some ⟨g, 0, none⟩) 2 2) 2 [.int .i64 a.client, .int .i64 a.node] → Calls Tryz.prog 36 #[.string z, .slice (some ⟨g, 0, none⟩) 2 2] W fun e w' => e = .returned (.string S1) ∧ Ext W w') := Lib.hid (fun W g hE hS => by
  have h := r_say z [a.client, a.node] (.slice (some ⟨g, 0, none⟩) 2 2) _ W (Hg.out.ext (HE1.out.ext hE)) hS (by intro x hx; exact Hlt.out.ok' x (by simp only [List.mem_cons, List.not_mem_nil, or_false] at hx ⊢; omega)) (by simp) (by rw [← hz]; have := opW_len k; show (opW k).length ≤ 100000; omega)
  rw [← hz, bA_bs, show List.map Lib.itoa [a.client, a.node] = [Lib.itoa a.client, Lib.itoa a.node] from rfl, hS1] at h
  rw [← hz]; exact h)
 have hml : [Value.int .i64 a.client, Value.int .i64 a.node].length ≤ maxLen := by simp [maxLen]
 have p2 : W1.cell? ⟨b, 2, none⟩ = some (.int .i64 a.client) := blk_cell Hb1.out rfl
 have p1 : W1.cell? ⟨b, 1, none⟩ = some (.int .i64 a.node) := blk_cell Hb1.out rfl
 have p6 : W1.cell? ⟨b, 6, none⟩ = some (.string a.cmd.key) := blk_cell Hb1.out rfl
 have P5 := Lib.hid p5
 have P2 := Lib.hid p2
 have P1 := Lib.hid p1
 have P6 := Lib.hid p6
 clear hz hS1 hhz2 hco hkk
 go_upto_region 7 with fail
 go_cut [4] from 31 to 48 (fun s4 wx => s4 = .string (S1 ++ ⟨#[32, 107]⟩ ++ hz2) ∧ Ext W1 wx)
 case first =>
  refine wp_region_held_drew (S := (fun W => W.cell? ⟨b, 5, none⟩ = some (.int .i64 (k : Int)) ∧ W.cell? ⟨b, 2, none⟩ = some (.int .i64 a.client) ∧ W.cell? ⟨b, 1, none⟩ = some (.int .i64 a.node) ∧ W.cell? ⟨b, 6, none⟩ = some (.string a.cmd.key))) (by kernel_rfl) ⟨p5, p2, p1, p6⟩ (fun hS => ?_)
  refine takeH (i := 1) (v := ?_) (some 32) rfl rfl (by kernel_rfl) (by kernel_rfl) (by kernel_rfl) (fun _ _ _ h => h) (Or.inl ⟨by kernel_rfl, ?_⟩) hS ?_
  rotate_left
  · rintro W' ⟨p5, p2, p1, p6⟩
    go_simp
    try with_reducible rfl
  try simp only [Act.put, List.setIfInBounds_toArray, List.set_cons_zero, List.set_cons_succ]
  refine takeH (i := 2) (v := ?_) (some 33) rfl rfl (by kernel_rfl) (by kernel_rfl) (by kernel_rfl) (fun _ _ _ h => h) (Or.inl ⟨by kernel_rfl, ?_⟩) hS ?_
  rotate_left
  · rintro W' ⟨p5, p2, p1, p6⟩
    go_simp
    try with_reducible rfl
  try simp only [Act.put, List.setIfInBounds_toArray, List.set_cons_zero, List.set_cons_succ]
  refine takeH (i := 3) (v := ?_) (some 34) rfl rfl (by kernel_rfl) (by kernel_rfl) (by kernel_rfl) (fun _ _ _ h => h) (Or.inl ⟨by kernel_rfl, ?_⟩) hS ?_
  rotate_left
  · rintro W' ⟨p5, p2, p1, p6⟩
    go_simp
    try with_reducible rfl
  try simp only [Act.put, List.setIfInBounds_toArray, List.set_cons_zero, List.set_cons_succ]
  refine takeH (i := 6) (v := ?_) (some 37) rfl rfl (by kernel_rfl) (by kernel_rfl) (by kernel_rfl) (fun _ _ _ h => h) (Or.inl ⟨by kernel_rfl, ?_⟩) hS ?_
  rotate_left
  · rintro W' ⟨p5, p2, p1, p6⟩
    go_simp
    try with_reducible rfl
  try simp only [Act.put, List.setIfInBounds_toArray, List.set_cons_zero, List.set_cons_succ]
  refine takeH (i := 7) (v := ?_) (some 38) rfl rfl (by kernel_rfl) (by kernel_rfl) (by kernel_rfl) (fun _ _ _ h => h) (Or.inl ⟨by kernel_rfl, ?_⟩) hS ?_
  rotate_left
  · rintro W' ⟨p5, p2, p1, p6⟩
    go_simp
    try with_reducible rfl
  try simp only [Act.put, List.setIfInBounds_toArray, List.set_cons_zero, List.set_cons_succ]
  refine takeH (i := 8) (v := ?_) (some 39) rfl rfl (by kernel_rfl) (by kernel_rfl) (by kernel_rfl) (fun _ _ _ h => h) (Or.inl ⟨by kernel_rfl, ?_⟩) hS ?_
  rotate_left
  · rintro W' ⟨p5, p2, p1, p6⟩
    go_simp
    try with_reducible rfl
  try simp only [Act.put, List.setIfInBounds_toArray, List.set_cons_zero, List.set_cons_succ]
  refine takeH (i := 9) (v := ?_) (some 40) rfl rfl (by kernel_rfl) (by kernel_rfl) (by kernel_rfl) (fun _ _ _ h => h) (Or.inl ⟨by kernel_rfl, ?_⟩) hS ?_
  rotate_left
  · rintro W' ⟨p5, p2, p1, p6⟩
    go_simp
    try with_reducible rfl
  try simp only [Act.put, List.setIfInBounds_toArray, List.set_cons_zero, List.set_cons_succ]
  refine takeH (i := 13) (v := ?_) (some 44) rfl rfl (by kernel_rfl) (by kernel_rfl) (by kernel_rfl) (fun _ _ _ h => h) (Or.inl ⟨by kernel_rfl, ?_⟩) hS ?_
  rotate_left
  · rintro W' ⟨p5, p2, p1, p6⟩
    go_simp
    try with_reducible rfl
  try simp only [Act.put, List.setIfInBounds_toArray, List.set_cons_zero, List.set_cons_succ]
  refine takeH (i := 14) (v := ?_) (some 45) rfl rfl (by kernel_rfl) (by kernel_rfl) (by kernel_rfl) (fun _ _ _ h => h) (Or.inl ⟨by kernel_rfl, ?_⟩) hS ?_
  rotate_left
  · rintro W' ⟨p5, p2, p1, p6⟩
    go_simp
    try with_reducible rfl
  try simp only [Act.put, List.setIfInBounds_toArray, List.set_cons_zero, List.set_cons_succ]
  refine takeH (i := 15) (v := ?_) (some 46) rfl rfl (by kernel_rfl) (by kernel_rfl) (by kernel_rfl) (fun _ _ _ h => h) (Or.inl ⟨by kernel_rfl, ?_⟩) hS ?_
  rotate_left
  · rintro W' ⟨p5, p2, p1, p6⟩
    go_simp
    try with_reducible rfl
  try simp only [Act.put, List.setIfInBounds_toArray, List.set_cons_zero, List.set_cons_succ]
  refine wpAnyH_ready (rs := [0, 10]) (by kernel_rfl) (by simp) ?_
  refine AllReadyH.cons rfl (fun K hK => ?_) ?_
  · skip
    go_simp
    go_wp2_with fail
    refine (c_ops _).mono ?_
    rintro e w5 ⟨cb, rfl, hC, hE5⟩
    have hck : w5.cell? ⟨cb, k, none⟩ = some (.string z) := (by have h := hC k (by omega); rw [Nat.zero_add] at h; rw [h, Hz.out])
    have hcl : cb < w5.heap.size := World.block_lt_of_cell? _ _ hck
    clear hC
    first | (have hSl := (Sl.lit _ [.int .i64 a.client, .int .i64 a.node] 3 hml).ext hE5) | (have hSl := ((Sl.lit _ [.int .i64 a.client, .int .i64 a.node] 3 hml).drew).ext hE5) | skip
    have hEx : Ext W1 w5 := (by first | exact hEx.ext hE5 | exact (hEx.alloc _).ext hE5 | exact ((Mod.refl _ W1).drew).ext hE5 | exact (((Mod.refl _ W1).drew).alloc _).ext hE5 | exact (((Mod.refl _ W1).alloc _).drew).ext hE5)
    have hX := And.intro (hEx.cell (p := ⟨b, 5, none⟩) P5.out id) (And.intro (hEx.cell (p := ⟨b, 2, none⟩) P2.out id) (And.intro (hEx.cell (p := ⟨b, 1, none⟩) P1.out id) (hEx.cell (p := ⟨b, 6, none⟩) P6.out id)))
    refine hK.out _ _ hX (fun hS => ?_)
    clear hK K
    try simp only [Act.put, List.setIfInBounds_toArray, List.set_cons_zero, List.set_cons_succ]
    refine takeH (i := 4) (v := ?_) (some 35) rfl rfl (by kernel_rfl) (by kernel_rfl) (by kernel_rfl) (fun _ _ _ h => h) (Or.inl ⟨by kernel_rfl, ?_⟩) hS ?_
    rotate_left
    · rintro W' ⟨p5, p2, p1, p6⟩
      go_simp
      try with_reducible rfl
    try simp only [Act.put, List.setIfInBounds_toArray, List.set_cons_zero, List.set_cons_succ]
    refine wpAnyH_ready (rs := [5, 10]) (by kernel_rfl) (by simp) ?_
    refine AllReadyH.cons rfl (fun K hK => ?_) ?_
    · skip
      go_simp
      have hX := hS
      refine hK.out _ _ hX (fun hS => ?_)
      clear hK K
      try simp only [Act.put, List.setIfInBounds_toArray, List.set_cons_zero, List.set_cons_succ]
      refine wpAnyH_ready (rs := [10]) (by kernel_rfl) (by simp) ?_
      refine AllReadyH.cons rfl (fun K hK => ?_) ?_
      rotate_left
      · exact AllReadyH.nil
      go_simp
      first | (have hX := And.intro ((hEx.alloc (.cells #[.int .i64 a.client, .int .i64 a.node] 3)).cell (p := ⟨b, 5, none⟩) P5.out id) (And.intro ((hEx.alloc (.cells #[.int .i64 a.client, .int .i64 a.node] 3)).cell (p := ⟨b, 2, none⟩) P2.out id) (And.intro ((hEx.alloc (.cells #[.int .i64 a.client, .int .i64 a.node] 3)).cell (p := ⟨b, 1, none⟩) P1.out id) ((hEx.alloc (.cells #[.int .i64 a.client, .int .i64 a.node] 3)).cell (p := ⟨b, 6, none⟩) P6.out id)))) | (have hX := And.intro ((((Mod.refl (fun _ => False) W1).drew).alloc (.cells #[.int .i64 a.client, .int .i64 a.node] 3)).cell (p := ⟨b, 5, none⟩) P5.out id) (And.intro ((((Mod.refl (fun _ => False) W1).drew).alloc (.cells #[.int .i64 a.client, .int .i64 a.node] 3)).cell (p := ⟨b, 2, none⟩) P2.out id) (And.intro ((((Mod.refl (fun _ => False) W1).drew).alloc (.cells #[.int .i64 a.client, .int .i64 a.node] 3)).cell (p := ⟨b, 1, none⟩) P1.out id) ((((Mod.refl (fun _ => False) W1).drew).alloc (.cells #[.int .i64 a.client, .int .i64 a.node] 3)).cell (p := ⟨b, 6, none⟩) P6.out id))))
      refine hK.out _ _ hX (fun hS => ?_)
      clear hK K
      try simp only [Act.put, List.setIfInBounds_toArray, List.set_cons_zero, List.set_cons_succ]
      refine wpAnyH_ready (rs := [11]) (by kernel_rfl) (by simp) ?_
      refine AllReadyH.cons rfl (fun K hK => ?_) ?_
      rotate_left
      · exact AllReadyH.nil
      go_simp
      go_wp2_with fail
      refine (Hsy.out _ _ (by first | exact hEx | exact hEx.alloc _) (by first | exact hSl | exact Sl.lit _ _ _ hml)).mono ?_
      rintro e w6 ⟨rfl, hE6⟩
      have hEx : Ext W1 w6 := (by first | exact hEx.ext hE6 | exact (hEx.alloc _).ext hE6 | exact ((Mod.refl _ W1).drew).ext hE6 | exact (((Mod.refl _ W1).drew).alloc _).ext hE6 | exact (((Mod.refl _ W1).alloc _).drew).ext hE6)
      have hX := And.intro (hEx.cell (p := ⟨b, 5, none⟩) P5.out id) (And.intro (hEx.cell (p := ⟨b, 2, none⟩) P2.out id) (And.intro (hEx.cell (p := ⟨b, 1, none⟩) P1.out id) (hEx.cell (p := ⟨b, 6, none⟩) P6.out id)))
      refine hK.out _ _ hX (fun hS => ?_)
      clear hK K
      try simp only [Act.put, List.setIfInBounds_toArray, List.set_cons_zero, List.set_cons_succ]
      refine takeH (i := 12) (v := ?_) (some 43) rfl rfl (by kernel_rfl) (by kernel_rfl) (by kernel_rfl) (fun _ _ _ h => h) (Or.inl ⟨by kernel_rfl, ?_⟩) hS ?_
      rotate_left
      · rintro W' ⟨p5, p2, p1, p6⟩
        go_simp
        try with_reducible rfl
      try simp only [Act.put, List.setIfInBounds_toArray, List.set_cons_zero, List.set_cons_succ]
      refine wpAnyH_ready (rs := [16]) (by kernel_rfl) (by simp) ?_
      refine AllReadyH.cons rfl (fun K hK => ?_) ?_
      rotate_left
      · exact AllReadyH.nil
      go_simp
      go_wp2_with fail
      refine (Hhx.out _).mono ?_
      rintro e w7 ⟨rfl, hE7⟩
      have hEx : Ext W1 w7 := (by first | exact hEx.ext hE7 | exact (hEx.alloc _).ext hE7 | exact ((Mod.refl _ W1).drew).ext hE7 | exact (((Mod.refl _ W1).drew).alloc _).ext hE7 | exact (((Mod.refl _ W1).alloc _).drew).ext hE7)
      have hX := And.intro (hEx.cell (p := ⟨b, 5, none⟩) P5.out id) (And.intro (hEx.cell (p := ⟨b, 2, none⟩) P2.out id) (And.intro (hEx.cell (p := ⟨b, 1, none⟩) P1.out id) (hEx.cell (p := ⟨b, 6, none⟩) P6.out id)))
      refine hK.out _ _ hX (fun hS => ?_)
      clear hK K
      try simp only [Act.put, List.setIfInBounds_toArray, List.set_cons_zero, List.set_cons_succ]
      refine takeH (i := 17) (v := ?_) (some 48) rfl rfl (by kernel_rfl) (by kernel_rfl) (by kernel_rfl) (fun _ _ _ h => h) (Or.inl ⟨by kernel_rfl, ?_⟩) hS ?_
      rotate_left
      · rintro W' ⟨p5, p2, p1, p6⟩
        go_simp
        try with_reducible rfl
      try simp only [Act.put, List.setIfInBounds_toArray, List.set_cons_zero, List.set_cons_succ]
      refine takeH (i := 18) (v := ?_) (some 4) rfl rfl (by kernel_rfl) (by kernel_rfl) (by kernel_rfl) (fun _ _ _ h => h) (Or.inl ⟨by kernel_rfl, ?_⟩) hS ?_
      rotate_left
      · rintro W' ⟨p5, p2, p1, p6⟩
        go_simp
        try with_reducible rfl
      try simp only [Act.put, List.setIfInBounds_toArray, List.set_cons_zero, List.set_cons_succ]
      refine wpAnyH_done (by kernel_rfl) ?_ _
      go_wp2_with fail
      go_meet
      exact ⟨rfl, hEx⟩
    refine AllReadyH.cons rfl (fun K hK => ?_) ?_
    · skip
      go_simp
      first | (have hX := And.intro ((hEx.alloc (.cells #[.int .i64 a.client, .int .i64 a.node] 3)).cell (p := ⟨b, 5, none⟩) P5.out id) (And.intro ((hEx.alloc (.cells #[.int .i64 a.client, .int .i64 a.node] 3)).cell (p := ⟨b, 2, none⟩) P2.out id) (And.intro ((hEx.alloc (.cells #[.int .i64 a.client, .int .i64 a.node] 3)).cell (p := ⟨b, 1, none⟩) P1.out id) ((hEx.alloc (.cells #[.int .i64 a.client, .int .i64 a.node] 3)).cell (p := ⟨b, 6, none⟩) P6.out id)))) | (have hX := And.intro ((((Mod.refl (fun _ => False) W1).drew).alloc (.cells #[.int .i64 a.client, .int .i64 a.node] 3)).cell (p := ⟨b, 5, none⟩) P5.out id) (And.intro ((((Mod.refl (fun _ => False) W1).drew).alloc (.cells #[.int .i64 a.client, .int .i64 a.node] 3)).cell (p := ⟨b, 2, none⟩) P2.out id) (And.intro ((((Mod.refl (fun _ => False) W1).drew).alloc (.cells #[.int .i64 a.client, .int .i64 a.node] 3)).cell (p := ⟨b, 1, none⟩) P1.out id) ((((Mod.refl (fun _ => False) W1).drew).alloc (.cells #[.int .i64 a.client, .int .i64 a.node] 3)).cell (p := ⟨b, 6, none⟩) P6.out id))))
      refine hK.out _ _ hX (fun hS => ?_)
      clear hK K
      try simp only [Act.put, List.setIfInBounds_toArray, List.set_cons_zero, List.set_cons_succ]
      refine wpAnyH_ready (rs := [5]) (by kernel_rfl) (by simp) ?_
      refine AllReadyH.cons rfl (fun K hK => ?_) ?_
      rotate_left
      · exact AllReadyH.nil
      go_simp
      have hX := hS
      refine hK.out _ _ hX (fun hS => ?_)
      clear hK K
      try simp only [Act.put, List.setIfInBounds_toArray, List.set_cons_zero, List.set_cons_succ]
      refine wpAnyH_ready (rs := [11]) (by kernel_rfl) (by simp) ?_
      refine AllReadyH.cons rfl (fun K hK => ?_) ?_
      rotate_left
      · exact AllReadyH.nil
      go_simp
      go_wp2_with fail
      refine (Hsy.out _ _ (by first | exact hEx | exact hEx.alloc _) (by first | exact hSl | exact Sl.lit _ _ _ hml)).mono ?_
      rintro e w6 ⟨rfl, hE6⟩
      have hEx : Ext W1 w6 := (by first | exact hEx.ext hE6 | exact (hEx.alloc _).ext hE6 | exact ((Mod.refl _ W1).drew).ext hE6 | exact (((Mod.refl _ W1).drew).alloc _).ext hE6 | exact (((Mod.refl _ W1).alloc _).drew).ext hE6)
      have hX := And.intro (hEx.cell (p := ⟨b, 5, none⟩) P5.out id) (And.intro (hEx.cell (p := ⟨b, 2, none⟩) P2.out id) (And.intro (hEx.cell (p := ⟨b, 1, none⟩) P1.out id) (hEx.cell (p := ⟨b, 6, none⟩) P6.out id)))
      refine hK.out _ _ hX (fun hS => ?_)
      clear hK K
      try simp only [Act.put, List.setIfInBounds_toArray, List.set_cons_zero, List.set_cons_succ]
      refine takeH (i := 12) (v := ?_) (some 43) rfl rfl (by kernel_rfl) (by kernel_rfl) (by kernel_rfl) (fun _ _ _ h => h) (Or.inl ⟨by kernel_rfl, ?_⟩) hS ?_
      rotate_left
      · rintro W' ⟨p5, p2, p1, p6⟩
        go_simp
        try with_reducible rfl
      try simp only [Act.put, List.setIfInBounds_toArray, List.set_cons_zero, List.set_cons_succ]
      refine wpAnyH_ready (rs := [16]) (by kernel_rfl) (by simp) ?_
      refine AllReadyH.cons rfl (fun K hK => ?_) ?_
      rotate_left
      · exact AllReadyH.nil
      go_simp
      go_wp2_with fail
      refine (Hhx.out _).mono ?_
      rintro e w7 ⟨rfl, hE7⟩
      have hEx : Ext W1 w7 := (by first | exact hEx.ext hE7 | exact (hEx.alloc _).ext hE7 | exact ((Mod.refl _ W1).drew).ext hE7 | exact (((Mod.refl _ W1).drew).alloc _).ext hE7 | exact (((Mod.refl _ W1).alloc _).drew).ext hE7)
      have hX := And.intro (hEx.cell (p := ⟨b, 5, none⟩) P5.out id) (And.intro (hEx.cell (p := ⟨b, 2, none⟩) P2.out id) (And.intro (hEx.cell (p := ⟨b, 1, none⟩) P1.out id) (hEx.cell (p := ⟨b, 6, none⟩) P6.out id)))
      refine hK.out _ _ hX (fun hS => ?_)
      clear hK K
      try simp only [Act.put, List.setIfInBounds_toArray, List.set_cons_zero, List.set_cons_succ]
      refine takeH (i := 17) (v := ?_) (some 48) rfl rfl (by kernel_rfl) (by kernel_rfl) (by kernel_rfl) (fun _ _ _ h => h) (Or.inl ⟨by kernel_rfl, ?_⟩) hS ?_
      rotate_left
      · rintro W' ⟨p5, p2, p1, p6⟩
        go_simp
        try with_reducible rfl
      try simp only [Act.put, List.setIfInBounds_toArray, List.set_cons_zero, List.set_cons_succ]
      refine takeH (i := 18) (v := ?_) (some 4) rfl rfl (by kernel_rfl) (by kernel_rfl) (by kernel_rfl) (fun _ _ _ h => h) (Or.inl ⟨by kernel_rfl, ?_⟩) hS ?_
      rotate_left
      · rintro W' ⟨p5, p2, p1, p6⟩
        go_simp
        try with_reducible rfl
      try simp only [Act.put, List.setIfInBounds_toArray, List.set_cons_zero, List.set_cons_succ]
      refine wpAnyH_done (by kernel_rfl) ?_ _
      go_wp2_with fail
      go_meet
      exact ⟨rfl, hEx⟩
    exact AllReadyH.nil
  refine AllReadyH.cons rfl (fun K hK => ?_) ?_
  · skip
    go_simp
    first | (have hX := And.intro ((hEx.alloc (.cells #[.int .i64 a.client, .int .i64 a.node] 3)).cell (p := ⟨b, 5, none⟩) P5.out id) (And.intro ((hEx.alloc (.cells #[.int .i64 a.client, .int .i64 a.node] 3)).cell (p := ⟨b, 2, none⟩) P2.out id) (And.intro ((hEx.alloc (.cells #[.int .i64 a.client, .int .i64 a.node] 3)).cell (p := ⟨b, 1, none⟩) P1.out id) ((hEx.alloc (.cells #[.int .i64 a.client, .int .i64 a.node] 3)).cell (p := ⟨b, 6, none⟩) P6.out id)))) | (have hX := And.intro ((((Mod.refl (fun _ => False) W1).drew).alloc (.cells #[.int .i64 a.client, .int .i64 a.node] 3)).cell (p := ⟨b, 5, none⟩) P5.out id) (And.intro ((((Mod.refl (fun _ => False) W1).drew).alloc (.cells #[.int .i64 a.client, .int .i64 a.node] 3)).cell (p := ⟨b, 2, none⟩) P2.out id) (And.intro ((((Mod.refl (fun _ => False) W1).drew).alloc (.cells #[.int .i64 a.client, .int .i64 a.node] 3)).cell (p := ⟨b, 1, none⟩) P1.out id) ((((Mod.refl (fun _ => False) W1).drew).alloc (.cells #[.int .i64 a.client, .int .i64 a.node] 3)).cell (p := ⟨b, 6, none⟩) P6.out id))))
    refine hK.out _ _ hX (fun hS => ?_)
    clear hK K
    try simp only [Act.put, List.setIfInBounds_toArray, List.set_cons_zero, List.set_cons_succ]
    refine wpAnyH_ready (rs := [0]) (by kernel_rfl) (by simp) ?_
    refine AllReadyH.cons rfl (fun K hK => ?_) ?_
    rotate_left
    · exact AllReadyH.nil
    go_simp
    go_wp2_with fail
    refine (c_ops _).mono ?_
    rintro e w5 ⟨cb, rfl, hC, hE5⟩
    have hck : w5.cell? ⟨cb, k, none⟩ = some (.string z) := (by have h := hC k (by omega); rw [Nat.zero_add] at h; rw [h, Hz.out])
    have hcl : cb < w5.heap.size := World.block_lt_of_cell? _ _ hck
    clear hC
    first | (have hSl := (Sl.lit _ [.int .i64 a.client, .int .i64 a.node] 3 hml).ext hE5) | (have hSl := ((Sl.lit _ [.int .i64 a.client, .int .i64 a.node] 3 hml).drew).ext hE5) | skip
    have hEx : Ext W1 w5 := (by first | exact hEx.ext hE5 | exact (hEx.alloc _).ext hE5 | exact ((Mod.refl _ W1).drew).ext hE5 | exact (((Mod.refl _ W1).drew).alloc _).ext hE5 | exact (((Mod.refl _ W1).alloc _).drew).ext hE5)
    have hX := And.intro (hEx.cell (p := ⟨b, 5, none⟩) P5.out id) (And.intro (hEx.cell (p := ⟨b, 2, none⟩) P2.out id) (And.intro (hEx.cell (p := ⟨b, 1, none⟩) P1.out id) (hEx.cell (p := ⟨b, 6, none⟩) P6.out id)))
    refine hK.out _ _ hX (fun hS => ?_)
    clear hK K
    try simp only [Act.put, List.setIfInBounds_toArray, List.set_cons_zero, List.set_cons_succ]
    refine takeH (i := 4) (v := ?_) (some 35) rfl rfl (by kernel_rfl) (by kernel_rfl) (by kernel_rfl) (fun _ _ _ h => h) (Or.inl ⟨by kernel_rfl, ?_⟩) hS ?_
    rotate_left
    · rintro W' ⟨p5, p2, p1, p6⟩
      go_simp
      try with_reducible rfl
    try simp only [Act.put, List.setIfInBounds_toArray, List.set_cons_zero, List.set_cons_succ]
    refine wpAnyH_ready (rs := [5]) (by kernel_rfl) (by simp) ?_
    refine AllReadyH.cons rfl (fun K hK => ?_) ?_
    rotate_left
    · exact AllReadyH.nil
    go_simp
    have hX := hS
    refine hK.out _ _ hX (fun hS => ?_)
    clear hK K
    try simp only [Act.put, List.setIfInBounds_toArray, List.set_cons_zero, List.set_cons_succ]
    refine wpAnyH_ready (rs := [11]) (by kernel_rfl) (by simp) ?_
    refine AllReadyH.cons rfl (fun K hK => ?_) ?_
    rotate_left
    · exact AllReadyH.nil
    go_simp
    go_wp2_with fail
    refine (Hsy.out _ _ (by first | exact hEx | exact hEx.alloc _) (by first | exact hSl | exact Sl.lit _ _ _ hml)).mono ?_
    rintro e w6 ⟨rfl, hE6⟩
    have hEx : Ext W1 w6 := (by first | exact hEx.ext hE6 | exact (hEx.alloc _).ext hE6 | exact ((Mod.refl _ W1).drew).ext hE6 | exact (((Mod.refl _ W1).drew).alloc _).ext hE6 | exact (((Mod.refl _ W1).alloc _).drew).ext hE6)
    have hX := And.intro (hEx.cell (p := ⟨b, 5, none⟩) P5.out id) (And.intro (hEx.cell (p := ⟨b, 2, none⟩) P2.out id) (And.intro (hEx.cell (p := ⟨b, 1, none⟩) P1.out id) (hEx.cell (p := ⟨b, 6, none⟩) P6.out id)))
    refine hK.out _ _ hX (fun hS => ?_)
    clear hK K
    try simp only [Act.put, List.setIfInBounds_toArray, List.set_cons_zero, List.set_cons_succ]
    refine takeH (i := 12) (v := ?_) (some 43) rfl rfl (by kernel_rfl) (by kernel_rfl) (by kernel_rfl) (fun _ _ _ h => h) (Or.inl ⟨by kernel_rfl, ?_⟩) hS ?_
    rotate_left
    · rintro W' ⟨p5, p2, p1, p6⟩
      go_simp
      try with_reducible rfl
    try simp only [Act.put, List.setIfInBounds_toArray, List.set_cons_zero, List.set_cons_succ]
    refine wpAnyH_ready (rs := [16]) (by kernel_rfl) (by simp) ?_
    refine AllReadyH.cons rfl (fun K hK => ?_) ?_
    rotate_left
    · exact AllReadyH.nil
    go_simp
    go_wp2_with fail
    refine (Hhx.out _).mono ?_
    rintro e w7 ⟨rfl, hE7⟩
    have hEx : Ext W1 w7 := (by first | exact hEx.ext hE7 | exact (hEx.alloc _).ext hE7 | exact ((Mod.refl _ W1).drew).ext hE7 | exact (((Mod.refl _ W1).drew).alloc _).ext hE7 | exact (((Mod.refl _ W1).alloc _).drew).ext hE7)
    have hX := And.intro (hEx.cell (p := ⟨b, 5, none⟩) P5.out id) (And.intro (hEx.cell (p := ⟨b, 2, none⟩) P2.out id) (And.intro (hEx.cell (p := ⟨b, 1, none⟩) P1.out id) (hEx.cell (p := ⟨b, 6, none⟩) P6.out id)))
    refine hK.out _ _ hX (fun hS => ?_)
    clear hK K
    try simp only [Act.put, List.setIfInBounds_toArray, List.set_cons_zero, List.set_cons_succ]
    refine takeH (i := 17) (v := ?_) (some 48) rfl rfl (by kernel_rfl) (by kernel_rfl) (by kernel_rfl) (fun _ _ _ h => h) (Or.inl ⟨by kernel_rfl, ?_⟩) hS ?_
    rotate_left
    · rintro W' ⟨p5, p2, p1, p6⟩
      go_simp
      try with_reducible rfl
    try simp only [Act.put, List.setIfInBounds_toArray, List.set_cons_zero, List.set_cons_succ]
    refine takeH (i := 18) (v := ?_) (some 4) rfl rfl (by kernel_rfl) (by kernel_rfl) (by kernel_rfl) (fun _ _ _ h => h) (Or.inl ⟨by kernel_rfl, ?_⟩) hS ?_
    rotate_left
    · rintro W' ⟨p5, p2, p1, p6⟩
      go_simp
      try with_reducible rfl
    try simp only [Act.put, List.setIfInBounds_toArray, List.set_cons_zero, List.set_cons_succ]
    refine wpAnyH_done (by kernel_rfl) ?_ _
    go_wp2_with fail
    go_meet
    exact ⟨rfl, hEx⟩
  exact AllReadyH.nil
 case rest =>
  obtain ⟨rfl, hEx⟩ := hcut
  rw [HS.out]
  obtain ⟨C, hC⟩ : ∃ C, bA (joinL (callU a)) = C := ⟨_, rfl⟩
  rw [hC]
  have HC := Lib.hid hC
  have hCz : C.size ≤ 40000 := by
   rw [← hC]; show (joinL (callU a)).length ≤ 40000
   have h1 := Hll.out
   rw [HW.out, List.append_assoc] at h1
   exact Nat.le_trans (join_pre _ _) h1
  have Hlv : Hid (∀ W, Ext W1 W → (Instr.loadAt 24 (.pointer (some ⟨b, 10, none⟩))).run Tryz.prog W = .ok (.agg #[.int .i64 a.cmd.val.kind, .float .f64 a.cmd.val.num, .string a.cmd.val.text]) W) := Lib.hid (fun W hE => load_row (o := 10) (cs := [.int .i64 a.cmd.val.kind, .float .f64 a.cmd.val.num, .string a.cmd.val.text]) str_val (hE.blk Hb1.out id) rfl (fun j u hu => by rcases j with _ | _ | _ | j <;> first | exact hu | cases hu))
  have Hlo : Hid (∀ W, Ext W1 W → (Instr.loadAt 24 (.pointer (some ⟨b, 7, none⟩))).run Tryz.prog W = .ok (.agg #[.int .i64 a.cmd.old.kind, .float .f64 a.cmd.old.num, .string a.cmd.old.text]) W) := Lib.hid (fun W hE => load_row (o := 7) (cs := [.int .i64 a.cmd.old.kind, .float .f64 a.cmd.old.num, .string a.cmd.old.text]) str_val (hE.blk Hb1.out id) rfl (fun j u hu => by rcases j with _ | _ | _ | j <;> first | exact hu | cases hu))
  have hcv := fun W => r_check a.cmd.val W
  have hco := fun W => r_check a.cmd.old W
  obtain ⟨cv, hcve⟩ : ∃ c, chk a.cmd.val = c := ⟨_, rfl⟩
  obtain ⟨co, hcoe⟩ : ∃ c, chk a.cmd.old = c := ⟨_, rfl⟩
  rw [hcve] at hcv
  rw [hcoe] at hco
  have Hcv := Lib.hid hcv
  have Hco := Lib.hid hco
  have Hcve := Lib.hid hcve
  have Hcoe := Lib.hid hcoe
  have htv := fun W hE => r_Text a.cmd.val W (Hg.out.ext (HE1.out.ext hE)) Hlt.out.valn (by have := Hlt.out.valt; omega)
  have hto := fun W hE => r_Text a.cmd.old W (Hg.out.ext (HE1.out.ext hE)) Hlt.out.oldn (by have := Hlt.out.oldt; omega)
  obtain ⟨tv, htve⟩ : ∃ t, bA (textV a.cmd.val) = t := ⟨_, rfl⟩
  obtain ⟨tu, htoe⟩ : ∃ t, bA (textV a.cmd.old) = t := ⟨_, rfl⟩
  rw [htve] at htv
  rw [htoe] at hto
  have Htv := Lib.hid htv
  have Hto := Lib.hid hto
  have Htve := Lib.hid htve
  have Htoe := Lib.hid htoe
  have htvz : chk a.cmd.val = 0 → tv.size ≤ 12001 := fun e => by rw [← htve]; have h := valW_len a.cmd.val Hlt.out.valt; unfold valW at h; rw [if_pos e] at h; exact h
  have htoz : chk a.cmd.old = 0 → tu.size ≤ 12001 := fun e => by rw [← htoe]; have h := valW_len a.cmd.old Hlt.out.oldt; unfold valW at h; rw [if_pos e] at h; exact h
  rw [hcve] at htvz
  rw [hcoe] at htoz
  clear hcv hco hcve hcoe htv hto htve htoe hC p0 p1 p2 p5 p6
  have p5 : wc.cell? ⟨b, 5, none⟩ = some (.int .i64 (k : Int)) := hEx.cell (p := ⟨b, 5, none⟩) P5.out id
  have hkc : k = 1 ∨ k = 2 ∨ k = 3 ∨ k = 4 ∨ k = 5 ∨ k = 6 := by omega
  have hbad : ∀ (h : (k : Int) = 4 ∧ co ≠ 0 ∨ ((k : Int) ≠ 1 ∧ (k : Int) ≠ 3) ∧ cv ≠ 0), lineP a = none := fun h => line_bad Hk10.out (by rw [Hk.out]; omega) (by rw [Hk.out]; omega) (by rw [Hk.out, Hcve.out, Hcoe.out]; exact h)
  have Hbad := Lib.hid hbad
  obtain ⟨q, hq⟩ : ∃ q : Int, (valsP k : Int) = q := ⟨_, rfl⟩
  have hrv := fun W => r_values k W
  rw [hq] at hrv
  have hqc : (q = 0 ∧ (k = 1 ∨ k = 3)) ∨ (q = 1 ∧ k ≠ 1 ∧ k ≠ 3 ∧ k ≠ 4) ∨ (q = 2 ∧ k = 4) := by
   rcases hkc with rfl | rfl | rfl | rfl | rfl | rfl <;> rw [← hq] <;> decide
  have Hrv := Lib.hid hrv
  clear hq hrv hkc hbad
  rcases hqc with ⟨rfl, hk13⟩ | ⟨rfl, hk1, hk3, hk4⟩ | ⟨rfl, hk4⟩
  · have HL : Hid (bA (joinL (wordsA a)) = C) := Lib.hid (by rw [HW.out, if_neg (by omega), if_neg (by omega), List.append_nil, List.append_nil, HC.out])
    go_upto_region 34 with (first
       | (go_at_call 39; refine (Hrv.out _).mono ?_; rintro e w3 ⟨rfl, rfl⟩))
    obtain ⟨wt, hwt, hEw⟩ : ∃ wt, wt = _ ∧ Ext W1 wt := ⟨_, rfl, hEx⟩
    rw [← hwt]
    clear hwt hEx
    have Hbt := Lib.hid (hEw.blk Hb1.out id)
    have HEt := Lib.hid (HE1.out.ext hEw)
    have HBt := Lib.hid (HB.out.ext HEt.out)
    clear hEw
    obtain ⟨ln, hln⟩ : ∃ ln, C = ln := ⟨_, rfl⟩
    rw [hln]
    have Hln : Hid (bA (joinL (wordsA a)) = ln) := Lib.hid (HL.out.trans hln)
    have hls : ln.size ≤ 100000 := by rw [← Hln.out]; show (joinL (wordsA a)).length ≤ 100000; have := Hll.out; omega
    clear hln
    have hrd := r_read ln wt (Hg.out.ext HEt.out) hls
    obtain ⟨res, hres⟩ : ∃ res, readP ln = res := ⟨_, rfl⟩
    rw [hres] at hrd
    have HlP : Hid (lineP a = lineR a ln res) := Lib.hid (by rw [← hres]; exact lineP_eq Hln.out)
    clear hres
    unfold ReadOut at hrd
    go_wp2_with fail
    refine hrd.mono ?_
    rintro e w5 ⟨A, n, c, rfl, HB5, hE5⟩
    have HB5 := Lib.hid HB5
    have hbt5 := hE5.blk Hbt.out id
    have Hbt5 := Lib.hid hbt5
    have HE5 := Lib.hid hE5
    clear hbt5 hE5 hrd
    obtain ⟨d, hd⟩ : ∃ d, w5.heap.size = d := ⟨_, rfl⟩
    have hn5 : (w5.alloc (.cells (AAct.zero.cells (.slice none 0 0)).toArray 31)).heap[d]? = some (.cells (AAct.zero.cells (.slice none 0 0)).toArray 31 (0, 0)) := hd ▸ heap_new w5 _
    rcases res with _ | y
    · simp only [Option.getD_none, Option.isSome_none]
      have hN : Hid (lineP a = none) := Lib.hid HlP.out
      go_upto_region 35 with (refine wpList_stR rfl 31 _ _ rfl 18 d 0 (AAct.zero.cells (.slice A n c)) rfl rfl str_act _ _ (AAct.zero.cells (.slice A n c)) hn5 rfl (by simp) (by simp [Value.oneCell']) rfl ?_; intro W6 ha6 hm6 hs6)
      have HX := Lib.hid ((HEt.out.ext HE5.out).ext (Mod.toExt (((Mod.refl (Since w5.heap.size) w5).alloc _).trans hm6 (fun k hk e => by unfold Since; omega))))
      clear hn5 ha6 hm6 hs6
      go_wp2
      go_ret2
      exact ⟨by rw [hN.out]; rfl, HX.out⟩
    simp only [Option.getD_some, Option.isSome_some, if_true] at HB5 ⊢
    go_upto_region 35 with (refine wpList_stR rfl 31 _ _ rfl 18 d 0 (y.cells (.slice A n c)) rfl rfl str_act _ _ (y.cells (.slice A n c)) hn5 rfl (by simp) (by simp [Value.oneCell']) rfl ?_; intro W6 ha6 hm6 hs6)
    have hX6 : Ext w5 W6 := Mod.toExt (((Mod.refl (Since w5.heap.size) w5).alloc _).trans hm6 (fun k hk e => by unfold Since; omega))
    have hb6 := hX6.blk Hbt5.out id
    have hl1 : (Instr.loadAt 31 (.pointer (some ⟨b, 0, none⟩))).run Tryz.prog W6 = .ok (.agg (a.cells bv).toArray) W6 := load_row str_act hb6 rfl (fun j u hu => by rw [Nat.zero_add]; exact hu)
    have hl2 : (Instr.loadAt 31 (.pointer (some ⟨d, 0, none⟩))).run Tryz.prog W6 = .ok (.agg (y.cells (.slice A n c)).toArray) W6 := load_row str_act ha6 rfl (fun j u hu => by rw [Nat.zero_add]; exact hu)
    have hka := k_actG a y W6 _ _ _ _ (HBt.out.ext (HE5.out.ext hX6)) (HB5.out.ext hX6)
    have HX := Lib.hid ((HEt.out.ext HE5.out).ext hX6)
    clear hn5 ha6 hm6 hs6 hX6 hb6
    obtain ⟨q, hq⟩ : ∃ q, eqAct a y = q := ⟨_, rfl⟩
    rw [hq] at hka
    have Hq : Hid (eqAct y a = q) := Lib.hid (by rw [eqAct_comm]; exact hq)
    clear hq
    rcases q with _ | _
    · have hN : Hid (lineP a = none) := Lib.hid (by rw [HlP.out]; unfold lineR; simp only [Hq.out, Bool.false_eq_true, if_false])
      go_wp2_with (first
        | (refine wpList_ldW (by kernel_rfl) 31 _ rfl (.pointer (some ⟨b, 0, none⟩)) _ rfl hl1 ?_)
        | (refine wpList_ldW (by kernel_rfl) 31 _ rfl (.pointer (some ⟨d, 0, none⟩)) _ rfl hl2 ?_)
        | (go_at_call 8; refine hka.mono ?_; rintro e w7 ⟨rfl, hE7⟩; clear hl1 hl2))
      go_ret2
      exact ⟨by rw [hN.out]; rfl, HX.out.ext hE7⟩
    have hN : Hid (lineP a = some ln) := Lib.hid (by rw [HlP.out]; unfold lineR; simp only [Hq.out, if_true])
    go_wp2_with (first
      | (refine wpList_ldW (by kernel_rfl) 31 _ rfl (.pointer (some ⟨b, 0, none⟩)) _ rfl hl1 ?_)
      | (refine wpList_ldW (by kernel_rfl) 31 _ rfl (.pointer (some ⟨d, 0, none⟩)) _ rfl hl2 ?_)
      | (go_at_call 8; refine hka.mono ?_; rintro e w7 ⟨rfl, hE7⟩; clear hl1 hl2))
    go_ret2
    exact ⟨by rw [hN.out]; rfl, HX.out.ext hE7⟩
  · by_cases h0 : cv = 0
    · have htz := htvz h0
      subst h0
      have HL : Hid (bA (joinL (wordsA a)) = C ++ ⟨#[32]⟩ ++ tv) := Lib.hid (by
       rw [HW.out, if_neg (by omega), if_pos (by omega), List.append_nil, show valW a.cmd.val = textV a.cmd.val from if_pos Hcve.out, ← join_one _ (by unfold callU; simp), HC.out, Htve.out])
      go_upto_region 34 with (first
         | (go_at_call 39; refine (Hrv.out _).mono ?_; rintro e w3 ⟨rfl, rfl⟩)
         | (refine wpList_ldW (by kernel_rfl) 24 _ rfl (.pointer (some ⟨b, 10, none⟩)) _ rfl (Hlv.out _ hEx) ?_)
         | (refine wpList_ld rfl 24 _ rfl (.pointer (some ⟨b, 10, none⟩)) _ rfl (Hlv.out _ hEx) ?_)
         | (go_at_call 40; with_reducible refine (Hcv.out _).mono ?_; rintro e w5 ⟨rfl, hE5⟩; have hEx := hEx.ext hE5)
         | (go_at_call 41; with_reducible refine (Htv.out _ hEx).mono ?_; rintro e w6 ⟨rfl, hE6⟩; have hEx := hEx.ext hE6))
      obtain ⟨wt, hwt, hEw⟩ : ∃ wt, wt = _ ∧ Ext W1 wt := ⟨_, rfl, hEx⟩
      rw [← hwt]
      clear hwt hEx
      have Hbt := Lib.hid (hEw.blk Hb1.out id)
      have HEt := Lib.hid (HE1.out.ext hEw)
      have HBt := Lib.hid (HB.out.ext HEt.out)
      clear hEw
      obtain ⟨ln, hln⟩ : ∃ ln, C ++ ⟨#[32]⟩ ++ tv = ln := ⟨_, rfl⟩
      rw [hln]
      have Hln : Hid (bA (joinL (wordsA a)) = ln) := Lib.hid (HL.out.trans hln)
      have hls : ln.size ≤ 100000 := by rw [← Hln.out]; show (joinL (wordsA a)).length ≤ 100000; have := Hll.out; omega
      clear hln
      have hrd := r_read ln wt (Hg.out.ext HEt.out) hls
      obtain ⟨res, hres⟩ : ∃ res, readP ln = res := ⟨_, rfl⟩
      rw [hres] at hrd
      have HlP : Hid (lineP a = lineR a ln res) := Lib.hid (by rw [← hres]; exact lineP_eq Hln.out)
      clear hres
      unfold ReadOut at hrd
      go_wp2_with fail
      refine hrd.mono ?_
      rintro e w5 ⟨A, n, c, rfl, HB5, hE5⟩
      have HB5 := Lib.hid HB5
      have hbt5 := hE5.blk Hbt.out id
      have Hbt5 := Lib.hid hbt5
      have HE5 := Lib.hid hE5
      clear hbt5 hE5 hrd
      obtain ⟨d, hd⟩ : ∃ d, w5.heap.size = d := ⟨_, rfl⟩
      have hn5 : (w5.alloc (.cells (AAct.zero.cells (.slice none 0 0)).toArray 31)).heap[d]? = some (.cells (AAct.zero.cells (.slice none 0 0)).toArray 31 (0, 0)) := hd ▸ heap_new w5 _
      rcases res with _ | y
      · simp only [Option.getD_none, Option.isSome_none]
        have hN : Hid (lineP a = none) := Lib.hid HlP.out
        go_upto_region 35 with (refine wpList_stR rfl 31 _ _ rfl 18 d 0 (AAct.zero.cells (.slice A n c)) rfl rfl str_act _ _ (AAct.zero.cells (.slice A n c)) hn5 rfl (by simp) (by simp [Value.oneCell']) rfl ?_; intro W6 ha6 hm6 hs6)
        have HX := Lib.hid ((HEt.out.ext HE5.out).ext (Mod.toExt (((Mod.refl (Since w5.heap.size) w5).alloc _).trans hm6 (fun k hk e => by unfold Since; omega))))
        clear hn5 ha6 hm6 hs6
        go_wp2
        go_ret2
        exact ⟨by rw [hN.out]; rfl, HX.out⟩
      simp only [Option.getD_some, Option.isSome_some, if_true] at HB5 ⊢
      go_upto_region 35 with (refine wpList_stR rfl 31 _ _ rfl 18 d 0 (y.cells (.slice A n c)) rfl rfl str_act _ _ (y.cells (.slice A n c)) hn5 rfl (by simp) (by simp [Value.oneCell']) rfl ?_; intro W6 ha6 hm6 hs6)
      have hX6 : Ext w5 W6 := Mod.toExt (((Mod.refl (Since w5.heap.size) w5).alloc _).trans hm6 (fun k hk e => by unfold Since; omega))
      have hb6 := hX6.blk Hbt5.out id
      have hl1 : (Instr.loadAt 31 (.pointer (some ⟨b, 0, none⟩))).run Tryz.prog W6 = .ok (.agg (a.cells bv).toArray) W6 := load_row str_act hb6 rfl (fun j u hu => by rw [Nat.zero_add]; exact hu)
      have hl2 : (Instr.loadAt 31 (.pointer (some ⟨d, 0, none⟩))).run Tryz.prog W6 = .ok (.agg (y.cells (.slice A n c)).toArray) W6 := load_row str_act ha6 rfl (fun j u hu => by rw [Nat.zero_add]; exact hu)
      have hka := k_actG a y W6 _ _ _ _ (HBt.out.ext (HE5.out.ext hX6)) (HB5.out.ext hX6)
      have HX := Lib.hid ((HEt.out.ext HE5.out).ext hX6)
      clear hn5 ha6 hm6 hs6 hX6 hb6
      obtain ⟨q, hq⟩ : ∃ q, eqAct a y = q := ⟨_, rfl⟩
      rw [hq] at hka
      have Hq : Hid (eqAct y a = q) := Lib.hid (by rw [eqAct_comm]; exact hq)
      clear hq
      rcases q with _ | _
      · have hN : Hid (lineP a = none) := Lib.hid (by rw [HlP.out]; unfold lineR; simp only [Hq.out, Bool.false_eq_true, if_false])
        go_wp2_with (first
          | (refine wpList_ldW (by kernel_rfl) 31 _ rfl (.pointer (some ⟨b, 0, none⟩)) _ rfl hl1 ?_)
          | (refine wpList_ldW (by kernel_rfl) 31 _ rfl (.pointer (some ⟨d, 0, none⟩)) _ rfl hl2 ?_)
          | (go_at_call 8; refine hka.mono ?_; rintro e w7 ⟨rfl, hE7⟩; clear hl1 hl2))
        go_ret2
        exact ⟨by rw [hN.out]; rfl, HX.out.ext hE7⟩
      have hN : Hid (lineP a = some ln) := Lib.hid (by rw [HlP.out]; unfold lineR; simp only [Hq.out, if_true])
      go_wp2_with (first
        | (refine wpList_ldW (by kernel_rfl) 31 _ rfl (.pointer (some ⟨b, 0, none⟩)) _ rfl hl1 ?_)
        | (refine wpList_ldW (by kernel_rfl) 31 _ rfl (.pointer (some ⟨d, 0, none⟩)) _ rfl hl2 ?_)
        | (go_at_call 8; refine hka.mono ?_; rintro e w7 ⟨rfl, hE7⟩; clear hl1 hl2))
      go_ret2
      exact ⟨by rw [hN.out]; rfl, HX.out.ext hE7⟩
    · have Hn : Hid (lineP a = none) := Lib.hid (Hbad.out (.inr ⟨by omega, h0⟩))
      have d0 : (cv != 0) = true := by simpa using h0
      clear h0
      go_wp2_with (first
         | (go_at_call 39; refine (Hrv.out _).mono ?_; rintro e w3 ⟨rfl, rfl⟩)
         | (refine wpList_ldW (by kernel_rfl) 24 _ rfl (.pointer (some ⟨b, 10, none⟩)) _ rfl (Hlv.out _ hEx) ?_)
         | (refine wpList_ld rfl 24 _ rfl (.pointer (some ⟨b, 10, none⟩)) _ rfl (Hlv.out _ hEx) ?_)
         | (go_at_call 40; with_reducible refine (Hcv.out _).mono ?_; rintro e w5 ⟨rfl, hE5⟩; have hEx := hEx.ext hE5)
         | (go_at_call 41; with_reducible refine (Htv.out _ hEx).mono ?_; rintro e w6 ⟨rfl, hE6⟩; have hEx := hEx.ext hE6))
      go_ret2
      exact ⟨by rw [Hn.out]; rfl, HE1.out.ext hEx⟩
  · have Hk4 := Lib.hid hk4
    clear hk4
    by_cases ho : co = 0
    · have htoz := htoz ho
      subst ho
      by_cases h0 : cv = 0
      · have htz := htvz h0
        subst h0
        have HL : Hid (bA (joinL (wordsA a)) = C ++ ⟨#[32]⟩ ++ tu ++ ⟨#[32]⟩ ++ tv) := Lib.hid (by
         rw [HW.out, if_pos (by have := Hk4.out; omega), if_pos (by have := Hk4.out; omega), show valW a.cmd.val = textV a.cmd.val from if_pos Hcve.out, show valW a.cmd.old = textV a.cmd.old from if_pos Hcoe.out, ← join_one _ (by simp), ← join_one _ (by unfold callU; simp), HC.out, Htve.out, Htoe.out])
        go_upto_region 34 with (first
           | (go_at_call 39; refine (Hrv.out _).mono ?_; rintro e w3 ⟨rfl, rfl⟩)
           | (refine wpList_ldW (by kernel_rfl) 24 _ rfl (.pointer (some ⟨b, 10, none⟩)) _ rfl (Hlv.out _ hEx) ?_)
           | (refine wpList_ld rfl 24 _ rfl (.pointer (some ⟨b, 10, none⟩)) _ rfl (Hlv.out _ hEx) ?_)
           | (go_at_call 40; with_reducible refine (Hcv.out _).mono ?_; rintro e w5 ⟨rfl, hE5⟩; have hEx := hEx.ext hE5)
           | (go_at_call 41; with_reducible refine (Htv.out _ hEx).mono ?_; rintro e w6 ⟨rfl, hE6⟩; have hEx := hEx.ext hE6)
           | (refine wpList_ldW (by kernel_rfl) 24 _ rfl (.pointer (some ⟨b, 7, none⟩)) _ rfl (Hlo.out _ hEx) ?_)
           | (refine wpList_ld rfl 24 _ rfl (.pointer (some ⟨b, 7, none⟩)) _ rfl (Hlo.out _ hEx) ?_)
           | (go_at_call 40; with_reducible refine (Hco.out _).mono ?_; rintro e w7 ⟨rfl, hE7⟩; have hEx := hEx.ext hE7)
           | (go_at_call 41; with_reducible refine (Hto.out _ hEx).mono ?_; rintro e w8 ⟨rfl, hE8⟩; have hEx := hEx.ext hE8))
        obtain ⟨wt, hwt, hEw⟩ : ∃ wt, wt = _ ∧ Ext W1 wt := ⟨_, rfl, hEx⟩
        rw [← hwt]
        clear hwt hEx
        have Hbt := Lib.hid (hEw.blk Hb1.out id)
        have HEt := Lib.hid (HE1.out.ext hEw)
        have HBt := Lib.hid (HB.out.ext HEt.out)
        clear hEw
        obtain ⟨ln, hln⟩ : ∃ ln, C ++ ⟨#[32]⟩ ++ tu ++ ⟨#[32]⟩ ++ tv = ln := ⟨_, rfl⟩
        rw [hln]
        have Hln : Hid (bA (joinL (wordsA a)) = ln) := Lib.hid (HL.out.trans hln)
        have hls : ln.size ≤ 100000 := by rw [← Hln.out]; show (joinL (wordsA a)).length ≤ 100000; have := Hll.out; omega
        clear hln
        have hrd := r_read ln wt (Hg.out.ext HEt.out) hls
        obtain ⟨res, hres⟩ : ∃ res, readP ln = res := ⟨_, rfl⟩
        rw [hres] at hrd
        have HlP : Hid (lineP a = lineR a ln res) := Lib.hid (by rw [← hres]; exact lineP_eq Hln.out)
        clear hres
        unfold ReadOut at hrd
        go_wp2_with fail
        refine hrd.mono ?_
        rintro e w5 ⟨A, n, c, rfl, HB5, hE5⟩
        have HB5 := Lib.hid HB5
        have hbt5 := hE5.blk Hbt.out id
        have Hbt5 := Lib.hid hbt5
        have HE5 := Lib.hid hE5
        clear hbt5 hE5 hrd
        obtain ⟨d, hd⟩ : ∃ d, w5.heap.size = d := ⟨_, rfl⟩
        have hn5 : (w5.alloc (.cells (AAct.zero.cells (.slice none 0 0)).toArray 31)).heap[d]? = some (.cells (AAct.zero.cells (.slice none 0 0)).toArray 31 (0, 0)) := hd ▸ heap_new w5 _
        rcases res with _ | y
        · simp only [Option.getD_none, Option.isSome_none]
          have hN : Hid (lineP a = none) := Lib.hid HlP.out
          go_upto_region 35 with (refine wpList_stR rfl 31 _ _ rfl 18 d 0 (AAct.zero.cells (.slice A n c)) rfl rfl str_act _ _ (AAct.zero.cells (.slice A n c)) hn5 rfl (by simp) (by simp [Value.oneCell']) rfl ?_; intro W6 ha6 hm6 hs6)
          have HX := Lib.hid ((HEt.out.ext HE5.out).ext (Mod.toExt (((Mod.refl (Since w5.heap.size) w5).alloc _).trans hm6 (fun k hk e => by unfold Since; omega))))
          clear hn5 ha6 hm6 hs6
          go_wp2
          go_ret2
          exact ⟨by rw [hN.out]; rfl, HX.out⟩
        simp only [Option.getD_some, Option.isSome_some, if_true] at HB5 ⊢
        go_upto_region 35 with (refine wpList_stR rfl 31 _ _ rfl 18 d 0 (y.cells (.slice A n c)) rfl rfl str_act _ _ (y.cells (.slice A n c)) hn5 rfl (by simp) (by simp [Value.oneCell']) rfl ?_; intro W6 ha6 hm6 hs6)
        have hX6 : Ext w5 W6 := Mod.toExt (((Mod.refl (Since w5.heap.size) w5).alloc _).trans hm6 (fun k hk e => by unfold Since; omega))
        have hb6 := hX6.blk Hbt5.out id
        have hl1 : (Instr.loadAt 31 (.pointer (some ⟨b, 0, none⟩))).run Tryz.prog W6 = .ok (.agg (a.cells bv).toArray) W6 := load_row str_act hb6 rfl (fun j u hu => by rw [Nat.zero_add]; exact hu)
        have hl2 : (Instr.loadAt 31 (.pointer (some ⟨d, 0, none⟩))).run Tryz.prog W6 = .ok (.agg (y.cells (.slice A n c)).toArray) W6 := load_row str_act ha6 rfl (fun j u hu => by rw [Nat.zero_add]; exact hu)
        have hka := k_actG a y W6 _ _ _ _ (HBt.out.ext (HE5.out.ext hX6)) (HB5.out.ext hX6)
        have HX := Lib.hid ((HEt.out.ext HE5.out).ext hX6)
        clear hn5 ha6 hm6 hs6 hX6 hb6
        obtain ⟨q, hq⟩ : ∃ q, eqAct a y = q := ⟨_, rfl⟩
        rw [hq] at hka
        have Hq : Hid (eqAct y a = q) := Lib.hid (by rw [eqAct_comm]; exact hq)
        clear hq
        rcases q with _ | _
        · have hN : Hid (lineP a = none) := Lib.hid (by rw [HlP.out]; unfold lineR; simp only [Hq.out, Bool.false_eq_true, if_false])
          go_wp2_with (first
            | (refine wpList_ldW (by kernel_rfl) 31 _ rfl (.pointer (some ⟨b, 0, none⟩)) _ rfl hl1 ?_)
            | (refine wpList_ldW (by kernel_rfl) 31 _ rfl (.pointer (some ⟨d, 0, none⟩)) _ rfl hl2 ?_)
            | (go_at_call 8; refine hka.mono ?_; rintro e w7 ⟨rfl, hE7⟩; clear hl1 hl2))
          go_ret2
          exact ⟨by rw [hN.out]; rfl, HX.out.ext hE7⟩
        have hN : Hid (lineP a = some ln) := Lib.hid (by rw [HlP.out]; unfold lineR; simp only [Hq.out, if_true])
        go_wp2_with (first
          | (refine wpList_ldW (by kernel_rfl) 31 _ rfl (.pointer (some ⟨b, 0, none⟩)) _ rfl hl1 ?_)
          | (refine wpList_ldW (by kernel_rfl) 31 _ rfl (.pointer (some ⟨d, 0, none⟩)) _ rfl hl2 ?_)
          | (go_at_call 8; refine hka.mono ?_; rintro e w7 ⟨rfl, hE7⟩; clear hl1 hl2))
        go_ret2
        exact ⟨by rw [hN.out]; rfl, HX.out.ext hE7⟩
      · have Hn : Hid (lineP a = none) := Lib.hid (Hbad.out (.inr ⟨by have := Hk4.out; omega, h0⟩))
        have d0 : (cv != 0) = true := by simpa using h0
        clear h0
        go_wp2_with (first
           | (go_at_call 39; refine (Hrv.out _).mono ?_; rintro e w3 ⟨rfl, rfl⟩)
           | (refine wpList_ldW (by kernel_rfl) 24 _ rfl (.pointer (some ⟨b, 10, none⟩)) _ rfl (Hlv.out _ hEx) ?_)
           | (refine wpList_ld rfl 24 _ rfl (.pointer (some ⟨b, 10, none⟩)) _ rfl (Hlv.out _ hEx) ?_)
           | (go_at_call 40; with_reducible refine (Hcv.out _).mono ?_; rintro e w5 ⟨rfl, hE5⟩; have hEx := hEx.ext hE5)
           | (go_at_call 41; with_reducible refine (Htv.out _ hEx).mono ?_; rintro e w6 ⟨rfl, hE6⟩; have hEx := hEx.ext hE6)
           | (refine wpList_ldW (by kernel_rfl) 24 _ rfl (.pointer (some ⟨b, 7, none⟩)) _ rfl (Hlo.out _ hEx) ?_)
           | (refine wpList_ld rfl 24 _ rfl (.pointer (some ⟨b, 7, none⟩)) _ rfl (Hlo.out _ hEx) ?_)
           | (go_at_call 40; with_reducible refine (Hco.out _).mono ?_; rintro e w7 ⟨rfl, hE7⟩; have hEx := hEx.ext hE7)
           | (go_at_call 41; with_reducible refine (Hto.out _ hEx).mono ?_; rintro e w8 ⟨rfl, hE8⟩; have hEx := hEx.ext hE8))
        go_ret2
        exact ⟨by rw [Hn.out]; rfl, HE1.out.ext hEx⟩
    · have Hn : Hid (lineP a = none) := Lib.hid (Hbad.out (.inl ⟨by have := Hk4.out; omega, ho⟩))
      have d0 : (co != 0) = true := by simpa using ho
      clear ho
      go_wp2_with (first
         | (go_at_call 39; refine (Hrv.out _).mono ?_; rintro e w3 ⟨rfl, rfl⟩)
         | (refine wpList_ldW (by kernel_rfl) 24 _ rfl (.pointer (some ⟨b, 10, none⟩)) _ rfl (Hlv.out _ hEx) ?_)
         | (refine wpList_ld rfl 24 _ rfl (.pointer (some ⟨b, 10, none⟩)) _ rfl (Hlv.out _ hEx) ?_)
         | (go_at_call 40; with_reducible refine (Hcv.out _).mono ?_; rintro e w5 ⟨rfl, hE5⟩; have hEx := hEx.ext hE5)
         | (go_at_call 41; with_reducible refine (Htv.out _ hEx).mono ?_; rintro e w6 ⟨rfl, hE6⟩; have hEx := hEx.ext hE6)
         | (refine wpList_ldW (by kernel_rfl) 24 _ rfl (.pointer (some ⟨b, 7, none⟩)) _ rfl (Hlo.out _ hEx) ?_)
         | (refine wpList_ld rfl 24 _ rfl (.pointer (some ⟨b, 7, none⟩)) _ rfl (Hlo.out _ hEx) ?_)
         | (go_at_call 40; with_reducible refine (Hco.out _).mono ?_; rintro e w7 ⟨rfl, hE7⟩; have hEx := hEx.ext hE7)
         | (go_at_call 41; with_reducible refine (Hto.out _ hEx).mono ?_; rintro e w8 ⟨rfl, hE8⟩; have hEx := hEx.ext hE8))
      go_ret2
      exact ⟨by rw [Hn.out]; rfl, HE1.out.ext hEx⟩
theorem r_line (a : AAct) (bv : Value) (w : World) (hg : Glb w) (hlt : ALt a) (hB : Byt w (fun g => g < w.heap.size) bv a.bytes) :
  Calls Tryz.prog 13 #[.agg (a.cells bv).toArray] w (LineOut w a) := by
 by_cases h : a.kind < 1 ∨ 14 < a.kind
 · exact r_line_none a bv w hg hlt hB h
 by_cases h10 : a.kind = 10
 · exact r_line_call a bv w hg hlt hB h10
 exact r_line_other a bv w hg hlt hB (by omega) h10
end Go.Proofs.YtmebipnljkopgaaGreatDoor
