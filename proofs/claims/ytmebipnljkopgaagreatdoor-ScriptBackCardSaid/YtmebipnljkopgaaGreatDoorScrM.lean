/-
 Layer 27 (script): the reader's act. Conditions: each word is no longer than 100000 bytes; the package variables are as start-up lays them (Glb).
-/
import Derived.Test.YtmebipnljkopgaaGreatDoorScrL
import Derived.Deep.RegionHeld3
namespace Go.Proofs.YtmebipnljkopgaaGreatDoor
set_option linter.unusedSimpArgs false
set_option linter.unusedVariables false
open Go.RowKit
theorem Sl.lit (w : World) (l : List Value) (e : TypeId) (h : l.length ≤ maxLen) : Sl (w.alloc (.cells l.toArray e)) (fun g => g = w.heap.size) 1 (.slice (some ⟨w.heap.size, 0, none⟩) l.length l.length) l.length l :=
  ⟨by simp, _, _, rfl, Nat.le_refl _, h, fun _ => ⟨_, 0, rfl, rfl, fun j u hu => by
    have : (w.alloc (.cells l.toArray e)).heap[w.heap.size]? = some (.cells l.toArray e (0, 0)) := heap_new _ _
    exact blk_cell this (by rw [Nat.zero_add]; exact hu)⟩⟩
theorem act_tail {w w1 : World} {rb sb ab : Nat} {os : List Nat} {a : AAct} {bv : Value} {s : RSt} {o : Obj} {e : Ending} (h : IntoOut (w.alloc o) rb sb ab os a bv s e w1) : IntoOut w rb sb ab os a bv s e w1 :=
 ⟨h.1, h.2.1, h.2.2.1, ((Mod.refl (fun k => k = rb ∨ k = ab) w).alloc o).self h.2.2.2⟩
theorem s_intoA {w : World} {rb sb ab : Nat} {a : AAct} {bv : Value} {s : RSt} (hR : RdM w rb sb s) (hg : Glb w) (hw : ∀ x ∈ s.1, x.size ≤ 100000)
  (ha : w.heap[ab]? = some (.cells (a.cells bv).toArray 31 (0, 0))) (h1 : ab ≠ rb) (h2 : ab ≠ sb) (h9 : 9 ≤ ab) (h9' : 9 ≤ rb) (os : List Nat) (hos : ∀ o ∈ os, o ∈ [1, 2, 3, 4, 13, 14, 15, 16]) (hol : os.length ≤ 100) (T : TypeId) :
  Calls Tryz.prog 20 #[.pointer (some ⟨rb, 0, none⟩), .slice (some ⟨w.heap.size, 0, none⟩) os.length os.length] (w.alloc (.cells (os.map fun o => Value.pointer (some ⟨ab, o, none⟩)).toArray T)) (IntoOut w rb sb ab os a bv s) := by
 have hab : ab < w.heap.size := (Array.getElem?_eq_some_iff.1 ha).1
 have hrb : rb < w.heap.size := by obtain ⟨_, A, c, hb, _⟩ := hR; exact (Array.getElem?_eq_some_iff.1 hb).1
 have hE : Ext w (w.alloc (.cells (os.map fun o => Value.pointer (some ⟨ab, o, none⟩)).toArray T)) := (Mod.refl _ w).alloc _
 have hl : (os.map fun o => Value.pointer (some ⟨ab, o, none⟩)).length = os.length := List.length_map _
 have hS := Sl.lit w (os.map fun o => Value.pointer (some ⟨ab, o, none⟩)) T (by rw [hl]; simp only [maxLen]; omega)
 rw [hl] at hS
 exact (s_into _ rb sb ab w.heap.size os a bv _ s (hR.ext hE) (hg.ext hE) hw (hE.blk ha id) hos hol hS h1 h2 (by omega) (by omega) h9 h9').mono fun e w' h => act_tail h
set_option maxRecDepth 100000 in
set_option maxHeartbeats 1000000 in
theorem s_act1 {w : World} {rb sb ab : Nat} {a : AAct} {bv : Value} {s : RSt} (hk : a.kind = 1) (hR : RdM w rb sb s) (hg : Glb w) (hw : ∀ x ∈ s.1, x.size ≤ 100000)
  (ha : w.heap[ab]? = some (.cells (a.cells bv).toArray 31 (0, 0))) (h1 : ab ≠ rb) (h2 : ab ≠ sb) (h9 : 9 ≤ ab) (h9' : 9 ≤ rb) :
  Calls Tryz.prog 19 #[.pointer (some ⟨rb, 0, none⟩), .pointer (some ⟨ab, 0, none⟩)] w (IntoOut w rb sb ab [1] a bv s) := by
 have c0 : w.cell? ⟨ab, 0, none⟩ = some (.int .i64 1) := by have h : w.cell? ⟨ab, 0, none⟩ = some (.int .i64 a.kind) := blk_cell ha rfl; rwa [hk] at h
 have hi := s_intoA hR hg hw ha h1 h2 h9 h9' [1] (by decide) (by decide) 58
 simp only [List.map_cons, List.map_nil, List.length_cons, List.length_nil] at hi
 clear hk hR hg hw ha
 go_enter Tryz.func19, Tryz.ntmps19
 go_wp2_with (go_at_call 20; refine hi.mono ?_; rintro e w1 ⟨rfl, hR1, ha1, hm1⟩)
 go_end0
 exact ⟨rfl, hR1, ha1, hm1⟩
set_option maxRecDepth 100000 in
set_option maxHeartbeats 1000000 in
theorem s_act2 {w : World} {rb sb ab : Nat} {a : AAct} {bv : Value} {s : RSt} (hk : a.kind = 2) (hR : RdM w rb sb s) (hg : Glb w) (hw : ∀ x ∈ s.1, x.size ≤ 100000)
  (ha : w.heap[ab]? = some (.cells (a.cells bv).toArray 31 (0, 0))) (h1 : ab ≠ rb) (h2 : ab ≠ sb) (h9 : 9 ≤ ab) (h9' : 9 ≤ rb) :
  Calls Tryz.prog 19 #[.pointer (some ⟨rb, 0, none⟩), .pointer (some ⟨ab, 0, none⟩)] w (IntoOut w rb sb ab [3] a bv s) := by
 have c0 : w.cell? ⟨ab, 0, none⟩ = some (.int .i64 2) := by have h : w.cell? ⟨ab, 0, none⟩ = some (.int .i64 a.kind) := blk_cell ha rfl; rwa [hk] at h
 have hi := s_intoA hR hg hw ha h1 h2 h9 h9' [3] (by decide) (by decide) 58
 simp only [List.map_cons, List.map_nil, List.length_cons, List.length_nil] at hi
 clear hk hR hg hw ha
 go_enter Tryz.func19, Tryz.ntmps19
 go_wp2_with (go_at_call 20; refine hi.mono ?_; rintro e w1 ⟨rfl, hR1, ha1, hm1⟩)
 go_end0
 exact ⟨rfl, hR1, ha1, hm1⟩
set_option maxRecDepth 100000 in
set_option maxHeartbeats 1000000 in
theorem s_act3 {w : World} {rb sb ab : Nat} {a : AAct} {bv : Value} {s : RSt} (hk : a.kind = 3) (hR : RdM w rb sb s) (hg : Glb w) (hw : ∀ x ∈ s.1, x.size ≤ 100000)
  (ha : w.heap[ab]? = some (.cells (a.cells bv).toArray 31 (0, 0))) (h1 : ab ≠ rb) (h2 : ab ≠ sb) (h9 : 9 ≤ ab) (h9' : 9 ≤ rb) :
  Calls Tryz.prog 19 #[.pointer (some ⟨rb, 0, none⟩), .pointer (some ⟨ab, 0, none⟩)] w (IntoOut w rb sb ab [3] a bv s) := by
 have c0 : w.cell? ⟨ab, 0, none⟩ = some (.int .i64 3) := by have h : w.cell? ⟨ab, 0, none⟩ = some (.int .i64 a.kind) := blk_cell ha rfl; rwa [hk] at h
 have hi := s_intoA hR hg hw ha h1 h2 h9 h9' [3] (by decide) (by decide) 58
 simp only [List.map_cons, List.map_nil, List.length_cons, List.length_nil] at hi
 clear hk hR hg hw ha
 go_enter Tryz.func19, Tryz.ntmps19
 go_wp2_with (go_at_call 20; refine hi.mono ?_; rintro e w1 ⟨rfl, hR1, ha1, hm1⟩)
 go_end0
 exact ⟨rfl, hR1, ha1, hm1⟩
set_option maxRecDepth 100000 in
set_option maxHeartbeats 1000000 in
theorem s_act4 {w : World} {rb sb ab : Nat} {a : AAct} {bv : Value} {s : RSt} (hk : a.kind = 4) (hR : RdM w rb sb s) (hg : Glb w) (hw : ∀ x ∈ s.1, x.size ≤ 100000)
  (ha : w.heap[ab]? = some (.cells (a.cells bv).toArray 31 (0, 0))) (h1 : ab ≠ rb) (h2 : ab ≠ sb) (h9 : 9 ≤ ab) (h9' : 9 ≤ rb) :
  Calls Tryz.prog 19 #[.pointer (some ⟨rb, 0, none⟩), .pointer (some ⟨ab, 0, none⟩)] w (IntoOut w rb sb ab [3] a bv s) := by
 have c0 : w.cell? ⟨ab, 0, none⟩ = some (.int .i64 4) := by have h : w.cell? ⟨ab, 0, none⟩ = some (.int .i64 a.kind) := blk_cell ha rfl; rwa [hk] at h
 have hi := s_intoA hR hg hw ha h1 h2 h9 h9' [3] (by decide) (by decide) 58
 simp only [List.map_cons, List.map_nil, List.length_cons, List.length_nil] at hi
 clear hk hR hg hw ha
 go_enter Tryz.func19, Tryz.ntmps19
 go_wp2_with (go_at_call 20; refine hi.mono ?_; rintro e w1 ⟨rfl, hR1, ha1, hm1⟩)
 go_end0
 exact ⟨rfl, hR1, ha1, hm1⟩
set_option maxRecDepth 100000 in
set_option maxHeartbeats 1000000 in
theorem s_act5 {w : World} {rb sb ab : Nat} {a : AAct} {bv : Value} {s : RSt} (hk : a.kind = 5) (hR : RdM w rb sb s) (hg : Glb w) (hw : ∀ x ∈ s.1, x.size ≤ 100000)
  (ha : w.heap[ab]? = some (.cells (a.cells bv).toArray 31 (0, 0))) (h1 : ab ≠ rb) (h2 : ab ≠ sb) (h9 : 9 ≤ ab) (h9' : 9 ≤ rb) :
  Calls Tryz.prog 19 #[.pointer (some ⟨rb, 0, none⟩), .pointer (some ⟨ab, 0, none⟩)] w (IntoOut w rb sb ab [3, 4] a bv s) := by
 have c0 : w.cell? ⟨ab, 0, none⟩ = some (.int .i64 5) := by have h : w.cell? ⟨ab, 0, none⟩ = some (.int .i64 a.kind) := blk_cell ha rfl; rwa [hk] at h
 have hE : Ext w w.drew := (Mod.refl _ w).drew
 have hi := s_intoA (hR.ext hE) (hg.ext hE) hw (hE.blk ha id) h1 h2 h9 h9' [3, 4] (by decide) (by decide) 58
 simp only [List.map_cons, List.map_nil, List.length_cons, List.length_nil] at hi
 have HE := Lib.hid hE
 clear hk hR hg hw ha hE
 go_enter Tryz.func19, Tryz.ntmps19
 go_upto_region 11 with fail
 go_region_held3 (fun _ => True) (trivial) ((go_at_call 20; refine hi.mono ?_; rintro e w1 ⟨rfl, hR1, ha1, hm1⟩))
 all_goals go_wp2
 all_goals go_end0
 all_goals exact ⟨rfl, hR1, ha1, (Ext.mod HE.out _).self hm1⟩
set_option maxRecDepth 100000 in
set_option maxHeartbeats 1000000 in
theorem s_act7 {w : World} {rb sb ab : Nat} {a : AAct} {bv : Value} {s : RSt} (hk : a.kind = 7) (hR : RdM w rb sb s) (hg : Glb w) (hw : ∀ x ∈ s.1, x.size ≤ 100000)
  (ha : w.heap[ab]? = some (.cells (a.cells bv).toArray 31 (0, 0))) (h1 : ab ≠ rb) (h2 : ab ≠ sb) (h9 : 9 ≤ ab) (h9' : 9 ≤ rb) :
  Calls Tryz.prog 19 #[.pointer (some ⟨rb, 0, none⟩), .pointer (some ⟨ab, 0, none⟩)] w (IntoOut w rb sb ab [1, 3] a bv s) := by
 have c0 : w.cell? ⟨ab, 0, none⟩ = some (.int .i64 7) := by have h : w.cell? ⟨ab, 0, none⟩ = some (.int .i64 a.kind) := blk_cell ha rfl; rwa [hk] at h
 have hE : Ext w w.drew := (Mod.refl _ w).drew
 have hi := s_intoA (hR.ext hE) (hg.ext hE) hw (hE.blk ha id) h1 h2 h9 h9' [1, 3] (by decide) (by decide) 58
 simp only [List.map_cons, List.map_nil, List.length_cons, List.length_nil] at hi
 have HE := Lib.hid hE
 clear hk hR hg hw ha hE
 go_enter Tryz.func19, Tryz.ntmps19
 go_upto_region 13 with fail
 go_region_held3 (fun _ => True) (trivial) ((go_at_call 20; refine hi.mono ?_; rintro e w1 ⟨rfl, hR1, ha1, hm1⟩))
 all_goals go_wp2
 all_goals go_end0
 all_goals exact ⟨rfl, hR1, ha1, (Ext.mod HE.out _).self hm1⟩
set_option maxRecDepth 100000 in
set_option maxHeartbeats 1000000 in
theorem s_act8 {w : World} {rb sb ab : Nat} {a : AAct} {bv : Value} {s : RSt} (hk : a.kind = 8) (hR : RdM w rb sb s) (hg : Glb w) (hw : ∀ x ∈ s.1, x.size ≤ 100000)
  (ha : w.heap[ab]? = some (.cells (a.cells bv).toArray 31 (0, 0))) (h1 : ab ≠ rb) (h2 : ab ≠ sb) (h9 : 9 ≤ ab) (h9' : 9 ≤ rb) :
  Calls Tryz.prog 19 #[.pointer (some ⟨rb, 0, none⟩), .pointer (some ⟨ab, 0, none⟩)] w (IntoOut w rb sb ab [1, 3, 4] a bv s) := by
 have c0 : w.cell? ⟨ab, 0, none⟩ = some (.int .i64 8) := by have h : w.cell? ⟨ab, 0, none⟩ = some (.int .i64 a.kind) := blk_cell ha rfl; rwa [hk] at h
 have hE : Ext w w.drew := (Mod.refl _ w).drew
 have hi := s_intoA (hR.ext hE) (hg.ext hE) hw (hE.blk ha id) h1 h2 h9 h9' [1, 3, 4] (by decide) (by decide) 58
 simp only [List.map_cons, List.map_nil, List.length_cons, List.length_nil] at hi
 have HE := Lib.hid hE
 clear hk hR hg hw ha hE
 go_enter Tryz.func19, Tryz.ntmps19
 go_upto_region 15 with fail
 go_region_held3 (fun _ => True) (trivial) ((go_at_call 20; refine hi.mono ?_; rintro e w1 ⟨rfl, hR1, ha1, hm1⟩))
 all_goals go_wp2
 all_goals go_end0
 all_goals exact ⟨rfl, hR1, ha1, (Ext.mod HE.out _).self hm1⟩
set_option maxRecDepth 100000 in
set_option maxHeartbeats 1000000 in
theorem s_act9 {w : World} {rb sb ab : Nat} {a : AAct} {bv : Value} {s : RSt} (hk : a.kind = 9) (hR : RdM w rb sb s) (hg : Glb w) (hw : ∀ x ∈ s.1, x.size ≤ 100000)
  (ha : w.heap[ab]? = some (.cells (a.cells bv).toArray 31 (0, 0))) (h1 : ab ≠ rb) (h2 : ab ≠ sb) (h9 : 9 ≤ ab) (h9' : 9 ≤ rb) :
  Calls Tryz.prog 19 #[.pointer (some ⟨rb, 0, none⟩), .pointer (some ⟨ab, 0, none⟩)] w (IntoOut w rb sb ab [1] a bv s) := by
 have c0 : w.cell? ⟨ab, 0, none⟩ = some (.int .i64 9) := by have h : w.cell? ⟨ab, 0, none⟩ = some (.int .i64 a.kind) := blk_cell ha rfl; rwa [hk] at h
 have hi := s_intoA hR hg hw ha h1 h2 h9 h9' [1] (by decide) (by decide) 58
 simp only [List.map_cons, List.map_nil, List.length_cons, List.length_nil] at hi
 clear hk hR hg hw ha
 go_enter Tryz.func19, Tryz.ntmps19
 go_wp2_with (go_at_call 20; refine hi.mono ?_; rintro e w1 ⟨rfl, hR1, ha1, hm1⟩)
 go_end0
 exact ⟨rfl, hR1, ha1, hm1⟩
set_option maxRecDepth 100000 in
set_option maxHeartbeats 1000000 in
theorem s_act11 {w : World} {rb sb ab : Nat} {a : AAct} {bv : Value} {s : RSt} (hk : a.kind = 11) (hR : RdM w rb sb s) (hg : Glb w) (hw : ∀ x ∈ s.1, x.size ≤ 100000)
  (ha : w.heap[ab]? = some (.cells (a.cells bv).toArray 31 (0, 0))) (h1 : ab ≠ rb) (h2 : ab ≠ sb) (h9 : 9 ≤ ab) (h9' : 9 ≤ rb) :
  Calls Tryz.prog 19 #[.pointer (some ⟨rb, 0, none⟩), .pointer (some ⟨ab, 0, none⟩)] w (IntoOut w rb sb ab [2, 1] a bv s) := by
 have c0 : w.cell? ⟨ab, 0, none⟩ = some (.int .i64 11) := by have h : w.cell? ⟨ab, 0, none⟩ = some (.int .i64 a.kind) := blk_cell ha rfl; rwa [hk] at h
 have hE : Ext w w.drew := (Mod.refl _ w).drew
 have hi := s_intoA (hR.ext hE) (hg.ext hE) hw (hE.blk ha id) h1 h2 h9 h9' [2, 1] (by decide) (by decide) 58
 simp only [List.map_cons, List.map_nil, List.length_cons, List.length_nil] at hi
 have HE := Lib.hid hE
 clear hk hR hg hw ha hE
 go_enter Tryz.func19, Tryz.ntmps19
 go_upto_region 17 with fail
 go_region_held3 (fun _ => True) (trivial) ((go_at_call 20; refine hi.mono ?_; rintro e w1 ⟨rfl, hR1, ha1, hm1⟩))
 all_goals go_wp2
 all_goals go_end0
 all_goals exact ⟨rfl, hR1, ha1, (Ext.mod HE.out _).self hm1⟩
set_option maxRecDepth 100000 in
set_option maxHeartbeats 1000000 in
theorem s_act12 {w : World} {rb sb ab : Nat} {a : AAct} {bv : Value} {s : RSt} (hk : a.kind = 12) (hR : RdM w rb sb s) (hg : Glb w) (hw : ∀ x ∈ s.1, x.size ≤ 100000)
  (ha : w.heap[ab]? = some (.cells (a.cells bv).toArray 31 (0, 0))) (h1 : ab ≠ rb) (h2 : ab ≠ sb) (h9 : 9 ≤ ab) (h9' : 9 ≤ rb) :
  Calls Tryz.prog 19 #[.pointer (some ⟨rb, 0, none⟩), .pointer (some ⟨ab, 0, none⟩)] w (IntoOut w rb sb ab [1] a bv s) := by
 have c0 : w.cell? ⟨ab, 0, none⟩ = some (.int .i64 12) := by have h : w.cell? ⟨ab, 0, none⟩ = some (.int .i64 a.kind) := blk_cell ha rfl; rwa [hk] at h
 have hi := s_intoA hR hg hw ha h1 h2 h9 h9' [1] (by decide) (by decide) 58
 simp only [List.map_cons, List.map_nil, List.length_cons, List.length_nil] at hi
 clear hk hR hg hw ha
 go_enter Tryz.func19, Tryz.ntmps19
 go_wp2_with (go_at_call 20; refine hi.mono ?_; rintro e w1 ⟨rfl, hR1, ha1, hm1⟩)
 go_end0
 exact ⟨rfl, hR1, ha1, hm1⟩
set_option maxRecDepth 100000 in
set_option maxHeartbeats 1000000 in
theorem s_act13 {w : World} {rb sb ab : Nat} {a : AAct} {bv : Value} {s : RSt} (hk : a.kind = 13) (hR : RdM w rb sb s) (hg : Glb w) (hw : ∀ x ∈ s.1, x.size ≤ 100000)
  (ha : w.heap[ab]? = some (.cells (a.cells bv).toArray 31 (0, 0))) (h1 : ab ≠ rb) (h2 : ab ≠ sb) (h9 : 9 ≤ ab) (h9' : 9 ≤ rb) :
  Calls Tryz.prog 19 #[.pointer (some ⟨rb, 0, none⟩), .pointer (some ⟨ab, 0, none⟩)] w (IntoOut w rb sb ab [1, 13, 14, 15, 16] a bv s) := by
 have c0 : w.cell? ⟨ab, 0, none⟩ = some (.int .i64 13) := by have h : w.cell? ⟨ab, 0, none⟩ = some (.int .i64 a.kind) := blk_cell ha rfl; rwa [hk] at h
 have hE : Ext w w.drew := (Mod.refl _ w).drew
 have hi := s_intoA (hR.ext hE) (hg.ext hE) hw (hE.blk ha id) h1 h2 h9 h9' [1, 13, 14, 15, 16] (by decide) (by decide) 58
 simp only [List.map_cons, List.map_nil, List.length_cons, List.length_nil] at hi
 have HE := Lib.hid hE
 clear hk hR hg hw ha hE
 go_enter Tryz.func19, Tryz.ntmps19
 go_upto_region 21 with fail
 go_region_held3 (fun _ => True) (trivial) ((go_at_call 20; refine hi.mono ?_; rintro e w1 ⟨rfl, hR1, ha1, hm1⟩))
 all_goals go_wp2
 all_goals go_end0
 all_goals exact ⟨rfl, hR1, ha1, (Ext.mod HE.out _).self hm1⟩
set_option maxRecDepth 100000 in
set_option maxHeartbeats 1000000 in
theorem s_act14 {w : World} {rb sb ab : Nat} {a : AAct} {bv : Value} {s : RSt} (hk : a.kind = 14) (hR : RdM w rb sb s) (hg : Glb w) (hw : ∀ x ∈ s.1, x.size ≤ 100000)
  (ha : w.heap[ab]? = some (.cells (a.cells bv).toArray 31 (0, 0))) (h1 : ab ≠ rb) (h2 : ab ≠ sb) (h9 : 9 ≤ ab) (h9' : 9 ≤ rb) :
  Calls Tryz.prog 19 #[.pointer (some ⟨rb, 0, none⟩), .pointer (some ⟨ab, 0, none⟩)] w (IntoOut w rb sb ab [3] a bv s) := by
 have c0 : w.cell? ⟨ab, 0, none⟩ = some (.int .i64 14) := by have h : w.cell? ⟨ab, 0, none⟩ = some (.int .i64 a.kind) := blk_cell ha rfl; rwa [hk] at h
 have hi := s_intoA hR hg hw ha h1 h2 h9 h9' [3] (by decide) (by decide) 58
 simp only [List.map_cons, List.map_nil, List.length_cons, List.length_nil] at hi
 clear hk hR hg hw ha
 go_enter Tryz.func19, Tryz.ntmps19
 go_wp2_with (go_at_call 20; refine hi.mono ?_; rintro e w1 ⟨rfl, hR1, ha1, hm1⟩)
 go_end0
 exact ⟨rfl, hR1, ha1, hm1⟩
def Act6Out (w : World) (rb sb ab : Nat) (a : AAct) (s : RSt) (e : Ending) (w' : World) : Prop := ∃ A n c, e = .returned (.tuple #[]) ∧ RdM w' rb sb (rawS s) ∧ w'.heap[ab]? = some (.cells (a.cells (.slice A n c)).toArray 31 (0, 0)) ∧
  Mod (fun k => k = rb ∨ k = ab) w w' ∧ ∀ b, rawP (wordS s).1 = some b → Byt w' (fun g => w.heap.size ≤ g) (.slice A n c) b
set_option maxRecDepth 100000 in
set_option maxHeartbeats 1000000 in
theorem s_act6 {w : World} {rb sb ab : Nat} {a : AAct} {bv : Value} {s : RSt} (hk : a.kind = 6) (hR : RdM w rb sb s) (hw : ∀ x ∈ s.1, x.size ≤ 100000)
  (ha : w.heap[ab]? = some (.cells (a.cells bv).toArray 31 (0, 0))) (h1 : ab ≠ rb) (h2 : ab ≠ sb) :
  Calls Tryz.prog 19 #[.pointer (some ⟨rb, 0, none⟩), .pointer (some ⟨ab, 0, none⟩)] w (Act6Out w rb sb ab a s) := by
 have c0 : w.cell? ⟨ab, 0, none⟩ = some (.int .i64 6) := by have h : w.cell? ⟨ab, 0, none⟩ = some (.int .i64 a.kind) := blk_cell ha rfl; rwa [hk] at h
 have hab : ab < w.heap.size := (Array.getElem?_eq_some_iff.1 ha).1
 have hi := s_raw w rb sb s hR hw
 have Ha := Lib.hid ha
 clear hk hR hw ha
 go_enter Tryz.func19, Tryz.ntmps19
 go_wp2_with fail
 refine hi.mono ?_
 rintro e w1 ⟨A, n, c, rfl, hR1, hm1, hB1⟩
 have ha1 := hm1.blk Ha.out h1
 have q : w1.cell? ⟨ab, 17, none⟩ = some bv := blk_cell ha1 rfl
 have qf := blk_free 17 ha1
 have ha2 := blk_set ha1 17 (.slice A n c)
 have hm2 : Mod (fun k => k = ab) w1 (w1.setCell ⟨ab, 17, none⟩ (.slice A n c)) := mod_same (Mod.refl _ _) _ _
 have hR2 := hR1.mod hm2 (fun e => h1 e.symm) (fun e => h2 e.symm)
 have hM2 : Mod (fun k => k = rb ∨ k = ab) w (w1.setCell ⟨ab, 17, none⟩ (.slice A n c)) := (Mod.mono hm1 (fun _ _ h => .inl h)).trans hm2 (fun _ _ h => .inr h)
 go_wp2
 go_end0
 exact ⟨A, n, c, rfl, hR2, ha2, hM2, fun b hb => (hB1 b hb).mod hm2 (fun g hg e => by omega)⟩
end Go.Proofs.YtmebipnljkopgaaGreatDoor
