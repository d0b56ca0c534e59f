/-
 Contracts of the laws' bounds on sizes (HeavyCmd, HeavyEntries). Conditions: as each theorem names them.
-/
import Derived.Test.YtfkacakbengboaaKeep
import Derived.Test.YtfkacakbengboaaEnts
import Derived.StillTailTactics
namespace Go.Proofs.Ytfkacakbengboaa
open Go.RowKit

def heavyCmd (c : ACmd) : Bool := decide (2000 < c.key.size) || decide (2000 < c.old.text.size) || decide (2000 < c.val.text.size)
def heavyEnts (l : List AEntry) : Bool := decide (200 < l.length) || l.any fun x => heavyCmd x.call.cmd
theorem any_take_step {α : Type} {p : α → Bool} {l : List α} {i : Nat} {x : α} (h : (l.take i).any p = false) (hx : l[i]? = some x) (e : p x = false) : (l.take (i + 1)).any p = false := by
 obtain ⟨hi, rfl⟩ := List.getElem?_eq_some_iff.1 hx
 rw [List.take_succ_eq_append_getElem hi, List.any_append, h]; simp [e]
theorem any_yes {α : Type} {p : α → Bool} {l : List α} {i : Nat} {x : α} (hx : l[i]? = some x) (e : p x = true) : l.any p = true :=
 List.any_eq_true.2 ⟨x, List.mem_of_getElem? hx, e⟩

set_option maxRecDepth 100000 in
set_option maxHeartbeats 400000 in
theorem hv_cmd (c : ACmd) (w : World) : Calls Try.prog 30 #[.agg #[.int .i64 c.kind, .string c.key, .int .i64 c.old.kind, .float .f64 c.old.num, .string c.old.text, .int .i64 c.val.kind, .float .f64 c.val.num, .string c.val.text]] w fun e w' => e = .returned (.bool (heavyCmd c)) ∧ Ext w w' := by
 have e1 : decide ((2000 : Int) < (c.key.size : Int)) = decide (2000 < c.key.size) := by rw [decide_eq_decide]; omega
 have e2 : decide ((2000 : Int) < (c.old.text.size : Int)) = decide (2000 < c.old.text.size) := by rw [decide_eq_decide]; omega
 have e3 : decide ((2000 : Int) < (c.val.text.size : Int)) = decide (2000 < c.val.text.size) := by rw [decide_eq_decide]; omega
 have hE : Ext w (w.alloc (.cells #[.int .i64 c.kind, .string c.key, .int .i64 c.old.kind, .float .f64 c.old.num, .string c.old.text, .int .i64 c.val.kind, .float .f64 c.val.num, .string c.val.text] 40)) := (Mod.refl _ w).alloc _
 rcases h1 : decide (2000 < c.key.size) with _ | _
 ·
  rcases h2 : decide (2000 < c.old.text.size) with _ | _
  ·
   rw [h1] at e1; rw [h2] at e2
   go_enter Try.func30, Try.ntmps30
   go_wp2
   go_ret
   exact ⟨ret_bool (by simp only [heavyCmd, h1, h2, Bool.false_or]), hE⟩
  ·
   rw [h1] at e1; rw [h2] at e2
   go_enter Try.func30, Try.ntmps30
   go_wp2
   go_ret
   exact ⟨ret_bool (by simp only [heavyCmd, h2, Bool.or_true, Bool.true_or]), hE⟩
 ·
  rw [h1] at e1
  go_enter Try.func30, Try.ntmps30
  go_wp2
  go_ret
  exact ⟨ret_bool (by simp only [heavyCmd, h1, Bool.true_or]), hE⟩

set_option maxRecDepth 100000 in
set_option maxHeartbeats 1000000 in
theorem hv_entries (w : World) (T : Nat → Prop) (v : Value) (l : List AEntry) (h : Ents w T v l) :
  Calls Try.prog 11 #[v] w fun e w' => e = .returned (.bool (heavyEnts l)) ∧ Ext w w' := by
 have hl := h.1.le
 unfold maxLen at hl
 obtain ⟨n, hn⟩ : ∃ n, l.length = n := ⟨_, rfl⟩
 obtain ⟨A, c, rfl⟩ := h.1.form
 rw [hn] at h hl ⊢
 have Hn := Lib.hid hn
 by_cases h200 : 200 < n
 ·
  have d : decide ((200 : Int) < (n : Int)) = true := by simp; omega
  have Hf : Hid (heavyEnts l = true) := Lib.hid (by simp [heavyEnts, hn, h200])
  clear hn
  go_enter Try.func11, Try.ntmps11
  go_wp2
  go_ret
  exact ⟨ret_bool Hf.out.symm, Mod.refl _ w⟩
 have d : decide ((200 : Int) < (n : Int)) = false := by simp; omega
 have Hd : Hid (decide (200 < l.length) = false) := Lib.hid (by rw [hn]; simpa using h200)
 clear hn
 go_enter Try.func11, Try.ntmps11
 go_wp2
 go_loopw [3] (fun iv wr => ∃ i : Nat, i ≤ n ∧ iv = .int .i64 i ∧ Ext w wr ∧ (l.take i).any (fun x => heavyCmd x.call.cmd) = false) (fun iv _ => n - (intOf iv).toNat)
 case atStart => exact ⟨0, by omega, rfl, Mod.refl _ w, by simp⟩
 case round =>
  obtain ⟨i, hin, rfl, hE, hs⟩ := hrel
  have Hs := Lib.hid hs
  have h2 := h.mod hE (fun _ _ => id)
  clear hs
  by_cases hi : i < n
  ·
   obtain ⟨g, off, x, rfl, hgT, hx, hxok, hcells⟩ := h2.at hi
   have hi0 : (0 : Int) ≤ (i : Int) := by omega
   have hi1 : (i : Int) < (n : Int) := by omega
   have x4 := hcells 4 _ rfl
   have x5 := hcells 5 _ rfl
   have x6 := hcells 6 _ rfl
   have x7 := hcells 7 _ rfl
   have x8 := hcells 8 _ rfl
   have x9 := hcells 9 _ rfl
   have x10 := hcells 10 _ rfl
   have x11 := hcells 11 _ rfl
   have Hx := Lib.hid hx
   clear hcells hx h2 hxok
   go_wp2_with fail
   refine (hv_cmd x.call.cmd _).mono ?_
   rintro e w1 ⟨rfl, hE1⟩
   have hE1 := Mod.ext hE hE1
   have HE1 := Lib.hid hE1
   clear hE1 x4 x5 x6 x7 x8 x9 x10 x11
   rcases hq : heavyCmd x.call.cmd with _ | _
   ·
    have Hq := Lib.hid hq
    clear hq
    go_wp2
    exact ⟨⟨i + 1, by omega, by go_num, HE1.out, any_take_step Hs.out Hx.out Hq.out⟩, by simp [intOf]; omega⟩
   ·
    have Hf : Hid (heavyEnts l = true) := Lib.hid (by unfold heavyEnts; rw [any_yes Hx.out hq, Bool.or_true])
    go_wp2
    go_ret
    exact ⟨ret_bool Hf.out.symm, HE1.out⟩
  ·
   have Hf : Hid (heavyEnts l = false) := Lib.hid (by
    have := Hs.out
    rw [List.take_of_length_le (by rw [Hn.out]; omega)] at this
    unfold heavyEnts; rw [this, Hd.out]; rfl)
   go_wp2
   go_ret
   exact ⟨ret_bool Hf.out.symm, hE⟩
end Go.Proofs.Ytfkacakbengboaa
