/-
 Layer 27 (script): strconv.FormatUint at base 16. Conditions: the package variables are as start-up lays them (Glb).
-/
import Derived.Test.YtmebipnljkopgaaGreatDoorScrG
import Derived.Test.YtmebipnljkopgaaGreatDoorScrB
import Derived.Laws.BitsAllLaws
namespace Go.Proofs.YtmebipnljkopgaaGreatDoor
set_option linter.unusedSimpArgs false
set_option linter.unusedVariables false
open Go.RowKit

/-- The digits of sixteen of a number, none ahead. -/
def hexD (u : Nat) : List UInt8 := if h : u < 16 then [digC u] else hexD (u / 16) ++ [digC (u % 16)]
termination_by u
decreasing_by omega
set_option maxRecDepth 100000 in
set_option maxHeartbeats 400000 in
theorem c_pow2 (w : World) : Calls Tryz.prog 132 #[.int .i64 16] w fun e w' => e = .returned (.bool true) ∧ w' = w := by
 have h : bits .and .i64 16 15 = 0 := by decide +kernel
 go_enter Tryz.func132, Tryz.ntmps132
 go_wp2
 go_ret
 exact ⟨rfl, rfl⟩
set_option maxRecDepth 100000 in
set_option maxHeartbeats 400000 in
theorem c_tz64 (w : World) (hg : Glb w) : Calls Tryz.prog 137 #[.int .u64 16] w fun e w' => e = .returned (.int .i64 4) ∧ w' = w := by
 have h1 : bits .and .u64 16 18446744073709551600 = 16 := by decide +kernel
 have h2 : IntKind.u64.wrap (-16) = 18446744073709551600 := by decide +kernel
 have h3 : IntKind.u64.wrap 4573923408821661840 = 4573923408821661840 := by decide +kernel
 have hd := hg.db
 clear hg
 go_enter Tryz.func137, Tryz.ntmps137
 go_wp2
 go_ret
 exact ⟨rfl, rfl⟩
set_option maxRecDepth 100000 in
set_option maxHeartbeats 400000 in
theorem c_tz (w : World) (hg : Glb w) : Calls Tryz.prog 133 #[.int .u64 16] w fun e w' => e = .returned (.int .i64 4) ∧ w' = w := by
 go_enter Tryz.func133, Tryz.ntmps133
 go_wp2_with (go_at_call 137; refine (c_tz64 _ hg).mono ?_; rintro e w' ⟨rfl, rfl⟩)
 go_ret
 exact ⟨rfl, rfl⟩
theorem hexD_small {u : Nat} (h : u < 16) : hexD u = [digC u] := by rw [hexD, dif_pos h]
theorem hexD_big {u : Nat} (h : ¬ u < 16) : hexD u = hexD (u / 16) ++ [digC (u % 16)] := by rw [hexD, dif_neg h]
/-- The buffer: digits from i on. -/
def fb (i : Nat) (l : List UInt8) : Array Value := (List.replicate i (Value.int .u8 0) ++ l.map B).toArray
theorem fb_size {i : Nat} {l : List UInt8} {n : Nat} (h : i + l.length = n) : (fb i l).size = n := by simp [fb]; exact h
theorem fb_zero (i : Nat) : fb i [] = Array.replicate i (Value.int .u8 0) := by simp [fb]
theorem fb65 : Tryz.zeroCells162 = fb 65 [] := by kernel_rfl
theorem fb_get {i j : Nat} {l : List UInt8} (h : j < i) : (fb i l)[j]? = some (Value.int .u8 0) := by
 unfold fb
 rw [List.getElem?_toArray, List.getElem?_append_left (by simpa using h), List.getElem?_replicate, if_pos h]
theorem fb_at {i j : Nat} {l : List UInt8} {c : UInt8} (h : l[j]? = some c) : (fb i l)[i + j]? = some (B c) := by
 unfold fb
 rw [List.getElem?_toArray, List.getElem?_append_right (by simp), List.length_replicate, Nat.add_sub_cancel_left, List.getElem?_map, h]; rfl
theorem fb_set {i : Nat} {l : List UInt8} (c : UInt8) : (fb (i + 1) l).setIfInBounds i (B c) = fb i (c :: l) := by
 unfold fb
 rw [List.setIfInBounds_toArray]
 congr 1
 rw [List.set_append_left _ _ (by simp), List.replicate_succ']
 rw [List.set_append_right _ _ (by simp)]
 simp
def digitS : ByteArray := ⟨#[48, 49, 50, 51, 52, 53, 54, 55, 56, 57, 97, 98, 99, 100, 101, 102, 103, 104, 105, 106, 107, 108, 109, 110, 111, 112, 113, 114, 115, 116, 117, 118, 119, 120, 121, 122]⟩
theorem digitS_fin : ∀ n : Fin 16, (digitS.data.toList.getD n.val 0) = digC n.val := by decide +kernel
theorem digitS_val {n : Nat} (h : n < 16) (h' : n < digitS.size) : Value.int .u8 ((digitS[n]'h').toNat : Int) = B (digC n) := by
 have := digitS_fin ⟨n, h⟩
 simp only at this
 unfold B
 rw [← this, ByteArray.getElem_eq_getElem_data]
 have hs : n < digitS.data.size := h'
 simp [List.getD, Array.getElem?_eq_getElem hs]
theorem digitS_at : ∀ n : Fin 16, (bsOf digitS)[n.val]? = some (digC n.val) := by decide +kernel
set_option maxRecDepth 100000 in
set_option maxHeartbeats 1000000 in
theorem c_fbits (n : Nat) (hn : n < 18446744073709551616) (w : World) (hg : Glb w) : Calls Tryz.prog 119 #[.slice none 0 0, .int .u64 n, .int .i64 16, .bool false, .bool false] w fun e w' => e = .returned (.tuple #[.slice none 0 0, .string (bA (hexD n))]) ∧ Ext w w' := by
 go_enter Tryz.func119, Tryz.ntmps119
 go_wp2_with (first
  | (go_at_call 132; refine (c_pow2 _).mono ?_; rintro e w1 ⟨rfl, rfl⟩)
  | (go_at_call 133; refine (c_tz _ (hg.ext ((Mod.refl _ w).alloc _))).mono ?_; rintro e w1 ⟨rfl, rfl⟩))
 rw [fb65]
 go_loopw [1, 13] (fun uv iv wr => ∃ (u i : Nat) (l : List UInt8) (k : Nat), uv = .int .u64 u ∧ iv = .int .i64 i ∧ i + l.length = 65 ∧ u < 16 ^ k ∧ l.length + k ≤ 16 ∧ 1 ≤ k ∧ hexD n = hexD u ++ l ∧ wr = w.alloc (.cells (fb i l) 162)) (fun uv _ _ => (intOf uv).toNat)
 case atStart => exact ⟨n, 65, [], 16, rfl, rfl, rfl, by simpa using hn, by simp, by omega, by simp, rfl⟩
 case round =>
  obtain ⟨u, i, l, k, rfl, rfl, hil, huk, hlk, hk1, henc, rfl⟩ := hrel
  have Henc := Lib.hid henc
  have hu64 : u < 18446744073709551616 := Nat.lt_of_lt_of_le huk (by
   have := Nat.pow_le_pow_right (n := 16) (by omega) (show k ≤ 16 by omega)
   simpa using this)
  have Huk := Lib.hid huk
  have Hil := Lib.hid hil
  obtain ⟨j, rfl⟩ : ∃ j, i = j + 1 := ⟨i - 1, by omega⟩
  have hj : j ≤ 64 := by omega
  have hsz : (fb (j + 1) l).size = 65 := fb_size hil
  have hget : (fb (j + 1) l)[j]? = some (Value.int .u8 0) := fb_get (by omega)
  clear henc huk hil
  by_cases hbig : 16 ≤ u
  · have hand : bits .and .u64 (u : Int) 15 = ((u % 16 : Nat) : Int) := by
     have := u64_and_nat u 15 hu64 (by omega)
     rw [show u &&& 15 = u % 16 from Nat.and_two_pow_sub_one_eq_mod u 4] at this
     exact this
    obtain ⟨r, hr⟩ : ∃ r, u % 16 = r := ⟨_, rfl⟩
    rw [hr] at hand
    have hr16 : r < 16 := by omega
    have Hset := Lib.hid (fb_set (i := j) (l := l) (digC r))
    have Hr := Lib.hid hr
    clear hr
    go_wp2_with fail
    have hq : (u : Int) / 16 = ((u / 16 : Nat) : Int) := by omega
    refine ⟨⟨u / 16, j, digC r :: l, k - 1, by rw [hq], rfl, by simp; have := Hil.out; omega, ?_, by simp; omega, ?_, ?_, ?_⟩, ?_⟩
    · have h := Huk.out
      rw [show k = k - 1 + 1 by omega, Nat.pow_succ] at h
      exact Nat.div_lt_of_lt_mul (by rw [Nat.mul_comm]; exact h)
    · rcases k with _ | _ | k
      · omega
      · have := Huk.out; simp at this; omega
      omega
    · rw [Henc.out, hexD_big (by omega), Hr.out, List.append_assoc]; rfl
    · exact (congrArg (fun z => w.alloc (.cells ((fb (j + 1) l).setIfInBounds j z) 162)) (digitS_val hr16 (by show r < 36; omega))).trans (by rw [Hset.out])
    simp only [intOf]; omega
  · have hu16 : u < 16 := by omega
    have Hset := Lib.hid (fb_set (i := j) (l := l) (digC u))
    have Hfin : Hid (hexD n = digC u :: l) := Lib.hid (by rw [Henc.out, hexD_small hu16]; rfl)
    have hsl : ∀ W : World, (Instr.sliceAt 162 (.pointer (some ⟨w.heap.size, 0, none⟩)) (some (.int .i64 (j : Int))) none none).run Tryz.prog W = .ok (.slice (some ⟨w.heap.size, j, none⟩) (65 - j) (65 - j)) W := by
     intro W
     rw [run_sliceAt_array_l W 162 _ Tryz.underlying162 .i64 (j : Int) (by omega) (by show (j : Int) ≤ 65; omega)]
     go_simp
     intro h; omega
    have hlen : 65 - j = (digC u :: l).length := by have := Hil.out; simp; omega
    have hlt : u < digitS.size := by show u < 36; omega
    have hbyt : Byt (w.alloc (.cells (fb j (digC u :: l)) 162)) (fun _ => True) (.slice (some ⟨w.heap.size, j, none⟩) (digC u :: l).length (digC u :: l).length) (digC u :: l) :=
     ⟨by simp, _, _, rfl, Nat.le_refl _, by rw [← hlen]; simp only [maxLen]; omega, fun _ => ⟨_, _, rfl, trivial, fun q x hx => by
      rw [List.getElem?_map] at hx
      obtain ⟨c, hc, rfl⟩ := Option.map_eq_some_iff.1 hx
      have hf := fb_at (i := j) hc
      have hb : (w.alloc (.cells (fb j (digC u :: l)) 162)).heap[w.heap.size]? = some (.cells (fb j (digC u :: l)) 162 (0, 0)) := heap_alloc_new w _
      exact blk_cell (cs := List.replicate j (Value.int .u8 0) ++ (digC u :: l).map B) hb (by rw [fb, List.getElem?_toArray] at hf; exact hf)⟩⟩
    have hcv : ∀ z, z = B (digC u) → (convert 29 9 (.slice (some ⟨w.heap.size, j, none⟩) (65 - j) (65 - j))).run Tryz.prog (w.alloc (.cells ((fb (j + 1) l).setIfInBounds j z) 162)) = .ok (.string (bA (hexD n))) (w.alloc (.cells ((fb (j + 1) l).setIfInBounds j z) 162)) := by
     intro z hz
     rw [hz, Hset.out, hlen, conv_bs hbyt, Hfin.out]
    have Hcv := Lib.hid hcv
    clear hcv
    clear hbyt hlen
    go_wp2_with fail
    rw [Hcv.out]
    · go_wp2
      go_ret2
      exact ⟨rfl, (Mod.refl _ w).alloc _⟩
    exact digitS_val hu16 (by show u < 36; omega)
set_option maxRecDepth 100000 in
set_option maxHeartbeats 400000 in
theorem c_fmtI (n : Nat) (hn : n < 18446744073709551616) (w : World) (hg : Glb w) : Calls Tryz.prog 108 #[.int .u64 n, .int .i64 16] w fun e w' => e = .returned (.string (bA (hexD n))) ∧ Ext w w' := by
 go_enter Tryz.func108, Tryz.ntmps108
 go_wp2_with (go_at_call 119; refine (c_fbits n hn _ hg).mono ?_; rintro e w' ⟨rfl, hE⟩)
 go_ret
 exact ⟨rfl, hE⟩
set_option maxRecDepth 100000 in
set_option maxHeartbeats 400000 in
theorem c_fmt (n : Nat) (hn : n < 18446744073709551616) (w : World) (hg : Glb w) : Calls Tryz.prog 88 #[.int .u64 n, .int .i64 16] w fun e w' => e = .returned (.string (bA (hexD n))) ∧ Ext w w' := by
 go_enter Tryz.func88, Tryz.ntmps88
 go_wp2_with (go_at_call 108; refine (c_fmtI n hn _ hg).mono ?_; rintro e w' ⟨rfl, hE⟩)
 go_ret
 exact ⟨rfl, hE⟩
end Go.Proofs.YtmebipnljkopgaaGreatDoor
