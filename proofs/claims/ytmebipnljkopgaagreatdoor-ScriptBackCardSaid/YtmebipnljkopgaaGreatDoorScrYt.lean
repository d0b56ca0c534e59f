/-
 Layer 27 (script): digits of bytes: script.hex, value.Text, the page's Hex. Conditions: the text is no longer than 100000 bytes.
 Layer 27 (script): value.Text: a value as a word. Conditions: the package variables are as start-up lays them (Glb); the value's text is no longer than 100000 bytes, its number is a float's bits.
-/
import Derived.Test.YtmebipnljkopgaaGreatDoorScrLp
import Derived.Test.YtmebipnljkopgaaGreatDoorScrX
import Derived.Deep.RegionLaw
namespace Go.Proofs.YtmebipnljkopgaaGreatDoor
set_option linter.unusedSimpArgs false
set_option linter.unusedVariables false
open Go.RowKit
theorem dig_at : ∀ n : Fin 16, ([48, 49, 50, 51, 52, 53, 54, 55, 56, 57, 97, 98, 99, 100, 101, 102] : List UInt8)[n.val]? = some (digC n.val) := by decide +kernel
theorem run_dig (n : Nat) (h : n < 16) (W : World) : (Instr.index 9 (.string ⟨#[48, 49, 50, 51, 52, 53, 54, 55, 56, 57, 97, 98, 99, 100, 101, 102]⟩) (.int .u8 (n : Int))).run Tryz.prog W = .ok (.int .u8 ((digC n).toNat : Int)) W :=
 run_ix (s := ⟨#[48, 49, 50, 51, 52, 53, 54, 55, 56, 57, 97, 98, 99, 100, 101, 102]⟩) (l := [48, 49, 50, 51, 52, 53, 54, 55, 56, 57, 97, 98, 99, 100, 101, 102]) rfl (dig_at ⟨n, h⟩) .u8 W
theorem and15 (x : Nat) (h : x < 256) : bits .and .u8 (x : Int) 15 = ((x % 16 : Nat) : Int) := by
 have e := u8_and_nat x 15 h (by omega)
 rw [show x &&& 15 = x % 16 from Nat.and_two_pow_sub_one_eq_mod x 4] at e
 exact e
theorem Sl.two (w : World) (u1 u2 : Value) (e : TypeId) : Sl (w.alloc (.cells #[u1, u2] e)) (fun g => w.heap.size ≤ g) 1 (.slice (some ⟨w.heap.size, 0, none⟩) 2 2) 2 [u1, u2] :=
  ⟨rfl, _, _, rfl, Nat.le_refl _, by simp [maxLen], fun _ => ⟨_, 0, rfl, Nat.le_refl _, fun j u' hu => by
    rcases j with _ | _ | j
    · simp at hu; subst hu; simp
    · simp at hu; subst hu; simp
    · simp at hu⟩⟩
set_option maxRecDepth 100000 in
set_option maxHeartbeats 1000000 in
theorem s_hex (s : ByteArray) (w : World) (hs : s.size ≤ 100000) : Calls Tryz.prog 55 #[.string s] w fun e w' => e = .returned (.string (bA (hexB (bsOf s)))) ∧ Ext w w' := by
 obtain ⟨i0, hi, hz0, hz1, hz2⟩ := info_parts info_u8
 obtain ⟨l, hl⟩ : ∃ l, bsOf s = l := ⟨_, rfl⟩
 have hsz : s.size = l.length := by rw [← hl]; rfl
 obtain ⟨n, hn⟩ : ∃ n, s.size = n := ⟨_, rfl⟩
 have Hln : Hid (l.length = n) := Lib.hid (by omega)
 have hn1 : n ≤ 100000 := by omega
 have hcv := conv_sb s w
 have hbw := bw_byt w 5 s (by unfold maxLen; omega)
 have hEw := bw_ext w 5 s
 rw [hl, hn] at hbw
 rw [hn] at hcv
 rw [hl]
 clear hsz hs hl
 obtain ⟨W1, hW1⟩ : ∃ W1, Lib.bytesWorld w 5 s = W1 := ⟨_, rfl⟩
 obtain ⟨b, hb⟩ : ∃ b, w.heap.size = b := ⟨_, rfl⟩
 obtain ⟨cp, hcp⟩ : ∃ cp, grownCap w n 0 5 = cp := ⟨_, rfl⟩
 rw [hW1, hb, hcp] at hbw hcv
 rw [hW1] at hEw
 clear hW1 hcp
 have Hb := Lib.hid hb
 have Hbw := Lib.hid hbw
 have HE := Lib.hid hEw
 clear hb hbw hEw
 go_enter Tryz.func55, Tryz.ntmps55
 go_wp2_with fail
 go_loopw [3, 9] (fun v iv wr => ∃ (k : Nat), iv = .int .i64 k ∧ k ≤ n ∧ NewB W1 wr v (hexB (l.take k)) ∧ Ext W1 wr) (fun _ iv _ => n - (intOf iv).toNat)
 case atStart => exact ⟨0, rfl, by omega, NewB.nil W1, Mod.refl _ _⟩
 case round =>
  obtain ⟨k, rfl, hk, hB, hE⟩ := hrel
  by_cases hlt : k < n
  · obtain ⟨c, hc⟩ : ∃ c, l[k]? = some c := ⟨_, List.getElem?_eq_getElem (by rw [Hln.out]; exact hlt)⟩
    have hld : wr.cell? ⟨b, k, none⟩ = some (.int .u8 c.toNat) := by
     obtain ⟨_, A, c', hA, _, _, hcell⟩ := Hbw.out
     injection hA with hA
     subst hA
     obtain ⟨g, off, hg, hgb, hcell⟩ := hcell (by have := Hln.out; omega)
     injection hg with hg
     injection hg with hg1 hg2
     subst hg1; subst hg2
     have := hcell k (B c) (by rw [List.getElem?_map, hc]; rfl)
     rw [Nat.zero_add] at this
     exact hE.cell (p := ⟨b, k, none⟩) this id
    obtain ⟨x, hx⟩ : ∃ x, c.toNat = x := ⟨_, rfl⟩
    have hx256 : x < 256 := by rw [← hx]; exact c.toNat_lt
    rw [hx] at hld
    obtain ⟨q1, hq1⟩ : ∃ q1 : Int, (x : Int) / 16 = q1 := ⟨_, rfl⟩
    obtain ⟨q2, hq2⟩ : ∃ q2 : Int, bits .and .u8 (x : Int) 15 = q2 := ⟨_, rfl⟩
    obtain ⟨e1, he1⟩ : ∃ e1, digC (x / 16) = e1 := ⟨_, rfl⟩
    obtain ⟨e2, he2⟩ : ∃ e2, digC (x % 16) = e2 := ⟨_, rfl⟩
    have d1 : ∀ W, (Instr.index 9 (.string ⟨#[48, 49, 50, 51, 52, 53, 54, 55, 56, 57, 97, 98, 99, 100, 101, 102]⟩) (.int .u8 q1)).run Tryz.prog W = .ok (.int .u8 (e1.toNat : Int)) W := fun W => by
     have := run_dig (x / 16) (by omega) W
     rw [he1] at this
     rw [← hq1]; exact this
    have d2 : ∀ W, (Instr.index 9 (.string ⟨#[48, 49, 50, 51, 52, 53, 54, 55, 56, 57, 97, 98, 99, 100, 101, 102]⟩) (.int .u8 q2)).run Tryz.prog W = .ok (.int .u8 (e2.toNat : Int)) W := fun W => by
     have := run_dig (x % 16) (by omega) W
     rw [he2] at this
     rw [← hq2, and15 x hx256]; exact this
    have Hstp : Hid (hexB (l.take (k + 1)) = hexB (l.take k) ++ [e1, e2]) := Lib.hid (by
     rw [show l.take (k + 1) = l.take k ++ [c] by obtain ⟨h1, h2⟩ := List.getElem?_eq_some_iff.1 hc; rw [← h2]; exact List.take_succ_eq_append_getElem h1, hexB_app]
     simp [hexB, hx, he1, he2])
    obtain ⟨m, hm⟩ : ∃ m, (hexB (l.take k)).length = m := ⟨_, rfl⟩
    have hm2 : m ≤ 200000 := by rw [← hm, hexB_len, List.length_take]; omega
    have ho := hB.1
    rw [hm] at ho
    obtain ⟨A, cc, rfl⟩ := own_form ho
    have HB := Lib.hid hB
    clear hB hc hx hm he1 he2
    go_upto_region 5 with fail
    go_region_law
     ((refine step_app _ rfl _ _ 29 rfl 5 i0 _ 1 1 Tryz.underlying29 hi hz0 hz1 hz2 rfl (by omega) (.slice A m cc) m ((hexB (l.take k)).map B) rfl ((ho.alloc _).drew) _ _ 2 _ rfl ((Sl.two wr _ _ _).drew) (by simp [Value.oneCell']) (by simp only [maxLen]; omega) (by omega) ?_
       intro v' w1 ho1 hgr hat
       obtain ⟨hB1, hE1⟩ := NewB.app (cs := hexB (l.take (k + 1))) HB.out hE (((Mod.refl _ wr).alloc _).drew) (by rw [Hstp.out]; simp [B]) ho1 hgr hat (Nat.le_trans hE.size ((((Mod.refl (fun _ => False) wr).alloc _).drew).size))))
    all_goals go_wp2
    all_goals exact ⟨⟨k + 1, by push_cast; rfl, by omega, hB1, hE1⟩, by simp [intOf] <;> omega⟩
  obtain rfl : k = n := by omega
  have hc := conv_bs hB.byt
  rw [List.take_of_length_le (by rw [Hln.out]; exact Nat.le_refl _)] at hc
  go_wp2
  go_ret
  exact ⟨rfl, HE.out.ext hE⟩
theorem own_one (w : World) (u : Value) (e : TypeId) : (w.alloc (.cells #[u] e)).ownsRow 0 e 1 (.slice (some ⟨w.heap.size, 0, none⟩) 1 1) 1 [u] :=
 ⟨rfl, .inr ⟨w.heap.size, 1, #[u], rfl, Nat.zero_le _, heap_new _ _, Nat.le_refl _, by simp [maxLen], rfl, rfl⟩⟩
def TextOut (w : World) (v : AVal) (e : Ending) (w' : World) : Prop := e = .returned (.tuple #[.string (if chk v = 0 then bA (textV v) else ⟨#[]⟩), .int .i64 (chk v)]) ∧ Ext w w'
set_option maxRecDepth 100000 in
set_option maxHeartbeats 1000000 in
theorem v_Text (v : AVal) (w : World) (hg : Glb w) (hn : v.num < 18446744073709551616) (ht : v.text.size ≤ 100000) : Calls Tryz.prog 82 #[.agg #[.int .i64 v.kind, .float .f64 v.num, .string v.text]] w (TextOut w v) := by
 obtain ⟨b, hb⟩ : ∃ b, w.heap.size = b := ⟨_, rfl⟩
 have hck := fun W => v_check v W
 obtain ⟨c, hc⟩ : ∃ c, chk v = c := ⟨_, rfl⟩
 unfold TextOut
 rw [hc] at hck ⊢
 obtain ⟨rs, hrs⟩ : ∃ rs, (if c = 0 then bA (textV v) else ⟨#[]⟩) = rs := ⟨_, rfl⟩
 rw [hrs]
 have Hrs := Lib.hid hrs
 clear hrs
 obtain ⟨k, x, t⟩ := v
 simp only at hn ht hck ⊢
 have Hg := Lib.hid hg
 have Hck := Lib.hid hck
 have Hc := Lib.hid hc
 clear hg hck hc
 go_enter Tryz.func82, Tryz.ntmps82
 go_upto_region 2 with (go_at_call 77; refine (Hck.out _).mono ?_; rintro e w3 ⟨rfl, hE3⟩)
 obtain ⟨W2, hW2⟩ : ∃ W2, w.alloc (.cells #[.int .i64 k, .float .f64 x, .string t] 24) = W2 := ⟨_, rfl⟩
 rw [hW2] at hE3
 have hE2 : Ext w W2 := hW2 ▸ ((Mod.refl _ w).alloc _)
 have hb2 : W2.heap[b]? = some (.cells [.int .i64 k, .float .f64 x, .string t].toArray 24 (0, 0)) := hb ▸ hW2 ▸ heap_new _ _
 have hb3 := hE3.blk hb2 id
 have HE := Lib.hid (hE2.ext hE3)
 have c0 : w3.cell? ⟨b, 0, none⟩ = some (.int .i64 k) := blk_cell hb3 rfl
 have c1 : w3.cell? ⟨b, 1, none⟩ = some (.float .f64 x) := blk_cell hb3 rfl
 have c2 : w3.cell? ⟨b, 2, none⟩ = some (.string t) := blk_cell hb3 rfl
 have Hb3 := Lib.hid hb3
 clear hE3 hE2 hb2 hb3 hW2
 by_cases h0 : c ≠ 0
 · have Hn0 := Lib.hid h0
   have d0 : (c != 0) = true := by simpa using h0
   clear h0
   go_wp2
   go_ret2
   exact ⟨by rw [← Hrs.out, if_neg Hn0.out]; rfl, HE.out⟩
 obtain rfl : c = 0 := by omega
 have hk : k = 0 ∨ k = 1 ∨ k = 2 := by
  by_cases h0 : k = 0
  · exact .inl h0
  by_cases h1 : k = 1
  · exact .inr (.inl h1)
  by_cases h2 : k = 2
  · exact .inr (.inr h2)
  have := Hc.out
  rw [chk3 x t h0 h1 h2] at this
  cases this
 have hrs := Hrs.out
 rw [if_pos rfl] at hrs
 have Hrs := Lib.hid hrs
 clear hrs
 rcases hk with rfl | rfl | rfl
 · go_wp2
   go_ret2
   exact ⟨by rw [← Hrs.out]; rfl, HE.out⟩
 · have hnt := n_text x hn w3 (Hg.out.ext HE.out)
   obtain ⟨z, hz⟩ : ∃ z, textF x = z := ⟨_, rfl⟩
   have He : Hid (textV ⟨1, x, t⟩ = 110 :: z) := Lib.hid (by rw [← hz]; rfl)
   rw [hz] at hnt
   obtain ⟨zz, hzz⟩ : ∃ zz, bA z = zz := ⟨_, rfl⟩
   have hz16 : zz.size ≤ 16 := by rw [← hzz]; show z.length ≤ 16; rw [← hz, textF, hexK_len]; exact Nat.le_refl _
   rw [hzz] at hnt
   have Hzz := Lib.hid hzz
   clear hz hzz
   go_wp2_with (go_at_call 103; refine hnt.mono ?_; rintro e w4 ⟨rfl, hE4⟩)
   go_ret2
   refine ⟨?_, HE.out.ext hE4⟩
   rw [← Hrs.out, He.out, show bA (110 :: z) = (⟨#[110]⟩ : ByteArray) ++ bA z from (bA_app [110] z).symm, Hzz.out]
   rfl
 obtain ⟨i0, hi, hz0, hz1, hz2⟩ := info_parts info_u8
 obtain ⟨l, hl⟩ : ∃ l, bsOf t = l := ⟨_, rfl⟩
 have hsz : t.size = l.length := by rw [← hl]; rfl
 obtain ⟨n, hn'⟩ : ∃ n, t.size = n := ⟨_, rfl⟩
 have Hln : Hid (l.length = n) := Lib.hid (by omega)
 have hn1 : n ≤ 100000 := by omega
 have He : Hid (textV ⟨2, x, t⟩ = 116 :: hexB l) := Lib.hid (by rw [← hl]; rfl)
 have hcv0 := fun W => conv_sb t W
 have hbw0 := fun W => bw_byt W 5 t (by unfold maxLen; omega)
 have hEw0 := fun W => bw_ext W 5 t
 rw [hl] at hbw0
 rw [hn'] at hcv0
 simp only [hn'] at hbw0
 have Hbw0 := Lib.hid hbw0
 have HEw0 := Lib.hid hEw0
 have Hcv0 := Lib.hid hcv0
 clear hsz hl hbw0 hEw0 hcv0
 go_upto_region 10 with fail
 obtain ⟨W4, hW4⟩ : ∃ W4, w3.alloc (.cells #[.int .u8 116] 5) = W4 := ⟨_, rfl⟩
 obtain ⟨g4, hg4⟩ : ∃ g4, w3.heap.size = g4 := ⟨_, rfl⟩
 have hE4 : Ext w3 W4 := hW4 ▸ ((Mod.refl _ w3).alloc _)
 have hN4 : NewB w3 W4 (.slice (some ⟨g4, 0, none⟩) 1 1) [116] := by
  refine ⟨?_, fun g hg => ?_⟩
  · rw [← hW4, ← hg4]; exact own_one w3 (.int .u8 116) 5
  · simp [Value.ownBlock] at hg; omega
 have hg4b : W4.heap[g4]? = some (.cells #[.int .u8 116] 5 (0, 0)) := hg4 ▸ hW4 ▸ heap_new _ _
 rw [hW4, hg4]
 have k2 := hE4.cell c2 id
 clear hW4 c0 c1 c2
 have hcv := Hcv0.out W4
 have hbw := Hbw0.out W4
 have hEw := HEw0.out W4
 obtain ⟨W1, hW1⟩ : ∃ W1, Lib.bytesWorld W4 5 t = W1 := ⟨_, rfl⟩
 obtain ⟨bb, hbb⟩ : ∃ bb, W4.heap.size = bb := ⟨_, rfl⟩
 obtain ⟨cp, hcp⟩ : ∃ cp, grownCap W4 n 0 5 = cp := ⟨_, rfl⟩
 rw [hW1, hbb, hcp] at hbw hcv
 rw [hW1] at hEw
 have Hgb : Hid (g4 < bb) := Lib.hid (by rw [← hbb]; exact (Array.getElem?_eq_some_iff.1 hg4b).1)
 clear hW1 hcp hbb hg4b
 have Hbw := Lib.hid hbw
 have HN1 := Lib.hid (hN4.ext hEw)
 have HE1 := Lib.hid (hE4.ext hEw)
 clear hbw hN4 hEw hE4
 go_wp2_with fail
 clear hcv k2
 go_loopw [5, 28] (fun v iv wr => ∃ (k : Nat), iv = .int .i64 k ∧ k ≤ n ∧ NewB w3 wr v (116 :: hexB (l.take k)) ∧ Ext w3 wr ∧ (∀ g, v.ownBlock = some g → g ≠ bb) ∧ Mod (fun g => g ≠ bb) W1 wr) (fun _ iv _ => n - (intOf iv).toNat)
 case atStart => exact ⟨0, rfl, by omega, HN1.out, HE1.out, fun g hg => by simp [Value.ownBlock] at hg; have := Hgb.out; omega, Mod.refl _ _⟩
 case round =>
  obtain ⟨k, rfl, hk, hB, hE, hvb, hEW⟩ := hrel
  by_cases hlt : k < n
  · obtain ⟨c, hc⟩ : ∃ c, l[k]? = some c := ⟨_, List.getElem?_eq_getElem (by rw [Hln.out]; exact hlt)⟩
    have hld : wr.cell? ⟨bb, k, none⟩ = some (.int .u8 c.toNat) := by
     obtain ⟨_, A, c', hA, _, _, hcell⟩ := Hbw.out
     injection hA with hA
     subst hA
     obtain ⟨g, off, hg, hgb, hcell⟩ := hcell (by have := Hln.out; omega)
     injection hg with hg
     injection hg with hg1 hg2
     subst hg1; subst hg2
     have := hcell k (B c) (by rw [List.getElem?_map, hc]; rfl)
     rw [Nat.zero_add] at this
     exact hEW.cell (p := ⟨bb, k, none⟩) this (fun e => e rfl)
    obtain ⟨x, hx⟩ : ∃ x, c.toNat = x := ⟨_, rfl⟩
    have hx256 : x < 256 := by rw [← hx]; exact c.toNat_lt
    rw [hx] at hld
    have HEW := Lib.hid hEW
    have Hvb := Lib.hid hvb
    have hbbl : bb < wr.heap.size := World.block_lt_of_cell? _ _ hld
    clear hEW hvb
    obtain ⟨q1, hq1⟩ : ∃ q1 : Int, (x : Int) / 16 = q1 := ⟨_, rfl⟩
    obtain ⟨q2, hq2⟩ : ∃ q2 : Int, bits .and .u8 (x : Int) 15 = q2 := ⟨_, rfl⟩
    obtain ⟨e1, he1⟩ : ∃ e1, digC (x / 16) = e1 := ⟨_, rfl⟩
    obtain ⟨e2, he2⟩ : ∃ e2, digC (x % 16) = e2 := ⟨_, rfl⟩
    have d1 : ∀ W, (Instr.index 9 (.string ⟨#[48, 49, 50, 51, 52, 53, 54, 55, 56, 57, 97, 98, 99, 100, 101, 102]⟩) (.int .u8 q1)).run Tryz.prog W = .ok (.int .u8 (e1.toNat : Int)) W := fun W => by
     have := run_dig (x / 16) (by omega) W
     rw [he1] at this
     rw [← hq1]; exact this
    have d2 : ∀ W, (Instr.index 9 (.string ⟨#[48, 49, 50, 51, 52, 53, 54, 55, 56, 57, 97, 98, 99, 100, 101, 102]⟩) (.int .u8 q2)).run Tryz.prog W = .ok (.int .u8 (e2.toNat : Int)) W := fun W => by
     have := run_dig (x % 16) (by omega) W
     rw [he2] at this
     rw [← hq2, and15 x hx256]; exact this
    have Hstp : Hid (hexB (l.take (k + 1)) = hexB (l.take k) ++ [e1, e2]) := Lib.hid (by
     rw [show l.take (k + 1) = l.take k ++ [c] by obtain ⟨h1, h2⟩ := List.getElem?_eq_some_iff.1 hc; rw [← h2]; exact List.take_succ_eq_append_getElem h1, hexB_app]
     simp [hexB, hx, he1, he2])
    obtain ⟨m, hm⟩ : ∃ m, (116 :: hexB (l.take k) : List UInt8).length = m := ⟨_, rfl⟩
    have hm2 : m ≤ 200000 := by rw [← hm, List.length_cons, hexB_len, List.length_take]; omega
    have ho := hB.1
    rw [hm] at ho
    obtain ⟨A, cc, rfl⟩ := own_form ho
    have HB := Lib.hid hB
    clear hB hc hx hm he1 he2
    go_upto_region 13 with fail
    go_region_law
     ((refine step_app _ rfl _ _ 29 rfl 5 i0 _ 1 1 Tryz.underlying29 hi hz0 hz1 hz2 rfl (by omega) (.slice A m cc) m ((116 :: hexB (l.take k) : List UInt8).map B) rfl ((ho.alloc _).drew) _ _ 2 _ rfl ((Sl.two wr _ _ _).drew) (by simp [Value.oneCell']) (by simp only [maxLen]; omega) (by omega) ?_
       intro v' w1 ho1 hgr hat
       obtain ⟨hB1, hE1⟩ := NewB.app (cs := 116 :: hexB (l.take (k + 1))) HB.out hE (((Mod.refl _ wr).alloc _).drew) (by rw [Hstp.out]; simp [B]) ho1 hgr hat (Nat.le_trans hE.size ((((Mod.refl (fun _ => False) wr).alloc _).drew).size))
       have HEW2 := Lib.hid (((HEW.out.alloc _).drew).grown hgr (fun k hk => .inr (Hvb.out k hk)))
       have Hvb2 : Hid (∀ g, v'.ownBlock = some g → g ≠ bb) := Lib.hid (fun g hg => by
        rcases hat with e | e
        · rw [e] at hg; exact Hvb.out g hg
        · rw [e] at hg; injection hg with hg; have := (((Mod.refl (fun _ => False) wr).alloc (.cells #[.int .u8 (e1.toNat : Int), .int .u8 (e2.toNat : Int)] 5)).drew).size; omega)))
    all_goals go_wp2
    all_goals exact ⟨⟨k + 1, by push_cast; rfl, by omega, hB1, hE1, Hvb2.out, HEW2.out⟩, by simp [intOf] <;> omega⟩
  obtain rfl : k = n := by omega
  have hc := conv_bs hB.byt
  rw [List.take_of_length_le (by rw [Hln.out]; exact Nat.le_refl _)] at hc
  go_wp2
  go_ret2
  exact ⟨by rw [← Hrs.out, He.out]; rfl, HE.out.ext hE⟩
end Go.Proofs.YtmebipnljkopgaaGreatDoor
