/-
 Layer 27 (script): the law ScriptBack: an act's line is read as that act; what is read as an act has just that line. Conditions: the package variables are as start-up lays them (Glb); the act's numbers are ints.
-/
import Derived.Test.YtmebipnljkopgaaGreatDoorLawScriptLines
namespace Go.Proofs.YtmebipnljkopgaaGreatDoor
set_option linter.unusedSimpArgs false
set_option linter.unusedVariables false
open Go.RowKit
theorem numW_i64 {w : ByteArray} {n : Int} (h : numW w = some n) : I64 n := by
 rw [← numPg_eq] at h
 unfold numPg at h
 split at h
 · cases h
 split at h
 · rename_i v hv
   split at h
   · simp only [Option.some.injEq] at h; subst h; exact wholeL_i64 hv
   · cases h
 · cases h
theorem numsP_i64 : ∀ (ws : List ByteArray) (l : List Int), numsP ws = some l → ∀ x ∈ l, I64 x
  | [], l, h => by simp only [numsP, Option.some.injEq] at h; subst h; intro x hx; cases hx
  | w :: r, l, h => by
    unfold numsP at h
    split at h
    · rename_i n l' hn hl
      simp only [Option.some.injEq] at h; subst h
      intro x hx
      rcases List.mem_cons.1 hx with rfl | hx
      · exact numW_i64 hn
      · exact numsP_i64 r l' hl x hx
    · cases h
theorem ALt.new (k : Int) : ALt { AAct.zero with kind := k } :=
 have hz : ∀ x ∈ [(0 : Int), 0, 0, 0], -9223372036854775808 ≤ x ∧ x ≤ 9223372036854775807 := by decide
 have h0 : -9223372036854775808 ≤ (0 : Int) ∧ (0 : Int) ≤ 9223372036854775807 := by decide
 ⟨h0, h0, h0, h0, hz, Nat.zero_le _, by show (0 : Nat) < _; omega, Nat.zero_le _, by show (0 : Nat) < _; omega, Nat.zero_le _, Nat.zero_le _⟩
theorem ALt.setO {a : AAct} (h : ALt a) (o : Nat) {x : Int} (hx : I64 x) : ALt (a.setO o x) := by
 have hc := h.conf
 unfold AAct.setO
 split
 · exact ⟨hx, h.client, h.n, h.m, hc, h.key, h.oldn, h.oldt, h.valn, h.valt, h.bytes⟩
 · exact ⟨h.node, hx, h.n, h.m, hc, h.key, h.oldn, h.oldt, h.valn, h.valt, h.bytes⟩
 · exact ⟨h.node, h.client, hx, h.m, hc, h.key, h.oldn, h.oldt, h.valn, h.valt, h.bytes⟩
 · exact ⟨h.node, h.client, h.n, hx, hc, h.key, h.oldn, h.oldt, h.valn, h.valt, h.bytes⟩
 all_goals first
  | exact h
  | (refine ⟨h.node, h.client, h.n, h.m, fun y hy => ?_, h.key, h.oldn, h.oldt, h.valn, h.valt, h.bytes⟩
     simp only [List.mem_cons, List.not_mem_nil, or_false] at hy
     rcases hy with rfl | rfl | rfl | rfl <;> first | exact hx | exact hc _ (by simp))
theorem ALt.setAll : ∀ (os : List Nat) (xs : List Int) {a : AAct}, ALt a → (∀ x ∈ xs, I64 x) → ALt (setAll a os xs)
  | [], _, a, h, _ => by simpa [Proofs.YtmebipnljkopgaaGreatDoor.setAll] using h
  | _ :: _, [], a, h, _ => by simpa [Proofs.YtmebipnljkopgaaGreatDoor.setAll] using h
  | o :: os, x :: xs, a, h, hx => by
    rw [Proofs.YtmebipnljkopgaaGreatDoor.setAll]
    exact ALt.setAll os xs (h.setO o (hx x (by simp))) (fun y hy => hx y (List.mem_cons_of_mem _ hy))
theorem unhex_len {l t : List UInt8} (h : unhexL l = some t) : 2 * t.length = l.length := by rw [← hex_unhex l t h, hexB_len]
theorem keyP_len {w k : ByteArray} (h : keyP w = some k) : k.size ≤ w.size := by
 unfold keyP at h
 split at h
 · cases h
 rename_i c r hw
 split at h
 · rcases hu : unhexL r with _ | t
   · rw [hu] at h; cases h
   rw [hu] at h
   simp only [Option.map_some, Option.some.injEq] at h
   have h1 := unhex_len hu
   have h2 : w.size = r.length + 1 := by have : w.size = (bsOf w).length := rfl; rw [this, hw]; rfl
   have h3 : (bA t).size = t.length := by simp [bA, ByteArray.size]
   rw [← h, h3, h2]; omega
 · cases h
theorem rawP_len {w : ByteArray} {b : List UInt8} (h : rawP w = some b) : b.length ≤ w.size := by
 have h2 : w.size = (bsOf w).length := rfl
 unfold rawP at h
 split at h
 · simp only [Option.some.injEq] at h; subst h; simp
 split at h
 · rename_i t ht
   split at h
   · cases h
   simp only [Option.some.injEq] at h; subst h
   have h1 := unhex_len ht
   omega
 · cases h
theorem valP_lt {w : ByteArray} {v : AVal} (h : valP w = some v) : v.num < 18446744073709551616 ∧ v.text.size ≤ 6000 := by
 unfold valP at h
 split at h
 · simp only [Option.some.injEq] at h; subst h; decide
 split at h
 · cases h
 rename_i c r hw
 split at h
 · rcases hp : parseF (bA r) with _ | x
   · rw [hp] at h; cases h
   rw [hp] at h
   simp only [Option.map_some, Option.some.injEq] at h
   subst h
   exact ⟨parseF_lt hp, by show (0 : Nat) ≤ 6000; omega⟩
 split at h
 · split at h
   · rename_i t ht
     split at h
     · rename_i hl
       simp only [Option.some.injEq] at h
       subst h
       have h3 : (bA t).size = t.length := by simp [bA, ByteArray.size]
       exact ⟨by show (0 : Nat) < _; omega, by show (bA t).size ≤ 6000; omega⟩
     · cases h
   · cases h
 · cases h
theorem mapM_mem : ∀ (ws : List ByteArray) (l : List AVal), ws.mapM valP = some l → ∀ v ∈ l, v.num < 18446744073709551616 ∧ v.text.size ≤ 6000
  | [], l, h => by simp only [List.mapM_nil] at h; cases h; intro v hv; cases hv
  | w :: r, l, h => by
    rw [List.mapM_cons] at h
    rcases hv : valP w with _ | v
    · rw [hv] at h; cases h
    rcases hr : r.mapM valP with _ | t
    · rw [hv, hr] at h; cases h
    rw [hv, hr] at h
    cases h
    intro x hx
    rcases List.mem_cons.1 hx with rfl | hx
    · exact valP_lt hv
    · exact mapM_mem r t hr x hx
theorem call_lt {op : Int} {ws : List ByteArray} {b : AAct} (h : callP op ws = some b) (hs : ∀ x ∈ ws, x.size ≤ 6000) : ALt b := by
 have hz : ALt AAct.zero := ALt.new 0
 unfold callP at h
 split at h
 · rename_i c i k vs
   split at h
   · rename_i c' i' k' hc hi hk
     have ec := numW_i64 hc
     have ei := numW_i64 hi
     have ek : k'.size ≤ 6000 := Nat.le_trans (keyP_len hk) (hs k (by simp))
     split at h
     · simp only [Option.some.injEq] at h; subst h
       exact ⟨ei, ec, hz.n, hz.m, hz.conf, ek, hz.oldn, hz.oldt, hz.valn, hz.valt, hz.bytes⟩
     · rename_i v hm hv
       have e := mapM_mem vs _ hm v (by simp)
       simp only [Option.some.injEq] at h; subst h
       exact ⟨ei, ec, hz.n, hz.m, hz.conf, ek, hz.oldn, hz.oldt, e.1, e.2, hz.bytes⟩
     · rename_i o v hm hv
       have e := mapM_mem vs _ hm v (by simp)
       have eo := mapM_mem vs _ hm o (by simp)
       simp only [Option.some.injEq] at h; subst h
       exact ⟨ei, ec, hz.n, hz.m, hz.conf, ek, eo.1, eo.2, e.1, e.2, hz.bytes⟩
     · cases h
   · cases h
 · cases h
/-- An act that was read of a line that is not long is not heavy. -/
theorem read_lt {s : ByteArray} {a : AAct} (h : readP s = some a) (hs : s.size ≤ 6000) : ALt a := by
 unfold readP at h
 split at h
 · cases h
 rename_i w ws hw
 have hz : ∀ x ∈ ws, x.size ≤ 6000 := fun x hx => Nat.le_trans (wordsB_size (s := s) (by rw [hw]; exact List.mem_cons_of_mem _ hx)) hs
 split at h
 · unfold otherP at h
   split at h
   · split at h
     · rename_i w'
       rcases hp : rawP w' with _ | bs
       · rw [hp] at h; cases h
       rw [hp] at h
       simp only [Option.map_some, Option.some.injEq] at h
       have hb := Nat.le_trans (rawP_len hp) (hz w' (by simp))
       have h0 := ALt.new (kindP (bsOf w))
       subst h
       exact ⟨h0.node, h0.client, h0.n, h0.m, h0.conf, h0.key, h0.oldn, h0.oldt, h0.valn, h0.valt, hb⟩
     · cases h
   · split at h
     · rename_i l hl
       split at h
       · simp only [Option.some.injEq] at h; subst h
         exact ALt.setAll _ _ (ALt.new _) (numsP_i64 _ _ hl)
       · cases h
     · cases h
 split at h
 · exact call_lt h hz
 · cases h
theorem str_ne {s : ByteArray} {l : List UInt8} (h : bsOf s = l) (hl : l ≠ []) : (s.toList == []) = false := by
 rw [ByteArray.toList_eq]; show (bsOf s == []) = false; rw [h]; simpa using hl
set_option maxRecDepth 100000 in
set_option maxHeartbeats 2000000 in
theorem l_back (a : AAct) (bv : Value) (line : ByteArray) (w : World) (hg : Glb w) (hi : AIn a) (hB : Byt w (fun g => g < w.heap.size) bv a.bytes) : Calls Tryz.prog 5 #[.agg (a.cells bv).toArray, .string line] w fun e w' => e = .returned (.bool true) ∧ Ext w w' := by
 obtain ⟨b, hb⟩ : ∃ b, w.heap.size = b := ⟨_, rfl⟩
 obtain ⟨q, hq⟩ : ∃ q, heavyAct a = q := ⟨_, rfl⟩
 obtain ⟨A0, n0, c0, rfl⟩ : ∃ A n cp, bv = .slice A n cp := by obtain ⟨A, c, e⟩ := Sl.form hB; exact ⟨A, _, c, e⟩
 have HB := Lib.hid hB
 have Hg := Lib.hid hg
 have hlt0 : q = false → ALt a := fun e => hi.lt (hq.trans e)
 have Hlt0 := Lib.hid hlt0
 have hhv : ∀ W, Ext w W → Calls Tryz.prog 10 #[.agg (a.cells (.slice A0 n0 c0)).toArray] W fun e w' => e = .returned (.bool q) ∧ Ext W w' := fun W hE => hq ▸ l_heavy27 a (.slice A0 n0 c0) W _ (hB.ext hE)
 have Hhv := Lib.hid hhv
 clear hB hg hi hq hhv hlt0
 go_enter Tryz.func5, Tryz.ntmps5
 go_upto_region 1 with fail
 obtain ⟨W1, hW1⟩ : ∃ W1, w.alloc (.cells (a.cells (.slice A0 n0 c0)).toArray 31) = W1 := ⟨_, rfl⟩
 have hE1 : Ext w W1 := hW1 ▸ ((Mod.refl _ w).alloc _)
 have hb1 : W1.heap[b]? = some (.cells (a.cells (.slice A0 n0 c0)).toArray 31 (0, 0)) := hb ▸ hW1 ▸ heap_new _ _
 rw [hW1]
 clear hW1
 have hl1 : (Instr.loadAt 31 (.pointer (some ⟨b, 0, none⟩))).run Tryz.prog W1 = .ok (.agg (a.cells (.slice A0 n0 c0)).toArray) W1 := load_row str_act hb1 rfl (fun j u hu => by rw [Nat.zero_add]; exact hu)
 have Hb1 := Lib.hid hb1
 have HE1 := Lib.hid hE1
 clear hb1 hE1
 rcases q with _ | _
 rotate_left
 · go_wp2_with (first
    | (refine wpList_ld rfl 31 _ rfl (.pointer (some ⟨b, 0, none⟩)) _ rfl hl1 ?_)
    | (go_at_call 10; refine (Hhv.out _ HE1.out).mono ?_; rintro e w3 ⟨rfl, hE3⟩))
   go_ret
   exact ⟨rfl, HE1.out.ext hE3⟩
 have hlt := Hlt0.out rfl
 have Hlt := Lib.hid hlt
 clear hlt Hlt0
 by_cases hlong : 6000 < line.size
 · go_wp2_with (first
    | (refine wpList_ld rfl 31 _ rfl (.pointer (some ⟨b, 0, none⟩)) _ rfl hl1 ?_)
    | (go_at_call 10; refine (Hhv.out _ HE1.out).mono ?_; rintro e w3 ⟨rfl, hE3⟩))
   go_ret
   exact ⟨rfl, HE1.out.ext hE3⟩
 have hshort : line.size ≤ 6000 := by omega
 have Hshort := Lib.hid hshort
 clear hshort
 go_upto_region 3 with (first
  | (refine wpList_ld rfl 31 _ rfl (.pointer (some ⟨b, 0, none⟩)) _ rfl hl1 ?_)
  | (go_at_call 10; refine (Hhv.out _ HE1.out).mono ?_; rintro e w3 ⟨rfl, hE3⟩))
 clear hlong
 have hb3 := hE3.blk Hb1.out id
 have hl3 : (Instr.loadAt 31 (.pointer (some ⟨b, 0, none⟩))).run Tryz.prog w3 = .ok (.agg (a.cells (.slice A0 n0 c0)).toArray) w3 := load_row str_act hb3 rfl (fun j u hu => by rw [Nat.zero_add]; exact hu)
 have HE3 := Lib.hid (HE1.out.ext hE3)
 have Hb3 := Lib.hid hb3
 have hln := s_line a (.slice A0 n0 c0) w3 (Hg.out.ext HE3.out) Hlt.out ((HB.out.ext HE3.out).mono (fun g hg => Nat.lt_of_lt_of_le hg HE3.out.size))
 obtain ⟨res, hres⟩ : ∃ res, lineP a = res := ⟨_, rfl⟩
 rw [hres] at hln
 have Hres := Lib.hid hres
 clear hb3 hE3 hl1 hres
 obtain ⟨z, hz⟩ : ∃ z : ByteArray, res.getD ⟨#[]⟩ = z := ⟨_, rfl⟩
 obtain ⟨y1, hy1⟩ : ∃ y1 : Int, lnCode res = y1 := ⟨_, rfl⟩
 rw [hz, hy1] at hln
 go_upto_region 4 with (first
  | (refine wpList_ld rfl 31 _ rfl (.pointer (some ⟨b, 0, none⟩)) _ rfl hl3 ?_)
  | (go_at_call 12; refine hln.mono ?_; rintro e w4 ⟨rfl, hE4⟩))
 have HE4 := Lib.hid (HE3.out.ext hE4)
 have Hb4 := Lib.hid (hE4.blk Hb3.out id)
 clear hE4 hl3 hln
 go_upto_if 25 with fail
 go_cut [7, 8] from 24 to 40 (fun _ _ wx => Ext w wx)
 case first =>
  rcases res with _ | s
  · obtain rfl : (16 : Int) = y1 := hy1
    obtain rfl : (⟨#[]⟩ : ByteArray) = z := by simpa using hz
    go_wp2
    go_meet
    exact HE4.out
  obtain rfl : (0 : Int) = y1 := hy1
  obtain rfl : s = z := by simpa using hz
  obtain ⟨y, hry, heq, hsz⟩ := line_some Hres.out
  have hs1 : s.size ≤ 100000 := by
   rw [hsz]; show (joinL (wordsA a)).length ≤ 100000
   have := line_len Hlt.out; omega
  have hsr := s_read s w4 (Hg.out.ext HE4.out) hs1
  rw [hry] at hsr
  have Heq := Lib.hid heq
  clear hry heq hsz hs1
  go_wp2_with fail
  refine hsr.mono ?_
  rintro e w5 ⟨A, n, c, rfl, HB5, hE5⟩
  simp only [Option.getD_some, Option.isSome_some, if_true] at HB5 ⊢
  have HB5 := Lib.hid HB5
  have Hbt5 := Lib.hid (hE5.blk Hb4.out id)
  have HE5 := Lib.hid (HE4.out.ext hE5)
  clear hE5 hsr
  obtain ⟨d, hd⟩ : ∃ d, w5.heap.size = d := ⟨_, rfl⟩
  have hn5 : (w5.alloc (.cells (AAct.zero.cells (.slice none 0 0)).toArray 31)).heap[d]? = some (.cells (AAct.zero.cells (.slice none 0 0)).toArray 31 (0, 0)) := hd ▸ heap_new w5 _
  go_upto_region 6 with (refine wpList_stR rfl 31 _ _ rfl 18 d 0 (y.cells (.slice A n c)) rfl rfl str_act _ _ (y.cells (.slice A n c)) hn5 rfl (by simp) (by simp [Value.oneCell']) rfl ?_; intro W6 ha6 hm6 hs6)
  have hX6 : Ext w5 W6 := Mod.toExt (((Mod.refl (Since w5.heap.size) w5).alloc _).trans hm6 (fun k hk e => by unfold Since; omega))
  have hb6 := hX6.blk Hbt5.out id
  have hl61 : (Instr.loadAt 31 (.pointer (some ⟨b, 0, none⟩))).run Tryz.prog W6 = .ok (.agg (a.cells (.slice A0 n0 c0)).toArray) W6 := load_row str_act hb6 rfl (fun j u hu => by rw [Nat.zero_add]; exact hu)
  have hl62 : (Instr.loadAt 31 (.pointer (some ⟨d, 0, none⟩))).run Tryz.prog W6 = .ok (.agg (y.cells (.slice A n c)).toArray) W6 := load_row str_act ha6 rfl (fun j u hu => by rw [Nat.zero_add]; exact hu)
  have HX := Lib.hid (HE5.out.ext hX6)
  have hka := k_actG a y W6 _ _ _ _ (HB.out.ext HX.out) (HB5.out.ext hX6)
  rw [eqAct_comm, Heq.out] at hka
  clear hn5 ha6 hm6 hs6 hX6 hb6
  go_wp2_with (first
    | (refine wpList_ldW (by kernel_rfl) 31 _ rfl (.pointer (some ⟨b, 0, none⟩)) _ rfl hl61 ?_)
    | (refine wpList_ldW (by kernel_rfl) 31 _ rfl (.pointer (some ⟨d, 0, none⟩)) _ rfl hl62 ?_)
    | (go_at_call 8; refine hka.mono ?_; rintro e w7 ⟨rfl, hE7⟩; clear hl61 hl62))
  go_meet
  exact HX.out.ext hE7
 case rest =>
  obtain ⟨wt, hwt⟩ : ∃ x, x = wc := ⟨_, rfl⟩
  subst hwt
  have HEt := Lib.hid hcut
  clear hcut hz hy1
  have hsr := s_read line wt (Hg.out.ext HEt.out) (by have := Hshort.out; omega)
  obtain ⟨r2, hr2⟩ : ∃ r2, readP line = r2 := ⟨_, rfl⟩
  rw [hr2] at hsr
  have Hr2 := Lib.hid hr2
  clear hr2
  go_wp2_with fail
  refine hsr.mono ?_
  rintro e w5 ⟨A, n, c, rfl, HB5, hE5⟩
  have HE5 := Lib.hid (HEt.out.ext hE5)
  clear hE5 hsr
  obtain ⟨d, hd⟩ : ∃ d, w5.heap.size = d := ⟨_, rfl⟩
  have hn5 : (w5.alloc (.cells (AAct.zero.cells (.slice none 0 0)).toArray 31)).heap[d]? = some (.cells (AAct.zero.cells (.slice none 0 0)).toArray 31 (0, 0)) := hd ▸ heap_new w5 _
  rcases r2 with _ | y
  · simp only [Option.getD_none, Option.isSome_none]
    go_upto_region 11 with (refine wpList_stR rfl 31 _ _ rfl 18 d 0 (AAct.zero.cells (.slice A n c)) rfl rfl str_act _ _ (AAct.zero.cells (.slice A n c)) hn5 rfl (by simp) (by simp [Value.oneCell']) rfl ?_; intro W6 ha6 hm6 hs6)
    have HX := Lib.hid (HE5.out.ext (Mod.toExt (((Mod.refl (Since w5.heap.size) w5).alloc _).trans hm6 (fun k hk e => by unfold Since; omega))))
    have hwk := l_wakes27 W6 (Hg.out.ext HX.out)
    clear hn5 ha6 hm6 hs6
    go_wp2_with (go_at_call 9; refine hwk.mono ?_; rintro e wa ⟨rfl, hEa⟩)
    go_ret
    exact ⟨rfl, HX.out.ext hEa⟩
  simp only [Option.getD_some, Option.isSome_some, if_true] at HB5 ⊢
  have HB5 := Lib.hid HB5
  go_upto_region 11 with (refine wpList_stR rfl 31 _ _ rfl 18 d 0 (y.cells (.slice A n c)) rfl rfl str_act _ _ (y.cells (.slice A n c)) hn5 rfl (by simp) (by simp [Value.oneCell']) rfl ?_; intro W6 ha6 hm6 hs6)
  have hX6 : Ext w5 W6 := Mod.toExt (((Mod.refl (Since w5.heap.size) w5).alloc _).trans hm6 (fun k hk e => by unfold Since; omega))
  have hl62 : (Instr.loadAt 31 (.pointer (some ⟨d, 0, none⟩))).run Tryz.prog W6 = .ok (.agg (y.cells (.slice A n c)).toArray) W6 := load_row str_act ha6 rfl (fun j u hu => by rw [Nat.zero_add]; exact hu)
  have HX := Lib.hid (HE5.out.ext hX6)
  have hB6 : Byt W6 (fun g => g < W6.heap.size) (.slice A n c) y.bytes := ((HB5.out.cap (by omega)).ext hX6).mono (fun g hg => Nat.lt_of_lt_of_le hg.2 hX6.size)
  have hln := s_line y (.slice A n c) W6 (Hg.out.ext HX.out) (read_lt Hr2.out Hshort.out) hB6
  rw [line_read Hr2.out] at hln
  simp only [Option.getD_some, Option.isSome_some, if_true] at hln
  have hwk := fun W hE => l_wakes27 W (Hg.out.ext (HX.out.ext hE))
  have Hwk := Lib.hid hwk
  clear hn5 ha6 hm6 hs6 hX6 hB6 hwk
  go_wp2_with (first
    | (refine wpList_ld rfl 31 _ rfl (.pointer (some ⟨d, 0, none⟩)) _ rfl hl62 ?_)
    | (go_at_call 12; refine hln.mono ?_; rintro e w7 ⟨rfl, hE7⟩)
    | (go_at_call 9; refine (Hwk.out _ hE7).mono ?_; rintro e wa ⟨rfl, hEa⟩))
  go_ret
  exact ⟨rfl, (HX.out.ext hE7).ext hEa⟩
end Go.Proofs.YtmebipnljkopgaaGreatDoor
