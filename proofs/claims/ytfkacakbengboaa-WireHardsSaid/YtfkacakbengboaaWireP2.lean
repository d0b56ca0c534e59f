/-
 Contracts of the page's writing functions (layer 10): conf, bytes, sized, Entry. Conditions: as each theorem names them.
-/
import Derived.Test.YtfkacakbengboaaWireP1
import Derived.Test.YtfkacakbengboaaWireE
import Derived.Test.YtfkacakbengboaaAppB
namespace Go.Proofs.Ytfkacakbengboaa
set_option linter.unusedSimpArgs false
open Go.RowKit
attribute [local go_sem high] conv_sb

/-- The texts of an entry are no longer than played. -/
def AEntry.small (x : AEntry) : Prop := x.call.cmd.key.size ≤ 40000 ∧ x.call.cmd.old.text.size ≤ 40000 ∧ x.call.cmd.val.text.size ≤ 40000
theorem encInts_le (l : List Int) : (encInts l).length ≤ 10 * l.length := ints_len l

set_option maxRecDepth 100000 in
set_option maxHeartbeats 1000000 in
theorem p_conf (c : AConf) (hc : c.ok) (w : World) : Calls Try.prog 47 #[.agg #[.int .i64 c.full, .int .i64 c.wit, .int .i64 c.learn, .int .i64 c.learnWit]] w fun e w' => ∃ v, e = .returned v ∧ NewB w w' v (encF c) ∧ Ext w w' := by
 obtain ⟨hc1, hc2, hc3, hc4⟩ := hc
 obtain ⟨W, hW⟩ : ∃ W, W = w.alloc (.cells #[.int .i64 c.full, .int .i64 c.wit, .int .i64 c.learn, .int .i64 c.learnWit] 24) := ⟨_, rfl⟩
 have hE : Ext w W := by rw [hW]; exact (Mod.refl _ w).alloc _
 have hsz : W.heap.size = w.heap.size + 1 := by rw [hW]; simp
 have Hr : Hid (∀ n ∈ [c.full, c.wit, c.learn, c.learnWit], I64 n) := Lib.hid (by simp; exact ⟨hc1, hc2, hc3, hc4⟩)
 have HW := Lib.hid hW
 have Hsz := Lib.hid hsz
 have HE := Lib.hid hE
 clear hW hsz hE hc1 hc2 hc3 hc4
 go_enter Try.func47, Try.ntmps47
 go_wp2_with fail
 rw [← HW.out]
 have hE1 : Ext W (W.alloc (.cells #[.int .i64 c.full, .int .i64 c.wit, .int .i64 c.learn, .int .i64 c.learnWit] 3)) := (Mod.refl _ W).alloc _
 have hsl := sl_lits W [c.full, c.wit, c.learn, c.learnWit] 3 #[.int .i64 c.full, .int .i64 c.wit, .int .i64 c.learn, .int .i64 c.learnWit] rfl 4 rfl (by omega)
 rw [Hsz.out] at hsl
 refine (r2_ints _ _ _ [c.full, c.wit, c.learn, c.learnWit] hsl Hr.out (by simp)).mono ?_
 rintro e w1 ⟨v, rfl, hN, hX⟩
 have HN := Lib.hid (hN.up (HE.out.ext hE1))
 have HX := Lib.hid ((HE.out.ext hE1).ext hX)
 clear hN hX hE1 hsl
 go_wp2
 go_ret
 exact ⟨v, rfl, HN.out, HX.out⟩

set_option maxRecDepth 100000 in
set_option maxHeartbeats 1000000 in
theorem p_sized (A : Option Addr) (n c : Nat) (w : World) (_ : n ≤ 1000000000) : Calls Try.prog 34 #[.slice A n c] w fun e w' => w = w' ∧ ((16384 < n ∧ e = .returned (.tuple #[.slice none 0 0, .int .i64 2])) ∨ (n ≤ 16384 ∧ e = .returned (.tuple #[.slice A n c, .int .i64 0]))) := by
 by_cases h : 16384 < n
 ·
  have d : decide ((16384 : Int) < (n : Int)) = true := by simp; omega
  go_enter Try.func34, Try.ntmps34
  go_wp2
  go_ret2
  exact ⟨rfl, .inl ⟨h, rfl⟩⟩
 ·
  have d : decide ((16384 : Int) < (n : Int)) = false := by simp; omega
  have h' : n ≤ 16384 := by omega
  have Hh := Lib.hid h'
  clear h h'
  go_enter Try.func34, Try.ntmps34
  go_wp2
  go_ret2
  exact ⟨rfl, .inr ⟨Hh.out, rfl⟩⟩

set_option maxRecDepth 100000 in
set_option maxHeartbeats 4000000 in
theorem p_bytes (x : AEntry) (hx : x.ok) (hs : x.small) (w : World) : Calls Try.prog 35 #[.agg #[.int .i64 x.term, .int .i64 x.kind, .int .i64 x.call.client, .int .i64 x.call.seq, .int .i64 x.call.cmd.kind, .string x.call.cmd.key, .int .i64 x.call.cmd.old.kind, .float .f64 x.call.cmd.old.num, .string x.call.cmd.old.text, .int .i64 x.call.cmd.val.kind, .float .f64 x.call.cmd.val.num, .string x.call.cmd.val.text, .int .i64 x.conf.full, .int .i64 x.conf.wit, .int .i64 x.conf.learn, .int .i64 x.conf.learnWit]] w fun e w' => ∃ v, e = .returned v ∧ NewB w w' v (encE x) ∧ Ext w w' := by
 obtain ⟨hx1, hx2, hxc, hxf⟩ := hx
 obtain ⟨q, hq⟩ : ∃ q, w.heap.size = q := ⟨_, rfl⟩
 obtain ⟨W, hW⟩ : ∃ W, W = w.alloc (.cells #[.int .i64 x.term, .int .i64 x.kind, .int .i64 x.call.client, .int .i64 x.call.seq, .int .i64 x.call.cmd.kind, .string x.call.cmd.key, .int .i64 x.call.cmd.old.kind, .float .f64 x.call.cmd.old.num, .string x.call.cmd.old.text, .int .i64 x.call.cmd.val.kind, .float .f64 x.call.cmd.val.num, .string x.call.cmd.val.text, .int .i64 x.conf.full, .int .i64 x.conf.wit, .int .i64 x.conf.learn, .int .i64 x.conf.learnWit] 44) := ⟨_, rfl⟩
 have hE : Ext w W := by rw [hW]; exact (Mod.refl _ w).alloc _
 have hA : W.heap[q]? = some (.cells #[.int .i64 x.term, .int .i64 x.kind, .int .i64 x.call.client, .int .i64 x.call.seq, .int .i64 x.call.cmd.kind, .string x.call.cmd.key, .int .i64 x.call.cmd.old.kind, .float .f64 x.call.cmd.old.num, .string x.call.cmd.old.text, .int .i64 x.call.cmd.val.kind, .float .f64 x.call.cmd.val.num, .string x.call.cmd.val.text, .int .i64 x.conf.full, .int .i64 x.conf.wit, .int .i64 x.conf.learn, .int .i64 x.conf.learnWit] 44 (0, 0)) := by rw [hW, ← hq]; exact heap_alloc_new w _
 have hsz : W.heap.size = q + 1 := by rw [hW, ← hq]; simp
 have Hr : Hid (∀ n ∈ [x.term, x.kind], I64 n) := Lib.hid (by simp; exact ⟨hx1, hx2⟩)
 have Hxc := Lib.hid hxc
 have Hxf := Lib.hid hxf
 have Hs := Lib.hid hs
 have HW := Lib.hid hW
 have Hq := Lib.hid hq
 have HE := Lib.hid hE
 have HA := Lib.hid hA
 have Hsz := Lib.hid hsz
 clear hW hq hE hA hsz hx1 hx2 hxc hxf hs
 have Hen : Hid (encE x = encInts [x.term, x.kind] ++ (if x.kind = 1 then encC x.call else if x.kind = 2 then encF x.conf else [])) := Lib.hid rfl
 have hl0 := encInts_le [x.term, x.kind]
 obtain ⟨I, hI⟩ : ∃ I, encInts [x.term, x.kind] = I := ⟨_, rfl⟩
 rw [hI] at Hen hl0
 simp only [List.length_cons, List.length_nil] at hl0
 have HI := Lib.hid hI
 clear hI
 go_enter Try.func35, Try.ntmps35
 go_wp2_with fail
 rw [← HW.out, Hq.out]
 have hE1 : Ext W (W.alloc (.cells #[.int .i64 x.term, .int .i64 x.kind] 3)) := (Mod.refl _ W).alloc _
 have hsl := sl_lits W [x.term, x.kind] 3 #[.int .i64 x.term, .int .i64 x.kind] rfl 2 rfl (by omega)
 rw [Hsz.out] at hsl
 refine (r2_ints _ _ _ [x.term, x.kind] hsl Hr.out (by simp)).mono ?_
 rintro e w1 ⟨v1, rfl, hN, hX⟩
 have HX := Lib.hid (hE1.ext hX)
 have hN1 : NewB W w1 v1 (encInts [x.term, x.kind]) := hN.up hE1
 rw [HI.out] at hN1
 have HN := Lib.hid hN1
 obtain ⟨A1, c1, rfl⟩ := own_form hN1.1
 have hA1 := HX.out.blk HA.out id
 have HA1 := Lib.hid hA1
 have hq1 : q < w1.heap.size := (Array.getElem?_eq_some_iff.1 hA1).1
 have a1 : w1.cell? ⟨q, 1, none⟩ = some _ := blk_cell hA1 rfl
 obtain ⟨n1, hn1⟩ : ∃ n1, I.length = n1 := ⟨_, rfl⟩
 have Hn1 := Lib.hid hn1
 rw [hn1] at hl0 HN ⊢
 clear hN hX hN1 hA1 hE1 hsl hn1
 have hfin : ∀ (A : Option Addr) (n c : Nat) (w' : World) (d : List UInt8), encE x = d → d.length = n → NewB W w' (.slice A n c) d → Ext W w' → ∃ v, Ending.returned (.slice A n c) = .returned v ∧ NewB w w' v (encE x) ∧ Ext w w' :=
  fun A n c w' d h1 h2 h3 h4 => ⟨_, rfl, by rw [h1]; exact h3.up HE.out, HE.out.ext h4⟩
 have Hfin := Lib.hid hfin
 clear hfin
 by_cases k1 : x.kind = 1
 ·
  have d1 : (x.kind == 1) = true := by simp [k1]
  have hd : encE x = I ++ encC x.call := by rw [Hen.out, if_pos k1]
  have Hd := Lib.hid hd
  clear k1 hd
  obtain ⟨-, -, b2, b3, b4, b5, b6, b7, b8, b9, b10, b11⟩ := cq12 HA1.out
  obtain ⟨p, hp⟩ : ∃ p, w1.heap.size = p := ⟨_, rfl⟩
  obtain ⟨W2, hW2⟩ : ∃ W2, W2 = w1.alloc (.cells #[.int .i64 x.call.client, .int .i64 x.call.seq, .int .i64 x.call.cmd.kind, .string x.call.cmd.key, .int .i64 x.call.cmd.old.kind, .float .f64 x.call.cmd.old.num, .string x.call.cmd.old.text, .int .i64 x.call.cmd.val.kind, .float .f64 x.call.cmd.val.num, .string x.call.cmd.val.text] 42) := ⟨_, rfl⟩
  have hE2 : Ext w1 W2 := by rw [hW2]; exact (Mod.refl _ _).alloc _
  have hB2 : W2.heap[p]? = some (.cells #[.int .i64 x.call.client, .int .i64 x.call.seq, .int .i64 x.call.cmd.kind, .string x.call.cmd.key, .int .i64 x.call.cmd.old.kind, .float .f64 x.call.cmd.old.num, .string x.call.cmd.old.text, .int .i64 x.call.cmd.val.kind, .float .f64 x.call.cmd.val.num, .string x.call.cmd.val.text] 42 (0, 0)) := by rw [hW2, ← hp]; exact heap_alloc_new w1 _
  have hsz2 : W2.heap.size = p + 1 := by rw [hW2, ← hp]; simp
  have HW2 := Lib.hid hW2
  have Hp := Lib.hid hp
  have Hsz2 := Lib.hid hsz2
  have Hnp : Hid (∀ g, (Value.slice A1 n1 c1).ownBlock = some g → g ≠ p) := Lib.hid (fun g hg e => by have := (HN.out.1.lt g hg).2; omega)
  replace HN := Lib.hid (HN.out.ext hE2)
  replace HX := Lib.hid (HX.out.ext hE2)
  have HB := Lib.hid hB2
  have Hr3 : Hid (∀ n ∈ [x.call.client, x.call.seq, x.call.cmd.kind], I64 n) := Lib.hid (by have h := Hxc.out; simp; exact ⟨h.1, h.2.1, h.2.2.1⟩)
  clear hW2 hp hE2 hB2 hsz2
  go_wp2_with fail
  rw [← HW2.out, Hp.out]
  have hE1 : Ext W2 (W2.alloc (.cells #[.int .i64 x.call.client, .int .i64 x.call.seq, .int .i64 x.call.cmd.kind] 3)) := (Mod.refl _ W2).alloc _
  have hsl := sl_lits W2 [x.call.client, x.call.seq, x.call.cmd.kind] 3 #[.int .i64 x.call.client, .int .i64 x.call.seq, .int .i64 x.call.cmd.kind] rfl 3 rfl (by omega)
  rw [Hsz2.out] at hsl
  refine (r2_ints _ _ _ [x.call.client, x.call.seq, x.call.cmd.kind] hsl Hr3.out (by simp)).mono ?_
  rintro e w3 ⟨v3, rfl, hN3, hX3⟩
  have hE3 := hE1.ext hX3
  replace HN := Lib.hid (HN.out.ext hE3)
  replace HX := Lib.hid (HX.out.ext hE3)
  replace HB := Lib.hid (hE3.blk HB.out id)
  have hb3 := hN3.sl
  have Hlt3 : Hid (p < w3.heap.size) := Lib.hid (Array.getElem?_eq_some_iff.1 HB.out).1
  have hl3 := encInts_le [x.call.client, x.call.seq, x.call.cmd.kind]
  simp only [List.length_cons, List.length_nil] at hl3
  have hln1 := Hn1.out
  clear a1 b2 b3 b4 b5 b6 b7 b8 b9 b10 b11 hE1 hsl hE3 hX3 hN3
  go_wp2_with (at_builtin; refine wpList_appB rfl _ _ rfl (.slice A1 n1 c1) I W rfl HN.out HX.out _ _ (encInts [x.call.client, x.call.seq, x.call.cmd.kind]) rfl hb3 (by omega) ?_)
  intro A4 n4 c4 w4 hn4 hN4 hX4 hm4 hf4
  have hlt4 : n4 ≤ 60 := by omega
  replace HB := Lib.hid (hm4.blk HB.out (fun e => Hnp.out _ e rfl))
  have Hnp4 : Hid (∀ g, (Value.slice A4 n4 c4).ownBlock = some g → g ≠ p) := Lib.hid (fun g hg e => by
   subst e
   rcases hf4 g hg with h | h
   ·
    exact Hnp.out g h rfl
   ·
    have := (Array.getElem?_eq_some_iff.1 HB.out).1; have := Hlt3.out; omega)
  replace HN := Lib.hid hN4
  replace HX := Lib.hid hX4
  have Hn4 : Hid ((I ++ encInts [x.call.client, x.call.seq, x.call.cmd.kind]).length = n4) := Lib.hid (by rw [List.length_append, hln1]; exact hn4.symm)
  obtain ⟨D4, hD4⟩ : ∃ D4, I ++ encInts [x.call.client, x.call.seq, x.call.cmd.kind] = D4 := ⟨_, rfl⟩
  rw [hD4] at HN Hn4
  have HD4 := Lib.hid hD4
  clear hb3 hN4 hX4 hm4 hn4 hln1 hf4 hD4 Hlt3 hl3
  obtain ⟨-, -, -, b3, b4, b5, b6, b7, b8, b9⟩ := cq10 HB.out
  have hks := Hs.out.1
  have hbe := bw_ext w4 5 x.call.cmd.key
  have hbb := bw_byt w4 5 x.call.cmd.key (by have h := Hxc.out; exact h.2.2.2.1)
  have hkl : (bsOf x.call.cmd.key).length = x.call.cmd.key.size := rfl
  go_wp2_with fail
  refine (r2_text _ _ _ (bsOf x.call.cmd.key) hbb (by omega)).mono ?_
  rintro e w5 ⟨v5, rfl, hN5, hX5⟩
  have hE5 := hbe.ext hX5
  have hlt := encText_len' (bsOf x.call.cmd.key)
  replace HN := Lib.hid (HN.out.ext hE5)
  replace HX := Lib.hid (HX.out.ext hE5)
  replace HB := Lib.hid (hE5.blk HB.out id)
  have hb5 := hN5.sl
  have Hlt5 : Hid (p < w5.heap.size) := Lib.hid (Array.getElem?_eq_some_iff.1 HB.out).1
  have hln4 := Hn4.out
  clear b3 b4 b5 b6 b7 b8 b9 hbe hbb hE5 hX5 hN5
  go_wp2_with (at_builtin; refine wpList_appB rfl _ _ rfl (.slice A4 n4 c4) D4 W rfl HN.out HX.out _ _ (encText (bsOf x.call.cmd.key)) rfl hb5 (by omega) ?_)
  intro A6 n6 c6 w6 hn6 hN6 hX6 hm6 hf6
  have hlt6 : n6 ≤ 41000 := by omega
  replace HB := Lib.hid (hm6.blk HB.out (fun e => Hnp4.out _ e rfl))
  have Hnp6 : Hid (∀ g, (Value.slice A6 n6 c6).ownBlock = some g → g ≠ p) := Lib.hid (fun g hg e => by
   subst e
   rcases hf6 g hg with h | h
   ·
    exact Hnp4.out g h rfl
   ·
    have := Hlt5.out; omega)
  replace HN := Lib.hid hN6
  replace HX := Lib.hid hX6
  have Hn6 : Hid ((D4 ++ encText (bsOf x.call.cmd.key)).length = n6) := Lib.hid (by rw [List.length_append, hln4]; exact hn6.symm)
  obtain ⟨D6, hD6⟩ : ∃ D6, D4 ++ encText (bsOf x.call.cmd.key) = D6 := ⟨_, rfl⟩
  rw [hD6] at HN Hn6
  have HD6 := Lib.hid hD6
  clear hb5 hN6 hX6 hm6 hn6 hln4 hf6 hD6 Hlt5 hks hkl hlt hlt4
  have b4 : w6.cell? ⟨p, 4, none⟩ = some _ := blk_cell HB.out rfl
  have b5 : w6.cell? ⟨p, 5, none⟩ = some _ := blk_cell HB.out rfl
  have b6 : w6.cell? ⟨p, 6, none⟩ = some _ := blk_cell HB.out rfl
  have b7 : w6.cell? ⟨p, 7, none⟩ = some _ := blk_cell HB.out rfl
  have b8 : w6.cell? ⟨p, 8, none⟩ = some _ := blk_cell HB.out rfl
  have b9 : w6.cell? ⟨p, 9, none⟩ = some _ := blk_cell HB.out rfl
  have nb := Hnp6.out p
  have Hnb : Hid (¬ (Value.slice A6 n6 c6).ownBlock = some p) := Lib.hid (fun e => nb e rfl)
  clear nb
  go_wp2_with fail
  refine wp_region_held_drew (S := (fun W' : World => Mod (fun k_ => (Value.slice A6 n6 c6).ownBlock = some k_) w6 W')) (by kernel_rfl) (Mod.refl _ w6).drew (fun hS => ?_)
  obtain ⟨e0, he0⟩ : ∃ e0, e0 = w6.drew := ⟨_, rfl⟩
  have hNe : NewB W e0 (.slice A6 n6 c6) D6 := by rw [he0]; exact ⟨own_mod HN.out.1 (Mod.refl (fun _ => False) _).drew (fun _ _ => id), HN.out.2⟩
  have hXe : Ext W e0 := by rw [he0]; exact HX.out.drew
  rw [← he0] at hS ⊢
  clear he0
  refine tkH 0 (some 35) rfl rfl ?_ hS ?_ ?_
  rotate_left
  ·
   rintro W' hm'
   have hnb := Hnb.out
   have q4 := hm'.cell b4 hnb
   have q5 := hm'.cell b5 hnb
   have q6 := hm'.cell b6 hnb
   have q7 := hm'.cell b7 hnb
   have q8 := hm'.cell b8 hnb
   have q9 := hm'.cell b9 hnb
   go_simp
   try with_reducible rfl
  try simp only [pL]
  refine tkH 1 (some 36) rfl rfl ?_ hS ?_ ?_
  rotate_left
  ·
   rintro W' hm'
   have hnb := Hnb.out
   have q4 := hm'.cell b4 hnb
   have q5 := hm'.cell b5 hnb
   have q6 := hm'.cell b6 hnb
   have q7 := hm'.cell b7 hnb
   have q8 := hm'.cell b8 hnb
   have q9 := hm'.cell b9 hnb
   go_simp
   try with_reducible rfl
  try simp only [pL]
  refine tkH 2 (some 37) rfl rfl ?_ hS ?_ ?_
  rotate_left
  ·
   rintro W' hm'
   have hnb := Hnb.out
   have q4 := hm'.cell b4 hnb
   have q5 := hm'.cell b5 hnb
   have q6 := hm'.cell b6 hnb
   have q7 := hm'.cell b7 hnb
   have q8 := hm'.cell b8 hnb
   have q9 := hm'.cell b9 hnb
   go_simp
   try with_reducible rfl
  try simp only [pL]
  refine tkH 3 (some 38) rfl rfl ?_ hS ?_ ?_
  rotate_left
  ·
   rintro W' hm'
   have hnb := Hnb.out
   have q4 := hm'.cell b4 hnb
   have q5 := hm'.cell b5 hnb
   have q6 := hm'.cell b6 hnb
   have q7 := hm'.cell b7 hnb
   have q8 := hm'.cell b8 hnb
   have q9 := hm'.cell b9 hnb
   go_simp
   try with_reducible rfl
  try simp only [pL]
  refine tkH 6 (some 41) rfl rfl ?_ hS ?_ ?_
  rotate_left
  ·
   rintro W' hm'
   have hnb := Hnb.out
   have q4 := hm'.cell b4 hnb
   have q5 := hm'.cell b5 hnb
   have q6 := hm'.cell b6 hnb
   have q7 := hm'.cell b7 hnb
   have q8 := hm'.cell b8 hnb
   have q9 := hm'.cell b9 hnb
   go_simp
   try with_reducible rfl
  try simp only [pL]
  refine tkH 7 (some 42) rfl rfl ?_ hS ?_ ?_
  rotate_left
  ·
   rintro W' hm'
   have hnb := Hnb.out
   have q4 := hm'.cell b4 hnb
   have q5 := hm'.cell b5 hnb
   have q6 := hm'.cell b6 hnb
   have q7 := hm'.cell b7 hnb
   have q8 := hm'.cell b8 hnb
   have q9 := hm'.cell b9 hnb
   go_simp
   try with_reducible rfl
  try simp only [pL]
  refine tkH 8 (some 43) rfl rfl ?_ hS ?_ ?_
  rotate_left
  ·
   rintro W' hm'
   have hnb := Hnb.out
   have q4 := hm'.cell b4 hnb
   have q5 := hm'.cell b5 hnb
   have q6 := hm'.cell b6 hnb
   have q7 := hm'.cell b7 hnb
   have q8 := hm'.cell b8 hnb
   have q9 := hm'.cell b9 hnb
   go_simp
   try with_reducible rfl
  try simp only [pL]
  refine wpAnyH_ready (rs := [4]) (by kernel_rfl) (by simp) ?_
  refine AllReadyH.cons rfl (fun K hK => ?_) AllReadyH.nil
  go_simp
  go_wp2_with fail
  refine (r5_value _ x.call.cmd.old (by have h := Hxc.out; exact h.2.2.2.2.1) (by have := Hs.out.2.1; omega)).mono ?_
  rintro e w7 ⟨v7, rfl, hN7, hE7⟩
  have hX := Mod.ext hS hE7
  clear hS
  go_simp
  refine hK.out _ _ hX (fun hS => ?_)
  clear hK K hX
  try simp only [pL]
  refine wpAnyH_ready (rs := [5]) (by kernel_rfl) (by simp) ?_
  refine AllReadyH.cons rfl (fun K hK => ?_) AllReadyH.nil
  have hlv := encV_len x.call.cmd.old
  have hvs := Hs.out.2.1
  have hln6 := Hn6.out
  refine step_appB rfl _ _ rfl (.slice A6 n6 c6) D6 W rfl (hNe.ext hE7) (hXe.ext hE7) _ _ (encV x.call.cmd.old) rfl hN7.sl (by omega) ?_
  intro A8 n8 c8 w8 hn8 hN8 hX8 hm8 hf8
  have hlt8 : n8 ≤ 90000 := by rw [hn8, List.length_append]; omega
  have hX := hS.self hm8
  have HN8 := Lib.hid hN8
  have HX8 := Lib.hid hX8
  have Hn8 := Lib.hid hn8
  have hfar : ∀ g, (Value.slice A8 n8 c8).ownBlock = some g → (Value.slice A6 n6 c6).ownBlock = some g ∨ w6.heap.size ≤ g := fun g hg => by
   rcases hf8 g hg with h | h
   ·
    exact .inl h
   ·
    exact .inr (by have := hS.size; omega)
  clear hN8 hX8 hn8 hm8 hS hN7 hE7 hNe hXe hf8
  refine hK.out _ _ hX (fun hS => ?_)
  clear hK K hX
  try simp only [pL]
  refine wpAnyH_ready (rs := [9]) (by kernel_rfl) (by simp) ?_
  refine AllReadyH.cons rfl (fun K hK => ?_) AllReadyH.nil
  go_simp
  go_wp2_with fail
  refine (r5_value _ x.call.cmd.val (by have h := Hxc.out; exact h.2.2.2.2.2) (by have := Hs.out.2.2; omega)).mono ?_
  rintro e w9 ⟨v9, rfl, hN9, hE9⟩
  have hX := Mod.ext hS hE9
  clear hS
  go_simp
  refine hK.out _ _ hX (fun hS => ?_)
  clear hK K hX
  try simp only [pL]
  refine wpAnyH_ready (rs := [10]) (by kernel_rfl) (by simp) ?_
  refine AllReadyH.cons rfl (fun K hK => ?_) AllReadyH.nil
  have hlv := encV_len x.call.cmd.val
  have hvs := Hs.out.2.2
  have hln8 : (D6 ++ encV x.call.cmd.old).length = n8 := Hn8.out.symm
  refine step_appB rfl _ _ rfl (.slice A8 n8 c8) (D6 ++ encV x.call.cmd.old) W rfl (HN8.out.ext hE9) (HX8.out.ext hE9) _ _ (encV x.call.cmd.val) rfl hN9.sl (by omega) ?_
  intro A10 n10 c10 w10 hn10 hN10 hX10 hm10 hf10
  have HN10 := Lib.hid hN10
  have HX10 := Lib.hid hX10
  have Hn10 := Lib.hid hn10
  have hX : (fun W' : World => Mod (fun k_ => (Value.slice A6 n6 c6).ownBlock = some k_) w6 W') w10 := hS.trans hm10 (fun i hi e => by
   rcases hfar i e with h | h
   ·
    exact h
   ·
    omega)
  clear hN10 hX10 hn10 hm10 hS hN9 hE9 hf10 hfar
  refine hK.out _ _ hX (fun hS => ?_)
  clear hK K hX
  try simp only [pL]
  refine tkH 11 (some 3) rfl rfl ?_ hS ?_ ?_
  rotate_left
  ·
   rintro W' hm'
   skip
   go_simp
   try with_reducible rfl
  try simp only [pL]
  refine wpAnyH_done (by kernel_rfl) ?_ _
  clear hS b4 b5 b6 b7 b8 b9
  go_wp2
  go_ret
  exact Hfin.out _ _ _ _ _ (by rw [Hd.out, encC, ← HD6.out, ← HD4.out]; simp only [List.append_assoc]) Hn10.out.symm HN10.out HX10.out
 have d1 : (x.kind == 1) = false := by simpa using k1
 by_cases k2 : x.kind = 2
 ·
  have d2 : (x.kind == 2) = true := by simp [k2]
  have hd : encE x = I ++ encF x.conf := by rw [Hen.out, if_neg k1, if_pos k2]
  have Hd := Lib.hid hd
  clear k1 k2 hd
  have b12 : w1.cell? ⟨q, 12, none⟩ = some _ := blk_cell HA1.out rfl
  have b13 : w1.cell? ⟨q, 13, none⟩ = some _ := blk_cell HA1.out rfl
  have b14 : w1.cell? ⟨q, 14, none⟩ = some _ := blk_cell HA1.out rfl
  have b15 : w1.cell? ⟨q, 15, none⟩ = some _ := blk_cell HA1.out rfl
  go_wp2_with fail
  refine (p_conf x.conf Hxf.out w1).mono ?_
  rintro e w2 ⟨v2, rfl, hN2, hX2⟩
  replace HN := Lib.hid (HN.out.ext hX2)
  replace HX := Lib.hid (HX.out.ext hX2)
  have hb2 := hN2.sl
  have hl2 : (encF x.conf).length ≤ 40 := encInts_le _
  have hln1 := Hn1.out
  clear hN2 hX2
  go_wp2_with (at_builtin; refine wpList_appB rfl _ _ rfl (.slice A1 n1 c1) I W rfl HN.out HX.out _ _ (encF x.conf) rfl hb2 (by omega) ?_)
  intro A4 n4 c4 w4 hn4 hN4 hX4 _ _
  have HN4 := Lib.hid hN4
  have HX4 := Lib.hid hX4
  have Hn4 := Lib.hid hn4
  clear hN4 hX4 hn4 hb2
  go_wp2
  go_ret
  exact Hfin.out _ _ _ _ _ Hd.out (by rw [List.length_append, Hn1.out]; exact Hn4.out.symm) HN4.out HX4.out
 ·
  have d2 : (x.kind == 2) = false := by simpa using k2
  have hd : encE x = I := by rw [Hen.out, if_neg k1, if_neg k2, List.append_nil]
  have Hd := Lib.hid hd
  clear k1 k2 hd
  go_wp2
  go_ret
  exact Hfin.out _ _ _ _ _ Hd.out Hn1.out HN.out HX.out
end Go.Proofs.Ytfkacakbengboaa
