/-
 Contracts of the page's writing functions (layer 10): conf, bytes, sized, Entry. Conditions: as each theorem names them.
 What the calls of the page's reader (skerryref02.Reader) do: contracts. Conditions: as each theorem names them.
-/
import Derived.Test.YtjhnlncgmejkcaaGreatS5
import Derived.Test.YtjhnlncgmejkcaaGreatS6
import Derived.Test.YtjhnlncgmejkcaaGreatS13
import Derived.Test.YtjhnlncgmejkcaaGreatPackR
namespace Go.Proofs.YtjhnlncgmejkcaaGreat
set_option linter.unusedSimpArgs false
open Go.RowKit
attribute [local go_sem high] conv_sb

/-- The texts of an entry are no longer than played. -/
def AEntry.small (x : AEntry) : Prop := x.call.cmd.key.size ≤ 40000 ∧ x.call.cmd.old.text.size ≤ 40000 ∧ x.call.cmd.val.text.size ≤ 40000
theorem encInts_le (l : List Int) : (encInts l).length ≤ 10 * l.length := ints_len l

set_option maxRecDepth 100000 in
set_option maxHeartbeats 1000000 in
theorem p_conf (c : AConf) (hc : c.ok) (w : World) : Calls Tryz.prog 89 #[.agg #[.int .i64 c.full, .int .i64 c.wit, .int .i64 c.learn, .int .i64 c.learnWit]] w fun e w' => ∃ v, e = .returned v ∧ NewB w w' v (encF c) ∧ Ext w w' := by
 obtain ⟨hc1, hc2, hc3, hc4⟩ := hc
 obtain ⟨W, hW⟩ : ∃ W, W = w.alloc (.cells #[.int .i64 c.full, .int .i64 c.wit, .int .i64 c.learn, .int .i64 c.learnWit] 23) := ⟨_, rfl⟩
 have hE : Ext w W := by rw [hW]; exact (Mod.refl _ w).alloc _
 have hsz : W.heap.size = w.heap.size + 1 := by rw [hW]; simp
 have Hr : Hid (∀ n ∈ [c.full, c.wit, c.learn, c.learnWit], I64 n) := Lib.hid (by simp; exact ⟨hc1, hc2, hc3, hc4⟩)
 have HW := Lib.hid hW
 have Hsz := Lib.hid hsz
 have HE := Lib.hid hE
 clear hW hsz hE hc1 hc2 hc3 hc4
 go_enter Tryz.func89, Tryz.ntmps89
 go_wp2_with fail
 rw [← HW.out]
 have hE1 : Ext W (W.alloc (.cells #[.int .i64 c.full, .int .i64 c.wit, .int .i64 c.learn, .int .i64 c.learnWit] 3)) := (Mod.refl _ W).alloc _
 have hsl := sl_lits W [c.full, c.wit, c.learn, c.learnWit] 3 #[.int .i64 c.full, .int .i64 c.wit, .int .i64 c.learn, .int .i64 c.learnWit] rfl 4 rfl (by omega)
 rw [Hsz.out] at hsl
 refine (r2_ints _ _ _ [c.full, c.wit, c.learn, c.learnWit] hsl Hr.out (by simp)).mono ?_
 rintro e w1 ⟨v, rfl, hN, hX⟩
 have HN := Lib.hid (hN.up (HE.out.ext hE1))
 have HX := Lib.hid ((HE.out.ext hE1).ext hX)
 clear hN hX hE1 hsl
 go_wp2
 go_ret
 exact ⟨v, rfl, HN.out, HX.out⟩

set_option maxRecDepth 100000 in
set_option maxHeartbeats 1000000 in
theorem p_sized (A : Option Addr) (n c : Nat) (w : World) (_ : n ≤ 1000000000) : Calls Tryz.prog 48 #[.slice A n c] w fun e w' => w = w' ∧ ((16384 < n ∧ e = .returned (.tuple #[.slice none 0 0, .int .i64 2])) ∨ (n ≤ 16384 ∧ e = .returned (.tuple #[.slice A n c, .int .i64 0]))) := by
 by_cases h : 16384 < n
 ·
  have d : decide ((16384 : Int) < (n : Int)) = true := by simp; omega
  go_enter Tryz.func48, Tryz.ntmps48
  go_wp2
  go_ret2
  exact ⟨rfl, .inl ⟨h, rfl⟩⟩
 ·
  have d : decide ((16384 : Int) < (n : Int)) = false := by simp; omega
  have h' : n ≤ 16384 := by omega
  have Hh := Lib.hid h'
  clear h h'
  go_enter Tryz.func48, Tryz.ntmps48
  go_wp2
  go_ret2
  exact ⟨rfl, .inr ⟨Hh.out, rfl⟩⟩

set_option maxRecDepth 100000 in
set_option maxHeartbeats 4000000 in
theorem p_bytes (x : AEntry) (hx : x.ok) (hs : x.small) (w : World) : Calls Tryz.prog 49 #[.agg #[.int .i64 x.term, .int .i64 x.kind, .int .i64 x.call.client, .int .i64 x.call.seq, .int .i64 x.call.cmd.kind, .string x.call.cmd.key, .int .i64 x.call.cmd.old.kind, .float .f64 x.call.cmd.old.num, .string x.call.cmd.old.text, .int .i64 x.call.cmd.val.kind, .float .f64 x.call.cmd.val.num, .string x.call.cmd.val.text, .int .i64 x.conf.full, .int .i64 x.conf.wit, .int .i64 x.conf.learn, .int .i64 x.conf.learnWit]] w fun e w' => ∃ v, e = .returned v ∧ NewB w w' v (encE x) ∧ Ext w w' := by
 obtain ⟨hx1, hx2, hxc, hxf⟩ := hx
 obtain ⟨q, hq⟩ : ∃ q, w.heap.size = q := ⟨_, rfl⟩
 obtain ⟨W, hW⟩ : ∃ W, W = w.alloc (.cells #[.int .i64 x.term, .int .i64 x.kind, .int .i64 x.call.client, .int .i64 x.call.seq, .int .i64 x.call.cmd.kind, .string x.call.cmd.key, .int .i64 x.call.cmd.old.kind, .float .f64 x.call.cmd.old.num, .string x.call.cmd.old.text, .int .i64 x.call.cmd.val.kind, .float .f64 x.call.cmd.val.num, .string x.call.cmd.val.text, .int .i64 x.conf.full, .int .i64 x.conf.wit, .int .i64 x.conf.learn, .int .i64 x.conf.learnWit] 56) := ⟨_, rfl⟩
 have hE : Ext w W := by rw [hW]; exact (Mod.refl _ w).alloc _
 have hA : W.heap[q]? = some (.cells #[.int .i64 x.term, .int .i64 x.kind, .int .i64 x.call.client, .int .i64 x.call.seq, .int .i64 x.call.cmd.kind, .string x.call.cmd.key, .int .i64 x.call.cmd.old.kind, .float .f64 x.call.cmd.old.num, .string x.call.cmd.old.text, .int .i64 x.call.cmd.val.kind, .float .f64 x.call.cmd.val.num, .string x.call.cmd.val.text, .int .i64 x.conf.full, .int .i64 x.conf.wit, .int .i64 x.conf.learn, .int .i64 x.conf.learnWit] 56 (0, 0)) := by rw [hW, ← hq]; exact heap_alloc_new w _
 have hsz : W.heap.size = q + 1 := by rw [hW, ← hq]; simp
 have Hr : Hid (∀ n ∈ [x.term, x.kind], I64 n) := Lib.hid (by simp; exact ⟨hx1, hx2⟩)
 have Hxc := Lib.hid hxc
 have Hxf := Lib.hid hxf
 have Hs := Lib.hid hs
 have HW := Lib.hid hW
 have Hq := Lib.hid hq
 have HE := Lib.hid hE
 have HA := Lib.hid hA
 have Hsz := Lib.hid hsz
 clear hW hq hE hA hsz hx1 hx2 hxc hxf hs
 have Hen : Hid (encE x = encInts [x.term, x.kind] ++ (if x.kind = 1 then encC x.call else if x.kind = 2 then encF x.conf else [])) := Lib.hid rfl
 have hl0 := encInts_le [x.term, x.kind]
 obtain ⟨I, hI⟩ : ∃ I, encInts [x.term, x.kind] = I := ⟨_, rfl⟩
 rw [hI] at Hen hl0
 simp only [List.length_cons, List.length_nil] at hl0
 have HI := Lib.hid hI
 clear hI
 go_enter Tryz.func49, Tryz.ntmps49
 go_wp2_with fail
 rw [← HW.out, Hq.out]
 have hE1 : Ext W (W.alloc (.cells #[.int .i64 x.term, .int .i64 x.kind] 3)) := (Mod.refl _ W).alloc _
 have hsl := sl_lits W [x.term, x.kind] 3 #[.int .i64 x.term, .int .i64 x.kind] rfl 2 rfl (by omega)
 rw [Hsz.out] at hsl
 refine (r2_ints _ _ _ [x.term, x.kind] hsl Hr.out (by simp)).mono ?_
 rintro e w1 ⟨v1, rfl, hN, hX⟩
 have HX := Lib.hid (hE1.ext hX)
 have hN1 : NewB W w1 v1 (encInts [x.term, x.kind]) := hN.up hE1
 rw [HI.out] at hN1
 have HN := Lib.hid hN1
 obtain ⟨A1, c1, rfl⟩ := own_form hN1.1
 have hA1 := HX.out.blk HA.out id
 have HA1 := Lib.hid hA1
 have hq1 : q < w1.heap.size := (Array.getElem?_eq_some_iff.1 hA1).1
 have a1 : w1.cell? ⟨q, 1, none⟩ = some _ := blk_cell hA1 rfl
 obtain ⟨n1, hn1⟩ : ∃ n1, I.length = n1 := ⟨_, rfl⟩
 have Hn1 := Lib.hid hn1
 rw [hn1] at hl0 HN ⊢
 clear hN hX hN1 hA1 hE1 hsl hn1
 have hfin : ∀ (A : Option Addr) (n c : Nat) (w' : World) (d : List UInt8), encE x = d → d.length = n → NewB W w' (.slice A n c) d → Ext W w' → ∃ v, Ending.returned (.slice A n c) = .returned v ∧ NewB w w' v (encE x) ∧ Ext w w' :=
  fun A n c w' d h1 h2 h3 h4 => ⟨_, rfl, by rw [h1]; exact h3.up HE.out, HE.out.ext h4⟩
 have Hfin := Lib.hid hfin
 clear hfin
 by_cases k1 : x.kind = 1
 ·
  have d1 : (x.kind == 1) = true := by simp [k1]
  have hd : encE x = I ++ encC x.call := by rw [Hen.out, if_pos k1]
  have Hd := Lib.hid hd
  clear k1 hd
  obtain ⟨-, -, b2, b3, b4, b5, b6, b7, b8, b9, b10, b11⟩ := cq12 HA1.out
  obtain ⟨p, hp⟩ : ∃ p, w1.heap.size = p := ⟨_, rfl⟩
  obtain ⟨W2, hW2⟩ : ∃ W2, W2 = w1.alloc (.cells #[.int .i64 x.call.client, .int .i64 x.call.seq, .int .i64 x.call.cmd.kind, .string x.call.cmd.key, .int .i64 x.call.cmd.old.kind, .float .f64 x.call.cmd.old.num, .string x.call.cmd.old.text, .int .i64 x.call.cmd.val.kind, .float .f64 x.call.cmd.val.num, .string x.call.cmd.val.text] 54) := ⟨_, rfl⟩
  have hE2 : Ext w1 W2 := by rw [hW2]; exact (Mod.refl _ _).alloc _
  have hB2 : W2.heap[p]? = some (.cells #[.int .i64 x.call.client, .int .i64 x.call.seq, .int .i64 x.call.cmd.kind, .string x.call.cmd.key, .int .i64 x.call.cmd.old.kind, .float .f64 x.call.cmd.old.num, .string x.call.cmd.old.text, .int .i64 x.call.cmd.val.kind, .float .f64 x.call.cmd.val.num, .string x.call.cmd.val.text] 54 (0, 0)) := by rw [hW2, ← hp]; exact heap_alloc_new w1 _
  have hsz2 : W2.heap.size = p + 1 := by rw [hW2, ← hp]; simp
  have HW2 := Lib.hid hW2
  have Hp := Lib.hid hp
  have Hsz2 := Lib.hid hsz2
  have Hnp : Hid (∀ g, (Value.slice A1 n1 c1).ownBlock = some g → g ≠ p) := Lib.hid (fun g hg e => by have := (HN.out.1.lt g hg).2; omega)
  replace HN := Lib.hid (HN.out.ext hE2)
  replace HX := Lib.hid (HX.out.ext hE2)
  have HB := Lib.hid hB2
  have Hr3 : Hid (∀ n ∈ [x.call.client, x.call.seq, x.call.cmd.kind], I64 n) := Lib.hid (by have h := Hxc.out; simp; exact ⟨h.1, h.2.1, h.2.2.1⟩)
  clear hW2 hp hE2 hB2 hsz2
  go_wp2_with fail
  rw [← HW2.out, Hp.out]
  have hE1 : Ext W2 (W2.alloc (.cells #[.int .i64 x.call.client, .int .i64 x.call.seq, .int .i64 x.call.cmd.kind] 3)) := (Mod.refl _ W2).alloc _
  have hsl := sl_lits W2 [x.call.client, x.call.seq, x.call.cmd.kind] 3 #[.int .i64 x.call.client, .int .i64 x.call.seq, .int .i64 x.call.cmd.kind] rfl 3 rfl (by omega)
  rw [Hsz2.out] at hsl
  refine (r2_ints _ _ _ [x.call.client, x.call.seq, x.call.cmd.kind] hsl Hr3.out (by simp)).mono ?_
  rintro e w3 ⟨v3, rfl, hN3, hX3⟩
  have hE3 := hE1.ext hX3
  replace HN := Lib.hid (HN.out.ext hE3)
  replace HX := Lib.hid (HX.out.ext hE3)
  replace HB := Lib.hid (hE3.blk HB.out id)
  have hb3 := hN3.sl
  have Hlt3 : Hid (p < w3.heap.size) := Lib.hid (Array.getElem?_eq_some_iff.1 HB.out).1
  have hl3 := encInts_le [x.call.client, x.call.seq, x.call.cmd.kind]
  simp only [List.length_cons, List.length_nil] at hl3
  have hln1 := Hn1.out
  clear a1 b2 b3 b4 b5 b6 b7 b8 b9 b10 b11 hE1 hsl hE3 hX3 hN3
  go_wp2_with (at_builtin; refine wpList_appB rfl _ _ rfl (.slice A1 n1 c1) I W rfl HN.out HX.out _ _ (encInts [x.call.client, x.call.seq, x.call.cmd.kind]) rfl hb3 (by omega) ?_)
  intro A4 n4 c4 w4 hn4 hN4 hX4 hm4 hf4
  have hlt4 : n4 ≤ 60 := by omega
  replace HB := Lib.hid (hm4.blk HB.out (fun e => Hnp.out _ e rfl))
  have Hnp4 : Hid (∀ g, (Value.slice A4 n4 c4).ownBlock = some g → g ≠ p) := Lib.hid (fun g hg e => by
   subst e
   rcases hf4 g hg with h | h
   ·
    exact Hnp.out g h rfl
   ·
    have := (Array.getElem?_eq_some_iff.1 HB.out).1; have := Hlt3.out; omega)
  replace HN := Lib.hid hN4
  replace HX := Lib.hid hX4
  have Hn4 : Hid ((I ++ encInts [x.call.client, x.call.seq, x.call.cmd.kind]).length = n4) := Lib.hid (by rw [List.length_append, hln1]; exact hn4.symm)
  obtain ⟨D4, hD4⟩ : ∃ D4, I ++ encInts [x.call.client, x.call.seq, x.call.cmd.kind] = D4 := ⟨_, rfl⟩
  rw [hD4] at HN Hn4
  have HD4 := Lib.hid hD4
  clear hb3 hN4 hX4 hm4 hn4 hln1 hf4 hD4 Hlt3 hl3
  obtain ⟨-, -, -, b3, b4, b5, b6, b7, b8, b9⟩ := cq10 HB.out
  have hks := Hs.out.1
  have hbe := bw_ext w4 5 x.call.cmd.key
  have hbb := bw_byt w4 5 x.call.cmd.key (by have h := Hxc.out; exact h.2.2.2.1)
  have hkl : (bsOf x.call.cmd.key).length = x.call.cmd.key.size := rfl
  go_wp2_with fail
  refine (r2_text _ _ _ (bsOf x.call.cmd.key) hbb (by omega)).mono ?_
  rintro e w5 ⟨v5, rfl, hN5, hX5⟩
  have hE5 := hbe.ext hX5
  have hlt := encText_len' (bsOf x.call.cmd.key)
  replace HN := Lib.hid (HN.out.ext hE5)
  replace HX := Lib.hid (HX.out.ext hE5)
  replace HB := Lib.hid (hE5.blk HB.out id)
  have hb5 := hN5.sl
  have Hlt5 : Hid (p < w5.heap.size) := Lib.hid (Array.getElem?_eq_some_iff.1 HB.out).1
  have hln4 := Hn4.out
  clear b3 b4 b5 b6 b7 b8 b9 hbe hbb hE5 hX5 hN5
  go_wp2_with (at_builtin; refine wpList_appB rfl _ _ rfl (.slice A4 n4 c4) D4 W rfl HN.out HX.out _ _ (encText (bsOf x.call.cmd.key)) rfl hb5 (by omega) ?_)
  intro A6 n6 c6 w6 hn6 hN6 hX6 hm6 hf6
  have hlt6 : n6 ≤ 41000 := by omega
  replace HB := Lib.hid (hm6.blk HB.out (fun e => Hnp4.out _ e rfl))
  have Hnp6 : Hid (∀ g, (Value.slice A6 n6 c6).ownBlock = some g → g ≠ p) := Lib.hid (fun g hg e => by
   subst e
   rcases hf6 g hg with h | h
   ·
    exact Hnp4.out g h rfl
   ·
    have := Hlt5.out; omega)
  replace HN := Lib.hid hN6
  replace HX := Lib.hid hX6
  have Hn6 : Hid ((D4 ++ encText (bsOf x.call.cmd.key)).length = n6) := Lib.hid (by rw [List.length_append, hln4]; exact hn6.symm)
  obtain ⟨D6, hD6⟩ : ∃ D6, D4 ++ encText (bsOf x.call.cmd.key) = D6 := ⟨_, rfl⟩
  rw [hD6] at HN Hn6
  have HD6 := Lib.hid hD6
  clear hb5 hN6 hX6 hm6 hn6 hln4 hf6 hD6 Hlt5 hks hkl hlt hlt4
  have b4 : w6.cell? ⟨p, 4, none⟩ = some _ := blk_cell HB.out rfl
  have b5 : w6.cell? ⟨p, 5, none⟩ = some _ := blk_cell HB.out rfl
  have b6 : w6.cell? ⟨p, 6, none⟩ = some _ := blk_cell HB.out rfl
  have b7 : w6.cell? ⟨p, 7, none⟩ = some _ := blk_cell HB.out rfl
  have b8 : w6.cell? ⟨p, 8, none⟩ = some _ := blk_cell HB.out rfl
  have b9 : w6.cell? ⟨p, 9, none⟩ = some _ := blk_cell HB.out rfl
  have nb := Hnp6.out p
  have Hnb : Hid (¬ (Value.slice A6 n6 c6).ownBlock = some p) := Lib.hid (fun e => nb e rfl)
  clear nb
  go_wp2_with fail
  refine wp_region_held_drew (S := (fun W' : World => Mod (fun k_ => (Value.slice A6 n6 c6).ownBlock = some k_) w6 W')) (by kernel_rfl) (Mod.refl _ w6).drew (fun hS => ?_)
  obtain ⟨e0, he0⟩ : ∃ e0, e0 = w6.drew := ⟨_, rfl⟩
  have hNe : NewB W e0 (.slice A6 n6 c6) D6 := by rw [he0]; exact ⟨own_mod HN.out.1 (Mod.refl (fun _ => False) _).drew (fun _ _ => id), HN.out.2⟩
  have hXe : Ext W e0 := by rw [he0]; exact HX.out.drew
  rw [← he0] at hS ⊢
  clear he0
  refine tkH 0 (some 35) rfl rfl ?_ hS ?_ ?_
  rotate_left
  ·
   rintro W' hm'
   have hnb := Hnb.out
   have q4 := hm'.cell b4 hnb
   have q5 := hm'.cell b5 hnb
   have q6 := hm'.cell b6 hnb
   have q7 := hm'.cell b7 hnb
   have q8 := hm'.cell b8 hnb
   have q9 := hm'.cell b9 hnb
   go_simp
   try with_reducible rfl
  try simp only [pL]
  refine tkH 1 (some 36) rfl rfl ?_ hS ?_ ?_
  rotate_left
  ·
   rintro W' hm'
   have hnb := Hnb.out
   have q4 := hm'.cell b4 hnb
   have q5 := hm'.cell b5 hnb
   have q6 := hm'.cell b6 hnb
   have q7 := hm'.cell b7 hnb
   have q8 := hm'.cell b8 hnb
   have q9 := hm'.cell b9 hnb
   go_simp
   try with_reducible rfl
  try simp only [pL]
  refine tkH 2 (some 37) rfl rfl ?_ hS ?_ ?_
  rotate_left
  ·
   rintro W' hm'
   have hnb := Hnb.out
   have q4 := hm'.cell b4 hnb
   have q5 := hm'.cell b5 hnb
   have q6 := hm'.cell b6 hnb
   have q7 := hm'.cell b7 hnb
   have q8 := hm'.cell b8 hnb
   have q9 := hm'.cell b9 hnb
   go_simp
   try with_reducible rfl
  try simp only [pL]
  refine tkH 3 (some 38) rfl rfl ?_ hS ?_ ?_
  rotate_left
  ·
   rintro W' hm'
   have hnb := Hnb.out
   have q4 := hm'.cell b4 hnb
   have q5 := hm'.cell b5 hnb
   have q6 := hm'.cell b6 hnb
   have q7 := hm'.cell b7 hnb
   have q8 := hm'.cell b8 hnb
   have q9 := hm'.cell b9 hnb
   go_simp
   try with_reducible rfl
  try simp only [pL]
  refine tkH 6 (some 41) rfl rfl ?_ hS ?_ ?_
  rotate_left
  ·
   rintro W' hm'
   have hnb := Hnb.out
   have q4 := hm'.cell b4 hnb
   have q5 := hm'.cell b5 hnb
   have q6 := hm'.cell b6 hnb
   have q7 := hm'.cell b7 hnb
   have q8 := hm'.cell b8 hnb
   have q9 := hm'.cell b9 hnb
   go_simp
   try with_reducible rfl
  try simp only [pL]
  refine tkH 7 (some 42) rfl rfl ?_ hS ?_ ?_
  rotate_left
  ·
   rintro W' hm'
   have hnb := Hnb.out
   have q4 := hm'.cell b4 hnb
   have q5 := hm'.cell b5 hnb
   have q6 := hm'.cell b6 hnb
   have q7 := hm'.cell b7 hnb
   have q8 := hm'.cell b8 hnb
   have q9 := hm'.cell b9 hnb
   go_simp
   try with_reducible rfl
  try simp only [pL]
  refine tkH 8 (some 43) rfl rfl ?_ hS ?_ ?_
  rotate_left
  ·
   rintro W' hm'
   have hnb := Hnb.out
   have q4 := hm'.cell b4 hnb
   have q5 := hm'.cell b5 hnb
   have q6 := hm'.cell b6 hnb
   have q7 := hm'.cell b7 hnb
   have q8 := hm'.cell b8 hnb
   have q9 := hm'.cell b9 hnb
   go_simp
   try with_reducible rfl
  try simp only [pL]
  refine wpAnyH_ready (rs := [4]) (by kernel_rfl) (by simp) ?_
  refine AllReadyH.cons rfl (fun K hK => ?_) AllReadyH.nil
  go_simp
  go_wp2_with fail
  refine (r5_value _ x.call.cmd.old (by have h := Hxc.out; exact h.2.2.2.2.1) (by have := Hs.out.2.1; omega)).mono ?_
  rintro e w7 ⟨v7, rfl, hN7, hE7⟩
  have hX := Mod.ext hS hE7
  clear hS
  go_simp
  refine hK.out _ _ hX (fun hS => ?_)
  clear hK K hX
  try simp only [pL]
  refine wpAnyH_ready (rs := [5]) (by kernel_rfl) (by simp) ?_
  refine AllReadyH.cons rfl (fun K hK => ?_) AllReadyH.nil
  have hlv := encV_len x.call.cmd.old
  have hvs := Hs.out.2.1
  have hln6 := Hn6.out
  refine step_appB rfl _ _ rfl (.slice A6 n6 c6) D6 W rfl (hNe.ext hE7) (hXe.ext hE7) _ _ (encV x.call.cmd.old) rfl hN7.sl (by omega) ?_
  intro A8 n8 c8 w8 hn8 hN8 hX8 hm8 hf8
  have hlt8 : n8 ≤ 90000 := by rw [hn8, List.length_append]; omega
  have hX := hS.self hm8
  have HN8 := Lib.hid hN8
  have HX8 := Lib.hid hX8
  have Hn8 := Lib.hid hn8
  have hfar : ∀ g, (Value.slice A8 n8 c8).ownBlock = some g → (Value.slice A6 n6 c6).ownBlock = some g ∨ w6.heap.size ≤ g := fun g hg => by
   rcases hf8 g hg with h | h
   ·
    exact .inl h
   ·
    exact .inr (by have := hS.size; omega)
  clear hN8 hX8 hn8 hm8 hS hN7 hE7 hNe hXe hf8
  refine hK.out _ _ hX (fun hS => ?_)
  clear hK K hX
  try simp only [pL]
  refine wpAnyH_ready (rs := [9]) (by kernel_rfl) (by simp) ?_
  refine AllReadyH.cons rfl (fun K hK => ?_) AllReadyH.nil
  go_simp
  go_wp2_with fail
  refine (r5_value _ x.call.cmd.val (by have h := Hxc.out; exact h.2.2.2.2.2) (by have := Hs.out.2.2; omega)).mono ?_
  rintro e w9 ⟨v9, rfl, hN9, hE9⟩
  have hX := Mod.ext hS hE9
  clear hS
  go_simp
  refine hK.out _ _ hX (fun hS => ?_)
  clear hK K hX
  try simp only [pL]
  refine wpAnyH_ready (rs := [10]) (by kernel_rfl) (by simp) ?_
  refine AllReadyH.cons rfl (fun K hK => ?_) AllReadyH.nil
  have hlv := encV_len x.call.cmd.val
  have hvs := Hs.out.2.2
  have hln8 : (D6 ++ encV x.call.cmd.old).length = n8 := Hn8.out.symm
  refine step_appB rfl _ _ rfl (.slice A8 n8 c8) (D6 ++ encV x.call.cmd.old) W rfl (HN8.out.ext hE9) (HX8.out.ext hE9) _ _ (encV x.call.cmd.val) rfl hN9.sl (by omega) ?_
  intro A10 n10 c10 w10 hn10 hN10 hX10 hm10 hf10
  have HN10 := Lib.hid hN10
  have HX10 := Lib.hid hX10
  have Hn10 := Lib.hid hn10
  have hX : (fun W' : World => Mod (fun k_ => (Value.slice A6 n6 c6).ownBlock = some k_) w6 W') w10 := hS.trans hm10 (fun i hi e => by
   rcases hfar i e with h | h
   ·
    exact h
   ·
    omega)
  clear hN10 hX10 hn10 hm10 hS hN9 hE9 hf10 hfar
  refine hK.out _ _ hX (fun hS => ?_)
  clear hK K hX
  try simp only [pL]
  refine tkH 11 (some 3) rfl rfl ?_ hS ?_ ?_
  rotate_left
  ·
   rintro W' hm'
   skip
   go_simp
   try with_reducible rfl
  try simp only [pL]
  refine wpAnyH_done (by kernel_rfl) ?_ _
  clear hS b4 b5 b6 b7 b8 b9
  go_wp2
  go_ret
  exact Hfin.out _ _ _ _ _ (by rw [Hd.out, encC, ← HD6.out, ← HD4.out]; simp only [List.append_assoc]) Hn10.out.symm HN10.out HX10.out
 have d1 : (x.kind == 1) = false := by simpa using k1
 by_cases k2 : x.kind = 2
 ·
  have d2 : (x.kind == 2) = true := by simp [k2]
  have hd : encE x = I ++ encF x.conf := by rw [Hen.out, if_neg k1, if_pos k2]
  have Hd := Lib.hid hd
  clear k1 k2 hd
  have b12 : w1.cell? ⟨q, 12, none⟩ = some _ := blk_cell HA1.out rfl
  have b13 : w1.cell? ⟨q, 13, none⟩ = some _ := blk_cell HA1.out rfl
  have b14 : w1.cell? ⟨q, 14, none⟩ = some _ := blk_cell HA1.out rfl
  have b15 : w1.cell? ⟨q, 15, none⟩ = some _ := blk_cell HA1.out rfl
  go_wp2_with fail
  refine (p_conf x.conf Hxf.out w1).mono ?_
  rintro e w2 ⟨v2, rfl, hN2, hX2⟩
  replace HN := Lib.hid (HN.out.ext hX2)
  replace HX := Lib.hid (HX.out.ext hX2)
  have hb2 := hN2.sl
  have hl2 : (encF x.conf).length ≤ 40 := encInts_le _
  have hln1 := Hn1.out
  clear hN2 hX2
  go_wp2_with (at_builtin; refine wpList_appB rfl _ _ rfl (.slice A1 n1 c1) I W rfl HN.out HX.out _ _ (encF x.conf) rfl hb2 (by omega) ?_)
  intro A4 n4 c4 w4 hn4 hN4 hX4 _ _
  have HN4 := Lib.hid hN4
  have HX4 := Lib.hid hX4
  have Hn4 := Lib.hid hn4
  clear hN4 hX4 hn4 hb2
  go_wp2
  go_ret
  exact Hfin.out _ _ _ _ _ Hd.out (by rw [List.length_append, Hn1.out]; exact Hn4.out.symm) HN4.out HX4.out
 ·
  have d2 : (x.kind == 2) = false := by simpa using k2
  have hd : encE x = I := by rw [Hen.out, if_neg k1, if_neg k2, List.append_nil]
  have Hd := Lib.hid hd
  clear k1 k2 hd
  go_wp2
  go_ret
  exact Hfin.out _ _ _ _ _ Hd.out Hn1.out HN.out HX.out
end Go.Proofs.YtjhnlncgmejkcaaGreat
namespace Go.Proofs.YtjhnlncgmejkcaaGreat
set_option linter.unusedSimpArgs false
open Go.RowKit

/-- The page's reader at the head of block b: the bytes bs lie in blocks of T, b is none of them; it stands at a. -/
def Rp (w : World) (T : Nat → Prop) (b : Nat) (bs : List UInt8) (a : Nat) (r : RS) : Prop :=
 ∃ v, w.heap[b]? = some (.cells #[v, .int .i64 (a : Int), .int .i64 r.e] 154 (0, 0)) ∧ Byt w T v bs ∧ ¬ T b ∧ a ≤ bs.length ∧ r.left = bs.drop a
def RpX (w : World) (T : Nat → Prop) (b : Nat) (bs : List UInt8) (r : RS) : Prop := ∃ a, Rp w T b bs a r
theorem Rp.mod {w w' : World} {S T : Nat → Prop} {b a : Nat} {bs : List UInt8} {r : RS} (h : Rp w T b bs a r) (hm : Mod S w w') (hb : ¬ S b) (hd : ∀ g, T g → ¬ S g) : Rp w' T b bs a r := by
 obtain ⟨v, hb', hs, hT, ha, hl⟩ := h
 exact ⟨v, hm.blk hb' hb, hs.mod hm hd, hT, ha, hl⟩
theorem RpX.mod {w w' : World} {S T : Nat → Prop} {b : Nat} {bs : List UInt8} {r : RS} (h : RpX w T b bs r) (hm : Mod S w w') (hb : ¬ S b) (hd : ∀ g, T g → ¬ S g) : RpX w' T b bs r := by
 obtain ⟨a, h⟩ := h
 exact ⟨a, h.mod hm hb hd⟩
theorem rp_cells {w : World} {b : Nat} {x y z : Value} {t : TypeId} (hb : w.heap[b]? = some (.cells #[x, y, z] t (0, 0))) :
  w.cell? ⟨b, 0, none⟩ = some x ∧ w.cell? ⟨b, 1, none⟩ = some y ∧ w.cell? ⟨b, 2, none⟩ = some z ∧ w.frozen? ⟨b, 1, none⟩ = false ∧ w.frozen? ⟨b, 2, none⟩ = false := by
 simp [World.cell?, World.frozen?, hb]
theorem rp_at {w : World} {b : Nat} {v y z : Value} {t : TypeId} (k : Int) (hb : w.heap[b]? = some (.cells #[v, y, z] t (0, 0))) :
  (w.setCell ⟨b, 1, none⟩ (.int .i64 k)).heap[b]? = some (.cells #[v, .int .i64 k, z] t (0, 0)) ∧ Mod (fun k => k = b) w (w.setCell ⟨b, 1, none⟩ (.int .i64 k)) :=
 ⟨by simp [World.setCell, Array.getElem?_modify, hb], (Mod.refl (fun k => k = b) w).setCell (p := ⟨b, 1, none⟩) (.inr rfl) _⟩
theorem rp_err {w : World} {b : Nat} {v y z : Value} {t : TypeId} (k : Int) (hb : w.heap[b]? = some (.cells #[v, y, z] t (0, 0))) :
  (w.setCell ⟨b, 2, none⟩ (.int .i64 k)).heap[b]? = some (.cells #[v, y, .int .i64 k] t (0, 0)) ∧ Mod (fun k => k = b) w (w.setCell ⟨b, 2, none⟩ (.int .i64 k)) :=
 ⟨by simp [World.setCell, Array.getElem?_modify, hb], (Mod.refl (fun k => k = b) w).setCell (p := ⟨b, 2, none⟩) (.inr rfl) _⟩

set_option maxRecDepth 100000 in
set_option maxHeartbeats 400000 in
theorem p_none (w : World) (T : Nat → Prop) (b : Nat) (bs : List UInt8) (a : Nat) (r : RS) (x : Int) (h : Rp w T b bs a r) :
  Calls Tryz.prog 158 #[.pointer (some ⟨b, 0, none⟩), .int .i64 x] w fun e w' => e = .returned (.tuple #[]) ∧ Rp w' T b bs a (r.fail x) ∧ Mod (fun k => k = b) w w' := by
 obtain ⟨v, hb, hs, hT, ha, hl⟩ := h
 obtain ⟨c0, c1, c2, f1, f2⟩ := rp_cells hb
 obtain ⟨h1, h2⟩ := rp_err x hb
 have Hb := Lib.hid hb
 clear hb
 by_cases he : r.e = 0
 ·
  have d1 : (r.e == 0) = true := by simp [he]
  have Hf : Hid (r.fail x = ⟨r.left, x⟩) := Lib.hid (by unfold RS.fail; rw [if_pos he])
  have H1 : Hid (Rp (w.setCell ⟨b, 2, none⟩ (.int .i64 x)) T b bs a (r.fail x)) := Lib.hid (by rw [Hf.out]; exact ⟨v, h1, hs.mod h2 (fun g hg e => hT (e ▸ hg)), hT, ha, hl⟩)
  have H2 := Lib.hid h2
  clear h1 h2 he
  go_enter Tryz.func158, Tryz.ntmps158
  go_wp2
  go_end0
  exact ⟨rfl, H1.out, H2.out⟩
 ·
  have d1 : (r.e == 0) = false := by simp [he]
  have Hf : Hid (r.fail x = r) := Lib.hid (by unfold RS.fail; rw [if_neg he])
  clear h1 h2 he
  go_enter Tryz.func158, Tryz.ntmps158
  go_wp2
  go_end0
  exact ⟨rfl, by rw [Hf.out]; exact ⟨v, Hb.out, hs, hT, ha, hl⟩, Mod.refl _ _⟩

def PIntOk (w : World) (T : Nat → Prop) (b : Nat) (bs : List UInt8) (r : RS) (e : Ending) (w' : World) : Prop := e = .returned (.int .i64 r.int.1) ∧ RpX w' T b bs r.int.2 ∧ Mod (fun k => k = b) w w'
theorem p_join (z m i : Nat) (hz : z < 2 ^ (7 * i)) (hm : m < 256) (hi : i ≤ 9) (hi9 : i = 9 → m ≤ 1) :
  IntKind.u64.wrap ((z : Int) + IntKind.u64.wrap ((m : Int) % 128 * 2 ^ (7 * i))) = ((z + m % 128 * 2 ^ (7 * i) : Nat) : Int) ∧
  z + m % 128 * 2 ^ (7 * i) < 18446744073709551616 ∧ (i < 9 → z + m % 128 * 2 ^ (7 * i) < 2 ^ (7 * (i + 1))) := by
 obtain ⟨_, h2, h3⟩ := or_join z m i hz hm hi hi9
 refine ⟨?_, h2, h3⟩
 rw [wrap_u64, wrap_u64]
 have e : ((m : Int) % 128 * 2 ^ (7 * i)) = ((m % 128 * 2 ^ (7 * i) : Nat) : Int) := by simp
 rw [e]
 omega
theorem p_even {z : Nat} (h : z < 18446744073709551616) (h2 : z % 2 = 0) : RowKit.wrap64 (IntKind.u64.wrap ((z : Int) / 2)) = zag z := by
 rw [wrap_u64, show ((z : Int) / 2) % 18446744073709551616 = ((z / 2 : Nat) : Int) by omega, IntWalk.wrap64_in _ (by omega)]
 unfold zag
 rw [if_neg (by omega)]
theorem p_odd {z : Nat} (h : z < 18446744073709551616) (h2 : z % 2 = 1) : RowKit.wrap64 (RowKit.wrap64 (-RowKit.wrap64 (IntKind.u64.wrap ((z : Int) / 2))) - 1) = zag z := by
 rw [wrap_u64, show ((z : Int) / 2) % 18446744073709551616 = ((z / 2 : Nat) : Int) by omega, IntWalk.wrap64_in ((z / 2 : Nat) : Int) (by omega), IntWalk.wrap64_in (-((z / 2 : Nat) : Int)) (by omega), IntWalk.wrap64_in _ (by omega)]
 unfold zag
 rw [if_pos h2]
set_option maxRecDepth 100000 in
set_option maxHeartbeats 1000000 in
theorem p_int_ok (w : World) (T : Nat → Prop) (b : Nat) (bs : List UInt8) (a : Nat) (l : List UInt8) (h : Rp w T b bs a ⟨l, 0⟩) :
  Calls Tryz.prog 119 #[.pointer (some ⟨b, 0, none⟩)] w (PIntOk w T b bs ⟨l, 0⟩) := by
 obtain ⟨v, hb, hs, hT, ha, hl⟩ := h
 obtain ⟨c0, c1, c2, f1, f2⟩ := rp_cells hb
 obtain ⟨A, c, rfl⟩ := hs.form
 have hlen : bs.length ≤ maxLen := hs.le
 unfold maxLen at hlen
 obtain ⟨n, hn⟩ : ∃ n, bs.length = n := ⟨_, rfl⟩
 simp only at hl c2 hb
 unfold Byt at hs
 simp only [hn] at hs ha hlen hb c0
 have Hn := Lib.hid hn
 have Hb := Lib.hid hb
 have Hl := Lib.hid hl
 clear hb hn hl
 go_enter Tryz.func119, Tryz.ntmps119
 go_wp2
 go_loopw [3, 4] (fun zv iv wr => ∃ i z q : Nat, i ≤ 9 ∧ a + i ≤ n ∧ iv = .int .i64 i ∧ zv = .int .u64 z ∧ wr = w.drewN q ∧ z < 2 ^ (7 * i) ∧ rdVar 0 0 l = rdVar i z (l.drop i)) (fun _ iv _ => 10 - (intOf iv).toNat)
 case atStart => exact ⟨0, 0, 0, by omega, by omega, rfl, rfl, rfl, by decide, rfl⟩
 case round =>
  obtain ⟨i, z, q, hi9, hin, rfl, rfl, rfl, hz, hrd⟩ := hrel
  have Hz := Lib.hid hz
  have Hrd := Lib.hid hrd
  clear hz hrd
  have hfail : rdVar i z (l.drop i) = none → ∀ q w', Rp w' T b bs a (RS.fail ⟨l, 0⟩ 3) → Mod (fun k => k = b) (w.drewN q) w' → PIntOk w T b bs ⟨l, 0⟩ (.returned (.int .i64 0)) w' := by
   intro h q w' h1 h2
   unfold PIntOk
   rw [int_none (Hrd.out.trans h)]
   exact ⟨rfl, ⟨a, h1⟩, Mod.trans ((Mod.refl _ w).drewN q) h2 (fun _ _ e => e)⟩
  have hrp : ∀ q, Rp (w.drewN q) T b bs a ⟨l, 0⟩ := fun q => ⟨_, Hb.out, by unfold Byt; rw [Hn.out]; exact hs.drewN q, hT, by rw [Hn.out]; exact ha, Hl.out⟩
  have Hrp := Lib.hid hrp
  have Hfail := Lib.hid hfail
  clear hfail hrp
  obtain ⟨j, hj⟩ : ∃ j, a + i = j := ⟨_, rfl⟩
  have hw1 : IntKind.i64.wrap ((a : Int) + (i : Int)) = (j : Int) := by rw [IntWalk.i64_in _ (by omega)]; omega
  have Hj := Lib.hid hj
  clear hj
  have i10 : decide ((i : Int) < 10) = true := by simp; omega
  by_cases hi : j < n
  ·
   have dj : decide (n ≤ j) = false := by simp; omega
   obtain ⟨g, off, x, rfl, hx, hcell⟩ := cellB hs hi
   have hxlt := byte_lt x
   obtain ⟨m, hm⟩ : ∃ m, x.toNat = m := ⟨_, rfl⟩
   rw [hm] at hcell hxlt
   have Hm := Lib.hid hm
   obtain ⟨mi, hmi⟩ : ∃ mi : Int, (m : Int) = mi := ⟨_, rfl⟩
   rw [hmi] at hcell
   have b1 : 0 ≤ mi := by omega
   have b2 : mi < 256 := by omega
   have HM := Lib.hid hmi
   have hx2 : l[i]? = some x := by
    rw [Hl.out, List.getElem?_drop, Hj.out]
    exact hx
   have Hx := Lib.hid hx2
   clear hx hm hx2 hmi
   have j0 : (0 : Int) ≤ (j : Int) := by omega
   have j1 : (j : Int) < (n : Int) := by omega
   by_cases hA : (i = 9 ∧ 1 < m) ∨ (m = 0 ∧ 0 < i)
   ·
    have hg : (((i : Int) == 9) = true ∧ decide (1 < mi) = true) ∨ (((i : Int) == 9) = false ∧ decide (0 < i) = true ∧ (mi == 0) = true) ∨ (((i : Int) == 9) = true ∧ decide (1 < mi) = false ∧ decide (0 < i) = true ∧ (mi == 0) = true) := by have := HM.out; simp; omega
    have Hbad := Lib.hid (rd_none1 (z := z) Hx.out Hm.out hA)
    clear hA
    rcases hg with ⟨g1, g2⟩ | ⟨g1, g2, g3⟩ | ⟨g1, g2, g3, g4⟩
    all_goals
     go_wp2
     go_quiet (fail)
     go_wp2
     go_quiet (fail)
     go_wp2_with fail
     refine (p_none _ T b bs a ⟨l, 0⟩ 3 (Hrp.out _)).mono ?_
     rintro e w1 ⟨rfl, hR, hmd⟩
     go_wp2
     go_ret
     exact Hfail.out Hbad.out _ _ hR hmd
   ·
    have h1 : ¬ (i = 9 ∧ 1 < m) := fun e => hA (.inl e)
    have h2 : ¬ (m = 0 ∧ 0 < i) := fun e => hA (.inr e)
    obtain ⟨hor, hz1, hz2⟩ := p_join z m i Hz.out hxlt hi9 (by omega)
    obtain ⟨z', hz'⟩ : ∃ z', z + m % 128 * 2 ^ (7 * i) = z' := ⟨_, rfl⟩
    rw [hz'] at hor hz1 hz2
    rw [HM.out] at hor
    have hg : (((i : Int) == 9) = false ∧ decide (0 < i) = false) ∨ (((i : Int) == 9) = false ∧ decide (0 < i) = true ∧ (mi == 0) = false) ∨ (((i : Int) == 9) = true ∧ decide (1 < mi) = false ∧ decide (0 < i) = true ∧ (mi == 0) = false) := by have := HM.out; simp; omega
    have Hz1 := Lib.hid hz1
    have Hz2 := Lib.hid hz2
    have Hz' := Lib.hid hz'
    have H1 := Lib.hid h1
    have H2 := Lib.hid h2
    clear hz1 hz2 hz' hA h1 h2
    by_cases hC : 128 ≤ m
    ·
     have hlt : decide (mi < 128) = false := by have := HM.out; simp; omega
     rcases hg with ⟨g1, g2⟩ | ⟨g1, g2, g3⟩ | ⟨g1, g2, g3, g4⟩
     all_goals
      go_wp2
      go_quiet (fail)
      go_wp2
      go_quiet (fail)
      go_wp2
      exact ⟨⟨i + 1, z', _, by have := H1.out; have := Hj.out; omega, by have := Hj.out; omega, by go_num, rfl, rfl, Hz2.out (by have := H1.out; omega), by rw [Hrd.out, rd_more Hx.out Hm.out H1.out hC, Hz'.out]⟩, by simp [intOf]; omega⟩
    ·
     have hlt : decide (mi < 128) = true := by have := HM.out; simp; omega
     have hput : ∀ q, PIntOk w T b bs ⟨l, 0⟩ (.returned (.int .i64 (zag z'))) ((w.drewN q).setCell ⟨b, 1, none⟩ (.int .i64 ((j : Int) + 1))) := by
      intro q
      unfold PIntOk
      rw [int_some (Hrd.out.trans ((rd_end Hx.out Hm.out H1.out H2.out (by omega)).trans (by rw [Hz'.out])))]
      obtain ⟨p1, p2⟩ := rp_at (w := w.drewN q) ((j : Int) + 1) Hb.out
      have p3 := Mod.trans ((Mod.refl (fun k => k = b) w).drewN q) p2 (fun _ _ e => e)
      refine ⟨rfl, ⟨a + i + 1, .slice (some ⟨g, off, none⟩) n c, ?_, ?_, hT, by rw [Hn.out, Hj.out]; omega, ?_⟩, p3⟩
      ·
       rw [p1, Hj.out]; simp
      ·
       unfold Byt
       rw [Hn.out]
       exact hs.mod p3 (fun g hg e => hT (e ▸ hg))
      ·
       rw [Hl.out, List.drop_drop, Nat.add_assoc]
     have HP := Lib.hid hput
     clear hput
     rcases hg with ⟨g1, g2⟩ | ⟨g1, g2, g3⟩ | ⟨g1, g2, g3, g4⟩
     all_goals
      rcases Nat.mod_two_eq_zero_or_one z' with h2 | h2
      ·
       go_wp2
       go_quiet (fail)
       go_wp2
       go_quiet (fail)
       go_wp2
       rw [p_even Hz1.out h2]
       go_ret
       exact HP.out _
      ·
       go_wp2
       go_quiet (fail)
       go_wp2
       go_quiet (fail)
       go_wp2
       rw [p_odd Hz1.out h2]
       go_ret
       exact HP.out _
  ·
   have dj : decide (n ≤ j) = true := by simp; omega
   have Hbad : Hid (rdVar i z (l.drop i) = none) := Lib.hid (by rw [Hl.out, List.drop_drop, Hj.out, List.drop_eq_nil_of_le (by rw [Hn.out]; omega)]; rfl)
   go_wp2
   go_quiet (fail)
   go_wp2_with fail
   refine (p_none _ T b bs a ⟨l, 0⟩ 3 (Hrp.out _)).mono ?_
   rintro e w1 ⟨rfl, hR, hmd⟩
   go_wp2
   go_ret
   exact Hfail.out Hbad.out _ _ hR hmd
theorem p_int (w : World) (T : Nat → Prop) (b : Nat) (bs : List UInt8) (r : RS) (h : RpX w T b bs r) :
  Calls Tryz.prog 119 #[.pointer (some ⟨b, 0, none⟩)] w (PIntOk w T b bs r) := by
 obtain ⟨a, h⟩ := h
 obtain ⟨l, x⟩ := r
 by_cases he : x = 0
 ·
  subst he; exact p_int_ok w T b bs a l h
 ·
  have H := Lib.hid h
  obtain ⟨v, hb, hs, hT, ha, hl⟩ := h
  obtain ⟨c0, c1, c2, f1, f2⟩ := rp_cells hb
  have he2 : (x != 0) = true := by simp [he]
  have Hi : Hid (RS.int ⟨l, x⟩ = (0, ⟨l, x⟩)) := Lib.hid (by simp [RS.int, he])
  simp only at c2
  clear hb hs hl
  go_enter Tryz.func119, Tryz.ntmps119
  go_wp2
  go_ret
  unfold PIntOk
  rw [Hi.out]
  exact ⟨rfl, ⟨a, H.out⟩, Mod.refl _ _⟩

end Go.Proofs.YtjhnlncgmejkcaaGreat
