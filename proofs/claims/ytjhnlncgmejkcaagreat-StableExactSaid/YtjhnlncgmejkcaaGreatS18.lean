/-
  Contracts of the page's writing functions (layer 10): conf, bytes, sized, Entry. Conditions: as each theorem names them.
-/
import Derived.Test.YtjhnlncgmejkcaaGreatTakeI
import Derived.Test.YtjhnlncgmejkcaaGreatS5
import Derived.Test.YtjhnlncgmejkcaaGreatS6
import Derived.Test.YtjhnlncgmejkcaaGreatS13
import Derived.Test.YtjhnlncgmejkcaaGreatPackR
set_option maxRecDepth 100000
set_option maxHeartbeats 4000000
namespace Go.Proofs.YtjhnlncgmejkcaaGreat
set_option linter.unusedSimpArgs false
open Go.RowKit
attribute [local go_sem high] zpE
def zI.small (x : zI) : Prop := x.call.cmd.key.size ≤ 40000 ∧ x.call.cmd.old.text.size ≤ 40000 ∧ x.call.cmd.val.text.size ≤ 40000
theorem jD (l : List Int) : (zQ l).length ≤ 10 * l.length := zl0 l
theorem p_conf (c : yF) (hc : c.ok) (w : World) : Calls Tryz.prog 89 #[.agg #[.int .i64 c.full, .int .i64 c.wit, .int .i64 c.learn, .int .i64 c.learnWit]] w fun e w' => ∃ v, e = .returned v ∧ yO w w' v (zhY c) ∧ Ext w w' := by
 obtain ⟨hc1, hc2, hc3, hc4⟩ := hc
 obtain ⟨W, hW⟩ : ∃ W, W = w.alloc (.cells #[.int .i64 c.full, .int .i64 c.wit, .int .i64 c.learn, .int .i64 c.learnWit] 23) := ⟨_, rfl⟩
 have hE : Ext w W := by rw [hW]; exact (Mod.refl _ w).alloc _
 have hsz : W.heap.size = w.heap.size + 1 := by rw [hW]; simp
 have Hr : Hid (∀ n ∈ [c.full, c.wit, c.learn, c.learnWit], I64 n) := hJ (by simp; exact ⟨hc1, hc2, hc3, hc4⟩)
 have HW := hJ hW
 have Hsz := hJ hsz
 have HE := hJ hE
 clear hW hsz hE hc1 hc2 hc3 hc4
 go_enter Tryz.func89, Tryz.ntmps89
 go_wp2_with fail
 rw [← HW.out]
 have hE1 : Ext W (W.alloc (.cells #[.int .i64 c.full, .int .i64 c.wit, .int .i64 c.learn, .int .i64 c.learnWit] 3)) := (Mod.refl _ W).alloc _
 have hsl := zbU W [c.full, c.wit, c.learn, c.learnWit] 3 #[.int .i64 c.full, .int .i64 c.wit, .int .i64 c.learn, .int .i64 c.learnWit] rfl 4 rfl (by omega)
 rw [Hsz.out] at hsl
 refine (zf5 _ _ _ [c.full, c.wit, c.learn, c.learnWit] hsl Hr.out (by simp)).mono ?_
 rintro e w1 ⟨v, rfl, hN, hX⟩
 have HN := hJ (hN.up (HE.out.ext hE1))
 have HX := hJ ((HE.out.ext hE1).ext hX)
 clear hN hX hE1 hsl
 go_wp2
 go_ret
 exact ⟨v, rfl, HN.out, HX.out⟩
theorem zpZ (A : Option Addr) (n c : Nat) (w : World) (_ : n ≤ 10000000000) : Calls Tryz.prog 48 #[.slice A n c] w fun e w' => w = w' ∧ ((16384 < n ∧ e = .returned (.tuple #[.slice none 0 0, .int .i64 2])) ∨ (n ≤ 16384 ∧ e = .returned (.tuple #[.slice A n c, .int .i64 0]))) := by
 by_cases h : 16384 < n
 ·
  have d : decide ((16384 : Int) < (n : Int)) = true := by simp; omega
  go_enter Tryz.func48, Tryz.ntmps48
  go_wp2
  go_ret2
  exact ⟨rfl, .inl ⟨h, rfl⟩⟩
 have d : decide ((16384 : Int) < (n : Int)) = false := by simp; omega
 have h' : n ≤ 16384 := by omega
 have Hh := hJ h'
 clear h h'
 go_enter Tryz.func48, Tryz.ntmps48
 go_wp2
 go_ret2
 exact ⟨rfl, .inr ⟨Hh.out, rfl⟩⟩
theorem zp0 (x : zI) (hx : x.ok) (hs : x.small) (w : World) : Calls Tryz.prog 49 #[.agg #[.int .i64 x.term, .int .i64 x.kind, .int .i64 x.call.client, .int .i64 x.call.seq, .int .i64 x.call.cmd.kind, .string x.call.cmd.key, .int .i64 x.call.cmd.old.kind, .float .f64 x.call.cmd.old.num, .string x.call.cmd.old.text, .int .i64 x.call.cmd.val.kind, .float .f64 x.call.cmd.val.num, .string x.call.cmd.val.text, .int .i64 x.conf.full, .int .i64 x.conf.wit, .int .i64 x.conf.learn, .int .i64 x.conf.learnWit]] w fun e w' => ∃ v, e = .returned v ∧ yO w w' v (xT x) ∧ Ext w w' := by
 obtain ⟨hx1, hx2, hxc, hxf⟩ := hx
 obtain ⟨q, hq⟩ : ∃ q, w.heap.size = q := ⟨_, rfl⟩
 obtain ⟨W, hW⟩ : ∃ W, W = w.alloc (.cells #[.int .i64 x.term, .int .i64 x.kind, .int .i64 x.call.client, .int .i64 x.call.seq, .int .i64 x.call.cmd.kind, .string x.call.cmd.key, .int .i64 x.call.cmd.old.kind, .float .f64 x.call.cmd.old.num, .string x.call.cmd.old.text, .int .i64 x.call.cmd.val.kind, .float .f64 x.call.cmd.val.num, .string x.call.cmd.val.text, .int .i64 x.conf.full, .int .i64 x.conf.wit, .int .i64 x.conf.learn, .int .i64 x.conf.learnWit] 56) := ⟨_, rfl⟩
 have hE : Ext w W := by rw [hW]; exact (Mod.refl _ w).alloc _
 have hA : W.heap[q]? = some (.cells #[.int .i64 x.term, .int .i64 x.kind, .int .i64 x.call.client, .int .i64 x.call.seq, .int .i64 x.call.cmd.kind, .string x.call.cmd.key, .int .i64 x.call.cmd.old.kind, .float .f64 x.call.cmd.old.num, .string x.call.cmd.old.text, .int .i64 x.call.cmd.val.kind, .float .f64 x.call.cmd.val.num, .string x.call.cmd.val.text, .int .i64 x.conf.full, .int .i64 x.conf.wit, .int .i64 x.conf.learn, .int .i64 x.conf.learnWit] 56 (0, 0)) := by rw [hW, ← hq]; exact heap_alloc_new w _
 have hsz : W.heap.size = q + 1 := by rw [hW, ← hq]; simp
 have Hr : Hid (∀ n ∈ [x.term, x.kind], I64 n) := hJ (by simp; exact ⟨hx1, hx2⟩)
 have Hxc := hJ hxc
 have Hxf := hJ hxf
 have Hs := hJ hs
 have HW := hJ hW
 have Hq := hJ hq
 have HE := hJ hE
 have HA := hJ hA
 have Hsz := hJ hsz
 clear hW hq hE hA hsz hx1 hx2 hxc hxf hs
 have Hen : Hid (xT x = zQ [x.term, x.kind] ++ (if x.kind = 1 then zlF x.call else if x.kind = 2 then zhY x.conf else [])) := hJ rfl
 have hl0 := jD [x.term, x.kind]
 obtain ⟨I, hI⟩ : ∃ I, zQ [x.term, x.kind] = I := ⟨_, rfl⟩
 rw [hI] at Hen hl0
 simp only [List.length_cons, List.length_nil] at hl0
 have HI := hJ hI
 clear hI
 go_enter Tryz.func49, Tryz.ntmps49
 go_wp2_with fail
 rw [← HW.out, Hq.out]
 have hE1 : Ext W (W.alloc (.cells #[.int .i64 x.term, .int .i64 x.kind] 3)) := (Mod.refl _ W).alloc _
 have hsl := zbU W [x.term, x.kind] 3 #[.int .i64 x.term, .int .i64 x.kind] rfl 2 rfl (by omega)
 rw [Hsz.out] at hsl
 refine (zf5 _ _ _ [x.term, x.kind] hsl Hr.out (by simp)).mono ?_
 rintro e w1 ⟨v1, rfl, hN, hX⟩
 have HX := hJ (hE1.ext hX)
 have hN1 : yO W w1 v1 (zQ [x.term, x.kind]) := hN.up hE1
 rw [HI.out] at hN1
 have HN := hJ hN1
 obtain ⟨A1, c1, rfl⟩ := zN hN1.1
 have hA1 := HX.out.blk HA.out id
 have HA1 := hJ hA1
 have hq1 : q < w1.heap.size := (Array.getElem?_eq_some_iff.1 hA1).1
 have a1 : w1.cell? ⟨q, 1, none⟩ = some _ := zB hA1 rfl
 obtain ⟨n1, hn1⟩ : ∃ n1, I.length = n1 := ⟨_, rfl⟩
 have Hn1 := hJ hn1
 rw [hn1] at hl0 HN ⊢
 clear hN hX hN1 hA1 hE1 hsl hn1
 have hfin : ∀ (A : Option Addr) (n c : Nat) (w' : World) (d : List UInt8), xT x = d → d.length = n → yO W w' (.slice A n c) d → Ext W w' → ∃ v, Ending.returned (.slice A n c) = .returned v ∧ yO w w' v (xT x) ∧ Ext w w' :=
  fun A n c w' d h1 h2 h3 h4 => ⟨_, rfl, by rw [h1]; exact h3.up HE.out, HE.out.ext h4⟩
 have Hfin := hJ hfin
 clear hfin
 by_cases k1 : x.kind = 1
 ·
  have d1 : (x.kind == 1) = true := by simp [k1]
  have hd : xT x = I ++ zlF x.call := by rw [Hen.out, if_pos k1]
  have Hd := hJ hd
  clear k1 hd
  obtain ⟨-, -, b2, b3, b4, b5, b6, b7, b8, b9, b10, b11⟩ := cq12 HA1.out
  obtain ⟨p, hp⟩ : ∃ p, w1.heap.size = p := ⟨_, rfl⟩
  obtain ⟨W2, hW2⟩ : ∃ W2, W2 = w1.alloc (.cells #[.int .i64 x.call.client, .int .i64 x.call.seq, .int .i64 x.call.cmd.kind, .string x.call.cmd.key, .int .i64 x.call.cmd.old.kind, .float .f64 x.call.cmd.old.num, .string x.call.cmd.old.text, .int .i64 x.call.cmd.val.kind, .float .f64 x.call.cmd.val.num, .string x.call.cmd.val.text] 54) := ⟨_, rfl⟩
  have hE2 : Ext w1 W2 := by rw [hW2]; exact (Mod.refl _ _).alloc _
  have hB2 : W2.heap[p]? = some (.cells #[.int .i64 x.call.client, .int .i64 x.call.seq, .int .i64 x.call.cmd.kind, .string x.call.cmd.key, .int .i64 x.call.cmd.old.kind, .float .f64 x.call.cmd.old.num, .string x.call.cmd.old.text, .int .i64 x.call.cmd.val.kind, .float .f64 x.call.cmd.val.num, .string x.call.cmd.val.text] 54 (0, 0)) := by rw [hW2, ← hp]; exact heap_alloc_new w1 _
  have hsz2 : W2.heap.size = p + 1 := by rw [hW2, ← hp]; simp
  have HW2 := hJ hW2
  have Hp := hJ hp
  have Hsz2 := hJ hsz2
  have Hnp : Hid (∀ g, (Value.slice A1 n1 c1).ownBlock = some g → g ≠ p) := hJ (fun g hg e => by have := (HN.out.1.lt g hg).2; omega)
  replace HN := hJ (HN.out.ext hE2)
  replace HX := hJ (HX.out.ext hE2)
  have HB := hJ hB2
  have Hr3 : Hid (∀ n ∈ [x.call.client, x.call.seq, x.call.cmd.kind], I64 n) := hJ (by have h := Hxc.out; simp; exact ⟨h.1, h.2.1, h.2.2.1⟩)
  clear hW2 hp hE2 hB2 hsz2
  go_wp2_with fail
  rw [← HW2.out, Hp.out]
  have hE1 : Ext W2 (W2.alloc (.cells #[.int .i64 x.call.client, .int .i64 x.call.seq, .int .i64 x.call.cmd.kind] 3)) := (Mod.refl _ W2).alloc _
  have hsl := zbU W2 [x.call.client, x.call.seq, x.call.cmd.kind] 3 #[.int .i64 x.call.client, .int .i64 x.call.seq, .int .i64 x.call.cmd.kind] rfl 3 rfl (by omega)
  rw [Hsz2.out] at hsl
  refine (zf5 _ _ _ [x.call.client, x.call.seq, x.call.cmd.kind] hsl Hr3.out (by simp)).mono ?_
  rintro e w3 ⟨v3, rfl, hN3, hX3⟩
  have hE3 := hE1.ext hX3
  replace HN := hJ (HN.out.ext hE3)
  replace HX := hJ (HX.out.ext hE3)
  replace HB := hJ (hE3.blk HB.out id)
  have hb3 := hN3.sl
  have Hlt3 : Hid (p < w3.heap.size) := hJ (Array.getElem?_eq_some_iff.1 HB.out).1
  have hl3 := jD [x.call.client, x.call.seq, x.call.cmd.kind]
  simp only [List.length_cons, List.length_nil] at hl3
  have hln1 := Hn1.out
  clear a1 b2 b3 b4 b5 b6 b7 b8 b9 b10 b11 hE1 hsl hE3 hX3 hN3
  go_wp2_with (at_builtin; refine zW rfl _ _ rfl (.slice A1 n1 c1) I W rfl HN.out HX.out _ _ (zQ [x.call.client, x.call.seq, x.call.cmd.kind]) rfl hb3 (by omega) ?_)
  intro A4 n4 c4 w4 hn4 hN4 hX4 hm4 hf4
  have hlt4 : n4 ≤ 60 := by omega
  replace HB := hJ (hm4.blk HB.out (fun e => Hnp.out _ e rfl))
  have Hnp4 : Hid (∀ g, (Value.slice A4 n4 c4).ownBlock = some g → g ≠ p) := hJ (fun g hg e => by
   subst e
   rcases hf4 g hg with h | h
   · exact Hnp.out g h rfl
   have := (Array.getElem?_eq_some_iff.1 HB.out).1; have := Hlt3.out; omega)
  replace HN := hJ hN4
  replace HX := hJ hX4
  have Hn4 : Hid ((I ++ zQ [x.call.client, x.call.seq, x.call.cmd.kind]).length = n4) := hJ (by rw [List.length_append, hln1]; exact hn4.symm)
  obtain ⟨D4, hD4⟩ : ∃ D4, I ++ zQ [x.call.client, x.call.seq, x.call.cmd.kind] = D4 := ⟨_, rfl⟩
  rw [hD4] at HN Hn4
  have HD4 := hJ hD4
  clear hb3 hN4 hX4 hm4 hn4 hln1 hf4 hD4 Hlt3 hl3
  obtain ⟨-, -, -, b3, b4, b5, b6, b7, b8, b9⟩ := cq10 HB.out
  have hks := Hs.out.1
  have hbe := bw_ext w4 5 x.call.cmd.key
  have hbb := bw_byt w4 5 x.call.cmd.key (by have h := Hxc.out; exact h.2.2.2.1)
  have hkl : (zaF x.call.cmd.key).length = x.call.cmd.key.size := rfl
  go_wp2_with fail
  refine (zkM _ _ _ (zaF x.call.cmd.key) hbb (by omega)).mono ?_
  rintro e w5 ⟨v5, rfl, hN5, hX5⟩
  have hE5 := hbe.ext hX5
  have hlt := zaE (zaF x.call.cmd.key)
  replace HN := hJ (HN.out.ext hE5)
  replace HX := hJ (HX.out.ext hE5)
  replace HB := hJ (hE5.blk HB.out id)
  have hb5 := hN5.sl
  have Hlt5 : Hid (p < w5.heap.size) := hJ (Array.getElem?_eq_some_iff.1 HB.out).1
  have hln4 := Hn4.out
  clear b3 b4 b5 b6 b7 b8 b9 hbe hbb hE5 hX5 hN5
  go_wp2_with (at_builtin; refine zW rfl _ _ rfl (.slice A4 n4 c4) D4 W rfl HN.out HX.out _ _ (yH (zaF x.call.cmd.key)) rfl hb5 (by omega) ?_)
  intro A6 n6 c6 w6 hn6 hN6 hX6 hm6 hf6
  have hlt6 : n6 ≤ 41000 := by omega
  replace HB := hJ (hm6.blk HB.out (fun e => Hnp4.out _ e rfl))
  have Hnp6 : Hid (∀ g, (Value.slice A6 n6 c6).ownBlock = some g → g ≠ p) := hJ (fun g hg e => by
   subst e
   rcases hf6 g hg with h | h
   · exact Hnp4.out g h rfl
   have := Hlt5.out; omega)
  replace HN := hJ hN6
  replace HX := hJ hX6
  have Hn6 : Hid ((D4 ++ yH (zaF x.call.cmd.key)).length = n6) := hJ (by rw [List.length_append, hln4]; exact hn6.symm)
  obtain ⟨D6, hD6⟩ : ∃ D6, D4 ++ yH (zaF x.call.cmd.key) = D6 := ⟨_, rfl⟩
  rw [hD6] at HN Hn6
  have HD6 := hJ hD6
  clear hb5 hN6 hX6 hm6 hn6 hln4 hf6 hD6 Hlt5 hks hkl hlt hlt4
  have b4 : w6.cell? ⟨p, 4, none⟩ = some _ := zB HB.out rfl
  have b5 : w6.cell? ⟨p, 5, none⟩ = some _ := zB HB.out rfl
  have b6 : w6.cell? ⟨p, 6, none⟩ = some _ := zB HB.out rfl
  have b7 : w6.cell? ⟨p, 7, none⟩ = some _ := zB HB.out rfl
  have b8 : w6.cell? ⟨p, 8, none⟩ = some _ := zB HB.out rfl
  have b9 : w6.cell? ⟨p, 9, none⟩ = some _ := zB HB.out rfl
  have nb := Hnp6.out p
  have Hnb : Hid (¬ (Value.slice A6 n6 c6).ownBlock = some p) := hJ (fun e => nb e rfl)
  clear nb
  go_wp2_with fail
  refine wp_region_held_drew (S := (fun W' : World => Mod (fun k_ => (Value.slice A6 n6 c6).ownBlock = some k_) w6 W')) (by kernel_rfl) (Mod.refl _ w6).drew (fun hS => ?_)
  obtain ⟨e0, he0⟩ : ∃ e0, e0 = w6.drew := ⟨_, rfl⟩
  have hNe : yO W e0 (.slice A6 n6 c6) D6 := by rw [he0]; exact ⟨zU HN.out.1 (Mod.refl (fun _ => False) _).drew (fun _ _ => id), HN.out.2⟩
  have hXe : Ext W e0 := by rw [he0]; exact HX.out.drew
  rw [← he0] at hS ⊢
  clear he0
  iterate 7
   first | refine tkI 0 (some 35) rfl rfl ?_ hS ?_ ?_ | refine tkI 1 (some 36) rfl rfl ?_ hS ?_ ?_ | refine tkI 2 (some 37) rfl rfl ?_ hS ?_ ?_ | refine tkI 3 (some 38) rfl rfl ?_ hS ?_ ?_ | refine tkI 6 (some 41) rfl rfl ?_ hS ?_ ?_ | refine tkI 7 (some 42) rfl rfl ?_ hS ?_ ?_ | refine tkI 8 (some 43) rfl rfl ?_ hS ?_ ?_
   rotate_left
   · rintro W' hm'
     have hnb := Hnb.out
     have q4 := hm'.cell b4 hnb
     have q5 := hm'.cell b5 hnb
     have q6 := hm'.cell b6 hnb
     have q7 := hm'.cell b7 hnb
     have q8 := hm'.cell b8 hnb
     have q9 := hm'.cell b9 hnb
     go_simp
     try rfl
   try simp only [pL]
  refine xJ 4 rfl (fun K hK => ?_)
  go_simp
  go_wp2_with fail
  refine (zl1 _ x.call.cmd.old (by have h := Hxc.out; exact h.2.2.2.2.1) (by have := Hs.out.2.1; omega)).mono ?_
  rintro e w7 ⟨v7, rfl, hN7, hE7⟩
  have hX := Mod.ext hS hE7
  clear hS
  go_simp
  refine hK.out _ _ hX (fun hS => ?_)
  clear hK K hX
  try simp only [pL]
  refine xJ 5 rfl (fun K hK => ?_)
  have hlv := zc0 x.call.cmd.old
  have hvs := Hs.out.2.1
  have hln6 := Hn6.out
  refine zcQ rfl _ _ rfl (.slice A6 n6 c6) D6 W rfl (hNe.ext hE7) (hXe.ext hE7) _ _ (zcY x.call.cmd.old) rfl hN7.sl (by omega) ?_
  intro A8 n8 c8 w8 hn8 hN8 hX8 hm8 hf8
  have hlt8 : n8 ≤ 90000 := by rw [hn8, List.length_append]; omega
  have hX := hS.self hm8
  have HN8 := hJ hN8
  have HX8 := hJ hX8
  have Hn8 := hJ hn8
  have hfar : ∀ g, (Value.slice A8 n8 c8).ownBlock = some g → (Value.slice A6 n6 c6).ownBlock = some g ∨ w6.heap.size ≤ g := fun g hg => by
   rcases hf8 g hg with h | h
   · exact .inl h
   exact .inr (by have := hS.size; omega)
  clear hN8 hX8 hn8 hm8 hS hN7 hE7 hNe hXe hf8
  refine hK.out _ _ hX (fun hS => ?_)
  clear hK K hX
  try simp only [pL]
  refine xJ 9 rfl (fun K hK => ?_)
  go_simp
  go_wp2_with fail
  refine (zl1 _ x.call.cmd.val (by have h := Hxc.out; exact h.2.2.2.2.2) (by have := Hs.out.2.2; omega)).mono ?_
  rintro e w9 ⟨v9, rfl, hN9, hE9⟩
  have hX := Mod.ext hS hE9
  clear hS
  go_simp
  refine hK.out _ _ hX (fun hS => ?_)
  clear hK K hX
  try simp only [pL]
  refine xJ 10 rfl (fun K hK => ?_)
  have hlv := zc0 x.call.cmd.val
  have hvs := Hs.out.2.2
  have hln8 : (D6 ++ zcY x.call.cmd.old).length = n8 := Hn8.out.symm
  refine zcQ rfl _ _ rfl (.slice A8 n8 c8) (D6 ++ zcY x.call.cmd.old) W rfl (HN8.out.ext hE9) (HX8.out.ext hE9) _ _ (zcY x.call.cmd.val) rfl hN9.sl (by omega) ?_
  intro A10 n10 c10 w10 hn10 hN10 hX10 hm10 hf10
  have HN10 := hJ hN10
  have HX10 := hJ hX10
  have Hn10 := hJ hn10
  have hX : (fun W' : World => Mod (fun k_ => (Value.slice A6 n6 c6).ownBlock = some k_) w6 W') w10 := hS.trans hm10 (fun i hi e => by
   rcases hfar i e with h | h
   · exact h
   omega)
  clear hN10 hX10 hn10 hm10 hS hN9 hE9 hf10 hfar
  refine hK.out _ _ hX (fun hS => ?_)
  clear hK K hX
  try simp only [pL]
  refine tkH 11 (some 3) rfl rfl ?_ hS ?_ ?_
  rotate_left
  ·
   rintro W' hm'
   skip
   go_simp
   try rfl
  try simp only [pL]
  refine wpAnyH_done (by kernel_rfl) ?_ _
  clear hS b4 b5 b6 b7 b8 b9
  go_wp2
  go_ret
  exact Hfin.out _ _ _ _ _ (by rw [Hd.out, zlF, ← HD6.out, ← HD4.out]; simp only [List.append_assoc]) Hn10.out.symm HN10.out HX10.out
 have d1 : (x.kind == 1) = false := by simpa using k1
 by_cases k2 : x.kind = 2
 ·
  have d2 : (x.kind == 2) = true := by simp [k2]
  have hd : xT x = I ++ zhY x.conf := by rw [Hen.out, if_neg k1, if_pos k2]
  have Hd := hJ hd
  clear k1 k2 hd
  have b12 : w1.cell? ⟨q, 12, none⟩ = some _ := zB HA1.out rfl
  have b13 : w1.cell? ⟨q, 13, none⟩ = some _ := zB HA1.out rfl
  have b14 : w1.cell? ⟨q, 14, none⟩ = some _ := zB HA1.out rfl
  have b15 : w1.cell? ⟨q, 15, none⟩ = some _ := zB HA1.out rfl
  go_wp2_with fail
  refine (p_conf x.conf Hxf.out w1).mono ?_
  rintro e w2 ⟨v2, rfl, hN2, hX2⟩
  replace HN := hJ (HN.out.ext hX2)
  replace HX := hJ (HX.out.ext hX2)
  have hb2 := hN2.sl
  have hl2 : (zhY x.conf).length ≤ 40 := jD _
  have hln1 := Hn1.out
  clear hN2 hX2
  go_wp2_with (at_builtin; refine zW rfl _ _ rfl (.slice A1 n1 c1) I W rfl HN.out HX.out _ _ (zhY x.conf) rfl hb2 (by omega) ?_)
  intro A4 n4 c4 w4 hn4 hN4 hX4 _ _
  have HN4 := hJ hN4
  have HX4 := hJ hX4
  have Hn4 := hJ hn4
  clear hN4 hX4 hn4 hb2
  go_wp2
  go_ret
  exact Hfin.out _ _ _ _ _ Hd.out (by rw [List.length_append, Hn1.out]; exact Hn4.out.symm) HN4.out HX4.out
 have d2 : (x.kind == 2) = false := by simpa using k2
 have hd : xT x = I := by rw [Hen.out, if_neg k1, if_neg k2, List.append_nil]
 have Hd := hJ hd
 clear k1 k2 hd
 go_wp2
 go_ret
 exact Hfin.out _ _ _ _ _ Hd.out Hn1.out HN.out HX.out
end Go.Proofs.YtjhnlncgmejkcaaGreat
namespace Go.Proofs.YtjhnlncgmejkcaaGreat
set_option linter.unusedSimpArgs false
open Go.RowKit
def Rp (w : World) (T : Nat → Prop) (b : Nat) (bs : List UInt8) (a : Nat) (r : RS) : Prop :=
 ∃ v, w.heap[b]? = some (.cells #[v, .int .i64 (a : Int), .int .i64 r.e] 154 (0, 0)) ∧ Byt w T v bs ∧ ¬ T b ∧ a ≤ bs.length ∧ r.left = bs.drop a
def RpX (w : World) (T : Nat → Prop) (b : Nat) (bs : List UInt8) (r : RS) : Prop := ∃ a, Rp w T b bs a r
theorem Rp.mod {w w' : World} {S T : Nat → Prop} {b a : Nat} {bs : List UInt8} {r : RS} (h : Rp w T b bs a r) (hm : Mod S w w') (hb : ¬ S b) (hd : ∀ g, T g → ¬ S g) : Rp w' T b bs a r := by
 obtain ⟨v, hb', hs, hT, ha, hl⟩ := h
 exact ⟨v, hm.blk hb' hb, hs.mod hm hd, hT, ha, hl⟩
theorem RpX.mod {w w' : World} {S T : Nat → Prop} {b : Nat} {bs : List UInt8} {r : RS} (h : RpX w T b bs r) (hm : Mod S w w') (hb : ¬ S b) (hd : ∀ g, T g → ¬ S g) : RpX w' T b bs r := by
 obtain ⟨a, h⟩ := h
 exact ⟨a, h.mod hm hb hd⟩
theorem za8 {w : World} {b : Nat} {x y z : Value} {t : TypeId} (hb : w.heap[b]? = some (.cells #[x, y, z] t (0, 0))) :
  w.cell? ⟨b, 0, none⟩ = some x ∧ w.cell? ⟨b, 1, none⟩ = some y ∧ w.cell? ⟨b, 2, none⟩ = some z ∧ w.frozen? ⟨b, 1, none⟩ = false ∧ w.frozen? ⟨b, 2, none⟩ = false := by
 simp [World.cell?, World.frozen?, hb]
theorem rp_at {w : World} {b : Nat} {v y z : Value} {t : TypeId} (k : Int) (hb : w.heap[b]? = some (.cells #[v, y, z] t (0, 0))) :
  (w.setCell ⟨b, 1, none⟩ (.int .i64 k)).heap[b]? = some (.cells #[v, .int .i64 k, z] t (0, 0)) ∧ Mod (fun k => k = b) w (w.setCell ⟨b, 1, none⟩ (.int .i64 k)) :=
 ⟨by simp [World.setCell, Array.getElem?_modify, hb], (Mod.refl (fun k => k = b) w).setCell (p := ⟨b, 1, none⟩) (.inr rfl) _⟩
theorem rp_err {w : World} {b : Nat} {v y z : Value} {t : TypeId} (k : Int) (hb : w.heap[b]? = some (.cells #[v, y, z] t (0, 0))) :
  (w.setCell ⟨b, 2, none⟩ (.int .i64 k)).heap[b]? = some (.cells #[v, y, .int .i64 k] t (0, 0)) ∧ Mod (fun k => k = b) w (w.setCell ⟨b, 2, none⟩ (.int .i64 k)) :=
 ⟨by simp [World.setCell, Array.getElem?_modify, hb], (Mod.refl (fun k => k = b) w).setCell (p := ⟨b, 2, none⟩) (.inr rfl) _⟩
theorem zcT (w : World) (T : Nat → Prop) (b : Nat) (bs : List UInt8) (a : Nat) (r : RS) (x : Int) (h : Rp w T b bs a r) :
  Calls Tryz.prog 158 #[.pointer (some ⟨b, 0, none⟩), .int .i64 x] w fun e w' => e = .returned (.tuple #[]) ∧ Rp w' T b bs a (r.fail x) ∧ Mod (fun k => k = b) w w' := by
 obtain ⟨v, hb, hs, hT, ha, hl⟩ := h
 obtain ⟨c0, c1, c2, f1, f2⟩ := za8 hb
 obtain ⟨h1, h2⟩ := rp_err x hb
 have Hb := hJ hb
 clear hb
 by_cases he : r.e = 0
 ·
  have d1 : (r.e == 0) = true := by simp [he]
  have Hf : Hid (r.fail x = ⟨r.left, x⟩) := hJ (by unfold RS.fail; rw [if_pos he])
  have H1 : Hid (Rp (w.setCell ⟨b, 2, none⟩ (.int .i64 x)) T b bs a (r.fail x)) := hJ (by rw [Hf.out]; exact ⟨v, h1, hs.mod h2 (fun g hg e => hT (e ▸ hg)), hT, ha, hl⟩)
  have H2 := hJ h2
  clear h1 h2 he
  go_enter Tryz.func158, Tryz.ntmps158
  go_wp2
  go_end0
  exact ⟨rfl, H1.out, H2.out⟩
 have d1 : (r.e == 0) = false := by simp [he]
 have Hf : Hid (r.fail x = r) := hJ (by unfold RS.fail; rw [if_neg he])
 clear h1 h2 he
 go_enter Tryz.func158, Tryz.ntmps158
 go_wp2
 go_end0
 exact ⟨rfl, by rw [Hf.out]; exact ⟨v, Hb.out, hs, hT, ha, hl⟩, Mod.refl _ _⟩
def zgE (w : World) (T : Nat → Prop) (b : Nat) (bs : List UInt8) (r : RS) (e : Ending) (w' : World) : Prop := e = .returned (.int .i64 r.int.1) ∧ RpX w' T b bs r.int.2 ∧ Mod (fun k => k = b) w w'
theorem p_join (z m i : Nat) (hz : z < 2 ^ (7 * i)) (hm : m < 256) (hi : i ≤ 9) (hi9 : i = 9 → m ≤ 1) :
  IntKind.u64.wrap ((z : Int) + IntKind.u64.wrap ((m : Int) % 128 * 2 ^ (7 * i))) = ((z + m % 128 * 2 ^ (7 * i) : Nat) : Int) ∧
  z + m % 128 * 2 ^ (7 * i) < 18446744073709551616 ∧ (i < 9 → z + m % 128 * 2 ^ (7 * i) < 2 ^ (7 * (i + 1))) := by
 obtain ⟨_, h2, h3⟩ := zj6 z m i hz hm hi hi9
 refine ⟨?_, h2, h3⟩
 rw [qC, qC]
 have e : ((m : Int) % 128 * 2 ^ (7 * i)) = ((m % 128 * 2 ^ (7 * i) : Nat) : Int) := by simp
 rw [e]
 omega
theorem p_even {z : Nat} (h : z < 18446744073709551616) (h2 : z % 2 = 0) : RowKit.wrap64 (IntKind.u64.wrap ((z : Int) / 2)) = zag z := by
 rw [qC, show ((z : Int) / 2) % 18446744073709551616 = ((z / 2 : Nat) : Int) by omega, IntWalk.wrap64_in _ (by omega)]
 unfold zag
 rw [if_neg (by omega)]
theorem p_odd {z : Nat} (h : z < 18446744073709551616) (h2 : z % 2 = 1) : RowKit.wrap64 (RowKit.wrap64 (-RowKit.wrap64 (IntKind.u64.wrap ((z : Int) / 2))) - 1) = zag z := by
 rw [qC, show ((z : Int) / 2) % 18446744073709551616 = ((z / 2 : Nat) : Int) by omega, IntWalk.wrap64_in ((z / 2 : Nat) : Int) (by omega), IntWalk.wrap64_in (-((z / 2 : Nat) : Int)) (by omega), IntWalk.wrap64_in _ (by omega)]
 unfold zag
 rw [if_pos h2]
theorem p_int_ok (w : World) (T : Nat → Prop) (b : Nat) (bs : List UInt8) (a : Nat) (l : List UInt8) (h : Rp w T b bs a ⟨l, 0⟩) :
  Calls Tryz.prog 119 #[.pointer (some ⟨b, 0, none⟩)] w (zgE w T b bs ⟨l, 0⟩) := by
 obtain ⟨v, hb, hs, hT, ha, hl⟩ := h
 obtain ⟨c0, c1, c2, f1, f2⟩ := za8 hb
 obtain ⟨A, c, rfl⟩ := hs.form
 have hlen : bs.length ≤ maxLen := hs.le
 unfold maxLen at hlen
 obtain ⟨n, hn⟩ : ∃ n, bs.length = n := ⟨_, rfl⟩
 simp only at hl c2 hb
 unfold Byt at hs
 simp only [hn] at hs ha hlen hb c0
 have Hn := hJ hn
 have Hb := hJ hb
 have Hl := hJ hl
 clear hb hn hl
 go_enter Tryz.func119, Tryz.ntmps119
 go_wp2
 go_loopw [3, 4] (fun zv iv wr => ∃ i z q : Nat, i ≤ 9 ∧ a + i ≤ n ∧ iv = .int .i64 i ∧ zv = .int .u64 z ∧ wr = w.drewN q ∧ z < 2 ^ (7 * i) ∧ zaY 0 0 l = zaY i z (l.drop i)) (fun _ iv _ => 10 - (intOf iv).toNat)
 case atStart => exact ⟨0, 0, 0, by omega, by omega, rfl, rfl, rfl, by decide, rfl⟩
 obtain ⟨i, z, q, hi9, hin, rfl, rfl, rfl, hz, hrd⟩ := hrel
 have Hz := hJ hz
 have Hrd := hJ hrd
 clear hz hrd
 have hfail : zaY i z (l.drop i) = none → ∀ q w', Rp w' T b bs a (RS.fail ⟨l, 0⟩ 3) → Mod (fun k => k = b) (w.drewN q) w' → zgE w T b bs ⟨l, 0⟩ (.returned (.int .i64 0)) w' := by
  intro h q w' h1 h2
  unfold zgE
  rw [zlD (Hrd.out.trans h)]
  exact ⟨rfl, ⟨a, h1⟩, Mod.trans ((Mod.refl _ w).drewN q) h2 (fun _ _ e => e)⟩
 have hrp : ∀ q, Rp (w.drewN q) T b bs a ⟨l, 0⟩ := fun q => ⟨_, Hb.out, by unfold Byt; rw [Hn.out]; exact hs.drewN q, hT, by rw [Hn.out]; exact ha, Hl.out⟩
 have Hrp := hJ hrp
 have Hfail := hJ hfail
 clear hfail hrp
 obtain ⟨j, hj⟩ : ∃ j, a + i = j := ⟨_, rfl⟩
 have hw1 : IntKind.i64.wrap ((a : Int) + (i : Int)) = (j : Int) := by rw [IntWalk.i64_in _ (by omega)]; omega
 have Hj := hJ hj
 clear hj
 have i10 : decide ((i : Int) < 10) = true := by simp; omega
 by_cases hi : j < n
 ·
  have dj : decide (n ≤ j) = false := by simp; omega
  obtain ⟨g, off, x, rfl, hx, hcell⟩ := zb0 hs hi
  have hxlt := zhU x
  obtain ⟨m, hm⟩ : ∃ m, x.toNat = m := ⟨_, rfl⟩
  rw [hm] at hcell hxlt
  have Hm := hJ hm
  obtain ⟨mi, hmi⟩ : ∃ mi : Int, (m : Int) = mi := ⟨_, rfl⟩
  rw [hmi] at hcell
  have b1 : 0 ≤ mi := by omega
  have b2 : mi < 256 := by omega
  have HM := hJ hmi
  have hx2 : l[i]? = some x := by
   rw [Hl.out, List.getElem?_drop, Hj.out]
   exact hx
  have Hx := hJ hx2
  clear hx hm hx2 hmi
  have j0 : (0 : Int) ≤ (j : Int) := by omega
  have j1 : (j : Int) < (n : Int) := by omega
  by_cases hA : (i = 9 ∧ 1 < m) ∨ (m = 0 ∧ 0 < i)
  ·
   have hg : (((i : Int) == 9) = true ∧ decide (1 < mi) = true) ∨ (((i : Int) == 9) = false ∧ decide (0 < i) = true ∧ (mi == 0) = true) ∨ (((i : Int) == 9) = true ∧ decide (1 < mi) = false ∧ decide (0 < i) = true ∧ (mi == 0) = true) := by have := HM.out; simp; omega
   have Hbad := hJ (zhQ (z := z) Hx.out Hm.out hA)
   clear hA
   rcases hg with ⟨g1, g2⟩ | ⟨g1, g2, g3⟩ | ⟨g1, g2, g3, g4⟩
   all_goals
    go_wp2
    go_quiet (fail)
    go_wp2
    go_quiet (fail)
    go_wp2_with fail
    refine (zcT _ T b bs a ⟨l, 0⟩ 3 (Hrp.out _)).mono ?_
    rintro e w1 ⟨rfl, hR, hmd⟩
    go_wp2
    go_ret
    exact Hfail.out Hbad.out _ _ hR hmd
  have h1 : ¬ (i = 9 ∧ 1 < m) := fun e => hA (.inl e)
  have h2 : ¬ (m = 0 ∧ 0 < i) := fun e => hA (.inr e)
  obtain ⟨hor, hz1, hz2⟩ := p_join z m i Hz.out hxlt hi9 (by omega)
  obtain ⟨z', hz'⟩ : ∃ z', z + m % 128 * 2 ^ (7 * i) = z' := ⟨_, rfl⟩
  rw [hz'] at hor hz1 hz2
  rw [HM.out] at hor
  have hg : (((i : Int) == 9) = false ∧ decide (0 < i) = false) ∨ (((i : Int) == 9) = false ∧ decide (0 < i) = true ∧ (mi == 0) = false) ∨ (((i : Int) == 9) = true ∧ decide (1 < mi) = false ∧ decide (0 < i) = true ∧ (mi == 0) = false) := by have := HM.out; simp; omega
  have Hz1 := hJ hz1
  have Hz2 := hJ hz2
  have Hz' := hJ hz'
  have H1 := hJ h1
  have H2 := hJ h2
  clear hz1 hz2 hz' hA h1 h2
  by_cases hC : 128 ≤ m
  ·
   have hlt : decide (mi < 128) = false := by have := HM.out; simp; omega
   rcases hg with ⟨g1, g2⟩ | ⟨g1, g2, g3⟩ | ⟨g1, g2, g3, g4⟩
   all_goals
    go_wp2
    go_quiet (fail)
    go_wp2
    go_quiet (fail)
    go_wp2
    exact ⟨⟨i + 1, z', _, by have := H1.out; have := Hj.out; omega, by have := Hj.out; omega, by go_num, rfl, rfl, Hz2.out (by have := H1.out; omega), by rw [Hrd.out, znY Hx.out Hm.out H1.out hC, Hz'.out]⟩, by simp [intOf]; omega⟩
  have hlt : decide (mi < 128) = true := by have := HM.out; simp; omega
  have hput : ∀ q, zgE w T b bs ⟨l, 0⟩ (.returned (.int .i64 (zag z'))) ((w.drewN q).setCell ⟨b, 1, none⟩ (.int .i64 ((j : Int) + 1))) := by
   intro q
   unfold zgE
   rw [zhP (Hrd.out.trans ((rd_end Hx.out Hm.out H1.out H2.out (by omega)).trans (by rw [Hz'.out])))]
   obtain ⟨p1, p2⟩ := rp_at (w := w.drewN q) ((j : Int) + 1) Hb.out
   have p3 := Mod.trans ((Mod.refl (fun k => k = b) w).drewN q) p2 (fun _ _ e => e)
   refine ⟨rfl, ⟨a + i + 1, .slice (some ⟨g, off, none⟩) n c, ?_, ?_, hT, by rw [Hn.out, Hj.out]; omega, ?_⟩, p3⟩
   · rw [p1, Hj.out]; simp
   · unfold Byt
     rw [Hn.out]
     exact hs.mod p3 (fun g hg e => hT (e ▸ hg))
   rw [Hl.out, List.drop_drop, Nat.add_assoc]
  have HP := hJ hput
  clear hput
  rcases hg with ⟨g1, g2⟩ | ⟨g1, g2, g3⟩ | ⟨g1, g2, g3, g4⟩
  all_goals
   rcases Nat.mod_two_eq_zero_or_one z' with h2 | h2
   ·
    go_wp2
    go_quiet (fail)
    go_wp2
    go_quiet (fail)
    go_wp2
    rw [p_even Hz1.out h2]
    go_ret
    exact HP.out _
   go_wp2
   go_quiet (fail)
   go_wp2
   go_quiet (fail)
   go_wp2
   rw [p_odd Hz1.out h2]
   go_ret
   exact HP.out _
 have dj : decide (n ≤ j) = true := by simp; omega
 have Hbad : Hid (zaY i z (l.drop i) = none) := hJ (by rw [Hl.out, List.drop_drop, Hj.out, List.drop_eq_nil_of_le (by rw [Hn.out]; omega)]; rfl)
 go_wp2
 go_quiet (fail)
 go_wp2_with fail
 refine (zcT _ T b bs a ⟨l, 0⟩ 3 (Hrp.out _)).mono ?_
 rintro e w1 ⟨rfl, hR, hmd⟩
 go_wp2
 go_ret
 exact Hfail.out Hbad.out _ _ hR hmd
theorem za3 (w : World) (T : Nat → Prop) (b : Nat) (bs : List UInt8) (r : RS) (h : RpX w T b bs r) :
  Calls Tryz.prog 119 #[.pointer (some ⟨b, 0, none⟩)] w (zgE w T b bs r) := by
 obtain ⟨a, h⟩ := h
 obtain ⟨l, x⟩ := r
 by_cases he : x = 0
 · subst he; exact p_int_ok w T b bs a l h
 have H := hJ h
 obtain ⟨v, hb, hs, hT, ha, hl⟩ := h
 obtain ⟨c0, c1, c2, f1, f2⟩ := za8 hb
 have he2 : (x != 0) = true := by simp [he]
 have Hi : Hid (RS.int ⟨l, x⟩ = (0, ⟨l, x⟩)) := hJ (by simp [RS.int, he])
 simp only at c2
 clear hb hs hl
 go_enter Tryz.func119, Tryz.ntmps119
 go_wp2
 go_ret
 unfold zgE
 rw [Hi.out]
 exact ⟨rfl, ⟨a, H.out⟩, Mod.refl _ _⟩
end Go.Proofs.YtjhnlncgmejkcaaGreat
