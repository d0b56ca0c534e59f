/-
 The contract of the page's Put (printed by stbpu.py). Conditions: as the theorem names them.
-/
import Derived.Test.YtjhnlncgmejkcaaGreatTakeI
import Derived.Test.YtjhnlncgmejkcaaGreatS25
import Derived.Test.YtjhnlncgmejkcaaGreatStbMo
set_option maxRecDepth 100000
set_option maxHeartbeats 2000000
namespace Go.Proofs.YtjhnlncgmejkcaaGreat
set_option linter.unusedSimpArgs false
open Go.RowKit
def PutO (w : World) (o : Option zC) (e : Ending) (w' : World) : Prop := Ext w w' ∧ match o with
 | none => ∃ c : Int, c ≠ 0 ∧ e = .returned (.tuple #[.agg #[.int .i64 0, .int .i64 0, .int .i64 0, .int .i64 0, .int .i64 0, .int .i64 0, .int .i64 0, .int .i64 0, .slice none 0 0, .slice none 0 0], .int .i64 c])
 | some x => ∃ sv lv, e = .returned (.tuple #[.agg (x.cells sv lv).toArray, .int .i64 0]) ∧ jP w w' sv lv x
theorem PutO.no {w : World} {o : Option zC} {e : Ending} {w' : World} (c : Int) (ho : o = none) (hE : Ext w w') (hc : c ≠ 0) (he : e = .returned (.tuple #[.agg #[.int .i64 0, .int .i64 0, .int .i64 0, .int .i64 0, .int .i64 0, .int .i64 0, .int .i64 0, .int .i64 0, .slice none 0 0, .slice none 0 0], .int .i64 c])) : PutO w o e w' := by
 subst ho; exact ⟨hE, c, hc, he⟩
theorem zbJ.drop {w : World} {T : Nat → Prop} {A : Option Addr} {n c m : Nat} {l : List zI} (h : zbJ w T (.slice A n c) l) (hn : l.length = n) (hm : m ≤ n) : zbJ w T (.slice (cutA A m c 16) (n - m) (c - m)) (l.drop m) := by
 obtain ⟨h1, h2⟩ := h
 rw [hn] at h1
 refine ⟨?_, fun x hx => h2 x (List.mem_of_mem_drop hx)⟩
 have h3 := h1.cutA hm
 have e : (l.drop m).length = n - m := by rw [List.length_drop, hn]
 rw [e, ← zgJ (k := 16) (c := zI.cells) (fun _ => rfl)]
 exact h3
theorem zbJ.upto {w : World} {T : Nat → Prop} {A : Option Addr} {n c m : Nat} {l : List zI} (h : zbJ w T (.slice A n c) l) (hn : l.length = n) (hm : m ≤ n) : zbJ w T (.slice A m c) (l.take m) := by
 obtain ⟨h1, h2⟩ := h
 rw [hn] at h1
 refine ⟨?_, fun x hx => h2 x (List.mem_of_mem_take hx)⟩
 have h3 := h1.upto hm
 have e : (l.take m).length = m := by rw [List.length_take, hn]; omega
 rw [e, ← zgG (k := 16) (c := zI.cells) (fun _ => rfl)]
 exact h3
section
variable {ops : Array Oper} {o : Oper} {a : Act} {w0 w : World} {Q : Exit → Act → World → Prop} {xs ys : List zI} {v xv : Value}
theorem appE (hN : zaX w0 w v xs) (hE : Ext w0 w) (hy : ∀ x ∈ ys, x.ok) {w' : World} {v' : Value} (ho : w'.ownsRow 0 56 16 v' (xs.length + ys.length) (xs.flatMap zI.cells ++ ys.flatMap zI.cells)) (hgr : w.grownBy w' v.ownBlock) (hat : v'.ownBlock = v.ownBlock ∨ v'.ownBlock = some w.heap.size) :
  ∃ A c, v' = .slice A (xs ++ ys).length c ∧ zaX w0 w' (.slice A (xs ++ ys).length c) (xs ++ ys) ∧ Ext w0 w' := by
 have h1 := zdX (q := w.heap.size) hN hy rfl rfl ho hat hE.size
 obtain ⟨A, c, rfl⟩ := zaX.form h1
 exact ⟨A, c, rfl, h1, hE.grown hgr (fun k e => .inl (hN.2.2 k e))⟩
theorem zeD {K : Act → World → Prop} {E : Prop} (hgd : o.guard = none) (s x : Operand) (ho : o.op = .call { callee := .builtin .append, args := #[s, x], argTypes := #[32, 32] })
  (v : Value) (xs : List zI) (w0 : World) (hs : a.eval s = v) (hN : zaX w0 w v xs) (hE : Ext w0 w) (T : Nat → Prop) (xv : Value) (ys : List zI) (hx : a.eval x = xv) (hb : zbJ w T xv ys) (hl : xs.length + ys.length ≤ 100000000)
  (h : ∀ A n c w', n = (xs ++ ys).length → zaX w0 w' (.slice A n c) (xs ++ ys) → Ext w0 w' → Mod (fun k => v.ownBlock = some k) w w' → K (a.put o.dst (.slice A n c)) w') :
  if Region.wanted o (yielded ops a.tmps) = true then Oper.wp Tryz.prog o a w K Q else E := by
 obtain ⟨i0, hi, hz0, hz1, hz2⟩ := info_parts zbC
 refine ze6 _ hgd s x 32 ho 56 i0 _ 16 152 Tryz.underlying32 hi hz0 hz1 hz2 rfl (by omega) v xs.length (xs.flatMap zI.cells) hs hN.1 T xv ys.length (ys.flatMap zI.cells) hx hb.1 (xX ys) (by simp only [maxLen]; omega) (by omega) ?_
 intro v' w' ho' hgr hat
 obtain ⟨A, c, rfl, h1, h2⟩ := appE hN hE hb.2 ho' hgr hat
 exact h A _ c w' rfl h1 h2 ((Mod.refl _ w).grown hgr (fun k_ e => .inr e))
end
theorem atE_get (h : zC) (m : Nat) : atE h (h.base + m + 1) = h.log[m]? := by
 unfold atE
 split
 · rw [List.getElem?_eq_none (by omega)]
 congr 1
 omega
theorem xS (h : zC) (A B : Option Addr) (n c m d : Nat) : ∀ v ∈ h.cells (.slice A n c) (.slice B m d), v.oneCell' = true := by
 intro v hv; simp only [List.mem_cons, List.not_mem_nil, or_false] at hv; rcases hv with rfl | rfl | rfl | rfl | rfl | rfl | rfl | rfl | rfl | rfl <;> rfl
theorem zqK {log : List zI} {p k : Nat} {l : List zI} {x y : zI} (hx : l[k]? = some x) (hy : log[p + k]? = some y) (e : y.term = x.term) : zgY log (p + k) (l.drop k) = zgY log (p + (k + 1)) (l.drop (k + 1)) := by
 obtain ⟨h1, h2⟩ := List.getElem?_eq_some_iff.1 hx
 rw [List.drop_eq_getElem_cons h1, h2, zgY, hy]
 simp only [e, if_true]
 rfl
theorem zjT {log : List zI} {p k : Nat} {l : List zI} {x : zI} (hx : l[k]? = some x) (hn : ∀ y, log[p + k]? = some y → y.term ≠ x.term) : zgY log (p + k) (l.drop k) = log.take (p + k) ++ l.drop k := by
 obtain ⟨h1, h2⟩ := List.getElem?_eq_some_iff.1 hx
 rw [List.drop_eq_getElem_cons h1, h2, zgY]
 split
 · rename_i y hy
   rw [if_neg (hn y hy)]
 rfl
theorem r8_put (w : World) (T U : Nat → Prop) (h : zC) (As : Option Addr) (sl cs : Nat) (Al : Option Addr) (ll cl : Nat) (i : Int) (Bl : Option Addr) (gg bl : Nat) (l : List zI) (hv : zY w T (.slice As sl cs) (.slice Al ll cl) h) (hsn : h.snap.length = sl) (hll : h.log.length = ll) (hL : zbJ w U (.slice Bl gg bl) l) (hgg : l.length = gg) (hr : Right h) (hl : ll ≤ 1000000) (hg : gg ≤ 1000000) :
  Calls Tryz.prog 45 #[.agg #[.int .i64 h.term, .int .i64 h.vote, .int .i64 h.base, .int .i64 h.baseTerm, .int .i64 h.conf.full, .int .i64 h.conf.wit, .int .i64 h.conf.learn, .int .i64 h.conf.learnWit, .slice As sl cs, .slice Al ll cl], .int .i64 i, .slice Bl gg bl] w (PutO w (znR h i l)) := by
 obtain ⟨W, hW⟩ : ∃ W, W = (w.alloc (.cells (h.cells (.slice As sl cs) (.slice Al ll cl)).toArray 34)).alloc (.cells zH.toArray 34) := ⟨_, rfl⟩
 obtain ⟨hA, hB, hsz⟩ := zaC w (.cells (h.cells (.slice As sl cs) (.slice Al ll cl)).toArray 34) (.cells zH.toArray 34)
 obtain ⟨b, hb⟩ : ∃ b, w.heap.size = b := ⟨_, rfl⟩
 rw [← hW, hb] at hA hB
 have hE : Ext w W := by rw [hW]; exact ((Mod.refl _ w).alloc _).alloc _
 obtain ⟨R, hR⟩ : ∃ R, znR h i l = R := ⟨_, rfl⟩
 have hld := zF (P := Tryz.prog) (o := 0) (cs := h.cells (.slice As sl cs) (.slice Al ll cl)) zA hA rfl (fun j u hu => by rw [Nat.zero_add]; exact hu)
 rw [hR]
 have HW := hJ hW
 have HA0 := hJ hA
 have HB0 := hJ hB
 have Hb := hJ hb
 have HX0 := hJ hE
 have Hll := hJ hll
 have Hsn := hJ hsn
 have Hgg := hJ hgg
 have Hv := hJ hv
 have HR := hJ hR
 have HL := hJ hL
 have HRi := hJ hr
 clear hW hA hB hb hE hsz hll hsn hgg hv hR hL hr
 go_enter Tryz.func45, Tryz.ntmps45
 go_wp2_with (rw [← HW.out, Hb.out]; refine zG rfl 34 _ rfl _ _ rfl hld ?_)
 clear hld
 refine (zbL W T h _ _ (Hv.out.mod HX0.out (fun _ _ => id)) (by rw [Hll.out]; exact hl)).mono ?_
 rintro e w1 ⟨rfl, hE⟩
 rw [(yI h).2 HRi.out]
 have HA1 := hJ (hE.blk HA0.out id)
 have HB1 := hJ (hE.blk HB0.out id)
 have HX1 := hJ (HX0.out.ext hE)
 clear hE
 have hld := zF (P := Tryz.prog) (o := 0) (cs := h.cells (.slice As sl cs) (.slice Al ll cl)) zA HA1.out rfl (fun j u hu => by rw [Nat.zero_add]; exact hu)
 go_wp2_with (refine zG rfl 34 _ rfl _ _ rfl hld ?_)
 clear hld
 refine (zkP w1 T h _ _ (Hv.out.mod HX1.out (fun _ _ => id)) (by rw [Hll.out]; exact hl) HRi.out.b0 HRi.out.b1).mono ?_
 rintro e w2 ⟨rfl, hE⟩
 have HA2 := hJ (hE.blk HA1.out id)
 have HB2 := hJ (hE.blk HB1.out id)
 have HX2 := hJ (HX1.out.ext hE)
 clear hE
 have Hv2 := hJ (Hv.out.mod HX2.out (fun _ _ => id))
 have HL2 := hJ (HL.out.mod HX2.out (fun _ _ => id))
 have c0 : w2.cell? ⟨b, 0, none⟩ = some (.int .i64 h.term) := zB (cs := (h.cells (.slice As sl cs) (.slice Al ll cl))) HA2.out rfl
 have c2 : w2.cell? ⟨b, 2, none⟩ = some (.int .i64 h.base) := zB (cs := (h.cells (.slice As sl cs) (.slice Al ll cl))) HA2.out rfl
 have hbl : b < w2.heap.size := (Array.getElem?_eq_some_iff.1 HA2.out).1
 obtain ⟨tv, htv⟩ : ∃ tv, (!(decide (h.base ≤ i) && decide (i ≤ zcF h)) || !zdK h.term (max (zeC h i) 1) l) = tv := ⟨_, rfl⟩
 have Htv := hJ htv
 clear htv
 obtain ⟨li, hli⟩ : ∃ li, zcF h = li := ⟨_, rfl⟩
 rw [hli] at Htv ⊢
 have Hli := hJ hli
 clear hli
 go_upto_region 4 with fail
 go_cut [38] (fun s38 wx => s38 = .bool tv ∧ Ext w2 wx)
 case first =>
  rcases hwi : (decide (h.base ≤ i) && decide (i ≤ li)) with _ | _
  ·
   have Ht : Hid (tv = true) := hJ (by rw [← Htv.out, hwi]; rfl)
   refine wp_region_held_drew (S := fun W' => Ext w2 W') (by kernel_rfl) (Mod.refl _ w2).drew (fun hS => ?_)
   iterate 4
    (first | refine tkJ 0 (some 23) rfl rfl ?_ hS ?_ ?_ | refine tkJ 1 (some 24) rfl rfl ?_ hS ?_ ?_ | refine tkJ 2 (some 25) rfl rfl ?_ hS ?_ ?_ | refine tkJ 3 (some 26) rfl rfl ?_ hS ?_ ?_); rotate_left; · rintro W' _ _; go_simp; try rfl
    try simp only [pL]
   refine xJ 4 rfl (fun K hK => ?_)
   go_simp
   go_wp2_with fail
   refine (xQ i h.base li w2.drew).mono ?_
   rintro e w6 ⟨rfl, rfl⟩
   rw [hwi]
   have hX := hS
   go_simp
   refine hK.out _ _ hX (fun hS => ?_)
   clear hK K hX
   try simp only [pL]
   iterate 11
    first | refine tkJ 5 (some 28) rfl rfl ?_ hS ?_ ?_ | refine tkJ 6 (some 29) rfl rfl ?_ hS ?_ ?_ | refine tuI 7 (some 30) rfl rfl hS ?_ | refine tuI 8 (some 31) rfl rfl hS ?_ | refine tuI 9 (some 32) rfl rfl hS ?_ | refine tuI 10 (some 33) rfl rfl hS ?_ | refine tuI 11 (some 34) rfl rfl hS ?_ | refine tuI 12 (some 35) rfl rfl hS ?_ | refine tuI 13 (some 36) rfl rfl hS ?_ | refine tuI 14 (some 37) rfl rfl hS ?_ | refine tkJ 15 (some 38) rfl rfl ?_ hS ?_ ?_
    try
     rotate_left
     · rintro W' _ _; go_simp; try rfl
    try simp only [pL]
   refine wpAnyH_done (by kernel_rfl) ?_ _
   go_wp2_with fail
   go_meet
   exact ⟨by rw [Ht.out], hS⟩
  rcases hrw : zdK h.term (max (zeC h i) 1) l with _ | _
  focus
   have Ht : Hid (tv = true) := hJ (by rw [← Htv.out, hwi, hrw]; rfl)
  rotate_left
  focus
   have Ht : Hid (tv = false) := hJ (by rw [← Htv.out, hwi, hrw]; rfl)
  all_goals
   refine wp_region_held_drew (S := fun W' => Ext w2 W') (by kernel_rfl) (Mod.refl _ w2).drew (fun hS => ?_)
   iterate 4
    (first | refine tkJ 0 (some 23) rfl rfl ?_ hS ?_ ?_ | refine tkJ 1 (some 24) rfl rfl ?_ hS ?_ ?_ | refine tkJ 2 (some 25) rfl rfl ?_ hS ?_ ?_ | refine tkJ 3 (some 26) rfl rfl ?_ hS ?_ ?_); rotate_left; · rintro W' _ _; go_simp; try rfl
    try simp only [pL]
   refine xJ 4 rfl (fun K hK => ?_)
   go_simp
   go_wp2_with fail
   refine (xQ i h.base li w2.drew).mono ?_
   rintro e w6 ⟨rfl, rfl⟩
   rw [hwi]
   have hX := hS
   go_simp
   refine hK.out _ _ hX (fun hS => ?_)
   clear hK K hX
   try simp only [pL]
   iterate 3
    (first | refine tkJ 5 (some 28) rfl rfl ?_ hS ?_ ?_ | refine tkJ 6 (some 29) rfl rfl ?_ hS ?_ ?_ | refine tkJ 7 (some 30) rfl rfl ?_ hS ?_ ?_); rotate_left; · rintro W' _ _; go_simp; try rfl
    try simp only [pL]
   refine tkH 8 (some 31) rfl rfl (.agg (h.cells (.slice As sl cs) (.slice Al ll cl)).toArray) hS ?_ ?_
   · rintro W' hW'
     obtain ⟨hbc, hbf⟩ := zc3 hW'
     exact yD _ _ rfl (.pointer (some ⟨b, 0, none⟩)) _ rfl (zF (P := Tryz.prog) (o := 0) (cs := h.cells (.slice As sl cs) (.slice Al ll cl)) zA (hW'.blk HA2.out id) rfl (fun j u hu => by rw [Nat.zero_add]; exact hu))
   try simp only [pL]
   iterate 3
    (first | refine tkJ 9 (some 32) rfl rfl ?_ hS ?_ ?_ | refine tkJ 11 (some 34) rfl rfl ?_ hS ?_ ?_ | refine tkJ 12 (some 35) rfl rfl ?_ hS ?_ ?_); rotate_left; · rintro W' _ _; go_simp; try rfl
    try simp only [pL]
   refine xJ 10 rfl (fun K hK => ?_)
   go_simp
   go_wp2_with fail
   refine (zqG w2.drew T h As sl cs Al ll cl i (by have h1 := Hv2.out.2; exact h1) Hll.out hl HRi.out.b0 HRi.out.b1).mono ?_
   rintro e w6 ⟨rfl, hE6⟩
   have hLe := (HL2.out.mod (Mod.ext (Mod.refl _ w2).drew hE6) (fun _ _ => id))
   have HLe := hJ hLe
   clear hLe
   have hX := (hS.ext hE6)
   go_simp
   refine hK.out _ _ hX (fun hS => ?_)
   clear hK K hX
   try simp only [pL]
   refine xJ 13 rfl (fun K hK => ?_)
   go_simp
   go_wp2_with fail
   refine (zpN _ U _ l (zeC h i) h.term HLe.out (by rw [Hgg.out]; exact hg)).mono ?_
   rintro e w7 ⟨rfl, hE7⟩
   rw [hrw]
   have hX := (hS.ext hE7)
   go_simp
   refine hK.out _ _ hX (fun hS => ?_)
   clear hK K hX
   try simp only [pL]
   iterate 2
    (first | refine tkJ 14 (some 37) rfl rfl ?_ hS ?_ ?_ | refine tkJ 15 (some 38) rfl rfl ?_ hS ?_ ?_); rotate_left; · rintro W' _ _; go_simp; try rfl
    try simp only [pL]
   refine wpAnyH_done (by kernel_rfl) ?_ _
   go_wp2_with fail
   go_meet
   exact ⟨by rw [Ht.out], hS⟩
 obtain ⟨rfl, hE⟩ := hcut
 have HAc := hJ (hE.blk HA2.out id)
 have HBc := hJ (hE.blk HB2.out id)
 have HXc := hJ (HX2.out.ext hE)
 clear hE c0 c2 hbl
 rcases tv with _ | _
 rotate_left
 ·
  have HRn : Hid (R = none) := hJ (by
   rw [← HR.out]
   unfold znR
   have h1 := Htv.out
   simp only [Bool.or_eq_true, Bool.not_eq_true', Bool.and_eq_false_iff, decide_eq_false_iff_not] at h1
   rw [Hli.out, if_pos (by rcases h1 with (h1 | h1) | h1; exact .inl (by omega); exact .inr (.inl (by omega)); exact .inr (.inr h1))])
  go_wp2_with (refine zD rfl 34 _ _ rfl 10 (b + 1) 0 zH rfl rfl zA _ zH zH HBc.out rfl (by simp) (List.all_eq_true.1 rfl) rfl ?_)
  intro w9 hb9 hm9 hs9
  have HX9 := hJ (HXc.out.trans hm9 (fun k hk e => by have := Hb.out; omega))
  clear hm9 hs9
  go_wp2_with fail
  exact bodyPost_ret (zL rfl _ w9 (b + 1) _ _ zA rfl hb9 rfl) rfl (PutO.no 1 HRn.out HX9.out (by omega) rfl)
 have hf := Htv.out
 simp only [Bool.or_eq_false_iff, Bool.not_eq_false', Bool.and_eq_true, decide_eq_true_eq] at hf
 have hib : h.base ≤ i ∧ i ≤ li := hf.1
 obtain ⟨p, hp⟩ : ∃ p, (i - h.base).toNat = p := ⟨_, rfl⟩
 have hpi : i = h.base + (p : Int) := by omega
 have hpl : p ≤ ll := by have h1 := Hli.out; unfold zcF at h1; have := Hll.out; omega
 have HRs : Hid (R = some { h with log := zgY h.log p l }) := hJ (by
  rw [← HR.out]
  unfold znR
  rw [Hli.out, hp, if_neg]
  rintro (e | e | e)
  · omega
  · omega
  rw [hf.2] at e; cases e)
 have Hpi := hJ hpi
 have Hib := hJ hib
 clear hp hf Htv hpi hib
 have hld := zF (P := Tryz.prog) (o := 0) (cs := h.cells (.slice As sl cs) (.slice Al ll cl)) zA HAc.out rfl (fun j u hu => by rw [Nat.zero_add]; exact hu)
 go_wp2_with (refine zG rfl 34 _ rfl _ _ rfl hld ?_)
 clear hld
 refine (zbE wc T h _ _ (Hv.out.mod HXc.out (fun _ _ => id)) (by rw [Hll.out]; exact hl) (by have := HRi.out.s; omega)).mono ?_
 rintro e w3 ⟨sv3, lv3, rfl, hN3, hE⟩
 have HA3 := hJ (hE.blk HAc.out id)
 have HB3 := hJ (hE.blk HBc.out id)
 have HX3 := hJ (HXc.out.ext hE)
 obtain ⟨A3, c3, A4, c4, rfl, rfl⟩ := hN3.forms
 have hN3' := hN3.up HXc.out
 rw [Hsn.out, Hll.out] at hN3' ⊢
 have HN3 := hJ hN3'
 obtain ⟨q, hq⟩ : ∃ q, w3.heap.size = q := ⟨_, rfl⟩
 have hz : (w3.alloc (.cells zH.toArray 34)).heap[q]? = some (.cells zH.toArray 34 (0, 0)) := by rw [← hq]; exact heap_alloc_new w3 _
 have Hq := hJ hq
 clear hE hN3 hN3' hq
 go_wp2_with (rw [Hq.out]; refine zD rfl 34 _ _ rfl 10 q 0 (h.cells (.slice A3 sl c3) (.slice A4 ll c4)) rfl rfl zA _ zH (h.cells (.slice A3 sl c3) (.slice A4 ll c4)) hz rfl (by simp) (xS _ _ _ _ _ _ _) rfl ?_)
 intro w4 hb4 hm4 hs4
 have hE : Ext w3 w4 := ((Mod.refl (fun _ => False) w3).alloc (.cells zH.toArray 34)).trans hm4 (fun k hk e => by have := Hq.out; omega)
 have HA4 := hJ (hE.blk HA3.out id)
 have HB4 := hJ (hE.blk HB3.out id)
 have HX4 := hJ (HX3.out.ext hE)
 have HQ4 := hJ hb4
 have HN4 := hJ (HN3.out.ext hE)
 have HL4 := hJ (HL.out.mod HX4.out (fun _ _ => id))
 have hbq : b < q := by have h1 := (Array.getElem?_eq_some_iff.1 HA3.out).1; have := Hq.out; omega
 have hbq1 : b + 1 < q := by have h1 := (Array.getElem?_eq_some_iff.1 HB3.out).1; have := Hq.out; omega
 have hqw : w.heap.size ≤ q := by have := HX3.out.size; have := Hq.out; omega
 clear hE hb4 hm4 hs4 hz
 go_upto_block 0 with fail
 go_cut [11, 12, 13] from 42 to 82 (fun _ _ _ wx => ∃ (A : Option Addr) (n c : Nat), wx.heap[q]? = some (.cells (h.cells (.slice A3 sl c3) (.slice A n c)).toArray 34 (0, 0)) ∧ jP w wx (.slice A3 sl c3) (.slice A n c) { h with log := zgY h.log p l } ∧ Ext w wx ∧ wx.heap[b + 1]? = some (.cells zH.toArray 34 (0, 0)))
 case first =>
  go_wp2_with fail
  go_loopw [11, 12, 13] (fun iv _ _ wr => ∃ k : Nat, k ≤ gg ∧ p + k ≤ ll ∧ iv = .int .i64 k ∧ Ext w4 wr ∧ Hid (zgY h.log (p + k) (l.drop k) = zgY h.log p l)) (fun iv _ _ _ => gg - (intOf iv).toNat)
  case atStart => exact ⟨0, by omega, by omega, rfl, Mod.refl _ w4, hJ (by rw [List.drop_zero]; rfl)⟩
  obtain ⟨k, hk, hpk, rfl, hE, HF⟩ := hrel
  have HAr := hJ (hE.blk HA4.out id)
  have HBr := hJ (hE.blk HB4.out id)
  have HXr := hJ (HX4.out.ext hE)
  have HQr := hJ (hE.blk HQ4.out id)
  have HNr := hJ (HN4.out.ext hE)
  have HEr := hJ hE
  clear hE
  by_cases hi2 : k < gg
  rotate_left
  ·
   have HFe : Hid (zgY h.log p l = h.log) := hJ (by rw [← HF.out, List.drop_of_length_le (by rw [Hgg.out]; omega)]; rfl)
   go_wp2_with fail
   go_meet
   exact ⟨A4, ll, c4, HQr.out, by rw [HFe.out]; exact HNr.out, HXr.out, HBr.out⟩
  obtain ⟨gb, ob, x, rfl, _, hx, hxok, hcx⟩ := (HL4.out.mod HEr.out (fun _ _ => id)).at hi2
  have iw1 : IntKind.i64.wrap (i + (k : Int)) = i + (k : Int) := IntWalk.i64_in _ (by have := HRi.out.b1; have := HRi.out.b0; have := Hpi.out; omega)
  have iw2 : IntKind.i64.wrap (i + (k : Int) + 1) = i + (k : Int) + 1 := IntWalk.i64_in _ (by have := HRi.out.b1; have := HRi.out.b0; have := Hpi.out; omega)
  have hi0 : (0 : Int) ≤ (k : Int) := by omega
  have hi1 : (k : Int) < (gg : Int) := by omega
  have x0 := hcx 0 _ rfl
  rw [Nat.add_zero] at x0
  have Hx := hJ hx
  have hldq := zF (P := Tryz.prog) (o := 0) (cs := h.cells (.slice A3 sl c3) (.slice A4 ll c4)) zA HQr.out rfl (fun j u hu => by rw [Nat.zero_add]; exact hu)
  clear hcx hx hxok
  go_wp2_with (refine zG rfl 34 _ rfl _ _ rfl hldq ?_)
  clear hldq
  refine (r8_at wr _ h A3 sl c3 A4 ll c4 (i + (k : Int) + 1) HNr.out.mem.2 Hll.out hl HRi.out.b0 HRi.out.b1).mono ?_
  rintro e w5 ⟨rfl, hE⟩
  have HA5 := hJ (hE.blk HAr.out id)
  have HB5 := hJ (hE.blk HBr.out id)
  have HX5 := hJ (HXr.out.ext hE)
  have HQ5 := hJ (hE.blk HQr.out id)
  have HN5 := hJ (HNr.out.ext hE)
  have HE5 := hJ (HEr.out.ext hE)
  replace x0 := hE.cell x0 id
  have hat0 : atE h (i + (k : Int) + 1) = h.log[p + k]? := by rw [← atE_get]; congr 1; have := Hpi.out; omega
  rw [hat0]
  obtain ⟨r, hrs⟩ : ∃ r, w5.heap.size = r := ⟨_, rfl⟩
  have hz : (w5.alloc (.cells zE.toArray 56)).heap[r]? = some (.cells zE.toArray 56 (0, 0)) := by rw [← hrs]; exact heap_alloc_new w5 _
  have Hr := hJ hrs
  have hgr : gb < r := by rw [← hrs]; exact World.block_lt_of_cell? w5 ⟨gb, ob + k * 16, none⟩ x0
  have hqr : q < r := by rw [← hrs]; exact (Array.getElem?_eq_some_iff.1 HQ5.out).1
  clear hat0 hE hrs
  rcases hat : h.log[p + k]? with _ | y
  ·
   have Hat := hJ hat
   have HFe : Hid (zgY h.log p l = h.log.take (p + k) ++ l.drop k) := hJ (by rw [← HF.out]; exact zjT Hx.out (fun y hy => by rw [Hat.out] at hy; cases hy))
   clear hat
   unfold atO
   simp only [Option.isSome_none]
   go_wp2_with (rw [Hr.out]; refine zD rfl 56 _ _ rfl 16 r 0 zE rfl rfl zM _ zE zE hz rfl (by simp) zmJ rfl ?_)
   intro w6 hb6 hm6 hs6
   have hE : Ext w5 w6 := ((Mod.refl (fun _ => False) w5).alloc (.cells zE.toArray 56)).trans hm6 (fun k hk e => by have := Hr.out; omega)
   have HA6 := hJ (hE.blk HA5.out id)
   have HB6 := hJ (hE.blk HB5.out id)
   have HX6 := hJ (HX5.out.ext hE)
   have HQ6 := hJ (hE.blk HQ5.out id)
   have HN6 := hJ (HN5.out.ext hE)
   have HE6 := hJ (HE5.out.ext hE)
   have HR6 := hJ hb6
   replace x0 := hE.cell x0 id
   clear hE hb6 hm6 hs6 hz
   go_upto_region 11 with fail
   go_cut [67] (fun s67 wx => s67 = .bool false ∧ Ext w6 wx)
   case first =>
    go_quiet (fail)
    go_wp2_with fail
    go_meet
    exact ⟨rfl, (Mod.refl _ w6).drewN _⟩
   obtain ⟨rfl, hE⟩ := hcut
   have HA7 := hJ (hE.blk HA6.out id)
   have HB7 := hJ (hE.blk HB6.out id)
   have HX7 := hJ (HX6.out.ext hE)
   have HQ7 := hJ (hE.blk HQ6.out id)
   have HN7 := hJ (HN6.out.ext hE)
   have HE7 := hJ (HE6.out.ext hE)
   have HZ7 : Hid (w.heap.size ≤ wc.heap.size) := hJ HX7.out.size
   clear hE x0
   obtain ⟨m, hm⟩ : ∃ m, p + k = m := ⟨_, rfl⟩
   have iw3 : IntKind.i64.wrap (i + (k : Int) - h.base) = (m : Int) := by rw [IntWalk.i64_in _ (by have := HRi.out.b1; have := HRi.out.b0; have := Hpi.out; omega)]; have := Hpi.out; omega
   have hm0 : (0 : Int) ≤ (m : Int) := by omega
   have hml : m ≤ ll := by omega
   have hlc : ll ≤ c4 := by
    obtain ⟨_, A', c', e, h1, _⟩ := HN7.out.mem.2.1
    injection e with _ e2 e3
    have := Hll.out
    omega
   have hm1 : (m : Int) ≤ (c4 : Int) := by omega
   have hk2 : (k : Int) ≤ (gg : Int) := by omega
   rw [hm] at HFe
   clear hm hlc
   have c9q : wc.cell? ⟨q, 9, none⟩ = some (.slice A4 ll c4) := zB (cs := h.cells (.slice A3 sl c3) (.slice A4 ll c4)) HQ7.out rfl
   have c2b : wc.cell? ⟨b, 2, none⟩ = some (.int .i64 h.base) := zB (cs := (h.cells (.slice As sl cs) (.slice Al ll cl))) HA7.out rfl
   have hbqn : ¬ b = q := by omega
   go_wp2_with fail
   refine wp_region_held_drew (S := fun W' => Mod (fun k => k = q) wc W') (by kernel_rfl) (Mod.refl _ wc).drew (fun hS => ?_)
   iterate 10
    first | refine tkI 0 (some 68) rfl rfl ?_ hS ?_ ?_ | refine tkI 2 (some 70) rfl rfl ?_ hS ?_ ?_ | refine tkI 3 (some 71) rfl rfl ?_ hS ?_ ?_ | refine tkI 4 (some 72) rfl rfl ?_ hS ?_ ?_ | refine tkI 5 (some 73) rfl rfl ?_ hS ?_ ?_ | refine tkI 6 (some 74) rfl rfl ?_ hS ?_ ?_ | refine tkI 7 (some 75) rfl rfl ?_ hS ?_ ?_ | refine tkI 10 (some 78) rfl rfl ?_ hS ?_ ?_ | refine tkI 11 (some 79) rfl rfl ?_ hS ?_ ?_ | refine tkI 12 (some 80) rfl rfl ?_ hS ?_ ?_
    rotate_left
    · rintro W' hW'
      have y2 := hW'.cell c2b hbqn
      go_simp
      try rfl
    try simp only [pL]
   refine xJ 1 rfl (fun K hK => ?_)
   go_simp
   refine hK.out _ _ (hS) (fun hS => ?_)
   clear hK K
   try simp only [pL]
   refine tkH 8 (some 76) rfl rfl ?_ hS ?_ ?_
   rotate_left
   · rintro W' hW'
     have y2 := hW'.cell c2b hbqn
     go_simp
     try rfl
   try simp only [pL]
   refine xJ 9 rfl (fun K hK => ?_)
   go_simp
   go_wp2_with fail
   refine (jG wc.drew _ _ (h.log.take m) (by have h1 := zbJ.upto HN7.out.mem.2 Hll.out hml; exact h1) (by rw [List.length_take]; omega)).mono ?_
   rintro e w8 ⟨v8, rfl, hN8, hE8⟩
   obtain ⟨A8, c8, rfl⟩ := zaX.form hN8
   have htl : (h.log.take m).length = m := by rw [List.length_take, Hll.out]; omega
   rw [htl] at hN8 ⊢
   clear htl
   have HE8 : Hid (Ext wc w8) := hJ (Mod.ext (Mod.refl _ wc).drew hE8)
   have HN8 : Hid (zaX w w8 (.slice A8 m c8) (h.log.take m)) := hJ (jT hN8 HX7.out.size)
   have HX8 : Hid (Ext w w8) := hJ (HX7.out.drew.ext hE8)
   have HL8 : Hid (zbJ w8 U _ (l.drop k)) := hJ (zbJ.drop (HL4.out.mod (HE7.out.drew.ext hE8) (fun _ _ => id)) Hgg.out hk)
   have HNt : Hid (∀ g, (Value.slice A8 m c8).ownBlock = some g → wc.heap.size ≤ g) := hJ hN8.2.2
   have HN38 : Hid (yO w w8 (.slice A3 sl c3) h.snap) := hJ (HN7.out.1.ext (Mod.ext (Mod.refl _ wc).drew hE8))
   clear hN8
   have hX := (hS.ext hE8)
   go_simp
   refine hK.out _ _ hX (fun hS => ?_)
   clear hK K hX
   try simp only [pL]
   refine xJ 13 rfl (fun K hK => ?_)
   refine zeD rfl _ _ rfl (.slice A8 m c8) _ w rfl HN8.out HX8.out _ (.slice (cutA (some ⟨gb, ob, none⟩) k bl 16) (gg - k) (bl - k)) _ rfl HL8.out (by rw [List.length_take, List.length_drop]; have := Hgg.out; omega) ?_
   rintro A9 n9 c9 w9 hn9 hN9 hX9 hM9
   have HN9 := hJ hN9
   have HX9 := hJ hX9
   have hE9 : Ext wc w9 := HE8.out.trans hM9 (fun k hk e => by have h1 := HNt.out k e; omega)
   have HE9 := hJ hE9
   have HN39 : Hid (yO w w9 (.slice A3 sl c3) h.snap) := hJ ⟨zU HN38.out.1 hM9 (fun g hg e => zbV HN38.out.1 HN8.out.1 (by decide) hg e), HN38.out.2⟩
   clear hn9 hN9 hX9 hM9
   refine hK.out _ _ (hE9.mod _) (fun hS => ?_)
   clear hK K
   try simp only [pL]
   refine tkH 14 (some 82) rfl rfl ?_ hS ?_ ?_
   rotate_left
   · rintro W' hW'
     have y2 := hW'.cell c2b hbqn
     go_simp
     try rfl
   try simp only [pL]
   refine xJ 15 rfl (fun K hK => ?_)
   have HQ9 := hJ (Mod.blk HE9.out HQ7.out id)
   have HB9 := hJ (Mod.blk HE9.out HB7.out id)
   have f9 : w9.frozen? ⟨q, 9, none⟩ = false := zK 9 HQ9.out
   have d9 : w9.cell? ⟨q, 9, none⟩ = some (.slice A4 ll c4) := zB (cs := h.cells (.slice A3 sl c3) (.slice A4 ll c4)) HQ9.out rfl
   go_simp
   obtain ⟨wz, hwz⟩ : ∃ wz, w9.setCell ⟨q, 9, none⟩ (.slice A9 n9 c9) = wz := ⟨_, rfl⟩
   rw [hwz]
   have HQz : Hid (wz.heap[q]? = some (.cells (h.cells (.slice A3 sl c3) (.slice A9 n9 c9)).toArray 34 (0, 0))) := hJ (by rw [← hwz]; simp [World.setCell, Array.getElem?_modify, HQ9.out])
   have HMz : Hid (Mod (fun k => k = q) w9 wz) := hJ (by rw [← hwz]; exact zO (Mod.refl _ w9) _ _)
   clear hwz f9 d9
   refine hK.out _ _ ((hS.self HMz.out)) (fun hS => ?_)
   clear hK K
   try simp only [pL]
   refine wpAnyH_done (by kernel_rfl) ?_ _
   go_wp2_with fail
   go_meet
   exact ⟨A9, n9, c9, HQz.out, by rw [HFe.out]; exact jP.box ⟨HN39.out, HN9.out⟩ HQ9.out HMz.out (by decide) (by decide), HX9.out.trans HMz.out (fun k hk e => by omega), HMz.out.blk HB9.out (by omega)⟩
  have Hat := hJ hat
  clear hat
  unfold atO
  simp only [Option.isSome_some]
  have hone := xX [y]
  by_cases hty : y.term = x.term
  ·
   have HF2 : Hid (zgY h.log (p + (k + 1)) (l.drop (k + 1)) = zgY h.log p l) := hJ (by rw [← HF.out]; exact (zqK Hx.out Hat.out hty).symm)
   have hb : (y.term == x.term) = true := by simpa using hty
   have hpk2 : p + (k + 1) ≤ ll := by have h1 := (List.getElem?_eq_some_iff.1 Hat.out).1; have := Hll.out; omega
   clear hty
   go_wp2_with (rw [Hr.out]; refine zD rfl 56 _ _ rfl 16 r 0 y.cells rfl rfl zM _ zE y.cells hz rfl (by simp) (by simpa using hone) rfl ?_)
   intro w6 hb6 hm6 hs6
   have hE : Ext w5 w6 := ((Mod.refl (fun _ => False) w5).alloc (.cells zE.toArray 56)).trans hm6 (fun k hk e => by have := Hr.out; omega)
   have HA6 := hJ (hE.blk HA5.out id)
   have HB6 := hJ (hE.blk HB5.out id)
   have HX6 := hJ (HX5.out.ext hE)
   have HQ6 := hJ (hE.blk HQ5.out id)
   have HN6 := hJ (HN5.out.ext hE)
   have HE6 := hJ (HE5.out.ext hE)
   have HR6 := hJ hb6
   replace x0 := hE.cell x0 id
   clear hE hb6 hm6 hs6 hz
   have q0 : w6.cell? ⟨r, 0, none⟩ = some (.int .i64 y.term) := zB HR6.out rfl
   go_upto_region 11 with fail
   go_cut [67] (fun s67 wx => s67 = .bool true ∧ Ext w6 wx)
   case first =>
    go_quiet (fail)
    go_wp2_with fail
    go_meet
    exact ⟨rfl, (Mod.refl _ w6).drewN _⟩
   obtain ⟨rfl, hE⟩ := hcut
   have HA7 := hJ (hE.blk HA6.out id)
   have HB7 := hJ (hE.blk HB6.out id)
   have HX7 := hJ (HX6.out.ext hE)
   have HQ7 := hJ (hE.blk HQ6.out id)
   have HN7 := hJ (HN6.out.ext hE)
   have HE7 := hJ (HE6.out.ext hE)
   have HZ7 : Hid (w.heap.size ≤ wc.heap.size) := hJ HX7.out.size
   clear hE x0 q0
   go_wp2_with fail
   go_roundw
   case rel => exact ⟨k + 1, by omega, hpk2, by go_num, HE7.out, HF2⟩
   case measure => simp [intOf]; omega
  have HFe : Hid (zgY h.log p l = h.log.take (p + k) ++ l.drop k) := hJ (by rw [← HF.out]; exact zjT Hx.out (fun y2 hy => by rw [Hat.out] at hy; injection hy with hy; rw [← hy]; exact hty))
  have hb : (y.term == x.term) = false := by simpa using hty
  clear hty
  go_wp2_with (rw [Hr.out]; refine zD rfl 56 _ _ rfl 16 r 0 y.cells rfl rfl zM _ zE y.cells hz rfl (by simp) (by simpa using hone) rfl ?_)
  intro w6 hb6 hm6 hs6
  have hE : Ext w5 w6 := ((Mod.refl (fun _ => False) w5).alloc (.cells zE.toArray 56)).trans hm6 (fun k hk e => by have := Hr.out; omega)
  have HA6 := hJ (hE.blk HA5.out id)
  have HB6 := hJ (hE.blk HB5.out id)
  have HX6 := hJ (HX5.out.ext hE)
  have HQ6 := hJ (hE.blk HQ5.out id)
  have HN6 := hJ (HN5.out.ext hE)
  have HE6 := hJ (HE5.out.ext hE)
  have HR6 := hJ hb6
  replace x0 := hE.cell x0 id
  clear hE hb6 hm6 hs6 hz
  have q0 : w6.cell? ⟨r, 0, none⟩ = some (.int .i64 y.term) := zB HR6.out rfl
  go_upto_region 11 with fail
  go_cut [67] (fun s67 wx => s67 = .bool false ∧ Ext w6 wx)
  case first =>
   go_quiet (fail)
   go_wp2_with fail
   go_meet
   exact ⟨rfl, (Mod.refl _ w6).drewN _⟩
  obtain ⟨rfl, hE⟩ := hcut
  have HA7 := hJ (hE.blk HA6.out id)
  have HB7 := hJ (hE.blk HB6.out id)
  have HX7 := hJ (HX6.out.ext hE)
  have HQ7 := hJ (hE.blk HQ6.out id)
  have HN7 := hJ (HN6.out.ext hE)
  have HE7 := hJ (HE6.out.ext hE)
  have HZ7 : Hid (w.heap.size ≤ wc.heap.size) := hJ HX7.out.size
  clear hE x0 q0
  obtain ⟨m, hm⟩ : ∃ m, p + k = m := ⟨_, rfl⟩
  have iw3 : IntKind.i64.wrap (i + (k : Int) - h.base) = (m : Int) := by rw [IntWalk.i64_in _ (by have := HRi.out.b1; have := HRi.out.b0; have := Hpi.out; omega)]; have := Hpi.out; omega
  have hm0 : (0 : Int) ≤ (m : Int) := by omega
  have hml : m ≤ ll := by omega
  have hlc : ll ≤ c4 := by
   obtain ⟨_, A', c', e, h1, _⟩ := HN7.out.mem.2.1
   injection e with _ e2 e3
   have := Hll.out
   omega
  have hm1 : (m : Int) ≤ (c4 : Int) := by omega
  have hk2 : (k : Int) ≤ (gg : Int) := by omega
  rw [hm] at HFe
  clear hm hlc
  have c9q : wc.cell? ⟨q, 9, none⟩ = some (.slice A4 ll c4) := zB (cs := h.cells (.slice A3 sl c3) (.slice A4 ll c4)) HQ7.out rfl
  have c2b : wc.cell? ⟨b, 2, none⟩ = some (.int .i64 h.base) := zB (cs := (h.cells (.slice As sl cs) (.slice Al ll cl))) HA7.out rfl
  have hbqn : ¬ b = q := by omega
  go_wp2_with fail
  refine wp_region_held_drew (S := fun W' => Mod (fun k => k = q) wc W') (by kernel_rfl) (Mod.refl _ wc).drew (fun hS => ?_)
  iterate 10
   first | refine tkI 0 (some 68) rfl rfl ?_ hS ?_ ?_ | refine tkI 2 (some 70) rfl rfl ?_ hS ?_ ?_ | refine tkI 3 (some 71) rfl rfl ?_ hS ?_ ?_ | refine tkI 4 (some 72) rfl rfl ?_ hS ?_ ?_ | refine tkI 5 (some 73) rfl rfl ?_ hS ?_ ?_ | refine tkI 6 (some 74) rfl rfl ?_ hS ?_ ?_ | refine tkI 7 (some 75) rfl rfl ?_ hS ?_ ?_ | refine tkI 10 (some 78) rfl rfl ?_ hS ?_ ?_ | refine tkI 11 (some 79) rfl rfl ?_ hS ?_ ?_ | refine tkI 12 (some 80) rfl rfl ?_ hS ?_ ?_
   rotate_left
   · rintro W' hW'
     have y2 := hW'.cell c2b hbqn
     go_simp
     try rfl
   try simp only [pL]
  refine xJ 1 rfl (fun K hK => ?_)
  go_simp
  refine hK.out _ _ (hS) (fun hS => ?_)
  clear hK K
  try simp only [pL]
  refine tkH 8 (some 76) rfl rfl ?_ hS ?_ ?_
  rotate_left
  ·
   rintro W' hW'
   have y2 := hW'.cell c2b hbqn
   go_simp
   try rfl
  try simp only [pL]
  refine xJ 9 rfl (fun K hK => ?_)
  go_simp
  go_wp2_with fail
  refine (jG wc.drew _ _ (h.log.take m) (by have h1 := zbJ.upto HN7.out.mem.2 Hll.out hml; exact h1) (by rw [List.length_take]; omega)).mono ?_
  rintro e w8 ⟨v8, rfl, hN8, hE8⟩
  obtain ⟨A8, c8, rfl⟩ := zaX.form hN8
  have htl : (h.log.take m).length = m := by rw [List.length_take, Hll.out]; omega
  rw [htl] at hN8 ⊢
  clear htl
  have HE8 : Hid (Ext wc w8) := hJ (Mod.ext (Mod.refl _ wc).drew hE8)
  have HN8 : Hid (zaX w w8 (.slice A8 m c8) (h.log.take m)) := hJ (jT hN8 HX7.out.size)
  have HX8 : Hid (Ext w w8) := hJ (HX7.out.drew.ext hE8)
  have HL8 : Hid (zbJ w8 U _ (l.drop k)) := hJ (zbJ.drop (HL4.out.mod (HE7.out.drew.ext hE8) (fun _ _ => id)) Hgg.out hk)
  have HNt : Hid (∀ g, (Value.slice A8 m c8).ownBlock = some g → wc.heap.size ≤ g) := hJ hN8.2.2
  have HN38 : Hid (yO w w8 (.slice A3 sl c3) h.snap) := hJ (HN7.out.1.ext (Mod.ext (Mod.refl _ wc).drew hE8))
  clear hN8
  have hX := (hS.ext hE8)
  go_simp
  refine hK.out _ _ hX (fun hS => ?_)
  clear hK K hX
  try simp only [pL]
  refine xJ 13 rfl (fun K hK => ?_)
  refine zeD rfl _ _ rfl (.slice A8 m c8) _ w rfl HN8.out HX8.out _ (.slice (cutA (some ⟨gb, ob, none⟩) k bl 16) (gg - k) (bl - k)) _ rfl HL8.out (by rw [List.length_take, List.length_drop]; have := Hgg.out; omega) ?_
  rintro A9 n9 c9 w9 hn9 hN9 hX9 hM9
  have HN9 := hJ hN9
  have HX9 := hJ hX9
  have hE9 : Ext wc w9 := HE8.out.trans hM9 (fun k hk e => by have h1 := HNt.out k e; omega)
  have HE9 := hJ hE9
  have HN39 : Hid (yO w w9 (.slice A3 sl c3) h.snap) := hJ ⟨zU HN38.out.1 hM9 (fun g hg e => zbV HN38.out.1 HN8.out.1 (by decide) hg e), HN38.out.2⟩
  clear hn9 hN9 hX9 hM9
  refine hK.out _ _ (hE9.mod _) (fun hS => ?_)
  clear hK K
  try simp only [pL]
  refine tkH 14 (some 82) rfl rfl ?_ hS ?_ ?_
  rotate_left
  ·
   rintro W' hW'
   have y2 := hW'.cell c2b hbqn
   go_simp
   try rfl
  try simp only [pL]
  refine xJ 15 rfl (fun K hK => ?_)
  have HQ9 := hJ (Mod.blk HE9.out HQ7.out id)
  have HB9 := hJ (Mod.blk HE9.out HB7.out id)
  have f9 : w9.frozen? ⟨q, 9, none⟩ = false := zK 9 HQ9.out
  have d9 : w9.cell? ⟨q, 9, none⟩ = some (.slice A4 ll c4) := zB (cs := h.cells (.slice A3 sl c3) (.slice A4 ll c4)) HQ9.out rfl
  go_simp
  obtain ⟨wz, hwz⟩ : ∃ wz, w9.setCell ⟨q, 9, none⟩ (.slice A9 n9 c9) = wz := ⟨_, rfl⟩
  rw [hwz]
  have HQz : Hid (wz.heap[q]? = some (.cells (h.cells (.slice A3 sl c3) (.slice A9 n9 c9)).toArray 34 (0, 0))) := hJ (by rw [← hwz]; simp [World.setCell, Array.getElem?_modify, HQ9.out])
  have HMz : Hid (Mod (fun k => k = q) w9 wz) := hJ (by rw [← hwz]; exact zO (Mod.refl _ w9) _ _)
  clear hwz f9 d9
  refine hK.out _ _ ((hS.self HMz.out)) (fun hS => ?_)
  clear hK K
  try simp only [pL]
  refine wpAnyH_done (by kernel_rfl) ?_ _
  go_wp2_with fail
  go_meet
  exact ⟨A9, n9, c9, HQz.out, by rw [HFe.out]; exact jP.box ⟨HN39.out, HN9.out⟩ HQ9.out HMz.out (by decide) (by decide), HX9.out.trans HMz.out (fun k hk e => by omega), HMz.out.blk HB9.out (by omega)⟩
 obtain ⟨An, nn, cn, hQ, hN, hX, hB⟩ := hcut
 have hld := zF (P := Tryz.prog) (o := 0) (cs := h.cells (.slice A3 sl c3) (.slice An nn cn)) zA hQ rfl (fun j u hu => by rw [Nat.zero_add]; exact hu)
 have HX := hJ hX
 have HB := hJ hB
 have HN := hJ hN
 clear hQ hN hX hB
 go_wp2_with (first | (refine zG rfl 34 _ rfl _ _ rfl hld ?_) | (refine zD rfl 34 _ _ rfl 10 (b + 1) 0 (h.cells (.slice A3 sl c3) (.slice An nn cn)) rfl rfl zA _ zH (h.cells (.slice A3 sl c3) (.slice An nn cn)) HB.out rfl (by simp) (xS _ _ _ _ _ _ _) rfl ?_))
 intro w9 hb9 hm9 hs9
 have HX9 := hJ (HX.out.trans hm9 (fun k hk e => by have := Hb.out; omega))
 have HN9 := hJ (HN.out.box HB.out hm9 (by decide) (by decide))
 clear hm9 hs9 hld
 go_wp2_with fail
 exact bodyPost_ret (zL rfl _ w9 (b + 1) _ _ zA rfl hb9 rfl) rfl (by rw [HRs.out]; exact ⟨HX9.out, _, _, rfl, HN9.out⟩)
end Go.Proofs.YtjhnlncgmejkcaaGreat
