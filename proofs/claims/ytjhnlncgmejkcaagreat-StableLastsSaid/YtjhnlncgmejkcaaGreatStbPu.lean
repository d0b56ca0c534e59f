/-
 The contract of the page's Put (printed by stbpu.py). Conditions: as the theorem names them.
-/
import Derived.Test.YtjhnlncgmejkcaaGreatS25
import Derived.Test.YtjhnlncgmejkcaaGreatStbMo
namespace Go.Proofs.YtjhnlncgmejkcaaGreat
set_option linter.unusedSimpArgs false
open Go.RowKit

/-- What Put and Compact answer. -/
def PutO (w : World) (o : Option AHard) (e : Ending) (w' : World) : Prop := Ext w w' ∧ match o with
 | none => ∃ c : Int, c ≠ 0 ∧ e = .returned (.tuple #[.agg #[.int .i64 0, .int .i64 0, .int .i64 0, .int .i64 0, .int .i64 0, .int .i64 0, .int .i64 0, .int .i64 0, .slice none 0 0, .slice none 0 0], .int .i64 c])
 | some x => ∃ sv lv, e = .returned (.tuple #[.agg (x.cells sv lv).toArray, .int .i64 0]) ∧ NewH w w' sv lv x
theorem PutO.no {w : World} {o : Option AHard} {e : Ending} {w' : World} (c : Int) (ho : o = none) (hE : Ext w w') (hc : c ≠ 0) (he : e = .returned (.tuple #[.agg #[.int .i64 0, .int .i64 0, .int .i64 0, .int .i64 0, .int .i64 0, .int .i64 0, .int .i64 0, .int .i64 0, .slice none 0 0, .slice none 0 0], .int .i64 c])) : PutO w o e w' := by
 subst ho; exact ⟨hE, c, hc, he⟩
theorem Ents.drop {w : World} {T : Nat → Prop} {A : Option Addr} {n c m : Nat} {l : List AEntry} (h : Ents w T (.slice A n c) l) (hn : l.length = n) (hm : m ≤ n) : Ents w T (.slice (cutA A m c 16) (n - m) (c - m)) (l.drop m) := by
 obtain ⟨h1, h2⟩ := h
 rw [hn] at h1
 refine ⟨?_, fun x hx => h2 x (List.mem_of_mem_drop hx)⟩
 have h3 := h1.cutA hm
 have e : (l.drop m).length = n - m := by rw [List.length_drop, hn]
 rw [e, ← flat_drop (k := 16) (c := AEntry.cells) (fun _ => rfl)]
 exact h3
theorem Ents.upto {w : World} {T : Nat → Prop} {A : Option Addr} {n c m : Nat} {l : List AEntry} (h : Ents w T (.slice A n c) l) (hn : l.length = n) (hm : m ≤ n) : Ents w T (.slice A m c) (l.take m) := by
 obtain ⟨h1, h2⟩ := h
 rw [hn] at h1
 refine ⟨?_, fun x hx => h2 x (List.mem_of_mem_take hx)⟩
 have h3 := h1.upto hm
 have e : (l.take m).length = m := by rw [List.length_take, hn]; omega
 rw [e, ← flat_take (k := 16) (c := AEntry.cells) (fun _ => rfl)]
 exact h3
section
variable {ops : Array Oper} {o : Oper} {a : Act} {w0 w : World} {Q : Exit → Act → World → Prop} {xs ys : List AEntry} {v xv : Value}
theorem appE (hN : NewE w0 w v xs) (hE : Ext w0 w) (hy : ∀ x ∈ ys, x.ok) {w' : World} {v' : Value} (ho : w'.ownsRow 0 56 16 v' (xs.length + ys.length) (xs.flatMap AEntry.cells ++ ys.flatMap AEntry.cells)) (hgr : w.grownBy w' v.ownBlock) (hat : v'.ownBlock = v.ownBlock ∨ v'.ownBlock = some w.heap.size) :
  ∃ A c, v' = .slice A (xs ++ ys).length c ∧ NewE w0 w' (.slice A (xs ++ ys).length c) (xs ++ ys) ∧ Ext w0 w' := by
 have h1 := newE_app (q := w.heap.size) hN hy rfl rfl ho hat hE.size
 obtain ⟨A, c, rfl⟩ := NewE.form h1
 exact ⟨A, c, rfl, h1, hE.grown hgr (fun k e => .inl (hN.2.2 k e))⟩
/-- Entries behind entries of one's own, as one step of a region that draws its order. -/
theorem step_appE {K : Act → World → Prop} {E : Prop} (hgd : o.guard = none) (s x : Operand) (ho : o.op = .call { callee := .builtin .append, args := #[s, x], argTypes := #[32, 32] })
  (v : Value) (xs : List AEntry) (w0 : World) (hs : a.eval s = v) (hN : NewE w0 w v xs) (hE : Ext w0 w) (T : Nat → Prop) (xv : Value) (ys : List AEntry) (hx : a.eval x = xv) (hb : Ents w T xv ys) (hl : xs.length + ys.length ≤ 100000000)
  (h : ∀ A n c w', n = (xs ++ ys).length → NewE w0 w' (.slice A n c) (xs ++ ys) → Ext w0 w' → Mod (fun k => v.ownBlock = some k) w w' → K (a.put o.dst (.slice A n c)) w') :
  if Region.wanted o (yielded ops a.tmps) = true then Oper.wp Tryz.prog o a w K Q else E := by
 obtain ⟨i0, hi, hz0, hz1, hz2⟩ := info_parts info_entry
 refine step_app _ hgd s x 32 ho 56 i0 _ 16 152 Tryz.underlying32 hi hz0 hz1 hz2 rfl (by omega) v xs.length (xs.flatMap AEntry.cells) hs hN.1 T xv ys.length (ys.flatMap AEntry.cells) hx hb.1 (entry_one ys) (by simp only [maxLen]; omega) (by omega) ?_
 intro v' w' ho' hgr hat
 obtain ⟨A, c, rfl, h1, h2⟩ := appE hN hE hb.2 ho' hgr hat
 exact h A _ c w' rfl h1 h2 ((Mod.refl _ w).grown hgr (fun k_ e => .inr e))
end
theorem atE_get (h : AHard) (m : Nat) : atE h (h.base + m + 1) = h.log[m]? := by
 unfold atE
 split
 ·
  rw [List.getElem?_eq_none (by omega)]
 ·
  congr 1
  omega
theorem h_one (h : AHard) (A B : Option Addr) (n c m d : Nat) : ∀ v ∈ h.cells (.slice A n c) (.slice B m d), v.oneCell' = true := by
 intro v hv; simp only [List.mem_cons, List.not_mem_nil, or_false] at hv; rcases hv with rfl | rfl | rfl | rfl | rfl | rfl | rfl | rfl | rfl | rfl <;> rfl
theorem putL_end {log : List AEntry} {p : Nat} : putL log p [] = log := rfl
theorem putL_more {log : List AEntry} {p k : Nat} {l : List AEntry} {x y : AEntry} (hx : l[k]? = some x) (hy : log[p + k]? = some y) (e : y.term = x.term) : putL log (p + k) (l.drop k) = putL log (p + (k + 1)) (l.drop (k + 1)) := by
 obtain ⟨h1, h2⟩ := List.getElem?_eq_some_iff.1 hx
 rw [List.drop_eq_getElem_cons h1, h2, putL, hy]
 simp only [e, if_true]
 rfl
theorem putL_stop {log : List AEntry} {p k : Nat} {l : List AEntry} {x : AEntry} (hx : l[k]? = some x) (hn : ∀ y, log[p + k]? = some y → y.term ≠ x.term) : putL log (p + k) (l.drop k) = log.take (p + k) ++ l.drop k := by
 obtain ⟨h1, h2⟩ := List.getElem?_eq_some_iff.1 hx
 rw [List.drop_eq_getElem_cons h1, h2, putL]
 split
 ·
  rename_i y hy
  rw [if_neg (hn y hy)]
 ·
  rfl

set_option maxRecDepth 100000 in
set_option maxHeartbeats 2000000 in
theorem r8_put (w : World) (T U : Nat → Prop) (h : AHard) (As : Option Addr) (sl cs : Nat) (Al : Option Addr) (ll cl : Nat) (i : Int) (Bl : Option Addr) (gg bl : Nat) (l : List AEntry) (hv : HardM w T (.slice As sl cs) (.slice Al ll cl) h) (hsn : h.snap.length = sl) (hll : h.log.length = ll) (hL : Ents w U (.slice Bl gg bl) l) (hgg : l.length = gg) (hr : Right h) (hl : ll ≤ 1000000) (hg : gg ≤ 1000000) :
  Calls Tryz.prog 45 #[.agg #[.int .i64 h.term, .int .i64 h.vote, .int .i64 h.base, .int .i64 h.baseTerm, .int .i64 h.conf.full, .int .i64 h.conf.wit, .int .i64 h.conf.learn, .int .i64 h.conf.learnWit, .slice As sl cs, .slice Al ll cl], .int .i64 i, .slice Bl gg bl] w (PutO w (putP h i l)) := by
 obtain ⟨W, hW⟩ : ∃ W, W = (w.alloc (.cells #[.int .i64 h.term, .int .i64 h.vote, .int .i64 h.base, .int .i64 h.baseTerm, .int .i64 h.conf.full, .int .i64 h.conf.wit, .int .i64 h.conf.learn, .int .i64 h.conf.learnWit, .slice As sl cs, .slice Al ll cl] 34)).alloc (.cells #[.int .i64 0, .int .i64 0, .int .i64 0, .int .i64 0, .int .i64 0, .int .i64 0, .int .i64 0, .int .i64 0, .slice none 0 0, .slice none 0 0] 34) := ⟨_, rfl⟩
 obtain ⟨hA, hB, hsz⟩ := two_new w (.cells #[.int .i64 h.term, .int .i64 h.vote, .int .i64 h.base, .int .i64 h.baseTerm, .int .i64 h.conf.full, .int .i64 h.conf.wit, .int .i64 h.conf.learn, .int .i64 h.conf.learnWit, .slice As sl cs, .slice Al ll cl] 34) (.cells #[.int .i64 0, .int .i64 0, .int .i64 0, .int .i64 0, .int .i64 0, .int .i64 0, .int .i64 0, .int .i64 0, .slice none 0 0, .slice none 0 0] 34)
 obtain ⟨b, hb⟩ : ∃ b, w.heap.size = b := ⟨_, rfl⟩
 rw [← hW, hb] at hA hB
 have hE : Ext w W := by rw [hW]; exact ((Mod.refl _ w).alloc _).alloc _
 obtain ⟨R, hR⟩ : ∃ R, putP h i l = R := ⟨_, rfl⟩
 have hld := load_row (P := Tryz.prog) (o := 0) (cs := h.cells (.slice As sl cs) (.slice Al ll cl)) str_hard hA rfl (fun j u hu => by rw [Nat.zero_add]; exact hu)
 rw [hR]
 have HW := Lib.hid hW
 have HA0 := Lib.hid hA
 have HB0 := Lib.hid hB
 have Hb := Lib.hid hb
 have HX0 := Lib.hid hE
 have Hll := Lib.hid hll
 have Hsn := Lib.hid hsn
 have Hgg := Lib.hid hgg
 have Hv := Lib.hid hv
 have HR := Lib.hid hR
 have HL := Lib.hid hL
 have HRi := Lib.hid hr
 clear hW hA hB hb hE hsz hll hsn hgg hv hR hL hr
 go_enter Tryz.func45, Tryz.ntmps45
 go_wp2_with (rw [← HW.out, Hb.out]; refine wpList_ld rfl 34 _ rfl _ _ rfl hld ?_)
 clear hld
 refine (r8_hard W T h _ _ (Hv.out.mod HX0.out (fun _ _ => id)) (by rw [Hll.out]; exact hl)).mono ?_
 rintro e w1 ⟨rfl, hE⟩
 rw [(checkH_iff h).2 HRi.out]
 have HA1 := Lib.hid (hE.blk HA0.out id)
 have HB1 := Lib.hid (hE.blk HB0.out id)
 have HX1 := Lib.hid (HX0.out.ext hE)
 clear hE
 have hld := load_row (P := Tryz.prog) (o := 0) (cs := h.cells (.slice As sl cs) (.slice Al ll cl)) str_hard HA1.out rfl (fun j u hu => by rw [Nat.zero_add]; exact hu)
 go_wp2_with (refine wpList_ld rfl 34 _ rfl _ _ rfl hld ?_)
 clear hld
 refine (r8_last w1 T h _ _ (Hv.out.mod HX1.out (fun _ _ => id)) (by rw [Hll.out]; exact hl) HRi.out.b0 HRi.out.b1).mono ?_
 rintro e w2 ⟨rfl, hE⟩
 have HA2 := Lib.hid (hE.blk HA1.out id)
 have HB2 := Lib.hid (hE.blk HB1.out id)
 have HX2 := Lib.hid (HX1.out.ext hE)
 clear hE
 have Hv2 := Lib.hid (Hv.out.mod HX2.out (fun _ _ => id))
 have HL2 := Lib.hid (HL.out.mod HX2.out (fun _ _ => id))
 have c0 : w2.cell? ⟨b, 0, none⟩ = some (.int .i64 h.term) := blk_cell (cs := [.int .i64 h.term, .int .i64 h.vote, .int .i64 h.base, .int .i64 h.baseTerm, .int .i64 h.conf.full, .int .i64 h.conf.wit, .int .i64 h.conf.learn, .int .i64 h.conf.learnWit, .slice As sl cs, .slice Al ll cl]) HA2.out rfl
 have c2 : w2.cell? ⟨b, 2, none⟩ = some (.int .i64 h.base) := blk_cell (cs := [.int .i64 h.term, .int .i64 h.vote, .int .i64 h.base, .int .i64 h.baseTerm, .int .i64 h.conf.full, .int .i64 h.conf.wit, .int .i64 h.conf.learn, .int .i64 h.conf.learnWit, .slice As sl cs, .slice Al ll cl]) HA2.out rfl
 have hbl : b < w2.heap.size := (Array.getElem?_eq_some_iff.1 HA2.out).1
 obtain ⟨tv, htv⟩ : ∃ tv, (!(decide (h.base ≤ i) && decide (i ≤ lastI h)) || !rowB h.term (max (termE h i) 1) l) = tv := ⟨_, rfl⟩
 have Htv := Lib.hid htv
 clear htv
 obtain ⟨li, hli⟩ : ∃ li, lastI h = li := ⟨_, rfl⟩
 rw [hli] at Htv ⊢
 have Hli := Lib.hid hli
 clear hli
 go_upto_region 4 with fail
 go_cut [38] (fun s38 wx => s38 = .bool tv ∧ Ext w2 wx)
 case first =>
  rcases hwi : (decide (h.base ≤ i) && decide (i ≤ li)) with _ | _
  ·
   have Ht : Hid (tv = true) := Lib.hid (by rw [← Htv.out, hwi]; rfl)
   refine wp_region_held_drew (S := fun W' => Ext w2 W') (by kernel_rfl) (Mod.refl _ w2).drew (fun hS => ?_)
   refine tkE 0 (some 23) rfl rfl ?_ hS ?_ ?_; rotate_left; · rintro W' _ _; go_simp; try with_reducible rfl
   try simp only [pL]
   refine tkE 1 (some 24) rfl rfl ?_ hS ?_ ?_; rotate_left; · rintro W' _ _; go_simp; try with_reducible rfl
   try simp only [pL]
   refine tkE 2 (some 25) rfl rfl ?_ hS ?_ ?_; rotate_left; · rintro W' _ _; go_simp; try with_reducible rfl
   try simp only [pL]
   refine tkE 3 (some 26) rfl rfl ?_ hS ?_ ?_; rotate_left; · rintro W' _ _; go_simp; try with_reducible rfl
   try simp only [pL]
   refine wpAnyH_ready (rs := [4]) (by kernel_rfl) (by simp) ?_
   refine AllReadyH.cons rfl (fun K hK => ?_) AllReadyH.nil
   go_simp
   go_wp2_with fail
   refine (r_within i h.base li w2.drew).mono ?_
   rintro e w6 ⟨rfl, rfl⟩
   rw [hwi]
   have hX := hS
   go_simp
   refine hK.out _ _ hX (fun hS => ?_)
   clear hK K hX
   try simp only [pL]
   refine tkE 5 (some 28) rfl rfl ?_ hS ?_ ?_; rotate_left; · rintro W' _ _; go_simp; try with_reducible rfl
   try simp only [pL]
   refine tkE 6 (some 29) rfl rfl ?_ hS ?_ ?_; rotate_left; · rintro W' _ _; go_simp; try with_reducible rfl
   try simp only [pL]
   refine tuH 7 (some 30) rfl rfl hS ?_
   try simp only [pL]
   refine tuH 8 (some 31) rfl rfl hS ?_
   try simp only [pL]
   refine tuH 9 (some 32) rfl rfl hS ?_
   try simp only [pL]
   refine tuH 10 (some 33) rfl rfl hS ?_
   try simp only [pL]
   refine tuH 11 (some 34) rfl rfl hS ?_
   try simp only [pL]
   refine tuH 12 (some 35) rfl rfl hS ?_
   try simp only [pL]
   refine tuH 13 (some 36) rfl rfl hS ?_
   try simp only [pL]
   refine tuH 14 (some 37) rfl rfl hS ?_
   try simp only [pL]
   refine tkE 15 (some 38) rfl rfl ?_ hS ?_ ?_; rotate_left; · rintro W' _ _; go_simp; try with_reducible rfl
   try simp only [pL]
   refine wpAnyH_done (by kernel_rfl) ?_ _
   go_wp2_with fail
   go_meet
   exact ⟨by rw [Ht.out], hS⟩
  rcases hrw : rowB h.term (max (termE h i) 1) l with _ | _
  ·
   have Ht : Hid (tv = true) := Lib.hid (by rw [← Htv.out, hwi, hrw]; rfl)
   refine wp_region_held_drew (S := fun W' => Ext w2 W') (by kernel_rfl) (Mod.refl _ w2).drew (fun hS => ?_)
   refine tkE 0 (some 23) rfl rfl ?_ hS ?_ ?_; rotate_left; · rintro W' _ _; go_simp; try with_reducible rfl
   try simp only [pL]
   refine tkE 1 (some 24) rfl rfl ?_ hS ?_ ?_; rotate_left; · rintro W' _ _; go_simp; try with_reducible rfl
   try simp only [pL]
   refine tkE 2 (some 25) rfl rfl ?_ hS ?_ ?_; rotate_left; · rintro W' _ _; go_simp; try with_reducible rfl
   try simp only [pL]
   refine tkE 3 (some 26) rfl rfl ?_ hS ?_ ?_; rotate_left; · rintro W' _ _; go_simp; try with_reducible rfl
   try simp only [pL]
   refine wpAnyH_ready (rs := [4]) (by kernel_rfl) (by simp) ?_
   refine AllReadyH.cons rfl (fun K hK => ?_) AllReadyH.nil
   go_simp
   go_wp2_with fail
   refine (r_within i h.base li w2.drew).mono ?_
   rintro e w6 ⟨rfl, rfl⟩
   rw [hwi]
   have hX := hS
   go_simp
   refine hK.out _ _ hX (fun hS => ?_)
   clear hK K hX
   try simp only [pL]
   refine tkE 5 (some 28) rfl rfl ?_ hS ?_ ?_; rotate_left; · rintro W' _ _; go_simp; try with_reducible rfl
   try simp only [pL]
   refine tkE 6 (some 29) rfl rfl ?_ hS ?_ ?_; rotate_left; · rintro W' _ _; go_simp; try with_reducible rfl
   try simp only [pL]
   refine tkE 7 (some 30) rfl rfl ?_ hS ?_ ?_; rotate_left; · rintro W' _ _; go_simp; try with_reducible rfl
   try simp only [pL]
   refine takeH (i := 8) (v := .agg (h.cells (.slice As sl cs) (.slice Al ll cl)).toArray) (some 31) rfl rfl (by kernel_rfl) (by kernel_rfl) (by kernel_rfl) (fun _ _ _ h => h) (Or.inl ⟨by kernel_rfl, ?_⟩) hS ?_
   ·
    rintro W' hW'
    obtain ⟨hbc, hbf⟩ := bcell hW'
    exact exec_ld _ _ rfl (.pointer (some ⟨b, 0, none⟩)) _ rfl (load_row (P := Tryz.prog) (o := 0) (cs := h.cells (.slice As sl cs) (.slice Al ll cl)) str_hard (hW'.blk HA2.out id) rfl (fun j u hu => by rw [Nat.zero_add]; exact hu))
   try simp only [pL]
   refine tkE 9 (some 32) rfl rfl ?_ hS ?_ ?_; rotate_left; · rintro W' _ _; go_simp; try with_reducible rfl
   try simp only [pL]
   refine tkE 11 (some 34) rfl rfl ?_ hS ?_ ?_; rotate_left; · rintro W' _ _; go_simp; try with_reducible rfl
   try simp only [pL]
   refine tkE 12 (some 35) rfl rfl ?_ hS ?_ ?_; rotate_left; · rintro W' _ _; go_simp; try with_reducible rfl
   try simp only [pL]
   refine wpAnyH_ready (rs := [10]) (by kernel_rfl) (by simp) ?_
   refine AllReadyH.cons rfl (fun K hK => ?_) AllReadyH.nil
   go_simp
   go_wp2_with fail
   refine (r8_term w2.drew T h As sl cs Al ll cl i (by have h1 := Hv2.out.2; exact h1) Hll.out hl HRi.out.b0 HRi.out.b1).mono ?_
   rintro e w6 ⟨rfl, hE6⟩
   have hLe := (HL2.out.mod (Mod.ext (Mod.refl _ w2).drew hE6) (fun _ _ => id))
   have HLe := Lib.hid hLe
   clear hLe
   have hX := (hS.ext hE6)
   go_simp
   refine hK.out _ _ hX (fun hS => ?_)
   clear hK K hX
   try simp only [pL]
   refine wpAnyH_ready (rs := [13]) (by kernel_rfl) (by simp) ?_
   refine AllReadyH.cons rfl (fun K hK => ?_) AllReadyH.nil
   go_simp
   go_wp2_with fail
   refine (r8_row _ U _ l (termE h i) h.term HLe.out (by rw [Hgg.out]; exact hg)).mono ?_
   rintro e w7 ⟨rfl, hE7⟩
   rw [hrw]
   have hX := (hS.ext hE7)
   go_simp
   refine hK.out _ _ hX (fun hS => ?_)
   clear hK K hX
   try simp only [pL]
   refine tkE 14 (some 37) rfl rfl ?_ hS ?_ ?_; rotate_left; · rintro W' _ _; go_simp; try with_reducible rfl
   try simp only [pL]
   refine tkE 15 (some 38) rfl rfl ?_ hS ?_ ?_; rotate_left; · rintro W' _ _; go_simp; try with_reducible rfl
   try simp only [pL]
   refine wpAnyH_done (by kernel_rfl) ?_ _
   go_wp2_with fail
   go_meet
   exact ⟨by rw [Ht.out], hS⟩
  ·
   have Ht : Hid (tv = false) := Lib.hid (by rw [← Htv.out, hwi, hrw]; rfl)
   refine wp_region_held_drew (S := fun W' => Ext w2 W') (by kernel_rfl) (Mod.refl _ w2).drew (fun hS => ?_)
   refine tkE 0 (some 23) rfl rfl ?_ hS ?_ ?_; rotate_left; · rintro W' _ _; go_simp; try with_reducible rfl
   try simp only [pL]
   refine tkE 1 (some 24) rfl rfl ?_ hS ?_ ?_; rotate_left; · rintro W' _ _; go_simp; try with_reducible rfl
   try simp only [pL]
   refine tkE 2 (some 25) rfl rfl ?_ hS ?_ ?_; rotate_left; · rintro W' _ _; go_simp; try with_reducible rfl
   try simp only [pL]
   refine tkE 3 (some 26) rfl rfl ?_ hS ?_ ?_; rotate_left; · rintro W' _ _; go_simp; try with_reducible rfl
   try simp only [pL]
   refine wpAnyH_ready (rs := [4]) (by kernel_rfl) (by simp) ?_
   refine AllReadyH.cons rfl (fun K hK => ?_) AllReadyH.nil
   go_simp
   go_wp2_with fail
   refine (r_within i h.base li w2.drew).mono ?_
   rintro e w6 ⟨rfl, rfl⟩
   rw [hwi]
   have hX := hS
   go_simp
   refine hK.out _ _ hX (fun hS => ?_)
   clear hK K hX
   try simp only [pL]
   refine tkE 5 (some 28) rfl rfl ?_ hS ?_ ?_; rotate_left; · rintro W' _ _; go_simp; try with_reducible rfl
   try simp only [pL]
   refine tkE 6 (some 29) rfl rfl ?_ hS ?_ ?_; rotate_left; · rintro W' _ _; go_simp; try with_reducible rfl
   try simp only [pL]
   refine tkE 7 (some 30) rfl rfl ?_ hS ?_ ?_; rotate_left; · rintro W' _ _; go_simp; try with_reducible rfl
   try simp only [pL]
   refine takeH (i := 8) (v := .agg (h.cells (.slice As sl cs) (.slice Al ll cl)).toArray) (some 31) rfl rfl (by kernel_rfl) (by kernel_rfl) (by kernel_rfl) (fun _ _ _ h => h) (Or.inl ⟨by kernel_rfl, ?_⟩) hS ?_
   ·
    rintro W' hW'
    obtain ⟨hbc, hbf⟩ := bcell hW'
    exact exec_ld _ _ rfl (.pointer (some ⟨b, 0, none⟩)) _ rfl (load_row (P := Tryz.prog) (o := 0) (cs := h.cells (.slice As sl cs) (.slice Al ll cl)) str_hard (hW'.blk HA2.out id) rfl (fun j u hu => by rw [Nat.zero_add]; exact hu))
   try simp only [pL]
   refine tkE 9 (some 32) rfl rfl ?_ hS ?_ ?_; rotate_left; · rintro W' _ _; go_simp; try with_reducible rfl
   try simp only [pL]
   refine tkE 11 (some 34) rfl rfl ?_ hS ?_ ?_; rotate_left; · rintro W' _ _; go_simp; try with_reducible rfl
   try simp only [pL]
   refine tkE 12 (some 35) rfl rfl ?_ hS ?_ ?_; rotate_left; · rintro W' _ _; go_simp; try with_reducible rfl
   try simp only [pL]
   refine wpAnyH_ready (rs := [10]) (by kernel_rfl) (by simp) ?_
   refine AllReadyH.cons rfl (fun K hK => ?_) AllReadyH.nil
   go_simp
   go_wp2_with fail
   refine (r8_term w2.drew T h As sl cs Al ll cl i (by have h1 := Hv2.out.2; exact h1) Hll.out hl HRi.out.b0 HRi.out.b1).mono ?_
   rintro e w6 ⟨rfl, hE6⟩
   have hLe := (HL2.out.mod (Mod.ext (Mod.refl _ w2).drew hE6) (fun _ _ => id))
   have HLe := Lib.hid hLe
   clear hLe
   have hX := (hS.ext hE6)
   go_simp
   refine hK.out _ _ hX (fun hS => ?_)
   clear hK K hX
   try simp only [pL]
   refine wpAnyH_ready (rs := [13]) (by kernel_rfl) (by simp) ?_
   refine AllReadyH.cons rfl (fun K hK => ?_) AllReadyH.nil
   go_simp
   go_wp2_with fail
   refine (r8_row _ U _ l (termE h i) h.term HLe.out (by rw [Hgg.out]; exact hg)).mono ?_
   rintro e w7 ⟨rfl, hE7⟩
   rw [hrw]
   have hX := (hS.ext hE7)
   go_simp
   refine hK.out _ _ hX (fun hS => ?_)
   clear hK K hX
   try simp only [pL]
   refine tkE 14 (some 37) rfl rfl ?_ hS ?_ ?_; rotate_left; · rintro W' _ _; go_simp; try with_reducible rfl
   try simp only [pL]
   refine tkE 15 (some 38) rfl rfl ?_ hS ?_ ?_; rotate_left; · rintro W' _ _; go_simp; try with_reducible rfl
   try simp only [pL]
   refine wpAnyH_done (by kernel_rfl) ?_ _
   go_wp2_with fail
   go_meet
   exact ⟨by rw [Ht.out], hS⟩
 obtain ⟨rfl, hE⟩ := hcut
 have HAc := Lib.hid (hE.blk HA2.out id)
 have HBc := Lib.hid (hE.blk HB2.out id)
 have HXc := Lib.hid (HX2.out.ext hE)
 clear hE c0 c2 hbl
 rcases tv with _ | _
 rotate_left
 ·
  have HRn : Hid (R = none) := Lib.hid (by
   rw [← HR.out]
   unfold putP
   have h1 := Htv.out
   simp only [Bool.or_eq_true, Bool.not_eq_true', Bool.and_eq_false_iff, decide_eq_false_iff_not] at h1
   rw [Hli.out, if_pos (by rcases h1 with (h1 | h1) | h1; exact .inl (by omega); exact .inr (.inl (by omega)); exact .inr (.inr h1))])
  go_wp2_with (refine wpList_stR rfl 34 _ _ rfl 10 (b + 1) 0 [.int .i64 0, .int .i64 0, .int .i64 0, .int .i64 0, .int .i64 0, .int .i64 0, .int .i64 0, .int .i64 0, .slice none 0 0, .slice none 0 0] rfl rfl str_hard _ [.int .i64 0, .int .i64 0, .int .i64 0, .int .i64 0, .int .i64 0, .int .i64 0, .int .i64 0, .int .i64 0, .slice none 0 0, .slice none 0 0] [.int .i64 0, .int .i64 0, .int .i64 0, .int .i64 0, .int .i64 0, .int .i64 0, .int .i64 0, .int .i64 0, .slice none 0 0, .slice none 0 0] HBc.out rfl (by simp) (List.all_eq_true.1 rfl) rfl ?_)
  intro w9 hb9 hm9 hs9
  have HX9 := Lib.hid (HXc.out.trans hm9 (fun k hk e => by have := Hb.out; omega))
  clear hm9 hs9
  go_wp2_with fail
  exact bodyPost_ret (results_row2 rfl _ w9 (b + 1) _ _ str_hard rfl hb9 rfl) rfl (PutO.no 1 HRn.out HX9.out (by omega) rfl)
 have hf := Htv.out
 simp only [Bool.or_eq_false_iff, Bool.not_eq_false', Bool.and_eq_true, decide_eq_true_eq] at hf
 have hib : h.base ≤ i ∧ i ≤ li := hf.1
 obtain ⟨p, hp⟩ : ∃ p, (i - h.base).toNat = p := ⟨_, rfl⟩
 have hpi : i = h.base + (p : Int) := by omega
 have hpl : p ≤ ll := by have h1 := Hli.out; unfold lastI at h1; have := Hll.out; omega
 have HRs : Hid (R = some { h with log := putL h.log p l }) := Lib.hid (by
  rw [← HR.out]
  unfold putP
  rw [Hli.out, hp, if_neg]
  rintro (e | e | e)
  ·
   omega
  ·
   omega
  ·
   rw [hf.2] at e; cases e)
 have Hpi := Lib.hid hpi
 have Hib := Lib.hid hib
 clear hp hf Htv hpi hib
 have hld := load_row (P := Tryz.prog) (o := 0) (cs := h.cells (.slice As sl cs) (.slice Al ll cl)) str_hard HAc.out rfl (fun j u hu => by rw [Nat.zero_add]; exact hu)
 go_wp2_with (refine wpList_ld rfl 34 _ rfl _ _ rfl hld ?_)
 clear hld
 refine (k_twinHard wc T h _ _ (Hv.out.mod HXc.out (fun _ _ => id)) (by rw [Hll.out]; exact hl) (by have := HRi.out.s; omega)).mono ?_
 rintro e w3 ⟨sv3, lv3, rfl, hN3, hE⟩
 have HA3 := Lib.hid (hE.blk HAc.out id)
 have HB3 := Lib.hid (hE.blk HBc.out id)
 have HX3 := Lib.hid (HXc.out.ext hE)
 obtain ⟨A3, c3, A4, c4, rfl, rfl⟩ := hN3.forms
 have hN3' := hN3.up HXc.out
 rw [Hsn.out, Hll.out] at hN3' ⊢
 have HN3 := Lib.hid hN3'
 obtain ⟨q, hq⟩ : ∃ q, w3.heap.size = q := ⟨_, rfl⟩
 have hz : (w3.alloc (.cells #[.int .i64 0, .int .i64 0, .int .i64 0, .int .i64 0, .int .i64 0, .int .i64 0, .int .i64 0, .int .i64 0, .slice none 0 0, .slice none 0 0] 34)).heap[q]? = some (.cells #[.int .i64 0, .int .i64 0, .int .i64 0, .int .i64 0, .int .i64 0, .int .i64 0, .int .i64 0, .int .i64 0, .slice none 0 0, .slice none 0 0] 34 (0, 0)) := by rw [← hq]; exact heap_alloc_new w3 _
 have Hq := Lib.hid hq
 clear hE hN3 hN3' hq
 go_wp2_with (rw [Hq.out]; refine wpList_stR rfl 34 _ _ rfl 10 q 0 (h.cells (.slice A3 sl c3) (.slice A4 ll c4)) rfl rfl str_hard _ [.int .i64 0, .int .i64 0, .int .i64 0, .int .i64 0, .int .i64 0, .int .i64 0, .int .i64 0, .int .i64 0, .slice none 0 0, .slice none 0 0] (h.cells (.slice A3 sl c3) (.slice A4 ll c4)) hz rfl (by simp) (h_one _ _ _ _ _ _ _) rfl ?_)
 intro w4 hb4 hm4 hs4
 have hE : Ext w3 w4 := ((Mod.refl (fun _ => False) w3).alloc (.cells #[.int .i64 0, .int .i64 0, .int .i64 0, .int .i64 0, .int .i64 0, .int .i64 0, .int .i64 0, .int .i64 0, .slice none 0 0, .slice none 0 0] 34)).trans hm4 (fun k hk e => by have := Hq.out; omega)
 have HA4 := Lib.hid (hE.blk HA3.out id)
 have HB4 := Lib.hid (hE.blk HB3.out id)
 have HX4 := Lib.hid (HX3.out.ext hE)
 have HQ4 := Lib.hid hb4
 have HN4 := Lib.hid (HN3.out.ext hE)
 have HL4 := Lib.hid (HL.out.mod HX4.out (fun _ _ => id))
 have hbq : b < q := by have h1 := (Array.getElem?_eq_some_iff.1 HA3.out).1; have := Hq.out; omega
 have hbq1 : b + 1 < q := by have h1 := (Array.getElem?_eq_some_iff.1 HB3.out).1; have := Hq.out; omega
 have hqw : w.heap.size ≤ q := by have := HX3.out.size; have := Hq.out; omega
 clear hE hb4 hm4 hs4 hz
 go_upto_block 0 with fail
 go_cut [11, 12, 13] from 42 to 82 (fun _ _ _ wx => ∃ (A : Option Addr) (n c : Nat), wx.heap[q]? = some (.cells #[.int .i64 h.term, .int .i64 h.vote, .int .i64 h.base, .int .i64 h.baseTerm, .int .i64 h.conf.full, .int .i64 h.conf.wit, .int .i64 h.conf.learn, .int .i64 h.conf.learnWit, .slice A3 sl c3, .slice A n c] 34 (0, 0)) ∧ NewH w wx (.slice A3 sl c3) (.slice A n c) { h with log := putL h.log p l } ∧ Ext w wx ∧ wx.heap[b + 1]? = some (.cells #[.int .i64 0, .int .i64 0, .int .i64 0, .int .i64 0, .int .i64 0, .int .i64 0, .int .i64 0, .int .i64 0, .slice none 0 0, .slice none 0 0] 34 (0, 0)))
 case first =>
  go_wp2_with fail
  go_loopw [11, 12, 13] (fun iv _ _ wr => ∃ k : Nat, k ≤ gg ∧ p + k ≤ ll ∧ iv = .int .i64 k ∧ Ext w4 wr ∧ Hid (putL h.log (p + k) (l.drop k) = putL h.log p l)) (fun iv _ _ _ => gg - (intOf iv).toNat)
  case atStart => exact ⟨0, by omega, by omega, rfl, Mod.refl _ w4, Lib.hid (by rw [List.drop_zero]; rfl)⟩
  case round =>
   obtain ⟨k, hk, hpk, rfl, hE, HF⟩ := hrel
   have HAr := Lib.hid (hE.blk HA4.out id)
   have HBr := Lib.hid (hE.blk HB4.out id)
   have HXr := Lib.hid (HX4.out.ext hE)
   have HQr := Lib.hid (hE.blk HQ4.out id)
   have HNr := Lib.hid (HN4.out.ext hE)
   have HEr := Lib.hid hE
   clear hE
   by_cases hi2 : k < gg
   rotate_left
   ·
    have HFe : Hid (putL h.log p l = h.log) := Lib.hid (by rw [← HF.out, List.drop_of_length_le (by rw [Hgg.out]; omega)]; rfl)
    go_wp2_with fail
    go_meet
    exact ⟨A4, ll, c4, HQr.out, by rw [HFe.out]; exact HNr.out, HXr.out, HBr.out⟩
   obtain ⟨gb, ob, x, rfl, _, hx, hxok, hcx⟩ := (HL4.out.mod HEr.out (fun _ _ => id)).at hi2
   have iw1 : IntKind.i64.wrap (i + (k : Int)) = i + (k : Int) := IntWalk.i64_in _ (by have := HRi.out.b1; have := HRi.out.b0; have := Hpi.out; omega)
   have iw2 : IntKind.i64.wrap (i + (k : Int) + 1) = i + (k : Int) + 1 := IntWalk.i64_in _ (by have := HRi.out.b1; have := HRi.out.b0; have := Hpi.out; omega)
   have hi0 : (0 : Int) ≤ (k : Int) := by omega
   have hi1 : (k : Int) < (gg : Int) := by omega
   have x0 := hcx 0 _ rfl
   rw [Nat.add_zero] at x0
   have Hx := Lib.hid hx
   have hldq := load_row (P := Tryz.prog) (o := 0) (cs := h.cells (.slice A3 sl c3) (.slice A4 ll c4)) str_hard HQr.out rfl (fun j u hu => by rw [Nat.zero_add]; exact hu)
   clear hcx hx hxok
   go_wp2_with (refine wpList_ld rfl 34 _ rfl _ _ rfl hldq ?_)
   clear hldq
   refine (r8_at wr _ h A3 sl c3 A4 ll c4 (i + (k : Int) + 1) HNr.out.mem.2 Hll.out hl HRi.out.b0 HRi.out.b1).mono ?_
   rintro e w5 ⟨rfl, hE⟩
   have HA5 := Lib.hid (hE.blk HAr.out id)
   have HB5 := Lib.hid (hE.blk HBr.out id)
   have HX5 := Lib.hid (HXr.out.ext hE)
   have HQ5 := Lib.hid (hE.blk HQr.out id)
   have HN5 := Lib.hid (HNr.out.ext hE)
   have HE5 := Lib.hid (HEr.out.ext hE)
   replace x0 := hE.cell x0 id
   have hat0 : atE h (i + (k : Int) + 1) = h.log[p + k]? := by rw [← atE_get]; congr 1; have := Hpi.out; omega
   rw [hat0]
   obtain ⟨r, hrs⟩ : ∃ r, w5.heap.size = r := ⟨_, rfl⟩
   have hz : (w5.alloc (.cells #[.int .i64 0, .int .i64 0, .int .i64 0, .int .i64 0, .int .i64 0, .string ⟨#[]⟩, .int .i64 0, .float .f64 0, .string ⟨#[]⟩, .int .i64 0, .float .f64 0, .string ⟨#[]⟩, .int .i64 0, .int .i64 0, .int .i64 0, .int .i64 0] 56)).heap[r]? = some (.cells #[.int .i64 0, .int .i64 0, .int .i64 0, .int .i64 0, .int .i64 0, .string ⟨#[]⟩, .int .i64 0, .float .f64 0, .string ⟨#[]⟩, .int .i64 0, .float .f64 0, .string ⟨#[]⟩, .int .i64 0, .int .i64 0, .int .i64 0, .int .i64 0] 56 (0, 0)) := by rw [← hrs]; exact heap_alloc_new w5 _
   have Hr := Lib.hid hrs
   have hgr : gb < r := by rw [← hrs]; exact World.block_lt_of_cell? w5 ⟨gb, ob + k * 16, none⟩ x0
   have hqr : q < r := by rw [← hrs]; exact (Array.getElem?_eq_some_iff.1 HQ5.out).1
   clear hat0 hE hrs
   rcases hat : h.log[p + k]? with _ | y
   ·
    have Hat := Lib.hid hat
    have HFe : Hid (putL h.log p l = h.log.take (p + k) ++ l.drop k) := Lib.hid (by rw [← HF.out]; exact putL_stop Hx.out (fun y hy => by rw [Hat.out] at hy; cases hy))
    clear hat
    unfold atO
    simp only [Option.isSome_none]
    go_wp2_with (rw [Hr.out]; refine wpList_stR rfl 56 _ _ rfl 16 r 0 [.int .i64 0, .int .i64 0, .int .i64 0, .int .i64 0, .int .i64 0, .string ⟨#[]⟩, .int .i64 0, .float .f64 0, .string ⟨#[]⟩, .int .i64 0, .float .f64 0, .string ⟨#[]⟩, .int .i64 0, .int .i64 0, .int .i64 0, .int .i64 0] rfl rfl str_entry _ [.int .i64 0, .int .i64 0, .int .i64 0, .int .i64 0, .int .i64 0, .string ⟨#[]⟩, .int .i64 0, .float .f64 0, .string ⟨#[]⟩, .int .i64 0, .float .f64 0, .string ⟨#[]⟩, .int .i64 0, .int .i64 0, .int .i64 0, .int .i64 0] [.int .i64 0, .int .i64 0, .int .i64 0, .int .i64 0, .int .i64 0, .string ⟨#[]⟩, .int .i64 0, .float .f64 0, .string ⟨#[]⟩, .int .i64 0, .float .f64 0, .string ⟨#[]⟩, .int .i64 0, .int .i64 0, .int .i64 0, .int .i64 0] hz rfl (by simp) ze_one rfl ?_)
    intro w6 hb6 hm6 hs6
    have hE : Ext w5 w6 := ((Mod.refl (fun _ => False) w5).alloc (.cells #[.int .i64 0, .int .i64 0, .int .i64 0, .int .i64 0, .int .i64 0, .string ⟨#[]⟩, .int .i64 0, .float .f64 0, .string ⟨#[]⟩, .int .i64 0, .float .f64 0, .string ⟨#[]⟩, .int .i64 0, .int .i64 0, .int .i64 0, .int .i64 0] 56)).trans hm6 (fun k hk e => by have := Hr.out; omega)
    have HA6 := Lib.hid (hE.blk HA5.out id)
    have HB6 := Lib.hid (hE.blk HB5.out id)
    have HX6 := Lib.hid (HX5.out.ext hE)
    have HQ6 := Lib.hid (hE.blk HQ5.out id)
    have HN6 := Lib.hid (HN5.out.ext hE)
    have HE6 := Lib.hid (HE5.out.ext hE)
    have HR6 := Lib.hid hb6
    replace x0 := hE.cell x0 id
    clear hE hb6 hm6 hs6 hz
    go_upto_region 11 with fail
    go_cut [67] (fun s67 wx => s67 = .bool false ∧ Ext w6 wx)
    case first =>
     go_quiet (fail)
     go_wp2_with fail
     go_meet
     exact ⟨rfl, (Mod.refl _ w6).drewN _⟩
    obtain ⟨rfl, hE⟩ := hcut
    have HA7 := Lib.hid (hE.blk HA6.out id)
    have HB7 := Lib.hid (hE.blk HB6.out id)
    have HX7 := Lib.hid (HX6.out.ext hE)
    have HQ7 := Lib.hid (hE.blk HQ6.out id)
    have HN7 := Lib.hid (HN6.out.ext hE)
    have HE7 := Lib.hid (HE6.out.ext hE)
    have HZ7 : Hid (w.heap.size ≤ wc.heap.size) := Lib.hid HX7.out.size
    clear hE x0
    obtain ⟨m, hm⟩ : ∃ m, p + k = m := ⟨_, rfl⟩
    have iw3 : IntKind.i64.wrap (i + (k : Int) - h.base) = (m : Int) := by rw [IntWalk.i64_in _ (by have := HRi.out.b1; have := HRi.out.b0; have := Hpi.out; omega)]; have := Hpi.out; omega
    have hm0 : (0 : Int) ≤ (m : Int) := by omega
    have hml : m ≤ ll := by omega
    have hlc : ll ≤ c4 := by
     obtain ⟨_, A', c', e, h1, _⟩ := HN7.out.mem.2.1
     injection e with _ e2 e3
     have := Hll.out
     omega
    have hm1 : (m : Int) ≤ (c4 : Int) := by omega
    have hk2 : (k : Int) ≤ (gg : Int) := by omega
    rw [hm] at HFe
    clear hm hlc
    have c9q : wc.cell? ⟨q, 9, none⟩ = some (.slice A4 ll c4) := blk_cell (cs := h.cells (.slice A3 sl c3) (.slice A4 ll c4)) HQ7.out rfl
    have c2b : wc.cell? ⟨b, 2, none⟩ = some (.int .i64 h.base) := blk_cell (cs := [.int .i64 h.term, .int .i64 h.vote, .int .i64 h.base, .int .i64 h.baseTerm, .int .i64 h.conf.full, .int .i64 h.conf.wit, .int .i64 h.conf.learn, .int .i64 h.conf.learnWit, .slice As sl cs, .slice Al ll cl]) HA7.out rfl
    have hbqn : ¬ b = q := by omega
    go_wp2_with fail
    refine wp_region_held_drew (S := fun W' => Mod (fun k => k = q) wc W') (by kernel_rfl) (Mod.refl _ wc).drew (fun hS => ?_)
    refine tkH 0 (some 68) rfl rfl ?_ hS ?_ ?_
    rotate_left
    ·
     rintro W' hW'
     have y2 := hW'.cell c2b hbqn
     go_simp
     try with_reducible rfl
    try simp only [pL]
    refine tkH 2 (some 70) rfl rfl ?_ hS ?_ ?_
    rotate_left
    ·
     rintro W' hW'
     have y2 := hW'.cell c2b hbqn
     go_simp
     try with_reducible rfl
    try simp only [pL]
    refine tkH 3 (some 71) rfl rfl ?_ hS ?_ ?_
    rotate_left
    ·
     rintro W' hW'
     have y2 := hW'.cell c2b hbqn
     go_simp
     try with_reducible rfl
    try simp only [pL]
    refine tkH 4 (some 72) rfl rfl ?_ hS ?_ ?_
    rotate_left
    ·
     rintro W' hW'
     have y2 := hW'.cell c2b hbqn
     go_simp
     try with_reducible rfl
    try simp only [pL]
    refine tkH 5 (some 73) rfl rfl ?_ hS ?_ ?_
    rotate_left
    ·
     rintro W' hW'
     have y2 := hW'.cell c2b hbqn
     go_simp
     try with_reducible rfl
    try simp only [pL]
    refine tkH 6 (some 74) rfl rfl ?_ hS ?_ ?_
    rotate_left
    ·
     rintro W' hW'
     have y2 := hW'.cell c2b hbqn
     go_simp
     try with_reducible rfl
    try simp only [pL]
    refine tkH 7 (some 75) rfl rfl ?_ hS ?_ ?_
    rotate_left
    ·
     rintro W' hW'
     have y2 := hW'.cell c2b hbqn
     go_simp
     try with_reducible rfl
    try simp only [pL]
    refine tkH 10 (some 78) rfl rfl ?_ hS ?_ ?_
    rotate_left
    ·
     rintro W' hW'
     have y2 := hW'.cell c2b hbqn
     go_simp
     try with_reducible rfl
    try simp only [pL]
    refine tkH 11 (some 79) rfl rfl ?_ hS ?_ ?_
    rotate_left
    ·
     rintro W' hW'
     have y2 := hW'.cell c2b hbqn
     go_simp
     try with_reducible rfl
    try simp only [pL]
    refine tkH 12 (some 80) rfl rfl ?_ hS ?_ ?_
    rotate_left
    ·
     rintro W' hW'
     have y2 := hW'.cell c2b hbqn
     go_simp
     try with_reducible rfl
    try simp only [pL]
    refine wpAnyH_ready (rs := [1]) (by kernel_rfl) (by simp) ?_
    refine AllReadyH.cons rfl (fun K hK => ?_) AllReadyH.nil
    go_simp
    refine hK.out _ _ (hS) (fun hS => ?_)
    clear hK K
    try simp only [pL]
    refine tkH 8 (some 76) rfl rfl ?_ hS ?_ ?_
    rotate_left
    ·
     rintro W' hW'
     have y2 := hW'.cell c2b hbqn
     go_simp
     try with_reducible rfl
    try simp only [pL]
    refine wpAnyH_ready (rs := [9]) (by kernel_rfl) (by simp) ?_
    refine AllReadyH.cons rfl (fun K hK => ?_) AllReadyH.nil
    go_simp
    go_wp2_with fail
    refine (k_twinEntries wc.drew _ _ (h.log.take m) (by have h1 := Ents.upto HN7.out.mem.2 Hll.out hml; exact h1) (by rw [List.length_take]; omega)).mono ?_
    rintro e w8 ⟨v8, rfl, hN8, hE8⟩
    obtain ⟨A8, c8, rfl⟩ := NewE.form hN8
    have htl : (h.log.take m).length = m := by rw [List.length_take, Hll.out]; omega
    rw [htl] at hN8 ⊢
    clear htl
    have HE8 : Hid (Ext wc w8) := Lib.hid (Mod.ext (Mod.refl _ wc).drew hE8)
    have HN8 : Hid (NewE w w8 (.slice A8 m c8) (h.log.take m)) := Lib.hid (newE_up hN8 HX7.out.size)
    have HX8 : Hid (Ext w w8) := Lib.hid (HX7.out.drew.ext hE8)
    have HL8 : Hid (Ents w8 U _ (l.drop k)) := Lib.hid (Ents.drop (HL4.out.mod (HE7.out.drew.ext hE8) (fun _ _ => id)) Hgg.out hk)
    have HNt : Hid (∀ g, (Value.slice A8 m c8).ownBlock = some g → wc.heap.size ≤ g) := Lib.hid hN8.2.2
    have HN38 : Hid (NewB w w8 (.slice A3 sl c3) h.snap) := Lib.hid (HN7.out.1.ext (Mod.ext (Mod.refl _ wc).drew hE8))
    clear hN8
    have hX := (hS.ext hE8)
    go_simp
    refine hK.out _ _ hX (fun hS => ?_)
    clear hK K hX
    try simp only [pL]
    refine wpAnyH_ready (rs := [13]) (by kernel_rfl) (by simp) ?_
    refine AllReadyH.cons rfl (fun K hK => ?_) AllReadyH.nil
    refine step_appE rfl _ _ rfl (.slice A8 m c8) _ w rfl HN8.out HX8.out _ (.slice (cutA (some ⟨gb, ob, none⟩) k bl 16) (gg - k) (bl - k)) _ rfl HL8.out (by rw [List.length_take, List.length_drop]; have := Hgg.out; omega) ?_
    rintro A9 n9 c9 w9 hn9 hN9 hX9 hM9
    have HN9 := Lib.hid hN9
    have HX9 := Lib.hid hX9
    have hE9 : Ext wc w9 := HE8.out.trans hM9 (fun k hk e => by have h1 := HNt.out k e; omega)
    have HE9 := Lib.hid hE9
    have HN39 : Hid (NewB w w9 (.slice A3 sl c3) h.snap) := Lib.hid ⟨own_mod HN38.out.1 hM9 (fun g hg e => own_own HN38.out.1 HN8.out.1 (by decide) hg e), HN38.out.2⟩
    clear hn9 hN9 hX9 hM9
    refine hK.out _ _ (hE9.mod _) (fun hS => ?_)
    clear hK K
    try simp only [pL]
    refine tkH 14 (some 82) rfl rfl ?_ hS ?_ ?_
    rotate_left
    ·
     rintro W' hW'
     have y2 := hW'.cell c2b hbqn
     go_simp
     try with_reducible rfl
    try simp only [pL]
    refine wpAnyH_ready (rs := [15]) (by kernel_rfl) (by simp) ?_
    refine AllReadyH.cons rfl (fun K hK => ?_) AllReadyH.nil
    have HQ9 := Lib.hid (Mod.blk HE9.out HQ7.out id)
    have HB9 := Lib.hid (Mod.blk HE9.out HB7.out id)
    have f9 : w9.frozen? ⟨q, 9, none⟩ = false := blk_free 9 HQ9.out
    have d9 : w9.cell? ⟨q, 9, none⟩ = some (.slice A4 ll c4) := blk_cell (cs := h.cells (.slice A3 sl c3) (.slice A4 ll c4)) HQ9.out rfl
    go_simp
    obtain ⟨wz, hwz⟩ : ∃ wz, w9.setCell ⟨q, 9, none⟩ (.slice A9 n9 c9) = wz := ⟨_, rfl⟩
    rw [hwz]
    have HQz : Hid (wz.heap[q]? = some (.cells #[.int .i64 h.term, .int .i64 h.vote, .int .i64 h.base, .int .i64 h.baseTerm, .int .i64 h.conf.full, .int .i64 h.conf.wit, .int .i64 h.conf.learn, .int .i64 h.conf.learnWit, .slice A3 sl c3, .slice A9 n9 c9] 34 (0, 0))) := Lib.hid (by rw [← hwz]; simp [World.setCell, Array.getElem?_modify, HQ9.out])
    have HMz : Hid (Mod (fun k => k = q) w9 wz) := Lib.hid (by rw [← hwz]; exact mod_same (Mod.refl _ w9) _ _)
    clear hwz f9 d9
    refine hK.out _ _ ((hS.self HMz.out)) (fun hS => ?_)
    clear hK K
    try simp only [pL]
    refine wpAnyH_done (by kernel_rfl) ?_ _
    go_wp2_with fail
    go_meet
    exact ⟨A9, n9, c9, HQz.out, by rw [HFe.out]; exact NewH.box ⟨HN39.out, HN9.out⟩ HQ9.out HMz.out (by decide) (by decide), HX9.out.trans HMz.out (fun k hk e => by omega), HMz.out.blk HB9.out (by omega)⟩
   have Hat := Lib.hid hat
   clear hat
   unfold atO
   simp only [Option.isSome_some]
   have hone := entry_one [y]
   by_cases hty : y.term = x.term
   ·
    have HF2 : Hid (putL h.log (p + (k + 1)) (l.drop (k + 1)) = putL h.log p l) := Lib.hid (by rw [← HF.out]; exact (putL_more Hx.out Hat.out hty).symm)
    have hb : (y.term == x.term) = true := by simpa using hty
    have hpk2 : p + (k + 1) ≤ ll := by have h1 := (List.getElem?_eq_some_iff.1 Hat.out).1; have := Hll.out; omega
    clear hty
    go_wp2_with (rw [Hr.out]; refine wpList_stR rfl 56 _ _ rfl 16 r 0 y.cells rfl rfl str_entry _ [.int .i64 0, .int .i64 0, .int .i64 0, .int .i64 0, .int .i64 0, .string ⟨#[]⟩, .int .i64 0, .float .f64 0, .string ⟨#[]⟩, .int .i64 0, .float .f64 0, .string ⟨#[]⟩, .int .i64 0, .int .i64 0, .int .i64 0, .int .i64 0] y.cells hz rfl (by simp) (by simpa using hone) rfl ?_)
    intro w6 hb6 hm6 hs6
    have hE : Ext w5 w6 := ((Mod.refl (fun _ => False) w5).alloc (.cells #[.int .i64 0, .int .i64 0, .int .i64 0, .int .i64 0, .int .i64 0, .string ⟨#[]⟩, .int .i64 0, .float .f64 0, .string ⟨#[]⟩, .int .i64 0, .float .f64 0, .string ⟨#[]⟩, .int .i64 0, .int .i64 0, .int .i64 0, .int .i64 0] 56)).trans hm6 (fun k hk e => by have := Hr.out; omega)
    have HA6 := Lib.hid (hE.blk HA5.out id)
    have HB6 := Lib.hid (hE.blk HB5.out id)
    have HX6 := Lib.hid (HX5.out.ext hE)
    have HQ6 := Lib.hid (hE.blk HQ5.out id)
    have HN6 := Lib.hid (HN5.out.ext hE)
    have HE6 := Lib.hid (HE5.out.ext hE)
    have HR6 := Lib.hid hb6
    replace x0 := hE.cell x0 id
    clear hE hb6 hm6 hs6 hz
    have q0 : w6.cell? ⟨r, 0, none⟩ = some (.int .i64 y.term) := blk_cell HR6.out rfl
    go_upto_region 11 with fail
    go_cut [67] (fun s67 wx => s67 = .bool true ∧ Ext w6 wx)
    case first =>
     go_quiet (fail)
     go_wp2_with fail
     go_meet
     exact ⟨rfl, (Mod.refl _ w6).drewN _⟩
    obtain ⟨rfl, hE⟩ := hcut
    have HA7 := Lib.hid (hE.blk HA6.out id)
    have HB7 := Lib.hid (hE.blk HB6.out id)
    have HX7 := Lib.hid (HX6.out.ext hE)
    have HQ7 := Lib.hid (hE.blk HQ6.out id)
    have HN7 := Lib.hid (HN6.out.ext hE)
    have HE7 := Lib.hid (HE6.out.ext hE)
    have HZ7 : Hid (w.heap.size ≤ wc.heap.size) := Lib.hid HX7.out.size
    clear hE x0 q0
    go_wp2_with fail
    go_roundw
    case rel => exact ⟨k + 1, by omega, hpk2, by go_num, HE7.out, HF2⟩
    case measure => simp [intOf]; omega
   ·
    have HFe : Hid (putL h.log p l = h.log.take (p + k) ++ l.drop k) := Lib.hid (by rw [← HF.out]; exact putL_stop Hx.out (fun y2 hy => by rw [Hat.out] at hy; injection hy with hy; rw [← hy]; exact hty))
    have hb : (y.term == x.term) = false := by simpa using hty
    clear hty
    go_wp2_with (rw [Hr.out]; refine wpList_stR rfl 56 _ _ rfl 16 r 0 y.cells rfl rfl str_entry _ [.int .i64 0, .int .i64 0, .int .i64 0, .int .i64 0, .int .i64 0, .string ⟨#[]⟩, .int .i64 0, .float .f64 0, .string ⟨#[]⟩, .int .i64 0, .float .f64 0, .string ⟨#[]⟩, .int .i64 0, .int .i64 0, .int .i64 0, .int .i64 0] y.cells hz rfl (by simp) (by simpa using hone) rfl ?_)
    intro w6 hb6 hm6 hs6
    have hE : Ext w5 w6 := ((Mod.refl (fun _ => False) w5).alloc (.cells #[.int .i64 0, .int .i64 0, .int .i64 0, .int .i64 0, .int .i64 0, .string ⟨#[]⟩, .int .i64 0, .float .f64 0, .string ⟨#[]⟩, .int .i64 0, .float .f64 0, .string ⟨#[]⟩, .int .i64 0, .int .i64 0, .int .i64 0, .int .i64 0] 56)).trans hm6 (fun k hk e => by have := Hr.out; omega)
    have HA6 := Lib.hid (hE.blk HA5.out id)
    have HB6 := Lib.hid (hE.blk HB5.out id)
    have HX6 := Lib.hid (HX5.out.ext hE)
    have HQ6 := Lib.hid (hE.blk HQ5.out id)
    have HN6 := Lib.hid (HN5.out.ext hE)
    have HE6 := Lib.hid (HE5.out.ext hE)
    have HR6 := Lib.hid hb6
    replace x0 := hE.cell x0 id
    clear hE hb6 hm6 hs6 hz
    have q0 : w6.cell? ⟨r, 0, none⟩ = some (.int .i64 y.term) := blk_cell HR6.out rfl
    go_upto_region 11 with fail
    go_cut [67] (fun s67 wx => s67 = .bool false ∧ Ext w6 wx)
    case first =>
     go_quiet (fail)
     go_wp2_with fail
     go_meet
     exact ⟨rfl, (Mod.refl _ w6).drewN _⟩
    obtain ⟨rfl, hE⟩ := hcut
    have HA7 := Lib.hid (hE.blk HA6.out id)
    have HB7 := Lib.hid (hE.blk HB6.out id)
    have HX7 := Lib.hid (HX6.out.ext hE)
    have HQ7 := Lib.hid (hE.blk HQ6.out id)
    have HN7 := Lib.hid (HN6.out.ext hE)
    have HE7 := Lib.hid (HE6.out.ext hE)
    have HZ7 : Hid (w.heap.size ≤ wc.heap.size) := Lib.hid HX7.out.size
    clear hE x0 q0
    obtain ⟨m, hm⟩ : ∃ m, p + k = m := ⟨_, rfl⟩
    have iw3 : IntKind.i64.wrap (i + (k : Int) - h.base) = (m : Int) := by rw [IntWalk.i64_in _ (by have := HRi.out.b1; have := HRi.out.b0; have := Hpi.out; omega)]; have := Hpi.out; omega
    have hm0 : (0 : Int) ≤ (m : Int) := by omega
    have hml : m ≤ ll := by omega
    have hlc : ll ≤ c4 := by
     obtain ⟨_, A', c', e, h1, _⟩ := HN7.out.mem.2.1
     injection e with _ e2 e3
     have := Hll.out
     omega
    have hm1 : (m : Int) ≤ (c4 : Int) := by omega
    have hk2 : (k : Int) ≤ (gg : Int) := by omega
    rw [hm] at HFe
    clear hm hlc
    have c9q : wc.cell? ⟨q, 9, none⟩ = some (.slice A4 ll c4) := blk_cell (cs := h.cells (.slice A3 sl c3) (.slice A4 ll c4)) HQ7.out rfl
    have c2b : wc.cell? ⟨b, 2, none⟩ = some (.int .i64 h.base) := blk_cell (cs := [.int .i64 h.term, .int .i64 h.vote, .int .i64 h.base, .int .i64 h.baseTerm, .int .i64 h.conf.full, .int .i64 h.conf.wit, .int .i64 h.conf.learn, .int .i64 h.conf.learnWit, .slice As sl cs, .slice Al ll cl]) HA7.out rfl
    have hbqn : ¬ b = q := by omega
    go_wp2_with fail
    refine wp_region_held_drew (S := fun W' => Mod (fun k => k = q) wc W') (by kernel_rfl) (Mod.refl _ wc).drew (fun hS => ?_)
    refine tkH 0 (some 68) rfl rfl ?_ hS ?_ ?_
    rotate_left
    ·
     rintro W' hW'
     have y2 := hW'.cell c2b hbqn
     go_simp
     try with_reducible rfl
    try simp only [pL]
    refine tkH 2 (some 70) rfl rfl ?_ hS ?_ ?_
    rotate_left
    ·
     rintro W' hW'
     have y2 := hW'.cell c2b hbqn
     go_simp
     try with_reducible rfl
    try simp only [pL]
    refine tkH 3 (some 71) rfl rfl ?_ hS ?_ ?_
    rotate_left
    ·
     rintro W' hW'
     have y2 := hW'.cell c2b hbqn
     go_simp
     try with_reducible rfl
    try simp only [pL]
    refine tkH 4 (some 72) rfl rfl ?_ hS ?_ ?_
    rotate_left
    ·
     rintro W' hW'
     have y2 := hW'.cell c2b hbqn
     go_simp
     try with_reducible rfl
    try simp only [pL]
    refine tkH 5 (some 73) rfl rfl ?_ hS ?_ ?_
    rotate_left
    ·
     rintro W' hW'
     have y2 := hW'.cell c2b hbqn
     go_simp
     try with_reducible rfl
    try simp only [pL]
    refine tkH 6 (some 74) rfl rfl ?_ hS ?_ ?_
    rotate_left
    ·
     rintro W' hW'
     have y2 := hW'.cell c2b hbqn
     go_simp
     try with_reducible rfl
    try simp only [pL]
    refine tkH 7 (some 75) rfl rfl ?_ hS ?_ ?_
    rotate_left
    ·
     rintro W' hW'
     have y2 := hW'.cell c2b hbqn
     go_simp
     try with_reducible rfl
    try simp only [pL]
    refine tkH 10 (some 78) rfl rfl ?_ hS ?_ ?_
    rotate_left
    ·
     rintro W' hW'
     have y2 := hW'.cell c2b hbqn
     go_simp
     try with_reducible rfl
    try simp only [pL]
    refine tkH 11 (some 79) rfl rfl ?_ hS ?_ ?_
    rotate_left
    ·
     rintro W' hW'
     have y2 := hW'.cell c2b hbqn
     go_simp
     try with_reducible rfl
    try simp only [pL]
    refine tkH 12 (some 80) rfl rfl ?_ hS ?_ ?_
    rotate_left
    ·
     rintro W' hW'
     have y2 := hW'.cell c2b hbqn
     go_simp
     try with_reducible rfl
    try simp only [pL]
    refine wpAnyH_ready (rs := [1]) (by kernel_rfl) (by simp) ?_
    refine AllReadyH.cons rfl (fun K hK => ?_) AllReadyH.nil
    go_simp
    refine hK.out _ _ (hS) (fun hS => ?_)
    clear hK K
    try simp only [pL]
    refine tkH 8 (some 76) rfl rfl ?_ hS ?_ ?_
    rotate_left
    ·
     rintro W' hW'
     have y2 := hW'.cell c2b hbqn
     go_simp
     try with_reducible rfl
    try simp only [pL]
    refine wpAnyH_ready (rs := [9]) (by kernel_rfl) (by simp) ?_
    refine AllReadyH.cons rfl (fun K hK => ?_) AllReadyH.nil
    go_simp
    go_wp2_with fail
    refine (k_twinEntries wc.drew _ _ (h.log.take m) (by have h1 := Ents.upto HN7.out.mem.2 Hll.out hml; exact h1) (by rw [List.length_take]; omega)).mono ?_
    rintro e w8 ⟨v8, rfl, hN8, hE8⟩
    obtain ⟨A8, c8, rfl⟩ := NewE.form hN8
    have htl : (h.log.take m).length = m := by rw [List.length_take, Hll.out]; omega
    rw [htl] at hN8 ⊢
    clear htl
    have HE8 : Hid (Ext wc w8) := Lib.hid (Mod.ext (Mod.refl _ wc).drew hE8)
    have HN8 : Hid (NewE w w8 (.slice A8 m c8) (h.log.take m)) := Lib.hid (newE_up hN8 HX7.out.size)
    have HX8 : Hid (Ext w w8) := Lib.hid (HX7.out.drew.ext hE8)
    have HL8 : Hid (Ents w8 U _ (l.drop k)) := Lib.hid (Ents.drop (HL4.out.mod (HE7.out.drew.ext hE8) (fun _ _ => id)) Hgg.out hk)
    have HNt : Hid (∀ g, (Value.slice A8 m c8).ownBlock = some g → wc.heap.size ≤ g) := Lib.hid hN8.2.2
    have HN38 : Hid (NewB w w8 (.slice A3 sl c3) h.snap) := Lib.hid (HN7.out.1.ext (Mod.ext (Mod.refl _ wc).drew hE8))
    clear hN8
    have hX := (hS.ext hE8)
    go_simp
    refine hK.out _ _ hX (fun hS => ?_)
    clear hK K hX
    try simp only [pL]
    refine wpAnyH_ready (rs := [13]) (by kernel_rfl) (by simp) ?_
    refine AllReadyH.cons rfl (fun K hK => ?_) AllReadyH.nil
    refine step_appE rfl _ _ rfl (.slice A8 m c8) _ w rfl HN8.out HX8.out _ (.slice (cutA (some ⟨gb, ob, none⟩) k bl 16) (gg - k) (bl - k)) _ rfl HL8.out (by rw [List.length_take, List.length_drop]; have := Hgg.out; omega) ?_
    rintro A9 n9 c9 w9 hn9 hN9 hX9 hM9
    have HN9 := Lib.hid hN9
    have HX9 := Lib.hid hX9
    have hE9 : Ext wc w9 := HE8.out.trans hM9 (fun k hk e => by have h1 := HNt.out k e; omega)
    have HE9 := Lib.hid hE9
    have HN39 : Hid (NewB w w9 (.slice A3 sl c3) h.snap) := Lib.hid ⟨own_mod HN38.out.1 hM9 (fun g hg e => own_own HN38.out.1 HN8.out.1 (by decide) hg e), HN38.out.2⟩
    clear hn9 hN9 hX9 hM9
    refine hK.out _ _ (hE9.mod _) (fun hS => ?_)
    clear hK K
    try simp only [pL]
    refine tkH 14 (some 82) rfl rfl ?_ hS ?_ ?_
    rotate_left
    ·
     rintro W' hW'
     have y2 := hW'.cell c2b hbqn
     go_simp
     try with_reducible rfl
    try simp only [pL]
    refine wpAnyH_ready (rs := [15]) (by kernel_rfl) (by simp) ?_
    refine AllReadyH.cons rfl (fun K hK => ?_) AllReadyH.nil
    have HQ9 := Lib.hid (Mod.blk HE9.out HQ7.out id)
    have HB9 := Lib.hid (Mod.blk HE9.out HB7.out id)
    have f9 : w9.frozen? ⟨q, 9, none⟩ = false := blk_free 9 HQ9.out
    have d9 : w9.cell? ⟨q, 9, none⟩ = some (.slice A4 ll c4) := blk_cell (cs := h.cells (.slice A3 sl c3) (.slice A4 ll c4)) HQ9.out rfl
    go_simp
    obtain ⟨wz, hwz⟩ : ∃ wz, w9.setCell ⟨q, 9, none⟩ (.slice A9 n9 c9) = wz := ⟨_, rfl⟩
    rw [hwz]
    have HQz : Hid (wz.heap[q]? = some (.cells #[.int .i64 h.term, .int .i64 h.vote, .int .i64 h.base, .int .i64 h.baseTerm, .int .i64 h.conf.full, .int .i64 h.conf.wit, .int .i64 h.conf.learn, .int .i64 h.conf.learnWit, .slice A3 sl c3, .slice A9 n9 c9] 34 (0, 0))) := Lib.hid (by rw [← hwz]; simp [World.setCell, Array.getElem?_modify, HQ9.out])
    have HMz : Hid (Mod (fun k => k = q) w9 wz) := Lib.hid (by rw [← hwz]; exact mod_same (Mod.refl _ w9) _ _)
    clear hwz f9 d9
    refine hK.out _ _ ((hS.self HMz.out)) (fun hS => ?_)
    clear hK K
    try simp only [pL]
    refine wpAnyH_done (by kernel_rfl) ?_ _
    go_wp2_with fail
    go_meet
    exact ⟨A9, n9, c9, HQz.out, by rw [HFe.out]; exact NewH.box ⟨HN39.out, HN9.out⟩ HQ9.out HMz.out (by decide) (by decide), HX9.out.trans HMz.out (fun k hk e => by omega), HMz.out.blk HB9.out (by omega)⟩
 obtain ⟨An, nn, cn, hQ, hN, hX, hB⟩ := hcut
 have hld := load_row (P := Tryz.prog) (o := 0) (cs := h.cells (.slice A3 sl c3) (.slice An nn cn)) str_hard hQ rfl (fun j u hu => by rw [Nat.zero_add]; exact hu)
 have HX := Lib.hid hX
 have HB := Lib.hid hB
 have HN := Lib.hid hN
 clear hQ hN hX hB
 go_wp2_with (first | (refine wpList_ld rfl 34 _ rfl _ _ rfl hld ?_) | (refine wpList_stR rfl 34 _ _ rfl 10 (b + 1) 0 (h.cells (.slice A3 sl c3) (.slice An nn cn)) rfl rfl str_hard _ [.int .i64 0, .int .i64 0, .int .i64 0, .int .i64 0, .int .i64 0, .int .i64 0, .int .i64 0, .int .i64 0, .slice none 0 0, .slice none 0 0] (h.cells (.slice A3 sl c3) (.slice An nn cn)) HB.out rfl (by simp) (h_one _ _ _ _ _ _ _) rfl ?_))
 intro w9 hb9 hm9 hs9
 have HX9 := Lib.hid (HX.out.trans hm9 (fun k hk e => by have := Hb.out; omega))
 have HN9 := Lib.hid (HN.out.box HB.out hm9 (by decide) (by decide))
 clear hm9 hs9 hld
 go_wp2_with fail
 exact bodyPost_ret (results_row2 rfl _ w9 (b + 1) _ _ str_hard rfl hb9 rfl) rfl (by rw [HRs.out]; exact ⟨HX9.out, _, _, rfl, HN9.out⟩)
end Go.Proofs.YtjhnlncgmejkcaaGreat
