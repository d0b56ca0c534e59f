/-
 Contracts of wire.reader: count, entries, hard. Conditions: as each theorem names them.
-/
import Derived.Test.YtfkacakbengboaaWireRe
import Derived.Test.YtfkacakbengboaaEntOk
import Derived.Test.YtfkacakbengboaaNewE
import Derived.Test.YtfkacakbengboaaWireH1
import Derived.Test.YtfkacakbengboaaAppB
namespace Go.Proofs.Ytfkacakbengboaa
set_option linter.unusedSimpArgs false
open Go.RowKit

set_option maxRecDepth 100000 in
set_option maxHeartbeats 2000000 in
theorem wr_count (w : World) (S : Nat → Prop) (c b : Nat) (r : RS) (h : Rw w S c b r) (most : Int) :
  Calls Try.prog 100 #[.pointer (some ⟨c, 0, none⟩), .int .i64 most] w (ROut w S c b (!decide (0 ≤ r.int.1) || !decide (r.int.1 ≤ most)) (.int .i64 r.int.1) r.int.2) := by
 have HR := Lib.hid h
 have rc := h.cell
 clear h
 go_enter Try.func100, Try.ntmps100
 go_wp2_with fail
 refine (r_int w S b r HR.out.1).mono ?_
 rintro e w1 ⟨rfl, hR1, hm1⟩
 have HR1 := Lib.hid (HR.out.step hm1 hR1)
 have HM1 := Lib.hid hm1
 obtain ⟨k, hk⟩ : ∃ k, r.int.1 = k := ⟨_, rfl⟩
 rw [hk]
 have Hk := Lib.hid hk
 clear hR1 hm1 hk
 rcases h0 : decide (0 ≤ k) with _ | _
 ·
  have Hb : Hid ((!decide (0 ≤ r.int.1) || !decide (r.int.1 ≤ most)) = true) := Lib.hid (by rw [Hk.out, h0]; rfl)
  go_wp2_with fail
  refine (must_no _).mono ?_
  rintro e w' ⟨rfl, rfl⟩
  exact ⟨rfl, rout_bad Hb.out HM1.out⟩
 rcases h1 : decide (k ≤ most) with _ | _
 ·
  have Hb : Hid ((!decide (0 ≤ r.int.1) || !decide (r.int.1 ≤ most)) = true) := Lib.hid (by rw [Hk.out, h0, h1]; rfl)
  go_wp2_with fail
  refine (must_no _).mono ?_
  rintro e w' ⟨rfl, rfl⟩
  exact ⟨rfl, rout_bad Hb.out HM1.out⟩
 ·
  have Hb : Hid ((!decide (0 ≤ r.int.1) || !decide (r.int.1 ≤ most)) = false) := Lib.hid (by rw [Hk.out, h0, h1]; rfl)
  go_wp2_with fail
  refine (must_yes _).mono ?_
  rintro e w' ⟨rfl, rfl⟩
  go_wp2
  go_ret
  have := rout_ok (v := .int .i64 r.int.1) Hb.out HM1.out HR1.out
  rw [Hk.out] at this ⊢
  exact this

/-- What a reading of entries leaves. -/
def EOut (w : World) (S : Nat → Prop) (c b : Nat) (o : Option (List AEntry × RS)) (e : Ending) (w' : World) : Prop :=
 Mod S w w' ∧ (o = none → e = thrown 3) ∧ ∀ l r', o = some (l, r') → ∃ A cp, e = .returned (.slice A l.length cp) ∧ NewE w w' (.slice A l.length cp) l ∧ Rw w' S c b r'
/-- The rest of a list, behind what is read. -/
def behind (os : List AEntry) (o : Option (List AEntry × RS)) : Option (List AEntry × RS) := match o with
 | none => none
 | some (l, r) => some (os ++ l, r)
theorem ents_lit' (w : World) (x : AEntry) (hx : x.ok) : Ents (w.alloc (.cells #[.int .i64 x.term, .int .i64 x.kind, .int .i64 x.call.client, .int .i64 x.call.seq, .int .i64 x.call.cmd.kind, .string x.call.cmd.key, .int .i64 x.call.cmd.old.kind, .float .f64 x.call.cmd.old.num, .string x.call.cmd.old.text, .int .i64 x.call.cmd.val.kind, .float .f64 x.call.cmd.val.num, .string x.call.cmd.val.text, .int .i64 x.conf.full, .int .i64 x.conf.wit, .int .i64 x.conf.learn, .int .i64 x.conf.learnWit] 44)) (fun g => g = w.heap.size) (.slice (some ⟨w.heap.size, 0, none⟩) 1 1) [x] := by
 refine ⟨⟨rfl, _, _, rfl, Nat.le_refl _, by simp [maxLen], fun _ => ⟨_, 0, rfl, rfl, fun j u hu => ?_⟩⟩, by simpa using hx⟩
 rw [cell_of_row _ _ _ _ _ _ (heap_alloc_new w _), Nat.zero_add]
 simpa using hu
set_option maxRecDepth 100000 in
set_option maxHeartbeats 2000000 in
theorem wr_entries (w : World) (S : Nat → Prop) (c b : Nat) (r : RS) (h : Rw w S c b r) (most : Int) (hm : most ≤ 100000) :
  Calls Try.prog 87 #[.pointer (some ⟨c, 0, none⟩), .int .i64 most] w (EOut w S c b (r.listW most)) := by
 obtain ⟨i0, hi, hz0, hz1, hz2⟩ := info_parts info_entry
 have hkr := int_range r
 have hlow : ∀ g, S g → g < w.heap.size := h.2.2.2
 have HL := Lib.hid hlow
 have H := Lib.hid h
 clear h hlow
 go_enter Try.func87, Try.ntmps87
 go_wp2_with fail
 refine (wr_count w S c b r H.out most).mono ?_
 rintro e w1 ⟨hm1, hbad, hok⟩
 rcases hb : (!decide (0 ≤ r.int.1) || !decide (r.int.1 ≤ most)) with _ | _
 rotate_left
 ·
  obtain rfl := hbad hb
  refine ⟨rfl, hm1, fun _ => rfl, fun l r' h1 => ?_⟩
  unfold RS.listW at h1
  rw [if_neg] at h1
  ·
   cases h1
  ·
   rintro ⟨g1, g2⟩
   rw [decide_eq_true g1, decide_eq_true g2] at hb
   cases hb
 obtain ⟨rfl, hR1⟩ := hok hb
 have hin : 0 ≤ r.int.1 ∧ r.int.1 ≤ most := by
  simpa using hb
 have hlw : r.listW most = wEs r.int.1.toNat r.int.2 := by unfold RS.listW; rw [if_pos hin]
 obtain ⟨r1, hr1⟩ : ∃ r1, r.int.2 = r1 := ⟨_, rfl⟩
 obtain ⟨K, hK⟩ := Int.eq_ofNat_of_zero_le hin.1
 rw [hr1] at hR1 hlw
 rw [hK] at hlw hin ⊢
 have hK2 : K ≤ 100000 := by omega
 rw [Int.toNat_natCast] at hlw
 have HR1 := Lib.hid hR1
 have HM1 := Lib.hid hm1
 have Hlw := Lib.hid hlw
 clear hbad hok hb hR1 hm1 hlw hin hr1 hK hkr hm
 go_wp2
 go_loopw [4, 5] (fun lv nv wr => ∃ (k m : Nat) (A : Option Addr) (cp : Nat) (os : List AEntry) (r' : RS), nv = .int .i64 k ∧ lv = .slice A m cp ∧ os.length = m ∧ m + k = K ∧ NewE w wr (.slice A m cp) os ∧ Rw wr S c b r' ∧ Mod S w wr ∧ wEs K r1 = behind os (wEs k r')) (fun _ nv _ => (intOf nv).toNat)
 case atStart => exact ⟨K, 0, none, 0, [], r1, rfl, rfl, rfl, by omega, newE_nil _ _, HR1.out, HM1.out, by unfold behind; cases wEs K r1 <;> rfl⟩
 case round =>
  obtain ⟨k, m, A, cp, os, r', rfl, rfl, hom, hmk, hN, hR, hMm, hps⟩ := hrel
  have HN := Lib.hid hN
  have HR := Lib.hid hR
  have HM := Lib.hid hMm
  have Hps := Lib.hid hps
  have Hom := Lib.hid hom
  clear hN hR hMm hps hom
  by_cases hk : 0 < k
  case neg =>
   obtain rfl : k = 0 := by omega
   have hd : decide ((0 : Int) < ((0 : Nat) : Int)) = false := by simp
   go_wp2
   go_ret
   refine ⟨HM.out, fun h => ?_, fun l r2 h => ?_⟩
   ·
    rw [Hlw.out, Hps.out] at h
    cases h
   ·
    rw [Hlw.out, Hps.out] at h
    simp only [behind, wEs, List.append_nil, Option.some.injEq, Prod.mk.injEq] at h
    obtain ⟨rfl, rfl⟩ := h
    rw [Hom.out]
    exact ⟨A, cp, rfl, HN.out, HR.out⟩
  have hd : decide ((0 : Int) < (k : Int)) = true := by simp; omega
  go_wp2_with fail
  refine (wr_entry wr S c b r' HR.out).mono ?_
  rintro e w2 ⟨hm2, hbad, hok⟩
  have hstep : wEs k r' = if r'.entT then none else match wEs (k - 1) r'.entP.2 with
   | none => none
   | some (l, s) => some (r'.entP.1 :: l, s) := by
   rw [show k = k - 1 + 1 by omega, wEs]
   rfl
  rcases hT : r'.entT with _ | _
  rotate_left
  ·
   obtain rfl := hbad hT
   refine ⟨rfl, HM.out.self hm2, fun _ => rfl, fun l r2 h => ?_⟩
   rw [Hlw.out, Hps.out, hstep, hT] at h
   cases h
  obtain ⟨rfl, hR2⟩ := hok hT
  obtain ⟨x, hx⟩ : ∃ x, r'.entP.1 = x := ⟨_, rfl⟩
  have hxok := ent_ok r'
  rw [hx] at hxok hstep ⊢
  rw [hT] at hstep
  have HR2 := Lib.hid hR2
  have HM2 := Lib.hid (HM.out.self hm2)
  have hfar : ∀ g, (Value.slice A m cp).ownBlock = some g → ¬ S g := fun g hg e => by have := HN.out.2.2 g hg; have := HL.out g e; omega
  have hN2 := newE_mod HN.out hm2 hfar
  have HN2 := Lib.hid hN2
  have Hx := Lib.hid hx
  have Hxok := Lib.hid hxok
  have Hstep := Lib.hid hstep
  clear hbad hok hR2 hT hx hxok hstep hN2 hm2 hfar
  have hown : ((w2.alloc (.cells #[.int .i64 x.term, .int .i64 x.kind, .int .i64 x.call.client, .int .i64 x.call.seq, .int .i64 x.call.cmd.kind, .string x.call.cmd.key, .int .i64 x.call.cmd.old.kind, .float .f64 x.call.cmd.old.num, .string x.call.cmd.old.text, .int .i64 x.call.cmd.val.kind, .float .f64 x.call.cmd.val.num, .string x.call.cmd.val.text, .int .i64 x.conf.full, .int .i64 x.conf.wit, .int .i64 x.conf.learn, .int .i64 x.conf.learnWit] 44))).ownsRow 0 44 16 (.slice A m cp) m (os.flatMap AEntry.cells) := by
   have h1 := HN2.out.1
   rw [Hom.out] at h1
   exact own_mod h1 ((Mod.refl (fun _ => False) w2).alloc _) (fun _ _ => id)
  go_wp2_with (at_builtin; refine wpList_app _ rfl _ _ 22 rfl 44 i0 _ 16 152 Try.underlying22 hi hz0 hz1 hz2 rfl (by omega) (.slice A m cp) m (os.flatMap AEntry.cells) rfl hown _ _ 1 ([x].flatMap AEntry.cells) rfl (ents_lit' w2 x Hxok.out).1 (entry_one [x]) (by simp only [maxLen]; omega) (by omega) ?_)
  intro v' w3 ho hgr hat
  have hE0 : Ext w2 (w2.alloc (.cells #[.int .i64 x.term, .int .i64 x.kind, .int .i64 x.call.client, .int .i64 x.call.seq, .int .i64 x.call.cmd.kind, .string x.call.cmd.key, .int .i64 x.call.cmd.old.kind, .float .f64 x.call.cmd.old.num, .string x.call.cmd.old.text, .int .i64 x.call.cmd.val.kind, .float .f64 x.call.cmd.val.num, .string x.call.cmd.val.text, .int .i64 x.conf.full, .int .i64 x.conf.wit, .int .i64 x.conf.learn, .int .i64 x.conf.learnWit] 44)) := (Mod.refl _ _).alloc _
  have hN3 := newE_app HN2.out (k := [x]) (by simpa using Hxok.out) Hom.out rfl ho hat (by have := HM2.out.size; simp; omega)
  have hgm : Mod (fun g => (Value.slice A m cp).ownBlock = some g) w2 w3 := (hE0.mod _).trans ((Mod.refl _ _).grown hgr (fun k_ e => .inr e)) (fun _ _ e => e)
  have hR3 := HR2.out.mod hgm (fun g hg e => by have := HN2.out.2.2 g e; have := HL.out g hg; omega) (fun e => by have := HN2.out.2.2 c e; have := H.out.lt; omega)
  have hM3 : Mod S w w3 := HM2.out.trans hgm (fun g hg e => absurd (HN2.out.2.2 g e) (by omega))
  obtain ⟨A3, c3, rfl⟩ := own_form ho
  have hps : wEs K r1 = behind (os ++ [x]) (wEs (k - 1) r'.entP.2) := by
   rw [Hps.out, Hstep.out]
   simp only [if_neg (show ¬ (false = true) by simp)]
   cases wEs (k - 1) r'.entP.2 with
   | none => rfl
   | some q => simp [behind]
  have HN3 := Lib.hid hN3
  have HR3 := Lib.hid hR3
  have HM3 := Lib.hid hM3
  have Hps3 := Lib.hid hps
  clear ho hgr hat hown hE0 hN3 hgm hR3 hM3 hps
  go_wp2
  exact ⟨⟨k - 1, m + 1, A3, c3, os ++ [x], r'.entP.2, by go_num, rfl, by simp [Hom.out], by omega, HN3.out, HR3.out, HM3.out, Hps3.out⟩, by simp [intOf]; omega⟩
/-- What a reading of a hard state leaves. -/
def HOut (w : World) (S : Nat → Prop) (c b : Nat) (o : Option (AHard × RS)) (e : Ending) (w' : World) : Prop :=
 Mod S w w' ∧ (o = none → e = thrown 3) ∧ ∀ y r', o = some (y, r') → ∃ sv lv, e = .returned (.agg (y.cells sv lv).toArray) ∧ NewB w w' sv y.snap ∧ NewE w w' lv y.log ∧ Rw w' S c b r'
set_option maxRecDepth 100000 in
set_option maxHeartbeats 2000000 in
theorem wr_hard (w : World) (S : Nat → Prop) (c b : Nat) (r : RS) (h : Rw w S c b r) (hlen : r.left.length ≤ 100000) :
  Calls Try.prog 52 #[.pointer (some ⟨c, 0, none⟩)] w (HOut w S c b r.hardW) := by
 obtain ⟨q, hq⟩ : ∃ q, w.heap.size = q := ⟨_, rfl⟩
 obtain ⟨W, hW⟩ : ∃ W, W = w.alloc (.cells #[.int .i64 0, .int .i64 0, .int .i64 0, .int .i64 0, .int .i64 0, .int .i64 0, .int .i64 0, .int .i64 0, .slice none 0 0, .slice none 0 0] 54) := ⟨_, rfl⟩
 have hE : Ext w W := by rw [hW]; exact (Mod.refl _ w).alloc _
 have hA : W.heap[q]? = some (.cells #[.int .i64 0, .int .i64 0, .int .i64 0, .int .i64 0, .int .i64 0, .int .i64 0, .int .i64 0, .int .i64 0, .slice none 0 0, .slice none 0 0] 54 (0, 0)) := by rw [hW, ← hq]; exact heap_alloc_new w _
 have hsz : W.heap.size = q + 1 := by rw [hW, ← hq]; simp
 have hnq : ¬ S q := fun e => by have := h.2.2.2 q e; omega
 have hcq : ¬ c = q := by have := h.lt; omega
 have hqc : ¬ q = c := by omega
 have Hnq := Lib.hid hnq
 have HR : Hid (Rw W S c b r) := Lib.hid (h.ext hE)
 have HM : Hid (Mod S w W) := Lib.hid (hE.mod S)
 have HA := Lib.hid hA
 have HW := Lib.hid hW
 have Hq := Lib.hid hq
 have hqw : w.heap.size ≤ q := by omega
 have Hqw := Lib.hid hqw
 have Hsz := Lib.hid hsz
 have rl := h.lt
 have Hlow := Lib.hid h.2.2.2
 clear hW hq hE h hA hsz hqw
 go_enter Try.func52, Try.ntmps52
 go_wp2_with fail
 rw [← HW.out, Hq.out]
 have hE1 : Ext W (W.alloc (.cells #[.pointer (some ⟨q, 0, none⟩), .pointer (some ⟨q, 1, none⟩), .pointer (some ⟨q, 2, none⟩), .pointer (some ⟨q, 3, none⟩)] 122)) := (Mod.refl _ W).alloc _
 have hsl := sl_ptrs W q 4 122 #[.pointer (some ⟨q, 0, none⟩), .pointer (some ⟨q, 1, none⟩), .pointer (some ⟨q, 2, none⟩), .pointer (some ⟨q, 3, none⟩)] rfl (by omega)
 rw [Hsz.out] at hsl
 refine (wr_into _ S _ c b q r 4 [.int .i64 0, .int .i64 0, .int .i64 0, .int .i64 0] [.int .i64 0, .int .i64 0, .int .i64 0, .int .i64 0, .slice none 0 0, .slice none 0 0] 54 _ (HR.out.ext hE1) (hE1.blk HA.out id) rfl (by omega) hsl (fun g e => by
  subst e
  intro hh
  rcases hh with hh | hh
  ·
   have := HR.out.2.2.2 _ hh; have := Hsz.out; omega
  ·
   omega) hnq hcq).mono ?_
 rintro e w1 ⟨rfl, hR1, hA1, hm1⟩
 obtain ⟨a0, a1, a2, a3, r1, hints⟩ := ints4 r
 rw [hints] at hR1 hA1
 replace hA1 : w1.heap[q]? = some (.cells #[.int .i64 a0, .int .i64 a1, .int .i64 a2, .int .i64 a3, .int .i64 0, .int .i64 0, .int .i64 0, .int .i64 0, .slice none 0 0, .slice none 0 0] 54 (0, 0)) := hA1
 replace HA := Lib.hid hA1
 replace HM : Hid (Mod S w w1) := Lib.hid ((HM.out.ext hE1).trans hm1 (fun i hi e => by
  rcases e with e | e
  ·
   exact e
  ·
   have := Hqw.out; omega))
 replace HR := Lib.hid hR1
 have Hints := Lib.hid hints
 clear HW Hsz hE1 hsl hR1 hA1 hm1 hints
 have hle1 : r1.left.length ≤ r.left.length := by
  have h1 := Hints.out
  simp only [RS.ints, Prod.mk.injEq] at h1
  rw [← h1.2]
  have e1 := int_left_le r
  have e2 := int_left_le r.int.2
  have e3 := int_left_le r.int.2.int.2
  have e4 := int_left_le r.int.2.int.2.int.2
  omega
 go_wp2_with fail
 refine (wr_conf w1 S c b r1 HR.out).mono ?_
 rintro e w2 ⟨hm2, _, hok⟩
 obtain ⟨rfl, hR2⟩ := hok rfl
 replace HR := Lib.hid hR2
 replace HM := Lib.hid (HM.out.self hm2)
 replace HA := Lib.hid (hm2.blk HA.out hnq)
 clear hok hR2 hm2
 go_wp2_with (refine wpList_stR rfl 24 _ _ rfl 4 q 4 [.int .i64 r1.confP.1.full, .int .i64 r1.confP.1.wit, .int .i64 r1.confP.1.learn, .int .i64 r1.confP.1.learnWit] rfl rfl str_conf _ _ [.int .i64 a0, .int .i64 a1, .int .i64 a2, .int .i64 a3, .int .i64 r1.confP.1.full, .int .i64 r1.confP.1.wit, .int .i64 r1.confP.1.learn, .int .i64 r1.confP.1.learnWit, .slice none 0 0, .slice none 0 0] HA.out rfl (by simp) (List.all_eq_true.1 rfl) rfl ?_)
 intro w3 hA4 hm4 hs4
 replace HA : Hid (w3.heap[q]? = some (.cells #[.int .i64 a0, .int .i64 a1, .int .i64 a2, .int .i64 a3, .int .i64 r1.confP.1.full, .int .i64 r1.confP.1.wit, .int .i64 r1.confP.1.learn, .int .i64 r1.confP.1.learnWit, .slice none 0 0, .slice none 0 0] 54 (0, 0))) := Lib.hid hA4
 replace HR := Lib.hid (HR.out.mod hm4 (fun g hg e => Hnq.out (e ▸ hg)) hcq)
 replace HM := Lib.hid (mod_new HM.out hm4 Hqw.out)
 clear hA4 hm4 hs4
 have rc := HR.out.cell
 go_wp2_with fail
 refine (r_text w3 S b r1.confP.2 HR.out.1 HR.out.2.2.2).mono ?_
 rintro e w4 ⟨sv, rfl, hNB, hR2, hm2⟩
 clear rc
 have hsq : w.heap.size ≤ w3.heap.size := HM.out.size
 have HNB : Hid (NewB w w4 sv r1.confP.2.text.1) := Lib.hid ⟨hNB.1, fun g hg => Nat.le_trans hsq (hNB.2 g hg)⟩
 have HNq : Hid (∀ g, sv.ownBlock = some g → q < g) := Lib.hid (fun g hg => by have h1 := hNB.2 g hg; have h2 := (Array.getElem?_eq_some_iff.1 HA.out).1; omega)
 obtain ⟨A5, c5, rfl⟩ := own_form hNB.1
 replace HR := Lib.hid (HR.out.step hm2 hR2)
 replace HM := Lib.hid (HM.out.self hm2)
 replace HA := Lib.hid (hm2.blk HA.out hnq)
 obtain ⟨tx, hx⟩ : ∃ x, r1.confP.2.text.1 = x := ⟨_, rfl⟩
 obtain ⟨r2, hr2⟩ : ∃ r, r1.confP.2.text.2 = r := ⟨_, rfl⟩
 rw [hx] at HNB HNq ⊢
 rw [hr2] at HR
 have Hxtx := Lib.hid hx
 have Hrr2 := Lib.hid hr2
 have hcv := trivial
 clear hx hr2 hNB hR2 hm2 hsq
 have a8 : w4.cell? ⟨q, 8, none⟩ = some _ := blk_cell HA.out rfl
 have f8 : w4.frozen? ⟨q, 8, none⟩ = false := blk_free 8 HA.out
 obtain ⟨w5, hWn⟩ : ∃ w5, w4.setCell ⟨q, 8, none⟩ (.slice A5 tx.length c5) = w5 := ⟨_, rfl⟩
 have hA4 : w5.heap[q]? = some (.cells #[.int .i64 a0, .int .i64 a1, .int .i64 a2, .int .i64 a3, .int .i64 r1.confP.1.full, .int .i64 r1.confP.1.wit, .int .i64 r1.confP.1.learn, .int .i64 r1.confP.1.learnWit, .slice A5 tx.length c5, .slice none 0 0] 54 (0, 0)) := by rw [← hWn]; exact blk_set HA.out 8 (.slice A5 tx.length c5)
 have hm4 : Mod (fun k => k = q) w4 w5 := by rw [← hWn]; exact mod_same (Mod.refl _ _) _ _
 have rc := HR.out.cell
 replace HA := Lib.hid hA4
 replace HR := Lib.hid (HR.out.mod hm4 (fun g hg e => Hnq.out (e ▸ hg)) hcq)
 replace HM := Lib.hid (mod_new HM.out hm4 Hqw.out)
 replace HNB : Hid (NewB w w5 (.slice A5 tx.length c5) tx) := Lib.hid ⟨own_mod HNB.out.1 hm4 (fun g h1 h2 => by have := HNq.out g h1; omega), HNB.out.2⟩
 have HWn := Lib.hid hWn
 clear hA4 hm4 hWn hcv
 go_wp2_with fail
 rw [HWn.out]
 refine (r_left w5 S b r2 HR.out.1).mono ?_
 rintro e w' ⟨rfl, rfl⟩
 rw [← HWn.out]
 have hln : r2.leftN ≤ 100000 := by
  have e1 := confP_left_le r1
  have e2 := text_left_le r1.confP.2
  rw [Hrr2.out] at e2
  unfold RS.leftN
  split <;> omega
 go_wp2_with fail
 rw [HWn.out]
 clear HWn a8 f8 rc
 refine (wr_entries w5 S c b r2 HR.out r2.leftN hln).mono ?_
 rintro e w6 ⟨hm2, hbad, hok⟩
 have hHW : r.hardW = (match r2.listW r2.leftN with
  | none => none
  | some l => some (⟨a0, a1, a2, a3, r1.confP.1, tx, l.1⟩, l.2)) := by
  have h1 := Hints.out
  simp only [RS.ints, Prod.mk.injEq, List.cons.injEq, and_true] at h1
  obtain ⟨⟨g1, g2, g3, g4⟩, g5⟩ := h1
  unfold RS.hardW
  simp only
  rw [g5, g1, g2, g3, g4, Hxtx.out, Hrr2.out]
  cases r2.listW r2.leftN <;> rfl
 rcases hT : r2.listW r2.leftN with _ | ⟨l, r3⟩
 ·
  obtain rfl := hbad hT
  refine ⟨rfl, HM.out.self hm2, fun _ => rfl, fun y r' h => ?_⟩
  rw [hHW, hT] at h
  cases h
 obtain ⟨A6, c6, rfl, hNE, hR2⟩ := hok _ _ hT
 have hsq : w.heap.size ≤ w5.heap.size := HM.out.size
 have HHW : Hid (r.hardW = some (⟨a0, a1, a2, a3, r1.confP.1, tx, l⟩, r3)) := Lib.hid (by rw [hHW, hT])
 have HNE : Hid (NewE w w6 (.slice A6 l.length c6) l) := Lib.hid (newE_up hNE hsq)
 have HNq2 : Hid (∀ g, (Value.slice A6 l.length c6).ownBlock = some g → q < g) := Lib.hid (fun g hg => by have h1 := hNE.2.2 g hg; have h2 := (Array.getElem?_eq_some_iff.1 HA.out).1; omega)
 replace HNB : Hid (NewB w w6 (.slice A5 tx.length c5) tx) := Lib.hid ⟨own_mod HNB.out.1 hm2 (fun g h1 h2 => by have := HNB.out.2 g h1; have := HR.out.2.2.2 g h2; have := Hlow.out g h2; omega), HNB.out.2⟩
 replace HR := Lib.hid hR2
 replace HM := Lib.hid (HM.out.self hm2)
 replace HA := Lib.hid (hm2.blk HA.out hnq)
 clear hbad hok hR2 hm2 hT hNE hsq hHW
 have a9 : w6.cell? ⟨q, 9, none⟩ = some _ := blk_cell HA.out rfl
 have f9 : w6.frozen? ⟨q, 9, none⟩ = false := blk_free 9 HA.out
 obtain ⟨w7, hWn⟩ : ∃ w7, w6.setCell ⟨q, 9, none⟩ (.slice A6 l.length c6) = w7 := ⟨_, rfl⟩
 have hA4 : w7.heap[q]? = some (.cells #[.int .i64 a0, .int .i64 a1, .int .i64 a2, .int .i64 a3, .int .i64 r1.confP.1.full, .int .i64 r1.confP.1.wit, .int .i64 r1.confP.1.learn, .int .i64 r1.confP.1.learnWit, .slice A5 tx.length c5, .slice A6 l.length c6] 54 (0, 0)) := by rw [← hWn]; exact blk_set HA.out 9 (.slice A6 l.length c6)
 have hm4 : Mod (fun k => k = q) w6 w7 := by rw [← hWn]; exact mod_same (Mod.refl _ _) _ _
 replace HA := Lib.hid hA4
 replace HR := Lib.hid (HR.out.mod hm4 (fun g hg e => Hnq.out (e ▸ hg)) hcq)
 replace HM := Lib.hid (mod_new HM.out hm4 Hqw.out)
 replace HNB : Hid (NewB w w7 (.slice A5 tx.length c5) tx) := Lib.hid ⟨own_mod HNB.out.1 hm4 (fun g h1 h2 => by have := HNq.out g h1; omega), HNB.out.2⟩
 replace HNE : Hid (NewE w w7 (.slice A6 l.length c6) l) := Lib.hid (newE_mod HNE.out hm4 (fun g h1 h2 => by have := HNq2.out g h1; omega))
 have hld := load_row (P := Try.prog) (o := 0) (cs := [.int .i64 a0, .int .i64 a1, .int .i64 a2, .int .i64 a3, .int .i64 r1.confP.1.full, .int .i64 r1.confP.1.wit, .int .i64 r1.confP.1.learn, .int .i64 r1.confP.1.learnWit, .slice A5 tx.length c5, .slice A6 l.length c6]) str_hard HA.out rfl (fun j u hu => by rw [Nat.zero_add]; exact hu)
 have hst := store_self (P := Try.prog) str_hard HA.out rfl (List.all_eq_true.1 rfl)
 rw [← hWn] at hld hst
 have HWn := Lib.hid hWn
 clear hA4 hm4 hWn
 go_wp2_with (first | (refine wpList_ld rfl 54 _ rfl _ _ rfl hld ?_) | (refine wpList_st rfl 54 _ _ rfl _ _ rfl rfl hst ?_))
 rw [HWn.out]
 clear hld hst
 obtain ⟨c_0, c_1, c_2, c_3, c_4, c_5, c_6, c_7, c_8, c_9⟩ := cq10 HA.out
 refine bodyPost_ret (v := .agg #[.int .i64 a0, .int .i64 a1, .int .i64 a2, .int .i64 a3, .int .i64 r1.confP.1.full, .int .i64 r1.confP.1.wit, .int .i64 r1.confP.1.learn, .int .i64 r1.confP.1.learnWit, .slice A5 tx.length c5, .slice A6 l.length c6]) (by simp [results, Try.results52, go_sem, c_0, c_1, c_2, c_3, c_4, c_5, c_6, c_7, c_8, c_9]) rfl ⟨HM.out, fun h => ?_, fun y r' h => ?_⟩
 ·
  rw [HHW.out] at h
  cases h
 ·
  rw [HHW.out] at h
  simp only [Option.some.injEq, Prod.mk.injEq] at h
  obtain ⟨rfl, rfl⟩ := h
  exact ⟨_, _, rfl, HNB.out, HNE.out, HR.out⟩
/-- A hard state is told, and a code. -/
def RdHard (w : World) (Y : Option AHard) (e : Ending) (w' : World) : Prop := ∃ y c sv lv, y = Y.getD AHard.zero ∧ c = (if Y.isSome then (0 : Int) else 3) ∧ e = .returned (.tuple #[.agg (y.cells sv lv).toArray, .int .i64 c]) ∧ NewB w w' sv y.snap ∧ NewE w w' lv y.log ∧ Ext w w'
def RdHardP (w : World) (Y : Option AHard) (e : Ending) (w' : World) : Prop := ∃ y c sv lv, y = Y.getD AHard.zero ∧ c = Y.isSome ∧ e = .returned (.tuple #[.agg (y.cells sv lv).toArray, .bool c]) ∧ NewB w w' sv y.snap ∧ NewE w w' lv y.log ∧ Ext w w'
theorem rdHardP_none {w w' : World} {Y : Option AHard} (h : Y = none) (hE : Ext w w') : RdHardP w Y (.returned (.tuple #[.agg #[.int .i64 0, .int .i64 0, .int .i64 0, .int .i64 0, .int .i64 0, .int .i64 0, .int .i64 0, .int .i64 0, .slice none 0 0, .slice none 0 0], .bool false])) w' :=
 ⟨AHard.zero, false, .slice none 0 0, .slice none 0 0, by rw [h]; rfl, by rw [h]; rfl, rfl, ⟨World.ownsRow_nil _ _ _ _, by simp [Value.ownBlock]⟩, newE_nil _ _, hE⟩
end Go.Proofs.Ytfkacakbengboaa
