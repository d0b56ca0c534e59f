/-
 The walk of HistMore. Conditions: as the theorems name them.
-/
import Derived.Test.YtbclnghbgoblcaaHisWake
import Derived.Test.YtbclnghbgoblcaaHisLog
import Derived.Test.YtbclnghbgoblcaaHisRefO
namespace Go.Proofs.Ytbclnghbgoblcaa
set_option linter.unusedSimpArgs false
open Go.RowKit

theorem flatMap_takeK {α : Type} {c : α → List Value} {k : Nat} (hc : ∀ a, (c a).length = k) : ∀ (l : List α) (m : Nat), (l.flatMap c).take (m * k) = (l.take m).flatMap c := by
 intro l
 induction l with
 | nil => intro m; simp
 | cons a l ih =>
  intro m
  cases m with
  | zero => simp
  | succ m =>
   rw [List.flatMap_cons, List.take_succ_cons, List.take_append, hc a, List.take_of_length_le (by rw [hc a, Nat.succ_mul]; omega), List.flatMap_cons, Nat.succ_mul, Nat.add_sub_cancel]
   rw [ih m]
theorem Evs.upto {w : World} {T : Nat → Prop} {A : Option Addr} {n c m : Nat} {l : List AEvent} (h : Evs w T (.slice A n c) l) (hn : l.length = n) (hm : m ≤ n) : Evs w T (.slice A m c) (l.take m) := by
 obtain ⟨h1, h2⟩ := h
 rw [hn] at h1
 refine ⟨?_, fun x hx => h2 x (List.mem_of_mem_take hx)⟩
 have h3 := h1.upto hm
 have e : (l.take m).length = m := by rw [List.length_take, hn]; omega
 have e2 : (l.flatMap AEvent.cells).take (m * 16) = (l.take m).flatMap AEvent.cells := flatMap_takeK (c := AEvent.cells) (k := 16) (fun _ => rfl) l m
 rw [e, ← e2]
 exact h3

set_option maxRecDepth 100000 in
set_option maxHeartbeats 4000000 in
theorem histMore_walk (w : World) (A B D : Option Addr) (n cc N cb M cd : Nat) (l : List AEntry) (h : List AEvent) (more : List AEntry) (hC : Ents w (fun g => g < w.heap.size) (.slice A n cc) l) (hn : l.length = n)
  (hV : Evs w (fun g => g < w.heap.size) (.slice B N cb) h) (hN : h.length = N) (hM : Ents w (fun g => g < w.heap.size) (.slice D M cd) more) (hm : more.length = M) :
  Calls Try.prog 6 #[.slice A n cc, .slice B N cb, .slice D M cd] w fun e w' => e = .returned (.bool true) ∧ Below w.heap.size w w' := by
 have hl := hC.1.le
 have hl2 := hV.1.le
 have hl3 := hM.1.le
 rw [hn] at hl
 rw [hN] at hl2
 rw [hm] at hl3
 unfold maxLen at hl hl2 hl3
 have hNc : N ≤ cb := by obtain ⟨⟨_, A', c', e, h1, _⟩, _⟩ := hV; injection e with _ _ e3; omega
 obtain ⟨i0, hinf, hz0, hz1, hz2⟩ := info_parts info_entry
 have HC := Lib.hid hC
 have HV := Lib.hid hV
 have HM := Lib.hid hM
 have Hn := Lib.hid hn
 have HN := Lib.hid hN
 have Hm := Lib.hid hm
 clear hC hV hM hn hN hm
 rcases h1 : heavyH l h with _ | _
 case true =>
  go_enter Try.func6, Try.ntmps6
  go_wp2_with fail
  refine (hv_hist w _ _ _ _ l h HC.out HV.out).mono ?_
  rintro e w1 ⟨rfl, hE⟩
  have HX := Lib.hid hE
  rw [h1]
  clear hE
  go_wp2
  go_ret
  exact ⟨rfl, Ext.below HX.out⟩
 have hsm := heavyH_no h1
 rw [Hn.out, HN.out] at hsm
 by_cases h2 : 60 < M
 ·
  have d : decide ((60 : Int) < (M : Int)) = true := by simp; omega
  go_enter Try.func6, Try.ntmps6
  go_wp2_with fail
  refine (hv_hist w _ _ _ _ l h HC.out HV.out).mono ?_
  rintro e w1 ⟨rfl, hE⟩
  have HX := Lib.hid hE
  rw [h1]
  clear hE
  go_wp2
  go_ret
  exact ⟨rfl, Ext.below HX.out⟩
 have d : decide ((60 : Int) < (M : Int)) = false := by simp; omega
 rcases h3 : heavyEnts more with _ | _
 case true =>
  go_enter Try.func6, Try.ntmps6
  go_wp2_with fail
  refine (hv_hist w _ _ _ _ l h HC.out HV.out).mono ?_
  rintro e w1 ⟨rfl, hE⟩
  have HX := Lib.hid hE
  rw [h1]
  clear hE
  go_wp2_with fail
  refine (hv_entries w1 _ _ more (HM.out.ext HX.out)).mono ?_
  rintro e w2 ⟨rfl, hE⟩
  replace HX := Lib.hid (HX.out.ext hE)
  rw [h3]
  clear hE
  go_wp2
  go_ret
  exact ⟨rfl, Ext.below HX.out⟩
 rcases h4 : orderB l h with _ | _
 case false =>
  go_enter Try.func6, Try.ntmps6
  go_wp2_with fail
  refine (hv_hist w _ _ _ _ l h HC.out HV.out).mono ?_
  rintro e w1 ⟨rfl, hE⟩
  have HX := Lib.hid hE
  rw [h1]
  clear hE
  go_wp2_with fail
  refine (hv_entries w1 _ _ more (HM.out.ext HX.out)).mono ?_
  rintro e w2 ⟨rfl, hE⟩
  replace HX := Lib.hid (HX.out.ext hE)
  rw [h3]
  clear hE
  go_wp2_with fail
  refine (h_order w2 _ _ _ _ l h (HC.out.ext HX.out) (HV.out.ext HX.out)).mono ?_
  rintro e w3 ⟨rfl, hE⟩
  replace HX := Lib.hid (HX.out.ext hE)
  rw [h4]
  clear hE
  go_wp2_with fail
  refine (l_wakes25 _).mono ?_
  rintro e wk ⟨rfl, hE⟩
  replace HX := Lib.hid (HX.out.ext hE)
  clear hE
  go_wp2
  go_ret
  exact ⟨rfl, Ext.below HX.out⟩
 go_enter Try.func6, Try.ntmps6
 go_wp2_with fail
 refine (hv_hist w _ _ _ _ l h HC.out HV.out).mono ?_
 rintro e w1 ⟨rfl, hE⟩
 have HX := Lib.hid hE
 rw [h1]
 clear hE
 go_wp2_with fail
 refine (hv_entries w1 _ _ more (HM.out.ext HX.out)).mono ?_
 rintro e w2 ⟨rfl, hE⟩
 replace HX := Lib.hid (HX.out.ext hE)
 rw [h3]
 clear hE
 go_wp2_with fail
 refine (h_order w2 _ _ _ _ l h (HC.out.ext HX.out) (HV.out.ext HX.out)).mono ?_
 rintro e w3 ⟨rfl, hE⟩
 replace HX := Lib.hid (HX.out.ext hE)
 rw [h4]
 clear hE
 have Ho := Lib.hid h4
 clear h1 h3 h4
 go_wp2_with fail
 refine (k_twinEntries w3 _ _ l (HC.out.ext HX.out) (by rw [Hn.out]; omega)).mono ?_
 rintro e w4 ⟨v4, rfl, hN4, hE4⟩
 obtain ⟨A4, c4, rfl⟩ := hN4.form
 have hown : w4.ownsRow 0 39 16 (.slice A4 n c4) n (l.flatMap AEntry.cells) := by
  have := hN4.1
  rwa [Hn.out] at this
 have hL4 := newE_up hN4 HX.out.size
 replace HX := Lib.hid (HX.out.ext hE4)
 have hMs : Sl w4 (fun g => g < w.heap.size) 16 (.slice D M cd) M (more.flatMap AEntry.cells) := by
  have := (HM.out.ext HX.out).1
  rwa [Hm.out] at this
 have HL4 := Lib.hid hL4
 have Hown := Lib.hid hown
 have HMs := Lib.hid hMs
 clear hN4 hE4 hown hL4 hMs
 rw [Hn.out] at HL4 ⊢
 go_wp2_with (at_builtin; go_must (refine wpList_app _ rfl _ _ 23 rfl 39 i0 _ 16 152 Try.underlying23 hinf hz0 hz1 hz2 rfl (by omega) _ n _ rfl Hown.out _ _ M (more.flatMap AEntry.cells) rfl HMs.out (entry_one more) (by simp only [maxLen]; omega) (by omega) ?_))
 intro v' w5 ho hgr hat
 have hL5 : NewE w w5 v' (l ++ more) := newE_app HL4.out HM.out.2 Hn.out Hm.out ho hat (by have := HX.out.size; omega)
 have hlo := HL4.out.2.2
 have hM5 : Mod (fun k => (Value.slice A4 n c4).ownBlock = some k) w4 w5 := (Mod.refl _ _).grown hgr (fun k e => .inr e)
 replace HX : Hid (Ext w w5) := Lib.hid (Mod.toExt ((Ext.mod HX.out (Since w.heap.size)).trans hM5 (fun k _ e => hlo k e)))
 obtain ⟨A5, c5, rfl⟩ := hL5.form
 obtain ⟨K, hK⟩ : ∃ K, (l ++ more).length = K := ⟨_, rfl⟩
 rw [hK] at hL5 ⊢
 have HL5 := Lib.hid hL5
 have HK := Lib.hid hK
 clear ho hgr hat hL5 hlo hM5 HL4 Hown HMs hK hinf hz0 hz1 hz2
 go_wp2_with fail
 go_loopw [8] (fun iv wr => ∃ i : Nat, i ≤ N ∧ iv = .int .i64 i ∧ Ext w wr ∧ NewE w wr (.slice A5 K c5) (l ++ more)) (fun iv _ => N - (intOf iv).toNat)
 case atStart => exact ⟨0, by omega, rfl, HX.out, HL5.out⟩
 case round =>
  clear HX HL5
  obtain ⟨i, hin, rfl, hEr, hL⟩ := hrel
  have HX := Lib.hid hEr
  have HL := Lib.hid hL
  clear hEr hL
  by_cases hi : i < N
  case pos =>
   obtain ⟨g, off, x, rfl, hgT, hx, hxok, hcells⟩ := (HV.out.ext HX.out).at hi
   have hi0 : (0 : Int) ≤ (i : Int) := by omega
   have hi1 : (i : Int) < (N : Int) := by omega
   have x0 : wr.cell? ⟨g, off + i * 16, none⟩ = some _ := hcells 0 _ rfl
   have hld := load_told x.told (at_told (x := x) hcells)
   have Hx := Lib.hid hx
   have Hxok := Lib.hid hxok
   clear hcells hx hxok hgT
   rcases ha : x.ask with _ | _
   ·
    rw [ha] at x0
    have Ht : Hid (toldP (l ++ more) x.told = true) := Lib.hid (toldP_more (order_told Ho.out x (List.mem_of_getElem? Hx.out) ha))
    clear ha
    go_wp2_with (refine wpList_loadW rfl 54 _ rfl _ _ rfl hld ?_)
    refine (h_told wr _ _ (l ++ more) x.told HL.out.ents Hxok.out).mono ?_
    rintro e w2 ⟨rfl, hE2⟩
    rw [Ht.out]
    have HL2 := Lib.hid (newE_mod HL.out hE2 (fun _ _ => id))
    replace HX := Lib.hid (HX.out.ext hE2)
    clear hld hE2 x0
    go_wp2
    exact ⟨⟨i + 1, by omega, by go_num, HX.out, HL2.out⟩, by simp [intOf]; omega⟩
   ·
    rw [ha] at x0
    clear hld
    go_wp2
    exact ⟨⟨i + 1, by omega, by go_num, HX.out, HL.out⟩, by simp [intOf]; omega⟩
  obtain ⟨ws, rfl⟩ : ∃ ws : World, ws = wr := ⟨_, rfl⟩
  go_wp2_with fail
  refine (h_order ws _ _ _ _ (l ++ more) h HL.out.ents (HV.out.ext HX.out)).mono ?_
  rintro e w6 ⟨rfl, hE⟩
  rw [order_more Ho.out]
  replace HX := Lib.hid (HX.out.ext hE)
  clear hE HL
  by_cases hz : N = 0
  ·
   have dz : ((N : Int) == 0) = true := by simp; omega
   have Hz := Lib.hid hz
   clear hz
   go_wp2_with fail
   refine (r25_order w6 _ _ _ _ l h (HC.out.ext HX.out) (HV.out.ext HX.out)).mono ?_
   rintro e w7 ⟨rfl, hE⟩
   rw [Ho.out]
   replace HX := Lib.hid (HX.out.ext hE)
   clear hE
   go_wp2_with fail
   refine (l_wakes25 _).mono ?_
   rintro e wk ⟨rfl, hE⟩
   replace HX := Lib.hid (HX.out.ext hE)
   clear hE
   go_wp2
   go_ret
   exact ⟨rfl, Ext.below HX.out⟩
  have dz : ((N : Int) == 0) = false := by simp; omega
  obtain ⟨j, hj⟩ : ∃ j, N - 1 = j := ⟨_, rfl⟩
  have hw1 : IntKind.i64.wrap ((N : Int) - 1) = (j : Int) := by rw [IntWalk.i64_in _ (by omega)]; omega
  have hjN : (N : Int) - 1 = (j : Int) := by omega
  have j0 : (0 : Int) ≤ (j : Int) := by omega
  have j1 : (j : Int) ≤ (cb : Int) := by omega
  have j2 : j ≤ N := by omega
  have Hs : Hid (orderB l (h.take j) = true) := Lib.hid (by
   refine order_snoc (x := h[j]'(by rw [HN.out]; omega)) ?_
   rw [← List.take_succ_eq_append_getElem, List.take_of_length_le (by rw [HN.out]; omega)]
   exact Ho.out)
  clear hj hz
  go_wp2_with fail
  refine (h_order w6 _ _ _ _ l (h.take j) (HC.out.ext HX.out) ((HV.out.ext HX.out).upto HN.out j2)).mono ?_
  rintro e w7 ⟨rfl, hE⟩
  rw [Hs.out]
  replace HX := Lib.hid (HX.out.ext hE)
  clear hE
  go_wp2_with fail
  refine (r25_order w7 _ _ _ _ l h (HC.out.ext HX.out) (HV.out.ext HX.out)).mono ?_
  rintro e w8 ⟨rfl, hE⟩
  rw [Ho.out]
  replace HX := Lib.hid (HX.out.ext hE)
  clear hE
  go_wp2_with fail
  refine (l_wakes25 _).mono ?_
  rintro e wk ⟨rfl, hE⟩
  replace HX := Lib.hid (HX.out.ext hE)
  clear hE
  go_wp2
  go_ret
  exact ⟨rfl, Ext.below HX.out⟩
theorem histMore_a (w : World) (v0 v1 v2 : Value) (l : List AEntry) (h : List AEvent) (more : List AEntry) (hC : Ents w (fun g => g < w.heap.size) v0 l) (hV : Evs w (fun g => g < w.heap.size) v1 h) (hM : Ents w (fun g => g < w.heap.size) v2 more) :
  Calls Try.prog 6 #[v0, v1, v2] w fun e w' => e = .returned (.bool true) ∧ Below w.heap.size w w' := by
 obtain ⟨A, cc, rfl⟩ := hC.form
 obtain ⟨B, cb, rfl⟩ := hV.form
 obtain ⟨D, cd, rfl⟩ := hM.form
 exact histMore_walk w A B D _ cc _ cb _ cd l h more hC rfl hV rfl hM rfl
end Go.Proofs.Ytbclnghbgoblcaa
