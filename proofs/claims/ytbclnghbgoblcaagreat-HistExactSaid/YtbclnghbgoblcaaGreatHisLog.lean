/-
 Lists of entries and of events of one's own, their twins, the laws' bounds on sizes. Conditions: as each theorem names them.
-/
import Derived.Test.YtbclnghbgoblcaaGreatHisCopy
import Derived.Test.YtbclnghbgoblcaaGreatSesLib
namespace Go.Proofs.YtbclnghbgoblcaaGreat
set_option linter.unusedSimpArgs false
open Go.RowKit

theorem own_own {w : World} {e t : TypeId} {k n k' n' g : Nat} {v v' : Value} {xs xs' : List Value} (h : w.ownsRow 0 e k v n xs) (h' : w.ownsRow 0 t k' v' n' xs') (ht : e ≠ t) (hg : v.ownBlock = some g) : v'.ownBlock ≠ some g := by
 intro hg'
 rcases row_of_own h' with ⟨rfl, _⟩ | ⟨g', cap, cur, rfl, hR, _⟩
 ·
  simp [Value.ownBlock] at hg'
 ·
  simp [Value.ownBlock] at hg'
  subst hg'
  exact own_apart h hg hR ht rfl
theorem any_step {α : Type} {p : α → Bool} {l : List α} {i : Nat} {x : α} (h : (l.take i).any p = false) (hx : l[i]? = some x) (e : p x = false) : (l.take (i + 1)).any p = false := by
 obtain ⟨hi, rfl⟩ := List.getElem?_eq_some_iff.1 hx
 rw [List.take_succ_eq_append_getElem hi, List.any_append, h]; simp [e]
theorem info_entry : (Tryz.prog.info? 67).map (fun i => (i.zero, i.size, i.bytes)) = some (some (.agg #[.int .i64 0, .int .i64 0, .int .i64 0, .int .i64 0, .int .i64 0, .string ⟨#[]⟩, .int .i64 0, .float .f64 0, .string ⟨#[]⟩, .int .i64 0, .float .f64 0, .string ⟨#[]⟩, .int .i64 0, .int .i64 0, .int .i64 0, .int .i64 0]), 16, 152) := by kernel_rfl
theorem entry_one (l : List AEntry) : ∀ u ∈ l.flatMap AEntry.cells, u.oneCell' = true := by
 intro u hu
 obtain ⟨p, _, hp⟩ := List.mem_flatMap.1 hu
 simp only [AEntry.cells, List.mem_cons, List.not_mem_nil, or_false] at hp
 rcases hp with rfl | rfl | rfl | rfl | rfl | rfl | rfl | rfl | rfl | rfl | rfl | rfl | rfl | rfl | rfl | rfl <;> rfl
/-- Of one's own. -/
def NewE (w w' : World) (v : Value) (l : List AEntry) : Prop := w'.ownsRow 0 67 16 v l.length (l.flatMap AEntry.cells) ∧ (∀ x ∈ l, x.ok) ∧ ∀ g, v.ownBlock = some g → w.heap.size ≤ g
theorem NewE.ents {w w' : World} {v : Value} {l : List AEntry} (h : NewE w w' v l) : Ents w' (fun g => v.ownBlock = some g) v l := ⟨Sl.of_own h.1 (fun _ h => h), h.2.1⟩
theorem newE_mod {W w1 w2 : World} {S : Nat → Prop} {v : Value} {l : List AEntry} (h : NewE W w1 v l) (hm : Mod S w1 w2) (hd : ∀ g, v.ownBlock = some g → ¬ S g) : NewE W w2 v l := ⟨own_mod h.1 hm hd, h.2.1, h.2.2⟩
theorem newE_up {W w0 w1 : World} {v : Value} {l : List AEntry} (h : NewE w0 w1 v l) (hs : W.heap.size ≤ w0.heap.size) : NewE W w1 v l := ⟨h.1, h.2.1, fun g hg => Nat.le_trans hs (h.2.2 g hg)⟩
theorem newE_nil (W w : World) : NewE W w (.slice none 0 0) [] := ⟨World.ownsRow_nil _ _ _ _, by simp, by simp [Value.ownBlock]⟩
theorem newE_box {W w w' : World} {v : Value} {l : List AEntry} {b : Nat} {t : TypeId} {cs : Array Value} {q : Nat × Nat} (h : NewE W w v l) (hb : w.heap[b]? = some (.cells cs t q)) (hM : Mod (fun k => k = b) w w') (h1 : 67 ≠ t) : NewE W w' v l :=
 newE_mod h hM (fun _ hg => own_apart h.1 hg hb h1)
theorem NewE.form {w w' : World} {v : Value} {l : List AEntry} (h : NewE w w' v l) : ∃ A c, v = .slice A l.length c := own_form h.1
/-- Behind an append. -/
theorem newE_app {W w w' : World} {v v' : Value} {l k : List AEntry} {n m q : Nat} (h : NewE W w v l) (hk : ∀ x ∈ k, x.ok) (hn : l.length = n) (hm : k.length = m) (ho : w'.ownsRow 0 67 16 v' (n + m) (l.flatMap AEntry.cells ++ k.flatMap AEntry.cells)) (hat : v'.ownBlock = v.ownBlock ∨ v'.ownBlock = some q) (hs : W.heap.size ≤ q) : NewE W w' v' (l ++ k) := by
 refine ⟨by rw [List.length_append, List.flatMap_append, hn, hm]; exact ho, fun x hx => ?_, fun g hg => ?_⟩
 ·
  rcases List.mem_append.1 hx with hx | hx
  ·
   exact h.2.1 x hx
  ·
   exact hk x hx
 ·
  rcases hat with e | e <;> rw [e] at hg
  ·
   exact h.2.2 g hg
  ·
   injection hg with hg; omega
set_option maxRecDepth 100000 in
set_option maxHeartbeats 400000 in
theorem k_twinEntries (w : World) (T : Nat → Prop) (v : Value) (l : List AEntry) (h : Ents w T v l) (hl : l.length ≤ 1000000) :
  Calls Tryz.prog 5 #[v] w fun e w' => ∃ v', e = .returned v' ∧ NewE w w' v' l ∧ Ext w w' := by
 obtain ⟨i0, hi, hz0, hz1, hz2⟩ := info_parts info_entry
 obtain ⟨n, hn⟩ : ∃ n, l.length = n := ⟨_, rfl⟩
 obtain ⟨A, c, rfl⟩ := h.form
 obtain ⟨h1, h2⟩ := h
 rw [hn] at hl h1 ⊢
 have Hn := Lib.hid hn
 have H2 := Lib.hid h2
 clear hn h2
 go_enter Tryz.func5, Tryz.ntmps5
 go_wp2_with (at_builtin; refine wpList_app _ rfl _ _ 22 rfl 67 i0 _ 16 152 Tryz.underlying22 hi hz0 hz1 hz2 rfl (by omega) _ 0 [] rfl (World.ownsRow_nil _ _ _ _) T _ n (l.flatMap AEntry.cells) rfl h1 (entry_one l) (by simp only [maxLen]; omega) (by omega) ?_)
 intro v' w1 ho hgr hat
 have hE : Ext w w1 := (Mod.refl _ w).grown hgr (by simp [Value.ownBlock])
 have hN : NewE w w1 v' l := by
  refine ⟨by rw [Hn.out]; simpa using ho, H2.out, fun g hgg => ?_⟩
  rcases hat with e | e <;> rw [e] at hgg <;> simp [Value.ownBlock] at hgg <;> omega
 go_wp2
 go_ret
 exact ⟨v', rfl, hN, hE⟩
theorem info_event : (Tryz.prog.info? 50).map (fun i => (i.zero, i.size, i.bytes)) = some (some (.agg #[.bool false, .int .i64 0, .int .i64 0, .int .i64 0, .string ⟨#[]⟩, .int .i64 0, .float .f64 0, .string ⟨#[]⟩, .int .i64 0, .float .f64 0, .string ⟨#[]⟩, .int .i64 0, .int .i64 0, .float .f64 0, .string ⟨#[]⟩, .int .i64 0]), 16, 160) := by kernel_rfl
theorem event_one (l : List AEvent) : ∀ u ∈ l.flatMap AEvent.cells, u.oneCell' = true := by
 intro u hu
 obtain ⟨p, _, hp⟩ := List.mem_flatMap.1 hu
 simp only [AEvent.cells, List.mem_cons, List.not_mem_nil, or_false] at hp
 rcases hp with rfl | rfl | rfl | rfl | rfl | rfl | rfl | rfl | rfl | rfl | rfl | rfl | rfl | rfl | rfl | rfl <;> rfl
/-- Of one's own. -/
def NewV (w w' : World) (v : Value) (l : List AEvent) : Prop := w'.ownsRow 0 50 16 v l.length (l.flatMap AEvent.cells) ∧ (∀ x ∈ l, x.ok) ∧ ∀ g, v.ownBlock = some g → w.heap.size ≤ g
theorem NewV.evs {w w' : World} {v : Value} {l : List AEvent} (h : NewV w w' v l) : Evs w' (fun g => v.ownBlock = some g) v l := ⟨Sl.of_own h.1 (fun _ h => h), h.2.1⟩
theorem newV_mod {W w1 w2 : World} {S : Nat → Prop} {v : Value} {l : List AEvent} (h : NewV W w1 v l) (hm : Mod S w1 w2) (hd : ∀ g, v.ownBlock = some g → ¬ S g) : NewV W w2 v l := ⟨own_mod h.1 hm hd, h.2.1, h.2.2⟩
theorem newV_up {W w0 w1 : World} {v : Value} {l : List AEvent} (h : NewV w0 w1 v l) (hs : W.heap.size ≤ w0.heap.size) : NewV W w1 v l := ⟨h.1, h.2.1, fun g hg => Nat.le_trans hs (h.2.2 g hg)⟩
theorem newV_nil (W w : World) : NewV W w (.slice none 0 0) [] := ⟨World.ownsRow_nil _ _ _ _, by simp, by simp [Value.ownBlock]⟩
theorem newV_box {W w w' : World} {v : Value} {l : List AEvent} {b : Nat} {t : TypeId} {cs : Array Value} {q : Nat × Nat} (h : NewV W w v l) (hb : w.heap[b]? = some (.cells cs t q)) (hM : Mod (fun k => k = b) w w') (h1 : 50 ≠ t) : NewV W w' v l :=
 newV_mod h hM (fun _ hg => own_apart h.1 hg hb h1)
theorem NewV.form {w w' : World} {v : Value} {l : List AEvent} (h : NewV w w' v l) : ∃ A c, v = .slice A l.length c := own_form h.1
/-- Behind an append. -/
theorem newV_app {W w w' : World} {v v' : Value} {l k : List AEvent} {n m q : Nat} (h : NewV W w v l) (hk : ∀ x ∈ k, x.ok) (hn : l.length = n) (hm : k.length = m) (ho : w'.ownsRow 0 50 16 v' (n + m) (l.flatMap AEvent.cells ++ k.flatMap AEvent.cells)) (hat : v'.ownBlock = v.ownBlock ∨ v'.ownBlock = some q) (hs : W.heap.size ≤ q) : NewV W w' v' (l ++ k) := by
 refine ⟨by rw [List.length_append, List.flatMap_append, hn, hm]; exact ho, fun x hx => ?_, fun g hg => ?_⟩
 ·
  rcases List.mem_append.1 hx with hx | hx
  ·
   exact h.2.1 x hx
  ·
   exact hk x hx
 ·
  rcases hat with e | e <;> rw [e] at hg
  ·
   exact h.2.2 g hg
  ·
   injection hg with hg; omega
set_option maxRecDepth 100000 in
set_option maxHeartbeats 400000 in
theorem k_twinEvents (w : World) (T : Nat → Prop) (v : Value) (l : List AEvent) (h : Evs w T v l) (hl : l.length ≤ 1000000) :
  Calls Tryz.prog 6 #[v] w fun e w' => ∃ v', e = .returned v' ∧ NewV w w' v' l ∧ Ext w w' := by
 obtain ⟨i0, hi, hz0, hz1, hz2⟩ := info_parts info_event
 obtain ⟨n, hn⟩ : ∃ n, l.length = n := ⟨_, rfl⟩
 obtain ⟨A, c, rfl⟩ := h.form
 obtain ⟨h1, h2⟩ := h
 rw [hn] at hl h1 ⊢
 have Hn := Lib.hid hn
 have H2 := Lib.hid h2
 clear hn h2
 go_enter Tryz.func6, Tryz.ntmps6
 go_wp2_with (at_builtin; refine wpList_app _ rfl _ _ 23 rfl 50 i0 _ 16 160 Tryz.underlying23 hi hz0 hz1 hz2 rfl (by omega) _ 0 [] rfl (World.ownsRow_nil _ _ _ _) T _ n (l.flatMap AEvent.cells) rfl h1 (event_one l) (by simp only [maxLen]; omega) (by omega) ?_)
 intro v' w1 ho hgr hat
 have hE : Ext w w1 := (Mod.refl _ w).grown hgr (by simp [Value.ownBlock])
 have hN : NewV w w1 v' l := by
  refine ⟨by rw [Hn.out]; simpa using ho, H2.out, fun g hgg => ?_⟩
  rcases hat with e | e <;> rw [e] at hgg <;> simp [Value.ownBlock] at hgg <;> omega
 go_wp2
 go_ret
 exact ⟨v', rfl, hN, hE⟩
def heavyEnts (l : List AEntry) : Bool := decide (200 < l.length) || l.any fun x => heavyCmd x.call.cmd
set_option maxRecDepth 100000 in
set_option maxHeartbeats 1000000 in
theorem hv_entries (w : World) (T : Nat → Prop) (v : Value) (l : List AEntry) (h : Ents w T v l) :
  Calls Tryz.prog 22 #[v] w fun e w' => e = .returned (.bool (heavyEnts l)) ∧ Ext w w' := by
 have hl := h.1.le
 unfold maxLen at hl
 obtain ⟨n, hn⟩ : ∃ n, l.length = n := ⟨_, rfl⟩
 obtain ⟨A, c, rfl⟩ := h.form
 rw [hn] at h hl ⊢
 have Hn := Lib.hid hn
 by_cases h200 : 200 < n
 ·
  have d : decide ((200 : Int) < (n : Int)) = true := by simp; omega
  have Hf : Hid (heavyEnts l = true) := Lib.hid (by simp [heavyEnts, hn, h200])
  clear hn
  go_enter Tryz.func22, Tryz.ntmps22
  go_wp2
  go_ret
  exact ⟨ret_bool Hf.out.symm, Mod.refl _ w⟩
 have d : decide ((200 : Int) < (n : Int)) = false := by simp; omega
 have Hd : Hid (decide (200 < l.length) = false) := Lib.hid (by rw [hn]; simpa using h200)
 clear hn
 go_enter Tryz.func22, Tryz.ntmps22
 go_wp2
 go_loopw [3] (fun iv wr => ∃ i : Nat, i ≤ n ∧ iv = .int .i64 i ∧ Ext w wr ∧ (l.take i).any (fun x => heavyCmd x.call.cmd) = false) (fun iv _ => n - (intOf iv).toNat)
 case atStart => exact ⟨0, by omega, rfl, Mod.refl _ w, by simp⟩
 case round =>
  obtain ⟨i, hin, rfl, hE, hs⟩ := hrel
  have Hs := Lib.hid hs
  have h2 := h.mod hE (fun _ _ => id)
  clear hs
  by_cases hi : i < n
  ·
   obtain ⟨g, off, x, rfl, hgT, hx, hxok, hcells⟩ := h2.at hi
   have hi0 : (0 : Int) ≤ (i : Int) := by omega
   have hi1 : (i : Int) < (n : Int) := by omega
   have x4 := hcells 4 _ rfl
   have x5 := hcells 5 _ rfl
   have x6 := hcells 6 _ rfl
   have x7 := hcells 7 _ rfl
   have x8 := hcells 8 _ rfl
   have x9 := hcells 9 _ rfl
   have x10 := hcells 10 _ rfl
   have x11 := hcells 11 _ rfl
   have Hx := Lib.hid hx
   clear hcells hx h2 hxok
   go_wp2_with fail
   refine (hv_cmd x.call.cmd _).mono ?_
   rintro e w1 ⟨rfl, hE1⟩
   have hE1 := Mod.ext hE hE1
   have HE1 := Lib.hid hE1
   clear hE1 x4 x5 x6 x7 x8 x9 x10 x11
   rcases hq : heavyCmd x.call.cmd with _ | _
   ·
    have Hq := Lib.hid hq
    clear hq
    go_wp2
    exact ⟨⟨i + 1, by omega, by go_num, HE1.out, any_step Hs.out Hx.out Hq.out⟩, by simp [intOf]; omega⟩
   ·
    have Hf : Hid (heavyEnts l = true) := Lib.hid (by unfold heavyEnts; rw [any_yes Hx.out hq, Bool.or_true])
    go_wp2
    go_ret
    exact ⟨ret_bool Hf.out.symm, HE1.out⟩
  ·
   have Hf : Hid (heavyEnts l = false) := Lib.hid (by
    have := Hs.out
    rw [List.take_of_length_le (by rw [Hn.out]; omega)] at this
    unfold heavyEnts; rw [this, Hd.out]; rfl)
   go_wp2
   go_ret
   exact ⟨ret_bool Hf.out.symm, hE⟩
def heavyEv (x : AEvent) : Bool := heavyCmd x.told.call.cmd || decide (2000 < x.told.reply.val.text.size)
def heavyH (l : List AEntry) (h : List AEvent) : Bool := decide (60 < l.length) || heavyEnts l || decide (60 < h.length) || h.any heavyEv
theorem heavyH_no {l : List AEntry} {h : List AEvent} (hv : heavyH l h = false) : l.length ≤ 60 ∧ h.length ≤ 60 := by
 unfold heavyH at hv
 simp only [Bool.or_eq_false_iff, decide_eq_false_iff_not] at hv
 omega
set_option maxRecDepth 100000 in
set_option maxHeartbeats 4000000 in
theorem hv_hist (w : World) (T U : Nat → Prop) (v v2 : Value) (l : List AEntry) (h : List AEvent) (hC : Ents w T v l) (hV : Evs w U v2 h) :
  Calls Tryz.prog 4 #[v, v2] w fun e w' => e = .returned (.bool (heavyH l h)) ∧ Ext w w' := by
 have hl := hC.1.le
 have hlV := hV.1.le
 unfold maxLen at hl hlV
 obtain ⟨n, hn⟩ : ∃ n, l.length = n := ⟨_, rfl⟩
 obtain ⟨A, c, rfl⟩ := hC.form
 obtain ⟨N, hN⟩ : ∃ N, h.length = N := ⟨_, rfl⟩
 obtain ⟨B, cb, rfl⟩ := hV.form
 rw [hn] at hC hl ⊢
 rw [hN] at hV hlV ⊢
 have HC := Lib.hid hC
 have HV := Lib.hid hV
 have Hn := Lib.hid hn
 have HN := Lib.hid hN
 clear hC hV hn hN
 by_cases h60 : 60 < n
 ·
  have d : decide ((60 : Int) < (n : Int)) = true := by simp; omega
  have Hf : Hid (heavyH l h = true) := Lib.hid (by unfold heavyH; rw [Hn.out]; simp [h60])
  go_enter Tryz.func4, Tryz.ntmps4
  go_wp2
  go_ret
  exact ⟨ret_bool Hf.out.symm, Mod.refl _ w⟩
 have d : decide ((60 : Int) < (n : Int)) = false := by simp; omega
 rcases he : heavyEnts l with _ | _
 case true =>
  have Hf : Hid (heavyH l h = true) := Lib.hid (by unfold heavyH; rw [he]; simp)
  go_enter Tryz.func4, Tryz.ntmps4
  go_wp2_with fail
  refine (hv_entries _ _ _ l HC.out).mono ?_
  rintro e w1 ⟨rfl, hE⟩
  rw [he]
  go_wp2
  go_ret
  exact ⟨ret_bool Hf.out.symm, hE⟩
 by_cases h61 : 60 < N
 ·
  have d2 : decide ((60 : Int) < (N : Int)) = true := by simp; omega
  have Hf : Hid (heavyH l h = true) := Lib.hid (by unfold heavyH; rw [HN.out]; simp [h61])
  go_enter Tryz.func4, Tryz.ntmps4
  go_wp2_with fail
  refine (hv_entries _ _ _ l HC.out).mono ?_
  rintro e w1 ⟨rfl, hE⟩
  rw [he]
  go_wp2
  go_ret
  exact ⟨ret_bool Hf.out.symm, hE⟩
 have d2 : decide ((60 : Int) < (N : Int)) = false := by simp; omega
 have Hno : Hid (h.any heavyEv = false → heavyH l h = false) := Lib.hid (fun e => by unfold heavyH; rw [Hn.out, HN.out, he, e]; simp; omega)
 go_enter Tryz.func4, Tryz.ntmps4
 go_wp2_with fail
 refine (hv_entries _ _ _ l HC.out).mono ?_
 rintro e W ⟨rfl, hE⟩
 rw [he]
 have HE := Lib.hid hE
 have HV2 := Lib.hid (HV.out.ext hE)
 clear hE
 go_wp2
 go_loopw [5] (fun iv wr => ∃ i : Nat, i ≤ N ∧ iv = .int .i64 i ∧ Ext W wr ∧ (h.take i).any heavyEv = false) (fun iv _ => N - (intOf iv).toNat)
 case atStart => exact ⟨0, by omega, rfl, Mod.refl _ W, by simp⟩
 case round =>
  obtain ⟨i, hin, rfl, hE, hs⟩ := hrel
  have Hs := Lib.hid hs
  have h2 := HV2.out.ext hE
  clear hs
  by_cases hi : i < N
  ·
   obtain ⟨g, off, x, rfl, hgT, hx, hxok, hcells⟩ := h2.at hi
   have hi0 : (0 : Int) ≤ (i : Int) := by omega
   have hi1 : (i : Int) < (N : Int) := by omega
   have x3 := hcells 3 _ rfl
   have x4 := hcells 4 _ rfl
   have x5 := hcells 5 _ rfl
   have x6 := hcells 6 _ rfl
   have x7 := hcells 7 _ rfl
   have x8 := hcells 8 _ rfl
   have x9 := hcells 9 _ rfl
   have x10 := hcells 10 _ rfl
   have x14 := hcells 14 _ rfl
   have Hx := Lib.hid hx
   have Hxok := Lib.hid hxok
   clear hcells hx h2 hxok
   go_wp2_with fail
   refine (hv_cmd x.told.call.cmd _).mono ?_
   rintro e w1 ⟨rfl, hE1⟩
   have y14 := hE1.cell x14 id
   have hE1 := Mod.ext hE hE1
   have HE1 := Lib.hid hE1
   clear hE1 x3 x4 x5 x6 x7 x8 x9 x10 x14 hE
   rcases hq : heavyCmd x.told.call.cmd with _ | _
   ·
    rcases hq2 : decide (2000 < x.told.reply.val.text.size) with _ | _
    ·
     have Hq : Hid (heavyEv x = false) := Lib.hid (by unfold heavyEv; rw [hq, hq2]; rfl)
     have d5 : decide ((2000 : Int) < (x.told.reply.val.text.size : Int)) = false := by simp at hq2 ⊢; omega
     clear hq hq2
     go_wp2
     exact ⟨⟨i + 1, by omega, by go_num, HE1.out, any_step Hs.out Hx.out Hq.out⟩, by simp [intOf]; omega⟩
    ·
     have Hf : Hid (heavyH l h = true) := Lib.hid (by unfold heavyH; rw [any_yes (p := heavyEv) Hx.out (by unfold heavyEv; rw [hq2]; simp), Bool.or_true])
     have d5 : decide ((2000 : Int) < (x.told.reply.val.text.size : Int)) = true := by simp at hq2 ⊢; omega
     clear hq hq2
     go_wp2
     go_ret
     exact ⟨ret_bool Hf.out.symm, HE.out.ext HE1.out⟩
   ·
    have Hf : Hid (heavyH l h = true) := Lib.hid (by unfold heavyH; rw [any_yes (p := heavyEv) Hx.out (by unfold heavyEv; rw [hq]; rfl), Bool.or_true])
    clear hq
    go_wp2
    go_ret
    exact ⟨ret_bool Hf.out.symm, HE.out.ext HE1.out⟩
  ·
   have Hf : Hid (heavyH l h = false) := Lib.hid (Hno.out (by
    have := Hs.out
    rw [List.take_of_length_le (by rw [HN.out]; omega)] at this
    exact this))
   clear h2
   go_wp2
   go_ret
   exact ⟨ret_bool Hf.out.symm, HE.out.ext hE⟩
end Go.Proofs.YtbclnghbgoblcaaGreat
