/-
 The contract of the page's History (layer 25). Conditions: as each theorem names them.
-/
import Derived.Test.YtbclnghbgoblcaaGreatHisHistP
import Derived.Test.YtbclnghbgoblcaaGreatHisKeep
import Derived.Test.YtbclnghbgoblcaaGreatHisArr
import Derived.Test.YtbclnghbgoblcaaGreatHisOrder
import Derived.Test.YtbclnghbgoblcaaGreatHisRefO
namespace Go.Proofs.YtbclnghbgoblcaaGreat
set_option linter.unusedSimpArgs false
set_option linter.unusedVariables false
open Go.RowKit

/-- What the page keeps: each client's number, its last call, and whether it waits. -/
def KepR (w : World) (q : Nat) (s : List ACall × List Bool) : Prop := Row w q 62 (s.1.map fun c => Value.int .i64 c.seq) ∧ Row w (q + 1) 58 (s.1.flatMap ACall.cells) ∧ Row w (q + 1 + 1) 59 (s.2.map Value.bool) ∧ s.1.length = 5 ∧ s.2.length = 5 ∧ (∀ c ∈ s.1, 0 ≤ c.seq ∧ c.seq ≤ 1099511627776)
theorem KepR.mod {w w' : World} {S : Nat → Prop} {q : Nat} {s : List ACall × List Bool} (h : KepR w q s) (hm : Mod S w w') (h1 : ¬ S q) (h2 : ¬ S (q + 1)) (h3 : ¬ S (q + 1 + 1)) : KepR w' q s := ⟨h.1.mod hm h1, h.2.1.mod hm h2, h.2.2.1.mod hm h3, h.2.2.2⟩
theorem KepR.ask {w : World} {q k : Nat} {s : List ACall × List Bool} {y c : ACall} {v : Bool} (h : KepR w q s) (hk : s.1[k]? = some y) (hc : 0 ≤ c.seq ∧ c.seq ≤ 1099511627776) :
  KepR (((callAt (w.setCell ⟨q, k, none⟩ (.int .i64 c.seq)) (q + 1) (k * 10) c)).setCell ⟨q + 1 + 1, k, none⟩ (.bool v)) q (s.1.set k c, s.2.set k v) := by
 obtain ⟨h1, h2, h3, h4, h5, h6⟩ := h
 have r1 := row_set (j := k) (.int .i64 c.seq) h1
 have m1 : Mod (fun g => g = q) w (w.setCell ⟨q, k, none⟩ (.int .i64 c.seq)) := mod_same (Mod.refl _ _) _ _
 have r2 := callAt_row c (h2.mod m1 (by omega)) hk
 have m2 := callAt_mod (w.setCell ⟨q, k, none⟩ (.int .i64 c.seq)) (q + 1) (k * 10) c
 have r3 := row_set (j := k) (.bool v) ((h3.mod m1 (by omega)).mod m2 (by omega))
 have m3 : Mod (fun g => g = q + 1 + 1) (callAt (w.setCell ⟨q, k, none⟩ (.int .i64 c.seq)) (q + 1) (k * 10) c) ((callAt (w.setCell ⟨q, k, none⟩ (.int .i64 c.seq)) (q + 1) (k * 10) c).setCell ⟨q + 1 + 1, k, none⟩ (.bool v)) := mod_same (Mod.refl _ _) _ _
 refine ⟨?_, r2.mod m3 (by omega), ?_, by rw [List.length_set]; exact h4, by rw [List.length_set]; exact h5, fun d hd => ?_⟩
 ·
  have := (r1.mod m2 (by omega)).mod m3 (by omega)
  rw [List.map_set]
  exact this
 ·
  rw [List.map_set]
  exact r3
 ·
  rcases List.mem_or_eq_of_mem_set hd with h | h
  ·
   exact h6 d h
  ·
   subst h; exact hc
theorem KepR.told {w : World} {q k : Nat} {s : List ACall × List Bool} {v : Bool} (h : KepR w q s) : KepR (w.setCell ⟨q + 1 + 1, k, none⟩ (.bool v)) q (s.1, s.2.set k v) := by
 obtain ⟨h1, h2, h3, h4, h5, h6⟩ := h
 have m3 : Mod (fun g => g = q + 1 + 1) w (w.setCell ⟨q + 1 + 1, k, none⟩ (.bool v)) := mod_same (Mod.refl _ _) _ _
 have r3 := row_set (j := k) (.bool v) h3
 exact ⟨h1.mod m3 (by omega), h2.mod m3 (by omega), by rw [List.map_set]; exact r3, h4, by rw [List.length_set]; exact h5, h6⟩
theorem event_callAt {w : World} {g o : Nat} {x : AEvent} (h : At w g o x.cells) : At w g (o + 1) x.told.call.cells := fun j u hu => by
 have hj : j < 10 := (List.getElem?_eq_some_iff.1 hu).1
 have := at_told (x := x) h
 refine this j u ?_
 have e : x.told.cells = x.told.call.cells ++ [.int .i64 x.told.reply.code, .int .i64 x.told.reply.val.kind, .float .f64 x.told.reply.val.num, .string x.told.reply.val.text, .int .i64 x.told.index] := rfl
 rw [e, List.getElem?_append_left (by show j < 10; exact hj)]
 exact hu

set_option maxRecDepth 100000 in
set_option maxHeartbeats 8000000 in
theorem r25_history_a (w : World) (T : Nat → Prop) (B : Option Addr) (N cb : Nat) (h : List AEvent) (hV : Evs w T (.slice B N cb) h) (hN : h.length = N) :
  Calls Tryz.prog 8 #[.slice B N cb] w fun e w' => e = .returned (.bool (histR h)) ∧ Ext w w' := by
 replace hV : Evs w (fun g => T g ∧ g < w.heap.size) (.slice B N cb) h := ⟨by rw [hN]; exact (hN ▸ hV.1).cap (by omega), hV.2⟩
 have hl := hV.1.le
 rw [hN] at hl
 unfold maxLen at hl
 obtain ⟨q, hq⟩ : ∃ q, w.heap.size = q := ⟨_, rfl⟩
 obtain ⟨W, hW⟩ : ∃ W, W = ((w.alloc (.cells #[.int .i64 0, .int .i64 0, .int .i64 0, .int .i64 0, .int .i64 0] 62)).alloc (.cells #[.int .i64 0, .int .i64 0, .int .i64 0, .string ⟨#[]⟩, .int .i64 0, .float .f64 0, .string ⟨#[]⟩, .int .i64 0, .float .f64 0, .string ⟨#[]⟩, .int .i64 0, .int .i64 0, .int .i64 0, .string ⟨#[]⟩, .int .i64 0, .float .f64 0, .string ⟨#[]⟩, .int .i64 0, .float .f64 0, .string ⟨#[]⟩, .int .i64 0, .int .i64 0, .int .i64 0, .string ⟨#[]⟩, .int .i64 0, .float .f64 0, .string ⟨#[]⟩, .int .i64 0, .float .f64 0, .string ⟨#[]⟩, .int .i64 0, .int .i64 0, .int .i64 0, .string ⟨#[]⟩, .int .i64 0, .float .f64 0, .string ⟨#[]⟩, .int .i64 0, .float .f64 0, .string ⟨#[]⟩, .int .i64 0, .int .i64 0, .int .i64 0, .string ⟨#[]⟩, .int .i64 0, .float .f64 0, .string ⟨#[]⟩, .int .i64 0, .float .f64 0, .string ⟨#[]⟩] 58)).alloc (.cells #[.bool false, .bool false, .bool false, .bool false, .bool false] 59) := ⟨_, rfl⟩
 have hE : Ext w W := by rw [hW]; exact (((Mod.refl _ w).alloc _).alloc _).alloc _
 obtain ⟨hA, hB, hsz⟩ := two_new w (.cells #[.int .i64 0, .int .i64 0, .int .i64 0, .int .i64 0, .int .i64 0] 62) (.cells #[.int .i64 0, .int .i64 0, .int .i64 0, .string ⟨#[]⟩, .int .i64 0, .float .f64 0, .string ⟨#[]⟩, .int .i64 0, .float .f64 0, .string ⟨#[]⟩, .int .i64 0, .int .i64 0, .int .i64 0, .string ⟨#[]⟩, .int .i64 0, .float .f64 0, .string ⟨#[]⟩, .int .i64 0, .float .f64 0, .string ⟨#[]⟩, .int .i64 0, .int .i64 0, .int .i64 0, .string ⟨#[]⟩, .int .i64 0, .float .f64 0, .string ⟨#[]⟩, .int .i64 0, .float .f64 0, .string ⟨#[]⟩, .int .i64 0, .int .i64 0, .int .i64 0, .string ⟨#[]⟩, .int .i64 0, .float .f64 0, .string ⟨#[]⟩, .int .i64 0, .float .f64 0, .string ⟨#[]⟩, .int .i64 0, .int .i64 0, .int .i64 0, .string ⟨#[]⟩, .int .i64 0, .float .f64 0, .string ⟨#[]⟩, .int .i64 0, .float .f64 0, .string ⟨#[]⟩] 58)
 have hM := heap_alloc_new ((w.alloc (.cells #[.int .i64 0, .int .i64 0, .int .i64 0, .int .i64 0, .int .i64 0] 62)).alloc (.cells #[.int .i64 0, .int .i64 0, .int .i64 0, .string ⟨#[]⟩, .int .i64 0, .float .f64 0, .string ⟨#[]⟩, .int .i64 0, .float .f64 0, .string ⟨#[]⟩, .int .i64 0, .int .i64 0, .int .i64 0, .string ⟨#[]⟩, .int .i64 0, .float .f64 0, .string ⟨#[]⟩, .int .i64 0, .float .f64 0, .string ⟨#[]⟩, .int .i64 0, .int .i64 0, .int .i64 0, .string ⟨#[]⟩, .int .i64 0, .float .f64 0, .string ⟨#[]⟩, .int .i64 0, .float .f64 0, .string ⟨#[]⟩, .int .i64 0, .int .i64 0, .int .i64 0, .string ⟨#[]⟩, .int .i64 0, .float .f64 0, .string ⟨#[]⟩, .int .i64 0, .float .f64 0, .string ⟨#[]⟩, .int .i64 0, .int .i64 0, .int .i64 0, .string ⟨#[]⟩, .int .i64 0, .float .f64 0, .string ⟨#[]⟩, .int .i64 0, .float .f64 0, .string ⟨#[]⟩] 58)) (.cells #[.bool false, .bool false, .bool false, .bool false, .bool false] 59)
 have hE2 : Ext ((w.alloc (.cells #[.int .i64 0, .int .i64 0, .int .i64 0, .int .i64 0, .int .i64 0] 62)).alloc (.cells #[.int .i64 0, .int .i64 0, .int .i64 0, .string ⟨#[]⟩, .int .i64 0, .float .f64 0, .string ⟨#[]⟩, .int .i64 0, .float .f64 0, .string ⟨#[]⟩, .int .i64 0, .int .i64 0, .int .i64 0, .string ⟨#[]⟩, .int .i64 0, .float .f64 0, .string ⟨#[]⟩, .int .i64 0, .float .f64 0, .string ⟨#[]⟩, .int .i64 0, .int .i64 0, .int .i64 0, .string ⟨#[]⟩, .int .i64 0, .float .f64 0, .string ⟨#[]⟩, .int .i64 0, .float .f64 0, .string ⟨#[]⟩, .int .i64 0, .int .i64 0, .int .i64 0, .string ⟨#[]⟩, .int .i64 0, .float .f64 0, .string ⟨#[]⟩, .int .i64 0, .float .f64 0, .string ⟨#[]⟩, .int .i64 0, .int .i64 0, .int .i64 0, .string ⟨#[]⟩, .int .i64 0, .float .f64 0, .string ⟨#[]⟩, .int .i64 0, .float .f64 0, .string ⟨#[]⟩] 58)) W := by rw [hW]; exact (Mod.refl _ _).alloc _
 rw [← hW, hsz, hq] at hM
 replace hA := hE2.blk hA id
 replace hB := hE2.blk hB id
 rw [hq] at hA hB
 have hK : KepR W q hist0 := ⟨hA, hB, hM, rfl, rfl, by
  intro c hc
  have := List.eq_of_mem_replicate hc
  rw [this]
  simp [ACall.zero]⟩
 have HK := Lib.hid hK
 have HE := Lib.hid hE
 have HV := Lib.hid hV
 have HN := Lib.hid hN
 have HW := Lib.hid hW
 have Hq := Lib.hid hq
 clear hA hB hM hE2 hsz hK hE hV hN hW hq
 go_enter Tryz.func8, Tryz.ntmps8
 go_wp2
 rw [← HW.out, Hq.out]
 go_loopw [6] (fun iv wr => ∃ (i : Nat) (s : List ACall × List Bool), i ≤ N ∧ iv = .int .i64 i ∧ Ext w wr ∧ KepR wr q s ∧ runR hist0 h = runR s (h.drop i)) (fun iv _ => N - (intOf iv).toNat)
 case atStart => exact ⟨0, hist0, by omega, rfl, HE.out, HK.out, rfl⟩
 case round =>
  clear HK HE HW
  obtain ⟨i, s, hin, rfl, hX, hk, ho⟩ := hrel
  have Ho := Lib.hid ho
  have HX := Lib.hid hX
  have HK := Lib.hid hk
  clear ho hX hk
  by_cases hi : i < N
  case neg =>
   have Hf : Hid (histR h = true) := Lib.hid (by unfold histR; rw [Ho.out, List.drop_eq_nil_of_le (by rw [HN.out]; omega)]; rfl)
   go_wp2
   go_ret
   exact ⟨ret_bool Hf.out.symm, HX.out⟩
  obtain ⟨g, off, x, rfl, hgT, hx, hxok, hcells⟩ := (HV.out.ext HX.out).at hi
  have hi0 : (0 : Int) ≤ (i : Int) := by omega
  have hi1 : (i : Int) < (N : Int) := by omega
  have Hx := Lib.hid hx
  have Hdr := Lib.hid (drop_get hx)
  have Hcells : Hid (At wr g (off + i * 16) x.cells) := Lib.hid hcells
  have hqw : w.heap.size ≤ q := by rw [Hq.out]; exact Nat.le_refl _
  have hgw : g < w.heap.size := hgT.2
  clear hcells hx hxok hgT
  go_upto_region 7 with fail
  go_cut [7] (fun s7 wx => ∃ u : Nat, s7 = .pointer (some ⟨u, 0, none⟩) ∧ wx.heap[u]? = some (.cells #[.int .i64 x.told.call.client, .int .i64 x.told.call.seq, .int .i64 x.told.call.cmd.kind, .string x.told.call.cmd.key, .int .i64 x.told.call.cmd.old.kind, .float .f64 x.told.call.cmd.old.num, .string x.told.call.cmd.old.text, .int .i64 x.told.call.cmd.val.kind, .float .f64 x.told.call.cmd.val.num, .string x.told.call.cmd.val.text] 44 (0, 0)) ∧ Ext wr wx ∧ wr.heap.size ≤ u)
  case first =>
   have hld := load_call x.told.call (event_callAt Hcells.out)
   have hst := store_call_new wr x.told.call
   go_wp2_with (first | (refine wpList_load rfl 44 _ rfl _ _ rfl hld ?_) | (refine wpList_store rfl 44 _ _ rfl _ _ rfl rfl hst ?_))
   go_meet
   exact ⟨_, rfl, heap_alloc_new _ _, (Mod.refl _ _).alloc _, Nat.le_refl _⟩
  obtain ⟨u, rfl, hC, hE, hu⟩ := hcut
  obtain ⟨W1, rfl⟩ : ∃ W1 : World, W1 = wc := ⟨_, rfl⟩
  have hqr : q + 1 + 1 < wr.heap.size := HK.out.2.2.1.lt
  have hx0 : W1.cell? ⟨g, off + i * 16, none⟩ = some (.bool x.ask) := hE.cell (Hcells.out 0 _ rfl) id
  have hxi : W1.cell? ⟨g, off + i * 16 + 1 + 14, none⟩ = some (.int .i64 x.told.index) := hE.cell (Hcells.out 15 _ rfl) id
  have HX1 := Lib.hid (HX.out.ext hE)
  have HK1 := Lib.hid (HK.out.mod hE id id id)
  have KcW1 := Lib.hid hC
  have hbc : w.heap.size ≤ u := by have := HX.out.size; omega
  have hqu : q + 1 + 1 < u := by omega
  clear hE hC hu hqr HX HK Hcells
  have HX := HX1
  have HK := HK1
  clear HX1 HK1
  have gl : g < W1.heap.size := World.block_lt_of_cell? _ _ hx0
  obtain ⟨ce, hce⟩ : ∃ ce, callE x.told.call = ce := ⟨_, rfl⟩
  have Hce := Lib.hid hce
  clear hce
  by_cases hc0 : ce = 0
  case neg =>
   have d1 : (ce != 0) = true := by simp [hc0]
   have d2 : (ce == 0) = false := by simp [hc0]
   have Hs : Hid (stepR s x = none) := Lib.hid (by unfold stepR; rw [if_pos (by rw [Hce.out]; exact hc0)])
   clear hc0
   obtain ⟨c_0, c_1, c_2, c_3, c_4, c_5, c_6, c_7, c_8, c_9⟩ := cq10 KcW1.out
   have c_l : u < W1.heap.size := (Array.getElem?_eq_some_iff.1 KcW1.out).1
   go_wp2_with fail
   clear c_0 c_1 c_2 c_3 c_4 c_5 c_6 c_7 c_8 c_9 c_l
   obtain ⟨c_0, c_1, c_2, c_3, c_4, c_5, c_6, c_7, c_8, c_9⟩ := cq10 KcW1.out
   have c_l : u < W1.heap.size := (Array.getElem?_eq_some_iff.1 KcW1.out).1
   refine wp_region_held_drew (S := fun W' => Ext W1 W') (by kernel_rfl) (Mod.refl _ W1).drew (fun hS => ?_)
   refine tkE 0 (some 20) rfl rfl ?_ hS ?_ ?_; rotate_left; · rintro W' _ _; go_simp; try with_reducible rfl
   try simp only [pL]
   refine wpAnyH_ready (rs := [1]) (by kernel_rfl) (by simp) ?_
   refine AllReadyH.cons rfl (fun K hK => ?_) AllReadyH.nil
   go_simp
   go_wp2_with fail
   refine (r_call x.told.call _).mono ?_
   rintro e w1 ⟨rfl, hE⟩
   rw [Hce.out]
   have hX := Mod.ext hS hE
   clear hE hS
   go_simp
   refine hK.out _ _ hX (fun hS => ?_)
   clear hK K hX
   refine tkE 2 (some 22) rfl rfl ?_ hS ?_ ?_; rotate_left; · rintro W' _ _; go_simp; try with_reducible rfl
   try simp only [pL]
   refine tkE 3 (some 23) rfl rfl ?_ hS ?_ ?_; rotate_left; · rintro W' _ _; go_simp; try with_reducible rfl
   try simp only [pL]
   refine tuH 4 (some 24) rfl rfl hS ?_
   try simp only [pL]
   refine tuH 5 (some 25) rfl rfl hS ?_
   try simp only [pL]
   refine tuH 6 (some 26) rfl rfl hS ?_
   try simp only [pL]
   refine tuH 7 (some 27) rfl rfl hS ?_
   try simp only [pL]
   refine tuH 8 (some 28) rfl rfl hS ?_
   try simp only [pL]
   refine tuH 9 (some 29) rfl rfl hS ?_
   try simp only [pL]
   refine tuH 10 (some 30) rfl rfl hS ?_
   try simp only [pL]
   refine tuH 11 (some 31) rfl rfl hS ?_
   try simp only [pL]
   refine tuH 12 (some 32) rfl rfl hS ?_
   try simp only [pL]
   refine tuH 13 (some 33) rfl rfl hS ?_
   try simp only [pL]
   refine tkE 14 (some 34) rfl rfl ?_ hS ?_ ?_; rotate_left; · rintro W' _ _; go_simp; try with_reducible rfl
   try simp only [pL]
   refine wpAnyH_done (by kernel_rfl) ?_ _
   have hE := hS
   clear hS
   clear c_0 c_1 c_2 c_3 c_4 c_5 c_6 c_7 c_8 c_9 c_l
   have Kcw1 := Lib.hid (hE.blk KcW1.out id)
   replace HK := Lib.hid (HK.out.mod hE id id id)
   replace hx0 := hE.cell hx0 id
   replace HX := Lib.hid (HX.out.ext hE)
   clear KcW1
   clear hE
   obtain ⟨c_0, c_1, c_2, c_3, c_4, c_5, c_6, c_7, c_8, c_9⟩ := cq10 Kcw1.out
   have c_l : u < w1.heap.size := (Array.getElem?_eq_some_iff.1 Kcw1.out).1
   have Hf : Hid (histR h = false) := Lib.hid (by unfold histR; rw [Ho.out, runR_drop Hdr.out, Hs.out]; rfl)
   go_wp2
   go_ret
   exact ⟨ret_bool Hf.out.symm, HX.out⟩
  subst hc0
  have hcn := (call_nums Hce.out).2.2
  obtain ⟨k, sq, cmd, hcc⟩ : ∃ (k : Nat) (sq : Int) (cmd : ACmd), x.told.call = ⟨(k : Int), sq, cmd⟩ := by
   rcases hz : x.told.call with ⟨a, b, c⟩
   rw [hz] at hcn
   simp only at hcn
   refine ⟨a.toNat, b, c, ?_⟩
   rw [show ((a.toNat : Nat) : Int) = a by omega]
  rw [hcc] at hcn
  simp only at hcn
  have hk5 : k < 5 := by omega
  have k0 : (0 : Int) ≤ (k : Int) := by omega
  have k5 : (k : Int) < (5 : Int) := by omega
  obtain ⟨b, hb⟩ : ∃ b, s.2[k]? = some b := ⟨_, List.getElem?_eq_getElem (by rw [HK.out.2.2.2.2.1]; exact hk5)⟩
  obtain ⟨y, hy⟩ : ∃ y, s.1[k]? = some y := ⟨_, List.getElem?_eq_getElem (by rw [HK.out.2.2.2.1]; exact hk5)⟩
  have hyk := HK.out.2.2.2.2.2 y (List.mem_of_getElem? hy)
  have hyl : 0 ≤ y.seq := hyk.1
  have hyh : y.seq ≤ 1099511627776 := hyk.2
  have hwz : IntKind.i64.wrap (y.seq + 1) = y.seq + 1 := IntWalk.i64_in _ (by omega)
  have wv : W1.cell? ⟨q + 1 + 1, k, none⟩ = some (.bool b) := HK.out.2.2.1.cell (by rw [List.getElem?_map, hb]; rfl)
  have qv : W1.cell? ⟨q, k, none⟩ = some (.int .i64 y.seq) := HK.out.1.cell (by rw [List.getElem?_map, hy]; rfl)
  have hyc := calls_at HK.out.2.1 hy
  have y0' : W1.cell? ⟨q + 1, k * 10, none⟩ = some (.int .i64 y.client) := hyc 0 _ rfl
  have y1' : W1.cell? ⟨q + 1, k * 10 + 1, none⟩ = some (.int .i64 y.seq) := hyc 1 _ rfl
  have y2' : W1.cell? ⟨q + 1, k * 10 + 2, none⟩ = some (.int .i64 y.cmd.kind) := hyc 2 _ rfl
  have y3' : W1.cell? ⟨q + 1, k * 10 + 3, none⟩ = some (.string y.cmd.key) := hyc 3 _ rfl
  have y4' : W1.cell? ⟨q + 1, k * 10 + 4, none⟩ = some (.int .i64 y.cmd.old.kind) := hyc 4 _ rfl
  have y5' : W1.cell? ⟨q + 1, k * 10 + 5, none⟩ = some (.float .f64 y.cmd.old.num) := hyc 5 _ rfl
  have y6' : W1.cell? ⟨q + 1, k * 10 + 6, none⟩ = some (.string y.cmd.old.text) := hyc 6 _ rfl
  have y7' : W1.cell? ⟨q + 1, k * 10 + 7, none⟩ = some (.int .i64 y.cmd.val.kind) := hyc 7 _ rfl
  have y8' : W1.cell? ⟨q + 1, k * 10 + 8, none⟩ = some (.float .f64 y.cmd.val.num) := hyc 8 _ rfl
  have y9' : W1.cell? ⟨q + 1, k * 10 + 9, none⟩ = some (.string y.cmd.val.text) := hyc 9 _ rfl
  have ql : q + 1 + 1 < W1.heap.size := HK.out.2.2.1.lt
  have Hce2 : Hid (callE ⟨(k : Int), sq, cmd⟩ = 0) := Lib.hid (by rw [← hcc]; exact Hce.out)
  have Hsq : Hid (0 ≤ sq ∧ sq ≤ 1099511627776) := Lib.hid (by omega)
  have hKc : W1.heap[u]? = some (.cells #[.int .i64 (k : Int), .int .i64 sq, .int .i64 cmd.kind, .string cmd.key, .int .i64 cmd.old.kind, .float .f64 cmd.old.num, .string cmd.old.text, .int .i64 cmd.val.kind, .float .f64 cmd.val.num, .string cmd.val.text] 44 (0, 0)) := by have := KcW1.out; rw [hcc] at this; exact this
  have KcW1 := Lib.hid hKc
  have Hy := Lib.hid hy
  have Hb := Lib.hid hb
  have Hst : Hid (stepR s x = if b = x.ask then none else if x.ask = true then (if sq ≠ y.seq + 1 then none else some (s.1.set k ⟨(k : Int), sq, cmd⟩, s.2.set k true)) else if eqCall ⟨(k : Int), sq, cmd⟩ y = false ∨ x.told.index < 0 then none else some (s.1, s.2.set k false)) := Lib.hid (by
   unfold stepR
   rw [if_neg (by rw [Hce.out]; simp), hcc]
   simp only [Int.toNat_natCast]
   rw [List.getD_eq_getElem?_getD, hb, List.getD_eq_getElem?_getD, hy]
   rfl)
  clear hcn hyk hyc hKc hcc hy hb Hce
  rcases hab : (b == x.ask) with _ | _
  case true =>
   have Hs : Hid (stepR s x = none) := Lib.hid (by rw [Hst.out, if_pos (by simpa using hab)])
   obtain ⟨c_0, c_1, c_2, c_3, c_4, c_5, c_6, c_7, c_8, c_9⟩ := cq10 KcW1.out
   have c_l : u < W1.heap.size := (Array.getElem?_eq_some_iff.1 KcW1.out).1
   go_wp2_with fail
   clear c_0 c_1 c_2 c_3 c_4 c_5 c_6 c_7 c_8 c_9 c_l
   obtain ⟨c_0, c_1, c_2, c_3, c_4, c_5, c_6, c_7, c_8, c_9⟩ := cq10 KcW1.out
   have c_l : u < W1.heap.size := (Array.getElem?_eq_some_iff.1 KcW1.out).1
   refine wp_region_held_drew (S := fun W' => Ext W1 W') (by kernel_rfl) (Mod.refl _ W1).drew (fun hS => ?_)
   refine tkE 0 (some 20) rfl rfl ?_ hS ?_ ?_; rotate_left; · rintro W' _ _; go_simp; try with_reducible rfl
   try simp only [pL]
   refine wpAnyH_ready (rs := [1]) (by kernel_rfl) (by simp) ?_
   refine AllReadyH.cons rfl (fun K hK => ?_) AllReadyH.nil
   go_simp
   go_wp2_with fail
   refine (r_call (⟨(k : Int), sq, cmd⟩ : ACall) _).mono ?_
   rintro e w1 ⟨rfl, hE⟩
   rw [Hce2.out]
   have hX := Mod.ext hS hE
   clear hE hS
   go_simp
   refine hK.out _ _ hX (fun hS => ?_)
   clear hK K hX
   refine tkE 2 (some 22) rfl rfl ?_ hS ?_ ?_; rotate_left; · rintro W' _ _; go_simp; try with_reducible rfl
   try simp only [pL]
   refine tkE 3 (some 23) rfl rfl ?_ hS ?_ ?_; rotate_left; · rintro W' _ _; go_simp; try with_reducible rfl
   try simp only [pL]
   refine tkE 4 (some 24) rfl rfl ?_ hS ?_ ?_; rotate_left; · rintro W' _ _; go_simp; try with_reducible rfl
   try simp only [pL]
   refine tkE 5 (some 25) rfl rfl ?_ hS ?_ ?_; rotate_left; · rintro W' _ _; go_simp; try with_reducible rfl
   try simp only [pL]
   refine tkE 6 (some 26) rfl rfl ?_ hS ?_ ?_; rotate_left; · rintro W' _ _; go_simp; try with_reducible rfl
   try simp only [pL]
   refine tkE 7 (some 27) rfl rfl ?_ hS ?_ ?_; rotate_left; · rintro W' _ _; go_simp; try with_reducible rfl
   try simp only [pL]
   refine tkE 8 (some 28) rfl rfl ?_ hS ?_ ?_; rotate_left; · rintro W' _ _; go_simp; try with_reducible rfl
   try simp only [pL]
   refine tkE 9 (some 29) rfl rfl ?_ hS ?_ ?_; rotate_left; · rintro W' _ _; go_simp; try with_reducible rfl
   try simp only [pL]
   refine tkE 10 (some 30) rfl rfl ?_ hS ?_ ?_; rotate_left; · rintro W' _ _; go_simp; try with_reducible rfl
   try simp only [pL]
   refine tkE 11 (some 31) rfl rfl ?_ hS ?_ ?_; rotate_left; · rintro W' _ _; go_simp; try with_reducible rfl
   try simp only [pL]
   refine tkE 12 (some 32) rfl rfl ?_ hS ?_ ?_; rotate_left; · rintro W' _ _; go_simp; try with_reducible rfl
   try simp only [pL]
   refine tkE 13 (some 33) rfl rfl ?_ hS ?_ ?_; rotate_left; · rintro W' _ _; go_simp; try with_reducible rfl
   try simp only [pL]
   refine tkE 14 (some 34) rfl rfl ?_ hS ?_ ?_; rotate_left; · rintro W' _ _; go_simp; try with_reducible rfl
   try simp only [pL]
   refine wpAnyH_done (by kernel_rfl) ?_ _
   have hE := hS
   clear hS
   clear c_0 c_1 c_2 c_3 c_4 c_5 c_6 c_7 c_8 c_9 c_l
   have Kcw1 := Lib.hid (hE.blk KcW1.out id)
   replace HK := Lib.hid (HK.out.mod hE id id id)
   replace hx0 := hE.cell hx0 id
   replace hxi := hE.cell hxi id
   replace wv := hE.cell wv id
   replace qv := hE.cell qv id
   replace y0' := hE.cell y0' id
   replace y1' := hE.cell y1' id
   replace y2' := hE.cell y2' id
   replace y3' := hE.cell y3' id
   replace y4' := hE.cell y4' id
   replace y5' := hE.cell y5' id
   replace y6' := hE.cell y6' id
   replace y7' := hE.cell y7' id
   replace y8' := hE.cell y8' id
   replace y9' := hE.cell y9' id
   replace HX := Lib.hid (HX.out.ext hE)
   clear KcW1
   clear hE
   obtain ⟨c_0, c_1, c_2, c_3, c_4, c_5, c_6, c_7, c_8, c_9⟩ := cq10 Kcw1.out
   have c_l : u < w1.heap.size := (Array.getElem?_eq_some_iff.1 Kcw1.out).1
   have Hf : Hid (histR h = false) := Lib.hid (by unfold histR; rw [Ho.out, runR_drop Hdr.out, Hs.out]; rfl)
   go_wp2
   go_ret
   exact ⟨ret_bool Hf.out.symm, HX.out⟩
  obtain ⟨c_0, c_1, c_2, c_3, c_4, c_5, c_6, c_7, c_8, c_9⟩ := cq10 KcW1.out
  have c_l : u < W1.heap.size := (Array.getElem?_eq_some_iff.1 KcW1.out).1
  go_wp2_with fail
  clear c_0 c_1 c_2 c_3 c_4 c_5 c_6 c_7 c_8 c_9 c_l
  obtain ⟨c_0, c_1, c_2, c_3, c_4, c_5, c_6, c_7, c_8, c_9⟩ := cq10 KcW1.out
  have c_l : u < W1.heap.size := (Array.getElem?_eq_some_iff.1 KcW1.out).1
  refine wp_region_held_drew (S := fun W' => Ext W1 W') (by kernel_rfl) (Mod.refl _ W1).drew (fun hS => ?_)
  refine tkE 0 (some 20) rfl rfl ?_ hS ?_ ?_; rotate_left; · rintro W' _ _; go_simp; try with_reducible rfl
  try simp only [pL]
  refine wpAnyH_ready (rs := [1]) (by kernel_rfl) (by simp) ?_
  refine AllReadyH.cons rfl (fun K hK => ?_) AllReadyH.nil
  go_simp
  go_wp2_with fail
  refine (r_call (⟨(k : Int), sq, cmd⟩ : ACall) _).mono ?_
  rintro e w1 ⟨rfl, hE⟩
  rw [Hce2.out]
  have hX := Mod.ext hS hE
  clear hE hS
  go_simp
  refine hK.out _ _ hX (fun hS => ?_)
  clear hK K hX
  refine tkE 2 (some 22) rfl rfl ?_ hS ?_ ?_; rotate_left; · rintro W' _ _; go_simp; try with_reducible rfl
  try simp only [pL]
  refine tkE 3 (some 23) rfl rfl ?_ hS ?_ ?_; rotate_left; · rintro W' _ _; go_simp; try with_reducible rfl
  try simp only [pL]
  refine tkE 4 (some 24) rfl rfl ?_ hS ?_ ?_; rotate_left; · rintro W' _ _; go_simp; try with_reducible rfl
  try simp only [pL]
  refine tkE 5 (some 25) rfl rfl ?_ hS ?_ ?_; rotate_left; · rintro W' _ _; go_simp; try with_reducible rfl
  try simp only [pL]
  refine tkE 6 (some 26) rfl rfl ?_ hS ?_ ?_; rotate_left; · rintro W' _ _; go_simp; try with_reducible rfl
  try simp only [pL]
  refine tkE 7 (some 27) rfl rfl ?_ hS ?_ ?_; rotate_left; · rintro W' _ _; go_simp; try with_reducible rfl
  try simp only [pL]
  refine tkE 8 (some 28) rfl rfl ?_ hS ?_ ?_; rotate_left; · rintro W' _ _; go_simp; try with_reducible rfl
  try simp only [pL]
  refine tkE 9 (some 29) rfl rfl ?_ hS ?_ ?_; rotate_left; · rintro W' _ _; go_simp; try with_reducible rfl
  try simp only [pL]
  refine tkE 10 (some 30) rfl rfl ?_ hS ?_ ?_; rotate_left; · rintro W' _ _; go_simp; try with_reducible rfl
  try simp only [pL]
  refine tkE 11 (some 31) rfl rfl ?_ hS ?_ ?_; rotate_left; · rintro W' _ _; go_simp; try with_reducible rfl
  try simp only [pL]
  refine tkE 12 (some 32) rfl rfl ?_ hS ?_ ?_; rotate_left; · rintro W' _ _; go_simp; try with_reducible rfl
  try simp only [pL]
  refine tkE 13 (some 33) rfl rfl ?_ hS ?_ ?_; rotate_left; · rintro W' _ _; go_simp; try with_reducible rfl
  try simp only [pL]
  refine tkE 14 (some 34) rfl rfl ?_ hS ?_ ?_; rotate_left; · rintro W' _ _; go_simp; try with_reducible rfl
  try simp only [pL]
  refine wpAnyH_done (by kernel_rfl) ?_ _
  have hE := hS
  clear hS
  clear c_0 c_1 c_2 c_3 c_4 c_5 c_6 c_7 c_8 c_9 c_l
  have Kcw1 := Lib.hid (hE.blk KcW1.out id)
  replace HK := Lib.hid (HK.out.mod hE id id id)
  replace hx0 := hE.cell hx0 id
  replace hxi := hE.cell hxi id
  replace wv := hE.cell wv id
  replace qv := hE.cell qv id
  replace y0' := hE.cell y0' id
  replace y1' := hE.cell y1' id
  replace y2' := hE.cell y2' id
  replace y3' := hE.cell y3' id
  replace y4' := hE.cell y4' id
  replace y5' := hE.cell y5' id
  replace y6' := hE.cell y6' id
  replace y7' := hE.cell y7' id
  replace y8' := hE.cell y8' id
  replace y9' := hE.cell y9' id
  replace HX := Lib.hid (HX.out.ext hE)
  clear KcW1
  clear hE
  obtain ⟨c_0, c_1, c_2, c_3, c_4, c_5, c_6, c_7, c_8, c_9⟩ := cq10 Kcw1.out
  have c_l : u < w1.heap.size := (Array.getElem?_eq_some_iff.1 Kcw1.out).1
  have Hab : Hid (¬ b = x.ask) := Lib.hid (by simpa using hab)
  clear hab
  rcases ha : x.ask with _ | _
  case true =>
   clear hxi y0' y1' y2' y3' y4' y5' y6' y7' y8' y9'
   rw [ha] at hx0
   rcases hs : (sq != y.seq + 1) with _ | _
   case true =>
    have Hs : Hid (stepR s x = none) := Lib.hid (by rw [Hst.out, if_neg Hab.out, if_pos ha, if_pos (by simpa using hs)])
    have ql : q + 1 + 1 < w1.heap.size := HK.out.2.2.1.lt
    have ql1 : q + 1 < w1.heap.size := HK.out.2.1.lt
    have ql0 : q < w1.heap.size := HK.out.1.lt
    have gl : g < w1.heap.size := World.block_lt_of_cell? _ _ hx0
    go_wp2_with fail
    clear c_0 c_1 c_2 c_3 c_4 c_5 c_6 c_7 c_8 c_9 c_l
    obtain ⟨c_0, c_1, c_2, c_3, c_4, c_5, c_6, c_7, c_8, c_9⟩ := cq10 Kcw1.out
    have c_l : u < w1.heap.size := (Array.getElem?_eq_some_iff.1 Kcw1.out).1
    refine wp_region_held_drew (S := fun W' => Ext w1 W') (by kernel_rfl) (Mod.refl _ w1).drew (fun hS => ?_)
    refine tkE 0 (some 40) rfl rfl ?_ hS ?_ ?_; rotate_left; · rintro W' _ _; go_simp; try with_reducible rfl
    try simp only [pL]
    refine tkE 1 (some 41) rfl rfl ?_ hS ?_ ?_; rotate_left; · rintro W' _ _; go_simp; try with_reducible rfl
    try simp only [pL]
    refine tkE 2 (some 42) rfl rfl ?_ hS ?_ ?_; rotate_left; · rintro W' _ _; go_simp; try with_reducible rfl
    try simp only [pL]
    refine tkE 3 (some 43) rfl rfl ?_ hS ?_ ?_; rotate_left; · rintro W' _ _; go_simp; try with_reducible rfl
    try simp only [pL]
    refine tkE 4 (some 44) rfl rfl ?_ hS ?_ ?_; rotate_left; · rintro W' _ _; go_simp; try with_reducible rfl
    try simp only [pL]
    refine tkE 5 (some 45) rfl rfl ?_ hS ?_ ?_; rotate_left; · rintro W' _ _; go_simp; try with_reducible rfl
    try simp only [pL]
    refine tkE 6 (some 46) rfl rfl ?_ hS ?_ ?_; rotate_left; · rintro W' _ _; go_simp; try with_reducible rfl
    try simp only [pL]
    refine tkE 7 (some 47) rfl rfl ?_ hS ?_ ?_; rotate_left; · rintro W' _ _; go_simp; try with_reducible rfl
    try simp only [pL]
    refine wpAnyH_done (by kernel_rfl) ?_ _
    obtain ⟨w2, hnw⟩ : ∃ w2, w2 = w1.drew := ⟨_, rfl⟩
    rw [← hnw]
    replace hS : Ext w1 w2 := by rw [hnw]; exact (Mod.refl _ _).drew
    clear hnw
    have hE := hS
    clear hS
    clear c_0 c_1 c_2 c_3 c_4 c_5 c_6 c_7 c_8 c_9 c_l
    have Kcw2 := Lib.hid (hE.blk Kcw1.out id)
    replace HK := Lib.hid (HK.out.mod hE id id id)
    replace hx0 := hE.cell hx0 id
    replace wv := hE.cell wv id
    replace qv := hE.cell qv id
    replace HX := Lib.hid (HX.out.ext hE)
    clear Kcw1
    clear hE
    obtain ⟨c_0, c_1, c_2, c_3, c_4, c_5, c_6, c_7, c_8, c_9⟩ := cq10 Kcw2.out
    have c_l : u < w2.heap.size := (Array.getElem?_eq_some_iff.1 Kcw2.out).1
    have Hf : Hid (histR h = false) := Lib.hid (by unfold histR; rw [Ho.out, runR_drop Hdr.out, Hs.out]; rfl)
    go_wp2
    go_ret
    exact ⟨ret_bool Hf.out.symm, HX.out⟩
   obtain rfl : sq = y.seq + 1 := by simpa using hs
   have Hs : Hid (stepR s x = some (s.1.set k ⟨(k : Int), y.seq + 1, cmd⟩, s.2.set k true)) := Lib.hid (by rw [Hst.out, if_neg Hab.out, if_pos ha, if_neg (by simp)])
   have ql : q + 1 + 1 < w1.heap.size := HK.out.2.2.1.lt
   have ql1 : q + 1 < w1.heap.size := HK.out.2.1.lt
   have ql0 : q < w1.heap.size := HK.out.1.lt
   have gl : g < w1.heap.size := World.block_lt_of_cell? _ _ hx0
   go_wp2_with fail
   clear c_0 c_1 c_2 c_3 c_4 c_5 c_6 c_7 c_8 c_9 c_l
   obtain ⟨c_0, c_1, c_2, c_3, c_4, c_5, c_6, c_7, c_8, c_9⟩ := cq10 Kcw1.out
   have c_l : u < w1.heap.size := (Array.getElem?_eq_some_iff.1 Kcw1.out).1
   refine wp_region_held_drew (S := fun W' => Ext w1 W') (by kernel_rfl) (Mod.refl _ w1).drew (fun hS => ?_)
   refine tkE 0 (some 40) rfl rfl ?_ hS ?_ ?_; rotate_left; · rintro W' _ _; go_simp; try with_reducible rfl
   try simp only [pL]
   refine tkE 1 (some 41) rfl rfl ?_ hS ?_ ?_; rotate_left; · rintro W' _ _; go_simp; try with_reducible rfl
   try simp only [pL]
   refine tkE 2 (some 42) rfl rfl ?_ hS ?_ ?_; rotate_left; · rintro W' _ _; go_simp; try with_reducible rfl
   try simp only [pL]
   refine tkE 3 (some 43) rfl rfl ?_ hS ?_ ?_; rotate_left; · rintro W' _ _; go_simp; try with_reducible rfl
   try simp only [pL]
   refine tkE 4 (some 44) rfl rfl ?_ hS ?_ ?_; rotate_left; · rintro W' _ _; go_simp; try with_reducible rfl
   try simp only [pL]
   refine tkE 5 (some 45) rfl rfl ?_ hS ?_ ?_; rotate_left; · rintro W' _ _; go_simp; try with_reducible rfl
   try simp only [pL]
   refine tkE 6 (some 46) rfl rfl ?_ hS ?_ ?_; rotate_left; · rintro W' _ _; go_simp; try with_reducible rfl
   try simp only [pL]
   refine tkE 7 (some 47) rfl rfl ?_ hS ?_ ?_; rotate_left; · rintro W' _ _; go_simp; try with_reducible rfl
   try simp only [pL]
   refine wpAnyH_done (by kernel_rfl) ?_ _
   obtain ⟨w2, hnw⟩ : ∃ w2, w2 = w1.drew := ⟨_, rfl⟩
   rw [← hnw]
   replace hS : Ext w1 w2 := by rw [hnw]; exact (Mod.refl _ _).drew
   clear hnw
   have hE := hS
   clear hS
   clear c_0 c_1 c_2 c_3 c_4 c_5 c_6 c_7 c_8 c_9 c_l
   have Kcw2 := Lib.hid (hE.blk Kcw1.out id)
   replace HK := Lib.hid (HK.out.mod hE id id id)
   replace hx0 := hE.cell hx0 id
   replace wv := hE.cell wv id
   replace qv := hE.cell qv id
   replace HX := Lib.hid (HX.out.ext hE)
   clear Kcw1
   clear hE
   obtain ⟨c_0, c_1, c_2, c_3, c_4, c_5, c_6, c_7, c_8, c_9⟩ := cq10 Kcw2.out
   have c_l : u < w2.heap.size := (Array.getElem?_eq_some_iff.1 Kcw2.out).1
   have qf := HK.out.1.free k
   go_upto_region 14 with fail
   obtain ⟨V1, hV1⟩ : ∃ V1, w2.setCell ⟨q, k, none⟩ (.int .i64 (y.seq + 1)) = V1 := ⟨_, rfl⟩
   have hm1 : Mod (fun g => g = q) w2 V1 := by rw [← hV1]; exact mod_same (Mod.refl _ _) _ _
   have hr2 := HK.out.2.1.mod hm1 (by omega)
   have hKc1 := hm1.blk Kcw2.out (by omega)
   have a0v := hm1.cell hx0 (fun e => by simp at e; omega)
   rw [hV1]
   have hld := load_call (⟨(k : Int), y.seq + 1, cmd⟩ : ACall) (At.of (cs := (⟨(k : Int), y.seq + 1, cmd⟩ : ACall).cells) hKc1)
   have hst := store_call_at (⟨(k : Int), y.seq + 1, cmd⟩ : ACall) hr2 Hy.out
   have c0v : V1.cell? ⟨u, 0, none⟩ = some (.int .i64 (k : Int)) := blk_cell hKc1 rfl
   obtain ⟨V2, hV2⟩ : ∃ V2, callAt V1 (q + 1) (k * 10) ⟨(k : Int), y.seq + 1, cmd⟩ = V2 := ⟨_, rfl⟩
   have hm2 := callAt_mod V1 (q + 1) (k * 10) ⟨(k : Int), y.seq + 1, cmd⟩
   rw [hV2] at hst hm2
   have HK3 : Hid (∀ v, KepR (V2.setCell ⟨q + 1 + 1, k, none⟩ (.bool v)) q (s.1.set k ⟨(k : Int), y.seq + 1, cmd⟩, s.2.set k v)) := Lib.hid (fun v => by
    have := KepR.ask (v := v) (c := ⟨(k : Int), y.seq + 1, cmd⟩) HK.out Hy.out Hsq.out
    rwa [hV1, hV2] at this)
   have HX3 : Hid (Ext w V2) := Lib.hid (Mod.toExt (((Ext.mod HX.out (Since w.heap.size)).trans hm1 (fun g _ e => by unfold Since; omega)).trans hm2 (fun g _ e => by unfold Since; omega)))
   have c0w := hm2.cell c0v (fun e => by simp at e; omega)
   have hw3 := (HK.out.2.2.1.mod hm1 (by omega)).mod hm2 (by omega)
   have fzw := hw3.free k
   have czw : V2.cell? ⟨q + 1 + 1, k, none⟩ = some (.bool b) := hw3.cell (by rw [List.getElem?_map, Hb.out]; rfl)
   have a0w := hm2.cell a0v (fun e => by simp at e; omega)
   clear hV1 hm1 hr2 hKc1 a0v hV2 hm2 qf hw3
   clear c_0 c_1 c_2 c_3 c_4 c_5 c_6 c_7 c_8 c_9 c_l
   clear hx0 wv qv
   go_wp2_with (first | (refine wpList_load rfl 44 _ rfl _ _ rfl hld ?_) | (refine wpList_store rfl 44 _ _ rfl _ _ rfl rfl hst ?_))
   clear hld hst c0v
   refine wp_region_held_drew (S := fun W' => Mod (fun g => g = q + 1 + 1) V2 W') (by kernel_rfl) (Mod.refl _ V2).drew (fun hS => ?_)
   refine tkH 0 (some 74) rfl rfl ?_ hS ?_ ?_; rotate_left; · rintro W' hm'; go_simp; try with_reducible rfl
   try simp only [pL]
   refine tkH 1 (some 75) rfl rfl ?_ hS ?_ ?_
   rotate_left
   ·
    rintro W' hm'
    have m0 := hm'.cell c0w (fun e => by simp at e; omega)
    go_simp
    try with_reducible rfl
   try simp only [pL]
   refine tkH 2 (some 76) rfl rfl ?_ hS ?_ ?_; rotate_left; · rintro W' hm'; go_simp; try with_reducible rfl
   try simp only [pL]
   refine tkH 3 (some 77) rfl rfl ?_ hS ?_ ?_; rotate_left; · rintro W' hm'; go_simp; try with_reducible rfl
   try simp only [pL]
   refine tkH 4 (some 78) rfl rfl ?_ hS ?_ ?_; rotate_left; · rintro W' hm'; go_simp; try with_reducible rfl
   try simp only [pL]
   refine tkH 5 (some 79) rfl rfl ?_ hS ?_ ?_; rotate_left; · rintro W' hm'; go_simp; try with_reducible rfl
   try simp only [pL]
   refine tkH 6 (some 80) rfl rfl ?_ hS ?_ ?_
   rotate_left
   ·
    rintro W' hm'
    have m0 := hm'.cell a0w (fun e => by simp at e; omega)
    go_simp
    try with_reducible rfl
   try simp only [pL]
   refine tkH 7 (some 81) rfl rfl ?_ hS ?_ ?_; rotate_left; · rintro W' hm'; go_simp; try with_reducible rfl
   try simp only [pL]
   refine wpAnyH_ready (rs := [8]) (by kernel_rfl) (by simp) ?_
   refine AllReadyH.cons rfl (fun K hK => ?_) AllReadyH.nil
   have hm9 : Mod (fun g => g = q + 1 + 1) V2 (V2.drew.setCell ⟨q + 1 + 1, k, none⟩ (.bool true)) := mod_same (Mod.refl _ _).drew _ _
   have HX9 : Hid (Ext w (V2.drew.setCell ⟨q + 1 + 1, k, none⟩ (.bool true))) := Lib.hid (Mod.toExt ((Ext.mod HX3.out (Since w.heap.size)).trans hm9 (fun g _ e => by unfold Since; omega)))
   have HK9 : Hid (KepR (V2.drew.setCell ⟨q + 1 + 1, k, none⟩ (.bool true)) q (s.1.set k ⟨(k : Int), y.seq + 1, cmd⟩, s.2.set k true)) := Lib.hid (HK3.out true)
   clear hS
   go_simp
   refine hK.out _ _ hm9 (fun hS => ?_)
   clear hK K hm9
   refine wpAnyH_done (by kernel_rfl) ?_ _
   clear hS
   go_wp2
   exact ⟨⟨i + 1, _, by omega, by go_num, HX9.out, HK9.out, by rw [Ho.out, runR_drop Hdr.out, Hs.out]⟩, by simp [intOf]; omega⟩
  rw [ha] at hx0
  rcases heq : eqCall (⟨(k : Int), sq, cmd⟩ : ACall) y with _ | _
  case false =>
   have Hs : Hid (stepR s x = none) := Lib.hid (by rw [Hst.out, if_neg Hab.out, if_neg (by rw [ha]; simp), if_pos (.inl heq)])
   have ql : q + 1 + 1 < w1.heap.size := HK.out.2.2.1.lt
   have ql1 : q + 1 < w1.heap.size := HK.out.2.1.lt
   have ql0 : q < w1.heap.size := HK.out.1.lt
   have gl : g < w1.heap.size := World.block_lt_of_cell? _ _ hx0
   go_wp2_with fail
   clear c_0 c_1 c_2 c_3 c_4 c_5 c_6 c_7 c_8 c_9 c_l
   obtain ⟨c_0, c_1, c_2, c_3, c_4, c_5, c_6, c_7, c_8, c_9⟩ := cq10 Kcw1.out
   have c_l : u < w1.heap.size := (Array.getElem?_eq_some_iff.1 Kcw1.out).1
   refine wp_region_held_drew (S := fun W' => Ext w1 W') (by kernel_rfl) (Mod.refl _ w1).drew (fun hS => ?_)
   refine tkE 0 (some 58) rfl rfl ?_ hS ?_ ?_; rotate_left; · rintro W' _ _; go_simp; try with_reducible rfl
   try simp only [pL]
   refine tkE 1 (some 59) rfl rfl ?_ hS ?_ ?_; rotate_left; · rintro W' _ _; go_simp; try with_reducible rfl
   try simp only [pL]
   refine tkE 2 (some 60) rfl rfl ?_ hS ?_ ?_; rotate_left; · rintro W' _ _; go_simp; try with_reducible rfl
   try simp only [pL]
   refine tkE 3 (some 61) rfl rfl ?_ hS ?_ ?_; rotate_left; · rintro W' _ _; go_simp; try with_reducible rfl
   try simp only [pL]
   refine tkE 4 (some 62) rfl rfl ?_ hS ?_ ?_; rotate_left; · rintro W' _ _; go_simp; try with_reducible rfl
   try simp only [pL]
   refine wpAnyH_ready (rs := [5]) (by kernel_rfl) (by simp) ?_
   refine AllReadyH.cons rfl (fun K hK => ?_) AllReadyH.nil
   go_simp
   go_wp2_with fail
   refine (k_call (⟨(k : Int), sq, cmd⟩ : ACall) y _).mono ?_
   rintro e w2 ⟨rfl, hE⟩
   rw [heq]
   have hX := Mod.ext hS hE
   clear hE hS
   go_simp
   refine hK.out _ _ hX (fun hS => ?_)
   clear hK K hX
   refine tkE 6 (some 64) rfl rfl ?_ hS ?_ ?_; rotate_left; · rintro W' _ _; go_simp; try with_reducible rfl
   try simp only [pL]
   refine tkE 7 (some 65) rfl rfl ?_ hS ?_ ?_; rotate_left; · rintro W' _ _; go_simp; try with_reducible rfl
   try simp only [pL]
   refine tuH 8 (some 66) rfl rfl hS ?_
   try simp only [pL]
   refine tuH 9 (some 67) rfl rfl hS ?_
   try simp only [pL]
   refine tuH 10 (some 68) rfl rfl hS ?_
   try simp only [pL]
   refine tuH 11 (some 69) rfl rfl hS ?_
   try simp only [pL]
   refine tuH 12 (some 70) rfl rfl hS ?_
   try simp only [pL]
   refine tuH 13 (some 71) rfl rfl hS ?_
   try simp only [pL]
   refine tuH 14 (some 72) rfl rfl hS ?_
   try simp only [pL]
   refine tkE 15 (some 73) rfl rfl ?_ hS ?_ ?_; rotate_left; · rintro W' _ _; go_simp; try with_reducible rfl
   try simp only [pL]
   refine wpAnyH_done (by kernel_rfl) ?_ _
   have hE := hS
   clear hS
   clear c_0 c_1 c_2 c_3 c_4 c_5 c_6 c_7 c_8 c_9 c_l
   have Kcw2 := Lib.hid (hE.blk Kcw1.out id)
   replace HK := Lib.hid (HK.out.mod hE id id id)
   replace hx0 := hE.cell hx0 id
   replace hxi := hE.cell hxi id
   replace wv := hE.cell wv id
   replace qv := hE.cell qv id
   replace y0' := hE.cell y0' id
   replace y1' := hE.cell y1' id
   replace y2' := hE.cell y2' id
   replace y3' := hE.cell y3' id
   replace y4' := hE.cell y4' id
   replace y5' := hE.cell y5' id
   replace y6' := hE.cell y6' id
   replace y7' := hE.cell y7' id
   replace y8' := hE.cell y8' id
   replace y9' := hE.cell y9' id
   replace HX := Lib.hid (HX.out.ext hE)
   clear Kcw1
   clear hE
   obtain ⟨c_0, c_1, c_2, c_3, c_4, c_5, c_6, c_7, c_8, c_9⟩ := cq10 Kcw2.out
   have c_l : u < w2.heap.size := (Array.getElem?_eq_some_iff.1 Kcw2.out).1
   have Hf : Hid (histR h = false) := Lib.hid (by unfold histR; rw [Ho.out, runR_drop Hdr.out, Hs.out]; rfl)
   go_wp2
   go_ret
   exact ⟨ret_bool Hf.out.symm, HX.out⟩
  by_cases hi2 : x.told.index < 0
  case pos =>
   have d7 : decide (x.told.index < 0) = true := by simp [hi2]
   have Hs : Hid (stepR s x = none) := Lib.hid (by rw [Hst.out, if_neg Hab.out, if_neg (by rw [ha]; simp), if_pos (.inr hi2)])
   have ql : q + 1 + 1 < w1.heap.size := HK.out.2.2.1.lt
   have ql1 : q + 1 < w1.heap.size := HK.out.2.1.lt
   have ql0 : q < w1.heap.size := HK.out.1.lt
   have gl : g < w1.heap.size := World.block_lt_of_cell? _ _ hx0
   go_wp2_with fail
   clear c_0 c_1 c_2 c_3 c_4 c_5 c_6 c_7 c_8 c_9 c_l
   obtain ⟨c_0, c_1, c_2, c_3, c_4, c_5, c_6, c_7, c_8, c_9⟩ := cq10 Kcw1.out
   have c_l : u < w1.heap.size := (Array.getElem?_eq_some_iff.1 Kcw1.out).1
   refine wp_region_held_drew (S := fun W' => Ext w1 W') (by kernel_rfl) (Mod.refl _ w1).drew (fun hS => ?_)
   refine tkE 0 (some 58) rfl rfl ?_ hS ?_ ?_; rotate_left; · rintro W' _ _; go_simp; try with_reducible rfl
   try simp only [pL]
   refine tkE 1 (some 59) rfl rfl ?_ hS ?_ ?_; rotate_left; · rintro W' _ _; go_simp; try with_reducible rfl
   try simp only [pL]
   refine tkE 2 (some 60) rfl rfl ?_ hS ?_ ?_; rotate_left; · rintro W' _ _; go_simp; try with_reducible rfl
   try simp only [pL]
   refine tkE 3 (some 61) rfl rfl ?_ hS ?_ ?_; rotate_left; · rintro W' _ _; go_simp; try with_reducible rfl
   try simp only [pL]
   refine tkE 4 (some 62) rfl rfl ?_ hS ?_ ?_; rotate_left; · rintro W' _ _; go_simp; try with_reducible rfl
   try simp only [pL]
   refine wpAnyH_ready (rs := [5]) (by kernel_rfl) (by simp) ?_
   refine AllReadyH.cons rfl (fun K hK => ?_) AllReadyH.nil
   go_simp
   go_wp2_with fail
   refine (k_call (⟨(k : Int), sq, cmd⟩ : ACall) y _).mono ?_
   rintro e w2 ⟨rfl, hE⟩
   rw [heq]
   have hX := Mod.ext hS hE
   clear hE hS
   go_simp
   refine hK.out _ _ hX (fun hS => ?_)
   clear hK K hX
   refine tkE 6 (some 64) rfl rfl ?_ hS ?_ ?_; rotate_left; · rintro W' _ _; go_simp; try with_reducible rfl
   try simp only [pL]
   refine tkE 7 (some 65) rfl rfl ?_ hS ?_ ?_; rotate_left; · rintro W' _ _; go_simp; try with_reducible rfl
   try simp only [pL]
   refine tkE 8 (some 66) rfl rfl ?_ hS ?_ ?_; rotate_left; · rintro W' _ _; go_simp; try with_reducible rfl
   try simp only [pL]
   refine tkE 9 (some 67) rfl rfl ?_ hS ?_ ?_; rotate_left; · rintro W' _ _; go_simp; try with_reducible rfl
   try simp only [pL]
   refine tkE 10 (some 68) rfl rfl ?_ hS ?_ ?_; rotate_left; · rintro W' _ _; go_simp; try with_reducible rfl
   try simp only [pL]
   refine tkE 11 (some 69) rfl rfl ?_ hS ?_ ?_; rotate_left; · rintro W' _ _; go_simp; try with_reducible rfl
   try simp only [pL]
   refine tkE 12 (some 70) rfl rfl ?_ hS ?_ ?_; rotate_left; · rintro W' _ _; go_simp; try with_reducible rfl
   try simp only [pL]
   refine tkE 13 (some 71) rfl rfl ?_ hS ?_ ?_; rotate_left; · rintro W' _ _; go_simp; try with_reducible rfl
   try simp only [pL]
   refine tkE 14 (some 72) rfl rfl ?_ hS ?_ ?_; rotate_left; · rintro W' _ _; go_simp; try with_reducible rfl
   try simp only [pL]
   refine tkE 15 (some 73) rfl rfl ?_ hS ?_ ?_; rotate_left; · rintro W' _ _; go_simp; try with_reducible rfl
   try simp only [pL]
   refine wpAnyH_done (by kernel_rfl) ?_ _
   have hE := hS
   clear hS
   clear c_0 c_1 c_2 c_3 c_4 c_5 c_6 c_7 c_8 c_9 c_l
   have Kcw2 := Lib.hid (hE.blk Kcw1.out id)
   replace HK := Lib.hid (HK.out.mod hE id id id)
   replace hx0 := hE.cell hx0 id
   replace hxi := hE.cell hxi id
   replace wv := hE.cell wv id
   replace qv := hE.cell qv id
   replace y0' := hE.cell y0' id
   replace y1' := hE.cell y1' id
   replace y2' := hE.cell y2' id
   replace y3' := hE.cell y3' id
   replace y4' := hE.cell y4' id
   replace y5' := hE.cell y5' id
   replace y6' := hE.cell y6' id
   replace y7' := hE.cell y7' id
   replace y8' := hE.cell y8' id
   replace y9' := hE.cell y9' id
   replace HX := Lib.hid (HX.out.ext hE)
   clear Kcw1
   clear hE
   obtain ⟨c_0, c_1, c_2, c_3, c_4, c_5, c_6, c_7, c_8, c_9⟩ := cq10 Kcw2.out
   have c_l : u < w2.heap.size := (Array.getElem?_eq_some_iff.1 Kcw2.out).1
   have Hf : Hid (histR h = false) := Lib.hid (by unfold histR; rw [Ho.out, runR_drop Hdr.out, Hs.out]; rfl)
   go_wp2
   go_ret
   exact ⟨ret_bool Hf.out.symm, HX.out⟩
  have d7 : decide (x.told.index < 0) = false := by simp; omega
  have Hs : Hid (stepR s x = some (s.1, s.2.set k false)) := Lib.hid (by rw [Hst.out, if_neg Hab.out, if_neg (by rw [ha]; simp), if_neg (by rintro (e | e); { rw [heq] at e; cases e }; { exact hi2 e })])
  have ql : q + 1 + 1 < w1.heap.size := HK.out.2.2.1.lt
  have ql1 : q + 1 < w1.heap.size := HK.out.2.1.lt
  have ql0 : q < w1.heap.size := HK.out.1.lt
  have gl : g < w1.heap.size := World.block_lt_of_cell? _ _ hx0
  go_wp2_with fail
  clear c_0 c_1 c_2 c_3 c_4 c_5 c_6 c_7 c_8 c_9 c_l
  obtain ⟨c_0, c_1, c_2, c_3, c_4, c_5, c_6, c_7, c_8, c_9⟩ := cq10 Kcw1.out
  have c_l : u < w1.heap.size := (Array.getElem?_eq_some_iff.1 Kcw1.out).1
  refine wp_region_held_drew (S := fun W' => Ext w1 W') (by kernel_rfl) (Mod.refl _ w1).drew (fun hS => ?_)
  refine tkE 0 (some 58) rfl rfl ?_ hS ?_ ?_; rotate_left; · rintro W' _ _; go_simp; try with_reducible rfl
  try simp only [pL]
  refine tkE 1 (some 59) rfl rfl ?_ hS ?_ ?_; rotate_left; · rintro W' _ _; go_simp; try with_reducible rfl
  try simp only [pL]
  refine tkE 2 (some 60) rfl rfl ?_ hS ?_ ?_; rotate_left; · rintro W' _ _; go_simp; try with_reducible rfl
  try simp only [pL]
  refine tkE 3 (some 61) rfl rfl ?_ hS ?_ ?_; rotate_left; · rintro W' _ _; go_simp; try with_reducible rfl
  try simp only [pL]
  refine tkE 4 (some 62) rfl rfl ?_ hS ?_ ?_; rotate_left; · rintro W' _ _; go_simp; try with_reducible rfl
  try simp only [pL]
  refine wpAnyH_ready (rs := [5]) (by kernel_rfl) (by simp) ?_
  refine AllReadyH.cons rfl (fun K hK => ?_) AllReadyH.nil
  go_simp
  go_wp2_with fail
  refine (k_call (⟨(k : Int), sq, cmd⟩ : ACall) y _).mono ?_
  rintro e w2 ⟨rfl, hE⟩
  rw [heq]
  have hX := Mod.ext hS hE
  clear hE hS
  go_simp
  refine hK.out _ _ hX (fun hS => ?_)
  clear hK K hX
  refine tkE 6 (some 64) rfl rfl ?_ hS ?_ ?_; rotate_left; · rintro W' _ _; go_simp; try with_reducible rfl
  try simp only [pL]
  refine tkE 7 (some 65) rfl rfl ?_ hS ?_ ?_; rotate_left; · rintro W' _ _; go_simp; try with_reducible rfl
  try simp only [pL]
  refine tkE 8 (some 66) rfl rfl ?_ hS ?_ ?_; rotate_left; · rintro W' _ _; go_simp; try with_reducible rfl
  try simp only [pL]
  refine tkE 9 (some 67) rfl rfl ?_ hS ?_ ?_; rotate_left; · rintro W' _ _; go_simp; try with_reducible rfl
  try simp only [pL]
  refine tkE 10 (some 68) rfl rfl ?_ hS ?_ ?_; rotate_left; · rintro W' _ _; go_simp; try with_reducible rfl
  try simp only [pL]
  refine tkE 11 (some 69) rfl rfl ?_ hS ?_ ?_; rotate_left; · rintro W' _ _; go_simp; try with_reducible rfl
  try simp only [pL]
  refine tkE 12 (some 70) rfl rfl ?_ hS ?_ ?_; rotate_left; · rintro W' _ _; go_simp; try with_reducible rfl
  try simp only [pL]
  refine tkE 13 (some 71) rfl rfl ?_ hS ?_ ?_; rotate_left; · rintro W' _ _; go_simp; try with_reducible rfl
  try simp only [pL]
  refine tkE 14 (some 72) rfl rfl ?_ hS ?_ ?_; rotate_left; · rintro W' _ _; go_simp; try with_reducible rfl
  try simp only [pL]
  refine tkE 15 (some 73) rfl rfl ?_ hS ?_ ?_; rotate_left; · rintro W' _ _; go_simp; try with_reducible rfl
  try simp only [pL]
  refine wpAnyH_done (by kernel_rfl) ?_ _
  have hE := hS
  clear hS
  clear c_0 c_1 c_2 c_3 c_4 c_5 c_6 c_7 c_8 c_9 c_l
  have Kcw2 := Lib.hid (hE.blk Kcw1.out id)
  replace HK := Lib.hid (HK.out.mod hE id id id)
  replace hx0 := hE.cell hx0 id
  replace hxi := hE.cell hxi id
  replace wv := hE.cell wv id
  replace qv := hE.cell qv id
  replace y0' := hE.cell y0' id
  replace y1' := hE.cell y1' id
  replace y2' := hE.cell y2' id
  replace y3' := hE.cell y3' id
  replace y4' := hE.cell y4' id
  replace y5' := hE.cell y5' id
  replace y6' := hE.cell y6' id
  replace y7' := hE.cell y7' id
  replace y8' := hE.cell y8' id
  replace y9' := hE.cell y9' id
  replace HX := Lib.hid (HX.out.ext hE)
  clear Kcw1
  clear hE
  obtain ⟨c_0, c_1, c_2, c_3, c_4, c_5, c_6, c_7, c_8, c_9⟩ := cq10 Kcw2.out
  have c_l : u < w2.heap.size := (Array.getElem?_eq_some_iff.1 Kcw2.out).1
  clear c_0 c_1 c_2 c_3 c_4 c_5 c_6 c_7 c_8 c_9 c_l
  have HX3 := HX
  have c0w : w2.cell? ⟨u, 0, none⟩ = some (.int .i64 (k : Int)) := blk_cell Kcw2.out rfl
  have a0w := hx0
  have fzw := HK.out.2.2.1.free k
  have czw := wv
  clear hx0 hxi wv qv y0' y1' y2' y3' y4' y5' y6' y7' y8' y9'
  go_wp2_with fail
  refine wp_region_held_drew (S := fun W' => Mod (fun g => g = q + 1 + 1) w2 W') (by kernel_rfl) (Mod.refl _ w2).drew (fun hS => ?_)
  refine tkH 0 (some 74) rfl rfl ?_ hS ?_ ?_; rotate_left; · rintro W' hm'; go_simp; try with_reducible rfl
  try simp only [pL]
  refine tkH 1 (some 75) rfl rfl ?_ hS ?_ ?_
  rotate_left
  ·
   rintro W' hm'
   have m0 := hm'.cell c0w (fun e => by simp at e; omega)
   go_simp
   try with_reducible rfl
  try simp only [pL]
  refine tkH 2 (some 76) rfl rfl ?_ hS ?_ ?_; rotate_left; · rintro W' hm'; go_simp; try with_reducible rfl
  try simp only [pL]
  refine tkH 3 (some 77) rfl rfl ?_ hS ?_ ?_; rotate_left; · rintro W' hm'; go_simp; try with_reducible rfl
  try simp only [pL]
  refine tkH 4 (some 78) rfl rfl ?_ hS ?_ ?_; rotate_left; · rintro W' hm'; go_simp; try with_reducible rfl
  try simp only [pL]
  refine tkH 5 (some 79) rfl rfl ?_ hS ?_ ?_; rotate_left; · rintro W' hm'; go_simp; try with_reducible rfl
  try simp only [pL]
  refine tkH 6 (some 80) rfl rfl ?_ hS ?_ ?_
  rotate_left
  ·
   rintro W' hm'
   have m0 := hm'.cell a0w (fun e => by simp at e; omega)
   go_simp
   try with_reducible rfl
  try simp only [pL]
  refine tkH 7 (some 81) rfl rfl ?_ hS ?_ ?_; rotate_left; · rintro W' hm'; go_simp; try with_reducible rfl
  try simp only [pL]
  refine wpAnyH_ready (rs := [8]) (by kernel_rfl) (by simp) ?_
  refine AllReadyH.cons rfl (fun K hK => ?_) AllReadyH.nil
  have hm9 : Mod (fun g => g = q + 1 + 1) w2 (w2.drew.setCell ⟨q + 1 + 1, k, none⟩ (.bool false)) := mod_same (Mod.refl _ _).drew _ _
  have HX9 : Hid (Ext w (w2.drew.setCell ⟨q + 1 + 1, k, none⟩ (.bool false))) := Lib.hid (Mod.toExt ((Ext.mod HX3.out (Since w.heap.size)).trans hm9 (fun g _ e => by unfold Since; omega)))
  have HK9 : Hid (KepR (w2.drew.setCell ⟨q + 1 + 1, k, none⟩ (.bool false)) q (s.1, s.2.set k false)) := Lib.hid (KepR.told HK.out)
  clear hS
  go_simp
  refine hK.out _ _ hm9 (fun hS => ?_)
  clear hK K hm9
  refine wpAnyH_done (by kernel_rfl) ?_ _
  clear hS
  go_wp2
  exact ⟨⟨i + 1, _, by omega, by go_num, HX9.out, HK9.out, by rw [Ho.out, runR_drop Hdr.out, Hs.out]⟩, by simp [intOf]; omega⟩
theorem r25_history (w : World) (T : Nat → Prop) (v : Value) (h : List AEvent) (hV : Evs w T v h) :
  Calls Tryz.prog 8 #[v] w fun e w' => e = .returned (.bool (histB h)) ∧ Ext w w' := by
 obtain ⟨B, cb, rfl⟩ := hV.form
 rw [← histR_eq]
 exact r25_history_a w T B _ cb h hV rfl
end Go.Proofs.YtbclnghbgoblcaaGreat
