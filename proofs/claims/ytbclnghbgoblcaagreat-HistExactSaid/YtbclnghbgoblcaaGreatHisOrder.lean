/-
 The contract of hist.Order. Conditions: as each theorem names them.
-/
import Derived.Test.YtbclnghbgoblcaaGreatHisTold
import Derived.Test.YtbclnghbgoblcaaGreatHisTell
import Derived.Test.YtbclnghbgoblcaaGreatHisCopy
namespace Go.Proofs.YtbclnghbgoblcaaGreat
set_option linter.unusedSimpArgs false
open Go.RowKit

theorem flatMap_dropK {α : Type} {c : α → List Value} {k : Nat} (hc : ∀ a, (c a).length = k) : ∀ (l : List α) (m : Nat), (l.flatMap c).drop (m * k) = (l.drop m).flatMap c := by
 intro l
 induction l with
 | nil => intro m; simp
 | cons a l ih =>
  intro m
  cases m with
  | zero => simp
  | succ m =>
   rw [List.flatMap_cons, List.drop_succ_cons, List.drop_append, hc a, List.drop_of_length_le (by rw [hc a, Nat.succ_mul]; omega), List.nil_append, Nat.succ_mul, Nat.add_sub_cancel]
   exact ih m
theorem event_told {w : World} {u : Nat} {a : AEvent} {t : TypeId} (h : w.heap[u]? = some (.cells #[.bool a.ask, .int .i64 a.told.call.client, .int .i64 a.told.call.seq, .int .i64 a.told.call.cmd.kind, .string a.told.call.cmd.key, .int .i64 a.told.call.cmd.old.kind, .float .f64 a.told.call.cmd.old.num, .string a.told.call.cmd.old.text, .int .i64 a.told.call.cmd.val.kind, .float .f64 a.told.call.cmd.val.num, .string a.told.call.cmd.val.text, .int .i64 a.told.reply.code, .int .i64 a.told.reply.val.kind, .float .f64 a.told.reply.val.num, .string a.told.reply.val.text, .int .i64 a.told.index] t (0, 0))) : At w u 1 a.told.cells := fun j v hv => blk_cell (cs := a.cells) (j := 1 + j) h (by rw [Nat.add_comm]; exact hv)
theorem event_call {w : World} {u : Nat} {a : AEvent} {t : TypeId} (h : w.heap[u]? = some (.cells #[.bool a.ask, .int .i64 a.told.call.client, .int .i64 a.told.call.seq, .int .i64 a.told.call.cmd.kind, .string a.told.call.cmd.key, .int .i64 a.told.call.cmd.old.kind, .float .f64 a.told.call.cmd.old.num, .string a.told.call.cmd.old.text, .int .i64 a.told.call.cmd.val.kind, .float .f64 a.told.call.cmd.val.num, .string a.told.call.cmd.val.text, .int .i64 a.told.reply.code, .int .i64 a.told.reply.val.kind, .float .f64 a.told.reply.val.num, .string a.told.reply.val.text, .int .i64 a.told.index] t (0, 0))) : At w u 1 a.told.call.cells := fun j v hv => by
 refine event_told h j v ?_
 have hj : j < a.told.call.cells.length := (List.getElem?_eq_some_iff.1 hv).1
 have e : a.told.cells = a.told.call.cells ++ [.int .i64 a.told.reply.code, .int .i64 a.told.reply.val.kind, .float .f64 a.told.reply.val.num, .string a.told.reply.val.text, .int .i64 a.told.index] := rfl
 rw [e, List.getElem?_append_left hj]
 exact hv
theorem Evs.drop {w : World} {T : Nat → Prop} {A : Option Addr} {n c m : Nat} {l : List AEvent} (h : Evs w T (.slice A n c) l) (hn : l.length = n) (hm : m ≤ n) : Evs w T (.slice (cutA A m c 16) (n - m) (c - m)) (l.drop m) := by
 obtain ⟨h1, h2⟩ := h
 rw [hn] at h1
 refine ⟨?_, fun x hx => h2 x (List.mem_of_mem_drop hx)⟩
 have h3 := h1.cutA hm
 have e : (l.drop m).length = n - m := by rw [List.length_drop, hn]
 rw [e]
 have e2 : (l.flatMap AEvent.cells).drop (m * 16) = (l.drop m).flatMap AEvent.cells := by
  exact flatMap_dropK (c := AEvent.cells) (k := 16) (fun _ => rfl) l m
 rw [← e2]
 exact h3
theorem drop_get {l : List AEvent} {i : Nat} {x : AEvent} (h : l[i]? = some x) : l.drop i = x :: l.drop (i + 1) := by
 obtain ⟨hi, rfl⟩ := List.getElem?_eq_some_iff.1 h
 exact List.drop_eq_getElem_cons hi
theorem order_ask {l : List AEntry} {a : AEvent} {r : List AEvent} (h : a.ask = true) : orderB l (a :: r) = orderB l r := by rw [orderB, h]; rfl
theorem order_no {l : List AEntry} {a : AEvent} {r : List AEvent} (h : a.ask = false) (h1 : toldP l a.told = false) : orderB l (a :: r) = false := by rw [orderB, h, h1]; rfl
theorem order_unclear {l : List AEntry} {a : AEvent} {r : List AEvent} (h : a.ask = false) (h1 : clearB l (pointP l a.told) r = false) : orderB l (a :: r) = false := by rw [orderB, h, h1]; simp
theorem order_clear {l : List AEntry} {a : AEvent} {r : List AEvent} (h : a.ask = false) (h1 : toldP l a.told = true) (h2 : clearB l (pointP l a.told) r = true) : orderB l (a :: r) = orderB l r := by rw [orderB, h, h1, h2]; rfl
theorem clear_told {l : List AEntry} {p : Int} {b : AEvent} {r : List AEvent} (h : b.ask = false) : clearB l p (b :: r) = clearB l p r := by rw [clearB, h]; rfl
theorem clear_none {l : List AEntry} {p : Int} {b : AEvent} {r : List AEvent} (h : tellP r b.told.call = none) : clearB l p (b :: r) = clearB l p r := by
 rw [clearB]
 unfold freeB
 rw [h]
 simp
theorem clear_some {l : List AEntry} {p : Int} {b : AEvent} {r : List AEvent} {t : ATold} (hb : b.ask = true) (h : tellP r b.told.call = some t) :
  clearB l p (b :: r) = (!(decide (pointP l t < p) || p == pointP l t && t.call.cmd.kind != 1) && clearB l p r) := by
 rw [clearB]
 unfold freeB
 rw [h, hb]
 simp

set_option maxRecDepth 100000 in
set_option maxHeartbeats 8000000 in
theorem h_order_a (w : World) (T U : Nat → Prop) (A B : Option Addr) (n cc N cb : Nat) (l : List AEntry) (h : List AEvent) (hC : Ents w T (.slice A n cc) l) (hn : l.length = n) (hV : Evs w U (.slice B N cb) h) (hN : h.length = N) :
  Calls Tryz.prog 17 #[.slice A n cc, .slice B N cb] w fun e w' => e = .returned (.bool (orderB l h)) ∧ Ext w w' := by
 have hl := hV.1.le
 rw [hN] at hl
 unfold maxLen at hl
 have hNc : N ≤ cb := by obtain ⟨⟨_, A', c', e, h1, _⟩, _⟩ := hV; injection e with _ _ e3; omega
 have HC := Lib.hid hC
 have HV := Lib.hid hV
 have HN := Lib.hid hN
 have Hn := Lib.hid hn
 clear hC hV hN hn
 go_enter Tryz.func17, Tryz.ntmps17
 go_wp2
 go_loopw [14] (fun iv wr => ∃ i : Nat, i ≤ N ∧ iv = .int .i64 i ∧ Ext w wr ∧ orderB l h = orderB l (h.drop i)) (fun iv _ => N - (intOf iv).toNat)
 case atStart => exact ⟨0, by omega, rfl, Mod.refl _ w, rfl⟩
 case round =>
  obtain ⟨i, hin, rfl, hEr, ho⟩ := hrel
  have Ho := Lib.hid ho
  have HEr := Lib.hid hEr
  clear ho hEr
  by_cases hi : i < N
  case neg =>
   have Hf : Hid (orderB l h = true) := Lib.hid (by rw [Ho.out, List.drop_eq_nil_of_le (by rw [HN.out]; omega)]; rfl)
   go_wp2
   go_ret
   exact ⟨ret_bool Hf.out.symm, HEr.out⟩
  obtain ⟨g, off, a, rfl, hgT, hx, hxok, hcells⟩ := (HV.out.ext HEr.out).at hi
  have hi0 : (0 : Int) ≤ (i : Int) := by omega
  have hi1 : (i : Int) < (N : Int) := by omega
  have Hdr := Lib.hid (drop_get hx)
  have Hxok := Lib.hid hxok
  have Hcells : Hid (At wr g (off + i * 16) a.cells) := Lib.hid hcells
  clear hcells hx hxok hgT
  go_upto_region 3 with fail
  go_cut [5, 6] (fun s5 s6 wx => ∃ u : Nat, s5 = .int .i64 i ∧ s6 = .pointer (some ⟨u, 0, none⟩) ∧ wx.heap[u]? = some (.cells #[.bool a.ask, .int .i64 a.told.call.client, .int .i64 a.told.call.seq, .int .i64 a.told.call.cmd.kind, .string a.told.call.cmd.key, .int .i64 a.told.call.cmd.old.kind, .float .f64 a.told.call.cmd.old.num, .string a.told.call.cmd.old.text, .int .i64 a.told.call.cmd.val.kind, .float .f64 a.told.call.cmd.val.num, .string a.told.call.cmd.val.text, .int .i64 a.told.reply.code, .int .i64 a.told.reply.val.kind, .float .f64 a.told.reply.val.num, .string a.told.reply.val.text, .int .i64 a.told.index] 50 (0, 0)) ∧ Ext w wx)
  case first =>
   have hld := load_event a Hcells.out
   have hst := store_event_new wr a
   go_wp2_with (first | (refine wpList_load rfl 50 _ rfl _ _ rfl hld ?_) | (refine wpList_store rfl 50 _ _ rfl _ _ rfl rfl hst ?_))
   go_meet
   exact ⟨_, rfl, rfl, heap_alloc_new _ _, HEr.out.alloc _⟩
  obtain ⟨u, rfl, rfl, hX, hEx⟩ := hcut
  obtain ⟨Wx, rfl⟩ : ∃ Wx : World, Wx = wc := ⟨_, rfl⟩
  have HEx := Lib.hid hEx
  have HXx := Lib.hid hX
  clear Hcells HEr hEx hX
  rcases ha : a.ask with _ | _
  case true =>
   have y0 : Wx.cell? ⟨u, 0, none⟩ = some _ := blk_cell HXx.out rfl
   have Hs : Hid (orderB l (h.drop i) = orderB l (h.drop (i + 1))) := Lib.hid (by rw [Hdr.out, order_ask ha])
   go_wp2
   exact ⟨⟨i + 1, by omega, by go_num, HEx.out, by rw [Ho.out, Hs.out]⟩, by simp [intOf]; omega⟩
  have Ha := Lib.hid ha
  have y0 : Wx.cell? ⟨u, 0, none⟩ = some _ := blk_cell HXx.out rfl
  go_upto_region 5 with fail
  clear y0
  go_cut [25] (fun s25 wx => s25 = .bool (!toldP l a.told) ∧ Ext Wx wx)
  case first =>
   have hld := load_told a.told (event_told HXx.out)
   go_wp2_with (refine wpList_load rfl 48 _ rfl _ _ rfl hld ?_)
   refine (h_told Wx T _ l a.told (HC.out.ext HEx.out) Hxok.out).mono ?_
   rintro e w2 ⟨rfl, hE2⟩
   clear hld
   go_wp2
   go_meet
   exact ⟨rfl, hE2⟩
  obtain ⟨rfl, hE2⟩ := hcut
  obtain ⟨w2, rfl⟩ : ∃ w2 : World, w2 = wc := ⟨_, rfl⟩
  have HE2 := Lib.hid (HEx.out.ext hE2)
  have HX2 := Lib.hid (hE2.blk HXx.out id)
  clear hE2 HXx
  rcases ht : toldP l a.told with _ | _
  ·
   have Hf : Hid (orderB l h = false) := Lib.hid (by rw [Ho.out, Hdr.out, order_no Ha.out ht])
   go_wp2
   go_ret
   exact ⟨ret_bool Hf.out.symm, HE2.out⟩
  have Ht := Lib.hid ht
  clear ht
  obtain ⟨pt, hpt⟩ : ∃ pt, pointP l a.told = pt := ⟨_, rfl⟩
  have Hpt := Lib.hid hpt
  clear hpt
  go_upto_region 7 with fail
  go_cut [7] (fun s7 wx => s7 = .int .i64 pt ∧ Ext w2 wx)
  case first =>
   have hld := load_told a.told (event_told HX2.out)
   go_wp2_with (refine wpList_load rfl 48 _ rfl _ _ rfl hld ?_)
   refine (h_point w2 T A n cc l a.told (HC.out.ext HE2.out) Hn.out).mono ?_
   rintro e w3 ⟨rfl, hE3⟩
   rw [Hpt.out]
   clear hld
   go_wp2
   go_meet
   exact ⟨rfl, hE3⟩
  obtain ⟨rfl, hE3⟩ := hcut
  obtain ⟨w3, rfl⟩ : ∃ w3 : World, w3 = wc := ⟨_, rfl⟩
  have HE3 := Lib.hid (HE2.out.ext hE3)
  have hm1 : ((i : Int) + 1).toNat = i + 1 := by omega
  have hm2 : (0 : Int) ≤ (i : Int) + 1 := by omega
  have hm3 : (i : Int) + 1 ≤ (N : Int) := by omega
  have hVd := HV.out.drop (m := i + 1) HN.out (by omega)
  have HVd := Lib.hid hVd
  obtain ⟨M, hM⟩ : ∃ M, N - (i + 1) = M := ⟨_, rfl⟩
  have hMl : M ≤ 9223372036854775807 := by omega
  have HdM : Hid ((h.drop (i + 1)).length = M) := Lib.hid (by rw [List.length_drop, HN.out, hM])
  rw [hM] at HVd
  have HM := Lib.hid hM
  clear hE3 HX2 hVd hM
  go_wp2_with fail
  rw [HM.out]
  go_loopw [35] (fun jv wr => ∃ j : Nat, j ≤ M ∧ jv = .int .i64 j ∧ Ext w wr ∧ clearB l pt (h.drop (i + 1)) = clearB l pt ((h.drop (i + 1)).drop j)) (fun jv _ => M - (intOf jv).toNat)
  case atStart => exact ⟨0, by omega, rfl, HE3.out, rfl⟩
  case round =>
   obtain ⟨j, hjM, rfl, hEq, hc⟩ := hrel
   have Hc := Lib.hid hc
   have HEq := Lib.hid hEq
   clear hc hEq
   by_cases hj : j < M
   case neg =>
    have Hs : Hid (orderB l (h.drop i) = orderB l (h.drop (i + 1))) := Lib.hid (by
     rw [Hdr.out, order_clear Ha.out Ht.out]
     rw [Hpt.out, Hc.out, List.drop_eq_nil_of_le (by rw [HdM.out]; omega)]
     rfl)
    go_wp2
    exact ⟨⟨i + 1, by omega, by go_num, HEq.out, by rw [Ho.out, Hs.out]⟩, by simp [intOf]; omega⟩
   obtain ⟨g2, off2, b, hAe, hgT2, hx2, hxok2, hcells2⟩ := (HVd.out.ext HEq.out).at hj
   have hj0 : (0 : Int) ≤ (j : Int) := by omega
   have hj1 : (j : Int) < (M : Int) := by omega
   have Hdr2 := Lib.hid (drop_get hx2)
   have Hxok2 := Lib.hid hxok2
   obtain ⟨CA, hCA⟩ : ∃ CA, cutA (some ⟨g, off, none⟩) (i + 1) cb 16 = CA := ⟨_, rfl⟩
   have Hcells2 : Hid (At wr g2 (off2 + j * 16) b.cells) := Lib.hid hcells2
   rw [hCA] at hAe ⊢
   have HCA := Lib.hid hCA
   clear hcells2 hx2 hxok2 hgT2 hCA
   subst hAe
   go_upto_region 10 with fail
   go_cut [8, 9] (fun s8 s9 wx => ∃ u2 : Nat, s8 = .int .i64 j ∧ s9 = .pointer (some ⟨u2, 0, none⟩) ∧ wx.heap[u2]? = some (.cells #[.bool b.ask, .int .i64 b.told.call.client, .int .i64 b.told.call.seq, .int .i64 b.told.call.cmd.kind, .string b.told.call.cmd.key, .int .i64 b.told.call.cmd.old.kind, .float .f64 b.told.call.cmd.old.num, .string b.told.call.cmd.old.text, .int .i64 b.told.call.cmd.val.kind, .float .f64 b.told.call.cmd.val.num, .string b.told.call.cmd.val.text, .int .i64 b.told.reply.code, .int .i64 b.told.reply.val.kind, .float .f64 b.told.reply.val.num, .string b.told.reply.val.text, .int .i64 b.told.index] 50 (0, 0)) ∧ Ext w wx ∧ w.heap.size ≤ u2)
   case first =>
    have hld := load_event b Hcells2.out
    have hst := store_event_new wr b
    go_wp2_with (first | (refine wpList_load rfl 50 _ rfl _ _ rfl hld ?_) | (refine wpList_store rfl 50 _ _ rfl _ _ rfl rfl hst ?_))
    go_meet
    exact ⟨_, rfl, rfl, heap_alloc_new _ _, HEq.out.alloc _, HEq.out.size⟩
   obtain ⟨u2, rfl, rfl, hY, hEy, hbb⟩ := hcut
   obtain ⟨Wy, rfl⟩ : ∃ Wy : World, Wy = wc := ⟨_, rfl⟩
   have HX := Lib.hid hEy
   have KbWy := Lib.hid hY
   clear Hcells2 HEq hEy hY
   rcases hb : b.ask with _ | _
   case false =>
    have b_0 : Wy.cell? ⟨u2, 0, none⟩ = some _ := blk_cell KbWy.out rfl
    have Hs : Hid (clearB l pt ((h.drop (i + 1)).drop j) = clearB l pt ((h.drop (i + 1)).drop (j + 1))) := Lib.hid (by rw [Hdr2.out, clear_told hb])
    go_wp2
    exact ⟨⟨j + 1, by omega, by go_num, HX.out, by rw [Hc.out, Hs.out]⟩, by simp [intOf]; omega⟩
   have Hb := Lib.hid hb
   obtain ⟨m, hm⟩ : ∃ m, i + 2 + j = m := ⟨_, rfl⟩
   have hmN : m ≤ N := by have := HM.out; omega
   have hw1 : IntKind.i64.wrap ((i : Int) + 2) = (i : Int) + 2 := IntWalk.i64_in _ (by omega)
   have hw2 : IntKind.i64.wrap ((i : Int) + 2 + (j : Int)) = (m : Int) := by rw [IntWalk.i64_in _ (by omega)]; omega
   have hm4 : (m : Int) ≤ (N : Int) := by omega
   have hdd : (h.drop (i + 1)).drop (j + 1) = h.drop m := by rw [List.drop_drop]; congr 1; omega
   have HVm : ∀ W : World, Ext w W → Evs W U (.slice (cutA (some ⟨g, off, none⟩) m cb 16) (N - m) (cb - m)) (h.drop m) := fun W hE => (HV.out.ext hE).drop HN.out hmN
   have HVm := Lib.hid HVm
   have Hdd := Lib.hid hdd
   obtain ⟨ot, hot⟩ : ∃ ot, tellP (h.drop m) b.told.call = ot := ⟨_, rfl⟩
   have Hot := Lib.hid hot
   clear hm hdd hot
   have b_0 : Wy.cell? ⟨u2, 0, none⟩ = some _ := blk_cell KbWy.out rfl
   go_upto_region 12 with fail
   clear b_0
   obtain ⟨-, b_1, b_2, b_3, b_4, b_5, b_6, b_7, b_8, b_9, b_10⟩ := cq11 KbWy.out
   have b_l : u2 < Wy.heap.size := (Array.getElem?_eq_some_iff.1 KbWy.out).1
   go_cut [10, 11] (fun s10 s11 wx => ∃ (bt : Nat) (t : ATold), s10 = .pointer (some ⟨bt, 0, none⟩) ∧ s11 = .bool ot.isSome ∧ t = ot.getD ATold.zero ∧ wx.heap[bt]? = some (.cells #[.int .i64 t.call.client, .int .i64 t.call.seq, .int .i64 t.call.cmd.kind, .string t.call.cmd.key, .int .i64 t.call.cmd.old.kind, .float .f64 t.call.cmd.old.num, .string t.call.cmd.old.text, .int .i64 t.call.cmd.val.kind, .float .f64 t.call.cmd.val.num, .string t.call.cmd.val.text, .int .i64 t.reply.code, .int .i64 t.reply.val.kind, .float .f64 t.reply.val.num, .string t.reply.val.text, .int .i64 t.index] 48 (0, 0)) ∧ Ext w wx)
   case first =>
    go_wp2_with fail
    clear b_1 b_2 b_3 b_4 b_5 b_6 b_7 b_8 b_9 b_10 b_l
    obtain ⟨b_0, b_1, b_2, b_3, b_4, b_5, b_6, b_7, b_8, b_9, b_10, b_11, b_12, b_13, b_14, b_15⟩ := cq16 KbWy.out
    have b_l : u2 < Wy.heap.size := (Array.getElem?_eq_some_iff.1 KbWy.out).1
    refine wp_region_held_drew (S := fun W' => Ext Wy W') (by kernel_rfl) (Mod.refl _ Wy).drew (fun hS => ?_)
    refine tkE 0 (some 44) rfl rfl ?_ hS ?_ ?_; rotate_left; · rintro W' _ _; go_simp; try with_reducible rfl
    try simp only [pL]
    refine tkE 1 (some 45) rfl rfl ?_ hS ?_ ?_; rotate_left; · rintro W' _ _; go_simp; try with_reducible rfl
    try simp only [pL]
    refine tkE 2 (some 46) rfl rfl ?_ hS ?_ ?_; rotate_left; · rintro W' _ _; go_simp; try with_reducible rfl
    try simp only [pL]
    refine tkE 3 (some 47) rfl rfl ?_ hS ?_ ?_; rotate_left; · rintro W' _ _; go_simp; try with_reducible rfl
    try simp only [pL]
    refine tkE 4 (some 48) rfl rfl ?_ hS ?_ ?_; rotate_left; · rintro W' _ _; go_simp; try with_reducible rfl
    try simp only [pL]
    refine tkE 5 (some 49) rfl rfl ?_ hS ?_ ?_; rotate_left; · rintro W' _ _; go_simp; try with_reducible rfl
    try simp only [pL]
    refine tkE 6 (some 50) rfl rfl ?_ hS ?_ ?_; rotate_left; · rintro W' _ _; go_simp; try with_reducible rfl
    try simp only [pL]
    refine tkE 7 (some 51) rfl rfl ?_ hS ?_ ?_; rotate_left; · rintro W' _ _; go_simp; try with_reducible rfl
    try simp only [pL]
    refine tkE 8 (some 52) rfl rfl ?_ hS ?_ ?_; rotate_left; · rintro W' _ _; go_simp; try with_reducible rfl
    try simp only [pL]
    obtain ⟨w1, hnw⟩ : ∃ w1, w1 = Wy.drew := ⟨_, rfl⟩
    rw [← hnw] at hS ⊢
    clear hnw
    refine wpAnyH_ready (rs := [9, 13]) (by kernel_rfl) (by simp) ?_
    refine AllReadyH.cons rfl (fun K hK => ?_) (AllReadyH.cons rfl (fun K hK => ?_) AllReadyH.nil)
    ·
     go_simp
     go_wp2_with fail
     refine (h_telling w1 U _ (h.drop m) b.told.call (HVm.out _ (HX.out.ext hS))).mono ?_
     rintro e w2 ⟨tt, htt, rfl, hE⟩
     rw [Hot.out] at htt ⊢
     have Htt := Lib.hid htt
     clear htt
     have hX := Mod.ext hS hE
     clear hE hS
     go_simp
     refine hK.out _ _ hX (fun hS => ?_)
     clear hK K hX
     try simp only [pL]
     refine tkE 10 (some 43) rfl rfl ?_ hS ?_ ?_; rotate_left; · rintro W' _ _; go_simp; try with_reducible rfl
     try simp only [pL]
     refine tkE 11 (some 54) rfl rfl ?_ hS ?_ ?_; rotate_left; · rintro W' _ _; go_simp; try with_reducible rfl
     try simp only [pL]
     refine tkE 12 (some 55) rfl rfl ?_ hS ?_ ?_; rotate_left; · rintro W' _ _; go_simp; try with_reducible rfl
     try simp only [pL]
     refine wpAnyH_ready (rs := [13]) (by kernel_rfl) (by simp) ?_
     refine AllReadyH.cons rfl (fun K hK => ?_) AllReadyH.nil
     go_simp
     obtain ⟨bt, hbn⟩ : ∃ bt, w2.heap.size = bt := ⟨_, rfl⟩
     obtain ⟨w3, hnw⟩ : ∃ w3, w3 = w2.alloc (.cells #[.int .i64 0, .int .i64 0, .int .i64 0, .string ⟨#[]⟩, .int .i64 0, .float .f64 0, .string ⟨#[]⟩, .int .i64 0, .float .f64 0, .string ⟨#[]⟩, .int .i64 0, .int .i64 0, .float .f64 0, .string ⟨#[]⟩, .int .i64 0] 48) := ⟨_, rfl⟩
     have hE : Ext w2 w3 := by rw [hnw]; exact (Mod.refl _ _).alloc _
     have KKt : w3.heap[bt]? = some (.cells #[.int .i64 0, .int .i64 0, .int .i64 0, .string ⟨#[]⟩, .int .i64 0, .float .f64 0, .string ⟨#[]⟩, .int .i64 0, .float .f64 0, .string ⟨#[]⟩, .int .i64 0, .int .i64 0, .float .f64 0, .string ⟨#[]⟩, .int .i64 0] 48 (0, 0)) := by rw [hnw, ← hbn]; exact heap_alloc_new _ _
     have hbt : w.heap.size ≤ bt := by have := (Mod.ext HX.out hS).size; omega
     have hct : Wy.heap.size ≤ bt := by have := hS.size; omega
     rw [← hnw, hbn]
     clear hnw hbn
     have hX := Mod.ext hS hE
     clear hE hS
     refine hK.out _ _ hX (fun hS => ?_)
     clear hK K hX
     try simp only [pL]
     refine wpAnyH_ready (rs := [14]) (by kernel_rfl) (by simp) ?_
     refine AllReadyH.cons rfl (fun K hK => ?_) AllReadyH.nil
     have fz0 := store_told tt KKt
     have cz0 := True.intro
     obtain ⟨w4, hwn⟩ : ∃ w4, toldSet w3 bt tt = w4 := ⟨_, rfl⟩
     have hwq : toldSet w3 bt tt = w4 := hwn
     have hKn : w4.heap[bt]? = some (.cells #[.int .i64 tt.call.client, .int .i64 tt.call.seq, .int .i64 tt.call.cmd.kind, .string tt.call.cmd.key, .int .i64 tt.call.cmd.old.kind, .float .f64 tt.call.cmd.old.num, .string tt.call.cmd.old.text, .int .i64 tt.call.cmd.val.kind, .float .f64 tt.call.cmd.val.num, .string tt.call.cmd.val.text, .int .i64 tt.reply.code, .int .i64 tt.reply.val.kind, .float .f64 tt.reply.val.num, .string tt.reply.val.text, .int .i64 tt.index] 48 (0, 0)) := by rw [← hwq]; exact told_set KKt
     have hM : Mod (fun k => k = bt) w3 w4 := by rw [← hwq]; exact told_mod _ _ _
     clear hwq
     have hX : Ext Wy w4 := Mod.toExt ((Ext.mod hS (Since Wy.heap.size)).trans hM (fun k _ e => by rw [e]; exact hct))
     clear hS
     refine step_store rfl 48 (.tmp 10) (.tmp 54) rfl _ _ rfl rfl fz0 ?_
     rw [hwn]
     refine hK.out _ _ hX (fun hS => ?_)
     clear hK K hX hwn hM KKt fz0 cz0
     have KKt := hKn
     clear hKn
     try simp only [pL]
     refine tkE 15 (some 11) rfl rfl ?_ hS ?_ ?_; rotate_left; · rintro W' _ _; go_simp; try with_reducible rfl
     try simp only [pL]
     refine wpAnyH_done (by kernel_rfl) ?_ _
     have hE := hS
     clear hS
     clear b_0 b_1 b_2 b_3 b_4 b_5 b_6 b_7 b_8 b_9 b_10 b_11 b_12 b_13 b_14 b_15 b_l
     have Kbw4 := Lib.hid (hE.blk KbWy.out id)
     replace HX := Lib.hid (HX.out.ext hE)
     clear KbWy
     clear hE
     have Ktw4 := Lib.hid KKt
     clear KKt
     obtain ⟨b_0, b_1, b_2, b_3, b_4, b_5, b_6, b_7, b_8, b_9, b_10, b_11, b_12, b_13, b_14, b_15⟩ := cq16 Kbw4.out
     have b_l : u2 < w4.heap.size := (Array.getElem?_eq_some_iff.1 Kbw4.out).1
     obtain ⟨t_0, t_1, t_2, t_3, t_4, t_5, t_6, t_7, t_8, t_9, t_10, t_11, t_12, t_13, t_14⟩ := cq15 Ktw4.out
     have t_l : bt < w4.heap.size := (Array.getElem?_eq_some_iff.1 Ktw4.out).1
     go_wp2
     go_meet
     exact ⟨bt, tt, rfl, rfl, Htt.out, Ktw4.out, HX.out⟩
    ·
     go_simp
     obtain ⟨bt, hbn⟩ : ∃ bt, w1.heap.size = bt := ⟨_, rfl⟩
     obtain ⟨w2, hnw⟩ : ∃ w2, w2 = w1.alloc (.cells #[.int .i64 0, .int .i64 0, .int .i64 0, .string ⟨#[]⟩, .int .i64 0, .float .f64 0, .string ⟨#[]⟩, .int .i64 0, .float .f64 0, .string ⟨#[]⟩, .int .i64 0, .int .i64 0, .float .f64 0, .string ⟨#[]⟩, .int .i64 0] 48) := ⟨_, rfl⟩
     have hE : Ext w1 w2 := by rw [hnw]; exact (Mod.refl _ _).alloc _
     have KKt : w2.heap[bt]? = some (.cells #[.int .i64 0, .int .i64 0, .int .i64 0, .string ⟨#[]⟩, .int .i64 0, .float .f64 0, .string ⟨#[]⟩, .int .i64 0, .float .f64 0, .string ⟨#[]⟩, .int .i64 0, .int .i64 0, .float .f64 0, .string ⟨#[]⟩, .int .i64 0] 48 (0, 0)) := by rw [hnw, ← hbn]; exact heap_alloc_new _ _
     have hbt : w.heap.size ≤ bt := by have := (Mod.ext HX.out hS).size; omega
     have hct : Wy.heap.size ≤ bt := by have := hS.size; omega
     rw [← hnw, hbn]
     clear hnw hbn
     have hX := Mod.ext hS hE
     clear hE hS
     refine hK.out _ _ hX (fun hS => ?_)
     clear hK K hX
     try simp only [pL]
     refine wpAnyH_ready (rs := [9]) (by kernel_rfl) (by simp) ?_
     refine AllReadyH.cons rfl (fun K hK => ?_) AllReadyH.nil
     go_simp
     go_wp2_with fail
     refine (h_telling w2 U _ (h.drop m) b.told.call (HVm.out _ (HX.out.ext hS))).mono ?_
     rintro e w3 ⟨tt, htt, rfl, hE⟩
     replace KKt := hE.blk KKt id
     rw [Hot.out] at htt ⊢
     have Htt := Lib.hid htt
     clear htt
     have hX := Mod.ext hS hE
     clear hE hS
     go_simp
     refine hK.out _ _ hX (fun hS => ?_)
     clear hK K hX
     try simp only [pL]
     refine tkE 10 (some 43) rfl rfl ?_ hS ?_ ?_; rotate_left; · rintro W' _ _; go_simp; try with_reducible rfl
     try simp only [pL]
     refine tkE 11 (some 54) rfl rfl ?_ hS ?_ ?_; rotate_left; · rintro W' _ _; go_simp; try with_reducible rfl
     try simp only [pL]
     refine tkE 12 (some 55) rfl rfl ?_ hS ?_ ?_; rotate_left; · rintro W' _ _; go_simp; try with_reducible rfl
     try simp only [pL]
     refine wpAnyH_ready (rs := [14]) (by kernel_rfl) (by simp) ?_
     refine AllReadyH.cons rfl (fun K hK => ?_) AllReadyH.nil
     have fz0 := store_told tt KKt
     have cz0 := True.intro
     obtain ⟨w4, hwn⟩ : ∃ w4, toldSet w3 bt tt = w4 := ⟨_, rfl⟩
     have hwq : toldSet w3 bt tt = w4 := hwn
     have hKn : w4.heap[bt]? = some (.cells #[.int .i64 tt.call.client, .int .i64 tt.call.seq, .int .i64 tt.call.cmd.kind, .string tt.call.cmd.key, .int .i64 tt.call.cmd.old.kind, .float .f64 tt.call.cmd.old.num, .string tt.call.cmd.old.text, .int .i64 tt.call.cmd.val.kind, .float .f64 tt.call.cmd.val.num, .string tt.call.cmd.val.text, .int .i64 tt.reply.code, .int .i64 tt.reply.val.kind, .float .f64 tt.reply.val.num, .string tt.reply.val.text, .int .i64 tt.index] 48 (0, 0)) := by rw [← hwq]; exact told_set KKt
     have hM : Mod (fun k => k = bt) w3 w4 := by rw [← hwq]; exact told_mod _ _ _
     clear hwq
     have hX : Ext Wy w4 := Mod.toExt ((Ext.mod hS (Since Wy.heap.size)).trans hM (fun k _ e => by rw [e]; exact hct))
     clear hS
     refine step_store rfl 48 (.tmp 10) (.tmp 54) rfl _ _ rfl rfl fz0 ?_
     rw [hwn]
     refine hK.out _ _ hX (fun hS => ?_)
     clear hK K hX hwn hM KKt fz0 cz0
     have KKt := hKn
     clear hKn
     try simp only [pL]
     refine tkE 15 (some 11) rfl rfl ?_ hS ?_ ?_; rotate_left; · rintro W' _ _; go_simp; try with_reducible rfl
     try simp only [pL]
     refine wpAnyH_done (by kernel_rfl) ?_ _
     have hE := hS
     clear hS
     clear b_0 b_1 b_2 b_3 b_4 b_5 b_6 b_7 b_8 b_9 b_10 b_11 b_12 b_13 b_14 b_15 b_l
     have Kbw4 := Lib.hid (hE.blk KbWy.out id)
     replace HX := Lib.hid (HX.out.ext hE)
     clear KbWy
     clear hE
     have Ktw4 := Lib.hid KKt
     clear KKt
     obtain ⟨b_0, b_1, b_2, b_3, b_4, b_5, b_6, b_7, b_8, b_9, b_10, b_11, b_12, b_13, b_14, b_15⟩ := cq16 Kbw4.out
     have b_l : u2 < w4.heap.size := (Array.getElem?_eq_some_iff.1 Kbw4.out).1
     obtain ⟨t_0, t_1, t_2, t_3, t_4, t_5, t_6, t_7, t_8, t_9, t_10, t_11, t_12, t_13, t_14⟩ := cq15 Ktw4.out
     have t_l : bt < w4.heap.size := (Array.getElem?_eq_some_iff.1 Ktw4.out).1
     go_wp2
     go_meet
     exact ⟨bt, tt, rfl, rfl, Htt.out, Ktw4.out, HX.out⟩
   case rest =>
    obtain ⟨bt, t, rfl, rfl, htt, hT, hEc⟩ := hcut
    have HT := Lib.hid hT
    have HEc := Lib.hid hEc
    clear b_l b_1 b_2 b_3 b_4 b_5 b_6 b_7 b_8 b_9 b_10 hw1 hw2 KbWy HX hEc hT
    rcases ot with _ | t2
    ·
     have Hs : Hid (clearB l pt ((h.drop (i + 1)).drop j) = clearB l pt ((h.drop (i + 1)).drop (j + 1))) := Lib.hid (by rw [Hdr2.out, clear_none (by rw [Hdd.out]; exact Hot.out)])
     clear htt
     go_wp2
     exact ⟨⟨j + 1, by omega, by go_num, HEc.out, by rw [Hc.out, Hs.out]⟩, by simp [intOf]; omega⟩
    obtain rfl : t = t2 := htt
    have Hs : Hid (clearB l pt ((h.drop (i + 1)).drop j) = (!(decide (pointP l t < pt) || pt == pointP l t && t.call.cmd.kind != 1) && clearB l pt ((h.drop (i + 1)).drop (j + 1)))) := Lib.hid (by
     rw [Hdr2.out, clear_some Hb.out (by rw [Hdd.out]; exact Hot.out)])
    obtain ⟨p2, hp2⟩ : ∃ p2, pointP l t = p2 := ⟨_, rfl⟩
    have Hp2 := Lib.hid hp2
    have hld := load_told t (At.of (cs := t.cells) HT.out)
    clear hp2
    go_wp2_with (refine wpList_loadW rfl 48 _ rfl _ _ rfl hld ?_)
    refine (h_point wc T A n cc l t (HC.out.ext HEc.out) Hn.out).mono ?_
    rintro e w6 ⟨rfl, hE6⟩
    rw [Hp2.out]
    have HE6 := Lib.hid (HEc.out.ext hE6)
    have hT6 := hE6.blk HT.out id
    have HT6 := Lib.hid hT6
    clear hld
    have hld := load_told t (At.of (cs := t.cells) hT6)
    have z2 : w6.cell? ⟨bt, 2, none⟩ = some _ := blk_cell hT6 rfl
    clear hT6 hE6
    by_cases hgt : p2 < pt
    ·
     have dg : decide (pt > p2) = true := by simp [hgt]
     have Hf : Hid (orderB l h = false) := Lib.hid (by
      rw [Ho.out, Hdr.out]
      refine order_unclear Ha.out ?_
      rw [Hpt.out, Hc.out, Hs.out, Hp2.out]
      simp [hgt])
     clear hgt
     go_wp2
     go_ret
     exact ⟨ret_bool Hf.out.symm, HE6.out⟩
    have dg : decide (pt > p2) = false := by simp; omega
    have Hgt := Lib.hid hgt
    clear hgt
    go_wp2_with (refine wpList_loadW rfl 48 _ rfl _ _ rfl hld ?_)
    refine (h_point w6 T A n cc l t (HC.out.ext HE6.out) Hn.out).mono ?_
    rintro e w7 ⟨rfl, hE7⟩
    rw [Hp2.out]
    have HE7 := Lib.hid (HE6.out.ext hE7)
    have hT7 := hE7.blk HT6.out id
    clear hld z2
    have z2 : w7.cell? ⟨bt, 2, none⟩ = some _ := blk_cell hT7 rfl
    clear hT7 hE7
    rcases heq : (pt == p2) with _ | _
    ·
     have Hs2 : Hid (clearB l pt ((h.drop (i + 1)).drop j) = clearB l pt ((h.drop (i + 1)).drop (j + 1))) := Lib.hid (by rw [Hs.out, Hp2.out, heq]; simp [Hgt.out])
     go_wp2
     exact ⟨⟨j + 1, by omega, by go_num, HE7.out, by rw [Hc.out, Hs2.out]⟩, by simp [intOf]; omega⟩
    rcases hk : (t.call.cmd.kind != 1) with _ | _
    ·
     have Hs2 : Hid (clearB l pt ((h.drop (i + 1)).drop j) = clearB l pt ((h.drop (i + 1)).drop (j + 1))) := Lib.hid (by rw [Hs.out, Hp2.out, hk]; simp [Hgt.out])
     go_wp2
     exact ⟨⟨j + 1, by omega, by go_num, HE7.out, by rw [Hc.out, Hs2.out]⟩, by simp [intOf]; omega⟩
    ·
     have Hf : Hid (orderB l h = false) := Lib.hid (by
      rw [Ho.out, Hdr.out]
      refine order_unclear Ha.out ?_
      rw [Hpt.out, Hc.out, Hs.out, Hp2.out, heq, hk]
      simp)
     go_wp2
     go_ret
     exact ⟨ret_bool Hf.out.symm, HE7.out⟩
theorem h_order (w : World) (T U : Nat → Prop) (v1 v2 : Value) (l : List AEntry) (h : List AEvent) (hC : Ents w T v1 l) (hV : Evs w U v2 h) :
  Calls Tryz.prog 17 #[v1, v2] w fun e w' => e = .returned (.bool (orderB l h)) ∧ Ext w w' := by
 obtain ⟨A, cc, rfl⟩ := hC.form
 obtain ⟨B, cb, rfl⟩ := hV.form
 exact h_order_a w T U A B _ cc _ cb l h hC rfl hV rfl
end Go.Proofs.YtbclnghbgoblcaaGreat
