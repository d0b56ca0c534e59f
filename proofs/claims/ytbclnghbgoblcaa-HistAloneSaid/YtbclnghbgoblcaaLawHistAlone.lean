/-
 The walk of HistAlone. Conditions: as the theorems name them.
-/
import Derived.Test.YtbclnghbgoblcaaHisAln
import Derived.Test.YtbclnghbgoblcaaSesLibO
namespace Go.Proofs.Ytbclnghbgoblcaa
set_option linter.unusedSimpArgs false
set_option linter.unusedVariables false
open Go.RowKit

theorem call_cmd2 {w : World} {g o : Nat} {x : ACall} (h : At w g o x.cells) : At w g (o + 2) x.cmd.cells := h.sub 2 (fun j u hu => by rw [Nat.add_comm]; exact hu)
/-- What the loop keeps. -/
def AlnW (w wr : World) (b : Nat) (lv hv v1 v2 : Value) (m : AMach) (lg : List AEntry) (H : List AEvent) (s : List Int) (o : AReply) : Prop :=
 NewE w wr lv lg ∧ NewV w wr hv H ∧ wr.heap[b + 1 + 1]? = some (.cells #[v1, v2] 27 (0, 0)) ∧ NewM w wr v1 v2 m ∧ Row wr (b + 1) 50 (s.map (Value.int .i64)) ∧ wr.heap[b]? = some (.cells #[.int .i64 o.code, .int .i64 o.val.kind, .float .f64 o.val.num, .string o.val.text] 42 (0, 0)) ∧ Ext w wr
section
variable {w wr wr' : World} {b : Nat} {lv hv v1 v2 : Value} {m : AMach} {lg : List AEntry} {H : List AEvent} {s : List Int} {o : AReply}
theorem AlnW.ext (h : AlnW w wr b lv hv v1 v2 m lg H s o) (hE : Ext wr wr') : AlnW w wr' b lv hv v1 v2 m lg H s o :=
 ⟨newE_mod h.1 hE (fun _ _ => id), newV_mod h.2.1 hE (fun _ _ => id), hE.blk h.2.2.1 id, newM_mod h.2.2.2.1 hE (fun _ _ => id) (fun _ _ => id), h.2.2.2.2.1.mod hE id, hE.blk h.2.2.2.2.2.1 id, h.2.2.2.2.2.2.ext hE⟩
theorem AlnW.box (h : AlnW w wr b lv hv v1 v2 m lg H s o) {u : Nat} {t : TypeId} {cs : Array Value} {q : Nat × Nat} (hb : wr.heap[u]? = some (.cells cs t q)) (hM : Mod (fun k => k = u) wr wr') (h1 : 39 ≠ t) (h2 : 56 ≠ t) (h3 : 93 ≠ t) (h4 : 74 ≠ t) (hu : b + 1 + 1 < u) (hw : w.heap.size ≤ b) :
  AlnW w wr' b lv hv v1 v2 m lg H s o :=
 ⟨newE_box h.1 hb hM h1, newV_box h.2.1 hb hM h2, hM.blk h.2.2.1 (by omega), newM_box h.2.2.2.1 hb hM h3 h4, h.2.2.2.2.1.mod hM (by omega), hM.blk h.2.2.2.2.2.1 (by omega), Mod.toExt ((Ext.mod h.2.2.2.2.2.2 (Since w.heap.size)).trans hM (fun k _ e => by unfold Since; omega))⟩
theorem AlnW.num (h : AlnW w wr b lv hv v1 v2 m lg H s o) (k : Nat) (v : Int) (hw : w.heap.size ≤ b) : AlnW w (wr.setCell ⟨b + 1, k, none⟩ (.int .i64 v)) b lv hv v1 v2 m lg H (s.set k v) o := by
 have hM : Mod (fun g => g = b + 1) wr (wr.setCell ⟨b + 1, k, none⟩ (.int .i64 v)) := mod_same (Mod.refl _ _) _ _
 have hb : wr.heap[b + 1]? = some (.cells (s.map (Value.int .i64)).toArray 50 (0, 0)) := h.2.2.2.2.1
 have hr := row_set (j := k) (.int .i64 v) h.2.2.2.2.1
 rw [← List.map_set] at hr
 exact ⟨newE_box h.1 hb hM (by decide), newV_box h.2.1 hb hM (by decide), hM.blk h.2.2.1 (by omega), newM_box h.2.2.2.1 hb hM (by decide) (by decide), hr, hM.blk h.2.2.2.2.2.1 (by omega), Mod.toExt ((Ext.mod h.2.2.2.2.2.2 (Since w.heap.size)).trans hM (fun k _ e => by unfold Since; omega))⟩
theorem AlnW.modV (h : AlnW w wr b lv hv v1 v2 m lg H s o) {ob : Obj} (hgr : (wr.alloc ob).grownBy wr' hv.ownBlock) : Mod (fun g => hv.ownBlock = some g) wr wr' := ((Mod.refl _ _).alloc _).grown hgr (fun k e => .inr e)
theorem AlnW.modE (h : AlnW w wr b lv hv v1 v2 m lg H s o) {ob : Obj} (hgr : (wr.alloc ob).grownBy wr' lv.ownBlock) : Mod (fun g => lv.ownBlock = some g) wr wr' := ((Mod.refl _ _).alloc _).grown hgr (fun k e => .inr e)
theorem AlnW.appV (h : AlnW w wr b lv hv v1 v2 m lg H s o) {ob : Obj} {v' : Value} {n k q : Nat} {ev : List AEvent} (hev : ∀ x ∈ ev, x.ok) (hn : H.length = n) (hk : ev.length = k) (ho : wr'.ownsRow 0 56 16 v' (n + k) (H.flatMap AEvent.cells ++ ev.flatMap AEvent.cells)) (hgr : (wr.alloc ob).grownBy wr' hv.ownBlock)
  (hat : v'.ownBlock = hv.ownBlock ∨ v'.ownBlock = some q) (hq : wr.heap.size ≤ q) : AlnW w wr' b lv v' v1 v2 m lg (H ++ ev) s o := by
 have hM := h.modV hgr
 obtain ⟨p1, p2, p3, p4, p5, p6, p7⟩ := h
 refine ⟨newE_mod p1 hM (fun k e1 e2 => own_own p2.1 p1.1 (by decide) e2 e1), newV_app p2 hev hn hk ho hat (by have := p7.size; omega), hM.blk p3 (fun e => own_apart p2.1 e p3 (by decide) rfl),
  newM_mod p4 hM (fun k e1 e2 => own_own p2.1 p4.1.1 (by decide) e2 e1) (fun k e1 e2 => own_own p2.1 p4.2.1.1 (by decide) e2 e1), p5.mod hM (fun e => own_apart p2.1 e p5 (by decide) rfl), hM.blk p6 (fun e => own_apart p2.1 e p6 (by decide) rfl),
  Mod.toExt ((Ext.mod p7 (Since w.heap.size)).trans hM (fun k _ e => p2.2.2 k e))⟩
theorem AlnW.appE (h : AlnW w wr b lv hv v1 v2 m lg H s o) {ob : Obj} {v' : Value} {n k q : Nat} {es : List AEntry} (hev : ∀ x ∈ es, x.ok) (hn : lg.length = n) (hk : es.length = k) (ho : wr'.ownsRow 0 39 16 v' (n + k) (lg.flatMap AEntry.cells ++ es.flatMap AEntry.cells)) (hgr : (wr.alloc ob).grownBy wr' lv.ownBlock)
  (hat : v'.ownBlock = lv.ownBlock ∨ v'.ownBlock = some q) (hq : wr.heap.size ≤ q) : AlnW w wr' b v' hv v1 v2 m (lg ++ es) H s o := by
 have hM := h.modE hgr
 obtain ⟨p1, p2, p3, p4, p5, p6, p7⟩ := h
 refine ⟨newE_app p1 hev hn hk ho hat (by have := p7.size; omega), newV_mod p2 hM (fun k e1 e2 => own_own p1.1 p2.1 (by decide) e2 e1), hM.blk p3 (fun e => own_apart p1.1 e p3 (by decide) rfl),
  newM_mod p4 hM (fun k e1 e2 => own_own p1.1 p4.1.1 (by decide) e2 e1) (fun k e1 e2 => own_own p1.1 p4.2.1.1 (by decide) e2 e1), p5.mod hM (fun e => own_apart p1.1 e p5 (by decide) rfl), hM.blk p6 (fun e => own_apart p1.1 e p6 (by decide) rfl),
  Mod.toExt ((Ext.mod p7 (Since w.heap.size)).trans hM (fun k _ e => p1.2.2 k e))⟩
theorem AlnW.setM (h : AlnW w wr b lv hv v1 v2 m lg H s o) (hw : w.heap.size ≤ b) {u1 u2 : Value} {M : AMach} (hN : NewM w wr u1 u2 M) : AlnW w ((wr.setCell ⟨b + 1 + 1, 0, none⟩ u1).setCell ⟨b + 1 + 1, 1, none⟩ u2) b lv hv u1 u2 M lg H s o := by
 have hM : Mod (fun g => g = b + 1 + 1) wr ((wr.setCell ⟨b + 1 + 1, 0, none⟩ u1).setCell ⟨b + 1 + 1, 1, none⟩ u2) := mod_same (mod_same (Mod.refl _ _) _ _) _ _
 obtain ⟨p1, p2, p3, p4, p5, p6, p7⟩ := h
 have hB : ((wr.setCell ⟨b + 1 + 1, 0, none⟩ u1).setCell ⟨b + 1 + 1, 1, none⟩ u2).heap[b + 1 + 1]? = some (.cells #[u1, u2] 27 (0, 0)) := by simp [World.setCell, Array.getElem?_modify, p3]
 exact ⟨newE_box p1 p3 hM (by decide), newV_box p2 p3 hM (by decide), hB, newM_box hN p3 hM (by decide) (by decide), p5.mod hM (by omega), hM.blk p6 (by omega), Mod.toExt ((Ext.mod p7 (Since w.heap.size)).trans hM (fun k _ e => by unfold Since; omega))⟩
theorem aln_rep {i : Nat} {s : List Int} {m : AMach} {l : List AEntry} {L : List ATold} {c : ACall} (h : Aln i s m l L) (hc : callE c = 0) (hq : c.seq = numC s c.client + 1) : (onceP m c).2 = (doP m.pairs c.cmd).2 := by
 have hkc := (call_nums hc).2.2
 have hlast := h.2.2.2.1 c.client hkc.1 hkc.2.1
 unfold onceP
 rw [if_neg (by simpa using hc), h.2.1, if_neg (by simp), if_neg (by omega), if_neg (by omega)]
theorem rep_okD {l : List APair} {c : ACmd} (hl : ∀ p ∈ l, p.ok) (hv : c.val.ok) (hc : cmdE c = 0) (hp : pairsB l = true) : (doP l c).2.ok :=
 ⟨by have := do_reply hc hp; unfold I64; omega, do_val_ok hl hv⟩
theorem mach_pairs {m : AMach} (h : machB m = true) : pairsB m.pairs = true := by
 unfold machB at h
 rw [Bool.and_eq_true] at h
 exact h.1
theorem u64_rng (n : Int) : 0 ≤ IntKind.u64.wrap n ∧ IntKind.u64.wrap n ≤ 18446744073709551615 := by
 have e : IntKind.u64.wrap n = n % 18446744073709551616 := by
  unfold IntKind.wrap
  simp [IntKind.signed, IntKind.bits]
 rw [e]
 omega
theorem cl_of (n : Int) : ∃ c, wrap64 (1 + wrap64 ((IntKind.u64.wrap n).tmod 4)) = c ∧ 1 ≤ c ∧ c ≤ 4 := by
 obtain ⟨h0, h1⟩ := u64_rng n
 generalize IntKind.u64.wrap n = y at h0 h1
 rw [Int.tmod_eq_emod_of_nonneg h0, IntWalk.wrap64_in (y % 4) (by omega), IntWalk.wrap64_in (1 + y % 4) (by omega)]
 exact ⟨_, rfl, by omega, by omega⟩
theorem ev_split {L : List AEvent} {k : Nat} {y : AEvent} (h : L[k]? = some y) : L.flatMap AEvent.cells = (L.take k).flatMap AEvent.cells ++ (y.cells ++ (L.drop (k + 1)).flatMap AEvent.cells) := by
 obtain ⟨hk, rfl⟩ := List.getElem?_eq_some_iff.1 h
 rw [← List.flatMap_cons, ← List.drop_eq_getElem_cons hk, ← List.flatMap_append, List.take_append_drop]
theorem ev_set {L : List AEvent} {k : Nat} {y c : AEvent} (h : L[k]? = some y) : (L.set k c).flatMap AEvent.cells = (L.take k).flatMap AEvent.cells ++ (c.cells ++ (L.drop (k + 1)).flatMap AEvent.cells) := by
 obtain ⟨hk, rfl⟩ := List.getElem?_eq_some_iff.1 h
 have h2 : (L.set k c)[k]? = some c := by simp [hk]
 rw [ev_split h2]
 have e1 : (L.set k c).take k = L.take k := by rw [List.take_set]; exact List.set_eq_of_length_le (by rw [List.length_take]; omega)
 have e2 : (L.set k c).drop (k + 1) = L.drop (k + 1) := by rw [List.drop_set]; simp
 rw [e1, e2]
theorem row_rep {w : World} {g p : Nat} {e : TypeId} {A B : List Value} {c0 c1 c2 c3 c4 c5 c6 c7 c8 c9 c10 c11 c12 c13 c14 c15 : Value} (x0 x1 x2 x3 : Value) (h : Row w g e (A ++ c0 :: c1 :: c2 :: c3 :: c4 :: c5 :: c6 :: c7 :: c8 :: c9 :: c10 :: c11 :: c12 :: c13 :: c14 :: c15 :: B)) (hp : A.length = p) :
  Row ((((w.setCell ⟨g, p + 1 + 10, none⟩ x0).setCell ⟨g, p + 1 + 10 + 1, none⟩ x1).setCell ⟨g, p + 1 + 10 + 2, none⟩ x2).setCell ⟨g, p + 1 + 10 + 3, none⟩ x3) g e (A ++ c0 :: c1 :: c2 :: c3 :: c4 :: c5 :: c6 :: c7 :: c8 :: c9 :: c10 :: x0 :: x1 :: x2 :: x3 :: c15 :: B) := by
 have := row_set (j := p + 1 + 10 + 3) x3 (row_set (j := p + 1 + 10 + 2) x2 (row_set (j := p + 1 + 10 + 1) x1 (row_set (j := p + 1 + 10) x0 h)))
 subst hp
 simpa [List.set_append, Nat.add_assoc] using this
theorem newV_rep {W w : World} {g n c kk : Nat} {H : List AEvent} {t : ATold} {o : AReply} (h : NewV W w (.slice (some ⟨g, 0, none⟩) n c) H) (hn : H.length = n) (hk : H[kk]? = some (evT t)) (ho : o.ok) :
  NewV W ((((w.setCell ⟨g, kk * 16 + 1 + 10, none⟩ (.int .i64 o.code)).setCell ⟨g, kk * 16 + 1 + 10 + 1, none⟩ (.int .i64 o.val.kind)).setCell ⟨g, kk * 16 + 1 + 10 + 2, none⟩ (.float .f64 o.val.num)).setCell ⟨g, kk * 16 + 1 + 10 + 3, none⟩ (.string o.val.text)) (.slice (some ⟨g, 0, none⟩) n c) (H.set kk (evT ⟨t.call, o, t.index⟩)) := by
 obtain ⟨h1, h2, h3⟩ := h
 have hkl : kk < H.length := (List.getElem?_eq_some_iff.1 hk).1
 refine ⟨?_, fun x hx => ?_, h3⟩
 ·
  rcases row_of_own h1 with ⟨e, _⟩ | ⟨g', cap, cur, e, hR, hc, hnc, hcm, ht⟩
  ·
   injection e with e1 e2; omega
  ·
   injection e with e1 e2 e3
   injection e1 with e1
   injection e1 with e1
   subst e1; subst e3
   have hcur : cur = (H.take kk).flatMap AEvent.cells ++ ((evT t).cells ++ ((H.drop (kk + 1)).flatMap AEvent.cells ++ cur.drop (H.length * 16))) := by
    rw [← List.append_assoc (evT t).cells, ← List.append_assoc, ← ev_split hk, ← ht, List.take_append_drop]
   have hl : ((H.take kk).flatMap AEvent.cells).length = kk * 16 := by
    rw [flat_len (k := 16) (fun _ => rfl), List.length_take, Nat.min_eq_left (Nat.le_of_lt hkl)]
   rw [hcur] at hR
   have hR2 := row_rep (p := kk * 16) (.int .i64 o.code) (.int .i64 o.val.kind) (.float .f64 o.val.num) (.string o.val.text) hR hl
   have hlen : (H.set kk (evT ⟨t.call, o, t.index⟩)).length = H.length := List.length_set ..
   rw [hlen]
   subst hn
   refine Row.own hR2 ?_ hnc hcm ?_
   ·
    have := congrArg List.length hcur
    rw [hc] at this
    rw [this]
    simp only [List.length_append, List.length_cons, List.append_eq, List.nil_append, AEvent.cells, List.length_nil]
    omega
   ·
    rw [ev_set hk]
    have hl2 : ((H.take kk).flatMap AEvent.cells ++ ((evT ⟨t.call, o, t.index⟩).cells ++ (H.drop (kk + 1)).flatMap AEvent.cells)).length = H.length * 16 := by
     rw [← ev_set hk, flat_len (k := 16) (fun _ => rfl), List.length_set]
    have : ((H.take kk).flatMap AEvent.cells ++ ((evT ⟨t.call, o, t.index⟩).cells ++ (H.drop (kk + 1)).flatMap AEvent.cells)) ++ cur.drop (H.length * 16) = (H.take kk).flatMap AEvent.cells ++ ((evT ⟨t.call, o, t.index⟩).cells ++ ((H.drop (kk + 1)).flatMap AEvent.cells ++ cur.drop (H.length * 16))) := by
     rw [List.append_assoc, List.append_assoc]
    have h6 := List.take_left' (l₂ := cur.drop (H.length * 16)) hl2
    rw [this] at h6
    exact h6
 ·
  rcases List.mem_or_eq_of_mem_set hx with hx | hx
  ·
   exact h2 x hx
  ·
   have := h2 _ (List.mem_of_getElem? hk)
   subst hx
   exact ⟨this.1, ho, this.2.2⟩
theorem kk_of (n : Int) {nh m : Nat} (h : m * 2 = nh) (h1 : 1 ≤ nh) (h2 : nh ≤ 120) : ∃ j : Nat, wrap64 (wrap64 (wrap64 ((wrap64 ((IntKind.u64.wrap n).tmod (nh : Int))).tdiv 2) * 2) + 1) = ((2 * j + 1 : Nat) : Int) ∧ j < m := by
 obtain ⟨h0, h3⟩ := u64_rng n
 generalize IntKind.u64.wrap n = y at h0 h3 ⊢
 have b1 : 0 ≤ y % (nh : Int) := Int.emod_nonneg _ (by omega)
 have b2 : y % (nh : Int) < nh := Int.emod_lt_of_pos _ (by omega)
 rw [Int.tmod_eq_emod_of_nonneg h0]
 generalize y % (nh : Int) = t at b1 b2 ⊢
 rw [IntWalk.wrap64_in t (by omega), Int.tdiv_eq_ediv_of_nonneg b1, IntWalk.wrap64_in (t / 2) (by omega), IntWalk.wrap64_in (t / 2 * 2) (by omega), IntWalk.wrap64_in (t / 2 * 2 + 1) (by omega)]
 exact ⟨(t / 2).toNat, by omega, by omega⟩
end

set_option maxRecDepth 100000 in
set_option maxHeartbeats 8000000 in
theorem histAlone_walk (w : World) (A : Option Addr) (n cc : Nat) (l : List ACall) (hC : Cas w (fun g => g < w.heap.size) (.slice A n cc) l) (hn : l.length = n) (at_ : Int) (hat64 : I64 at_) (o : AReply) (ho : o.ok) (hn60 : n ≤ 60) (ho2 : o.val.text.size ≤ 2000) :
  Calls Try.prog 4 #[.slice A n cc, .int .i64 at_, .agg #[.int .i64 o.code, .int .i64 o.val.kind, .float .f64 o.val.num, .string o.val.text]] w fun e w' => e = .returned (.bool true) ∧ Below w.heap.size w w' := by
 have hl := hC.1.le
 rw [hn] at hl
 unfold maxLen at hl
 have d1 : decide ((60 : Int) < (n : Int)) = false := by simp; omega
 have d2 : decide ((2000 : Int) < (o.val.text.size : Int)) = false := by simp; omega
 obtain ⟨i0, hinf, hz0, hz1, hz2⟩ := info_parts info_entry
 obtain ⟨j0, hjnf, hy0, hy1, hy2⟩ := info_parts info_event
 obtain ⟨b, hb⟩ : ∃ b, w.heap.size = b := ⟨_, rfl⟩
 obtain ⟨W, hW⟩ : ∃ W, W = ((w.alloc (.cells #[.int .i64 o.code, .int .i64 o.val.kind, .float .f64 o.val.num, .string o.val.text] 42)).alloc (.cells #[.int .i64 0, .int .i64 0, .int .i64 0, .int .i64 0, .int .i64 0] 50)).alloc (.cells #[.slice none 0 0, .slice none 0 0] 27) := ⟨_, rfl⟩
 have hE : Ext w W := by rw [hW]; exact (((Mod.refl _ w).alloc _).alloc _).alloc _
 obtain ⟨hA, hB, hsz⟩ := two_new w (.cells #[.int .i64 o.code, .int .i64 o.val.kind, .float .f64 o.val.num, .string o.val.text] 42) (.cells #[.int .i64 0, .int .i64 0, .int .i64 0, .int .i64 0, .int .i64 0] 50)
 have hM := heap_alloc_new ((w.alloc (.cells #[.int .i64 o.code, .int .i64 o.val.kind, .float .f64 o.val.num, .string o.val.text] 42)).alloc (.cells #[.int .i64 0, .int .i64 0, .int .i64 0, .int .i64 0, .int .i64 0] 50)) (.cells #[.slice none 0 0, .slice none 0 0] 27)
 have hE2 : Ext ((w.alloc (.cells #[.int .i64 o.code, .int .i64 o.val.kind, .float .f64 o.val.num, .string o.val.text] 42)).alloc (.cells #[.int .i64 0, .int .i64 0, .int .i64 0, .int .i64 0, .int .i64 0] 50)) W := by rw [hW]; exact (Mod.refl _ _).alloc _
 rw [← hW, hsz, hb] at hM
 replace hA := hE2.blk hA id
 replace hB := hE2.blk hB id
 rw [hb] at hA hB
 have hA0 : AlnW w W b (.slice none 0 0) (.slice none 0 0) (.slice none 0 0) (.slice none 0 0) mach0 [] [] [0, 0, 0, 0, 0] o :=
  ⟨newE_nil _ _, newV_nil _ _, hM, ⟨⟨World.ownsRow_nil _ _ _ _, by simp [mach0], by simp [Value.ownBlock]⟩, ⟨World.ownsRow_nil _ _ _ _, by simp [mach0], by simp [Value.ownBlock]⟩, by simp [Value.ownBlock]⟩, hB, hA, hE⟩
 have HA0 := Lib.hid hA0
 have HC := Lib.hid hC
 have Hn := Lib.hid hn
 have HW := Lib.hid hW
 have Hb := Lib.hid hb
 have Ho := Lib.hid ho
 have H64 := Lib.hid hat64
 clear hA0 hA hB hM hE2 hE hC hn hW hb hsz ho hat64
 go_enter Try.func4, Try.ntmps4
 go_wp2
 rw [← HW.out, Hb.out]
 go_loopw [7, 8, 11] (fun lv hv iv wr => ∃ (i : Nat) (s : List Int) (m : AMach) (lg : List AEntry) (L : List ATold) (AL AH A1 A2 : Option Addr) (cl ch c1 c2 nl nh : Nat), i ≤ n ∧ lv = .slice AL nl cl ∧ hv = .slice AH nh ch ∧ iv = .int .i64 i ∧ lg.length = nl ∧ L.length * 2 = nh ∧ nl ≤ i ∧ nh ≤ 2 * i ∧
  AlnW w wr b (.slice AL nl cl) (.slice AH nh ch) (.slice A1 m.pairs.length c1) (.slice A2 m.sess.length c2) m lg (tkn L) s o ∧ Aln i s m lg L) (fun _ _ iv _ => n - (intOf iv).toNat)
 case atStart => exact ⟨0, [0, 0, 0, 0, 0], mach0, [], [], none, none, none, none, 0, 0, 0, 0, 0, 0, by omega, rfl, rfl, rfl, rfl, rfl, by omega, by omega, HA0.out, aln_zero⟩
 case round =>
  clear HA0 HW
  obtain ⟨i, s, m, lg, L, AL, AH, A1, A2, cl, ch, c1, c2, nl, nh, hin, rfl, rfl, rfl, hnl, hnh, hnl2, hnh2, hS, hP⟩ := hrel
  have Hnl := Lib.hid hnl
  have Hnh := Lib.hid hnh
  have HS := Lib.hid hS
  have HP := Lib.hid hP
  clear hnl hnh hS hP
  by_cases hi : i < n
  case pos =>
   obtain ⟨g, off, x, rfl, hgT, hx, hxok, hcells⟩ := (HC.out.ext HS.out.2.2.2.2.2.2).at hi
   have hi0 : (0 : Int) ≤ (i : Int) := by omega
   have hi1 : (i : Int) < (n : Int) := by omega
   have Hxok := Lib.hid hxok
   have Hcells : Hid (At wr g (off + i * 10) x.cells) := Lib.hid hcells
   clear hcells hx hxok hgT
   go_upto_region 10 with fail
   go_cut [12] (fun s12 wx => ∃ u : Nat, s12 = .pointer (some ⟨u, 0, none⟩) ∧ wx.heap[u]? = some (.cells #[.int .i64 x.client, .int .i64 x.seq, .int .i64 x.cmd.kind, .string x.cmd.key, .int .i64 x.cmd.old.kind, .float .f64 x.cmd.old.num, .string x.cmd.old.text, .int .i64 x.cmd.val.kind, .float .f64 x.cmd.val.num, .string x.cmd.val.text] 35 (0, 0)) ∧ Ext wr wx ∧ wr.heap.size ≤ u)
   case first =>
    have hld := load_call x Hcells.out
    have hst := store_call_new wr x
    go_wp2_with (first | (refine wpList_load rfl 35 _ rfl _ _ rfl hld ?_) | (refine wpList_store rfl 35 _ _ rfl _ _ rfl rfl hst ?_))
    go_meet
    exact ⟨_, rfl, heap_alloc_new _ _, (Mod.refl _ _).alloc _, Nat.le_refl _⟩
   obtain ⟨u, rfl, hK, hE, hu⟩ := hcut
   obtain ⟨w1, rfl⟩ : ∃ w1 : World, w1 = wc := ⟨_, rfl⟩
   have hub : b + 1 + 1 < u := by have := (Array.getElem?_eq_some_iff.1 HS.out.2.2.1).1; omega
   have hwb : w.heap.size ≤ b := by rw [Hb.out]; exact Nat.le_refl _
   have HS1 := Lib.hid (HS.out.ext hE)
   have Kc1 := Lib.hid hK
   have hld := load_cmd (g := u) (o := 2) x.cmd (call_cmd2 (At.of (cs := x.cells) hK))
   clear Hcells HS hE hK hu
   go_wp2_with (refine wpList_load rfl 33 _ rfl _ _ rfl hld ?_)
   refine (hv_cmd x.cmd _).mono ?_
   rintro e w2 ⟨rfl, hE⟩
   have HS2 := Lib.hid (HS1.out.ext hE)
   have hK2 := hE.blk Kc1.out id
   have Kc2 := Lib.hid hK2
   clear hld hE HS1 Kc1
   rcases hh : heavyCmd x.cmd with _ | _
   case true =>
    clear hK2
    go_wp2
    go_ret
    exact ⟨rfl, Ext.below HS2.out.2.2.2.2.2.2⟩
   obtain ⟨c_0, c_1, c_2, c_3, c_4, c_5, c_6, c_7, c_8, c_9⟩ := cq10 hK2
   have f0 := blk_free 0 hK2
   have f1 := blk_free 1 hK2
   clear hK2 hh
   go_upto_region 14 with fail
   obtain ⟨k, hk, hk1, hk4⟩ := cl_of x.client
   rw [hk]
   obtain ⟨w3, hw3⟩ : ∃ w3, w2.setCell ⟨u, 0, none⟩ (.int .i64 k) = w3 := ⟨_, rfl⟩
   have hK3 : w3.heap[u]? = some (.cells #[.int .i64 (⟨k, x.seq, x.cmd⟩ : ACall).client, .int .i64 (⟨k, x.seq, x.cmd⟩ : ACall).seq, .int .i64 (⟨k, x.seq, x.cmd⟩ : ACall).cmd.kind, .string (⟨k, x.seq, x.cmd⟩ : ACall).cmd.key, .int .i64 (⟨k, x.seq, x.cmd⟩ : ACall).cmd.old.kind, .float .f64 (⟨k, x.seq, x.cmd⟩ : ACall).cmd.old.num, .string (⟨k, x.seq, x.cmd⟩ : ACall).cmd.old.text, .int .i64 (⟨k, x.seq, x.cmd⟩ : ACall).cmd.val.kind, .float .f64 (⟨k, x.seq, x.cmd⟩ : ACall).cmd.val.num, .string (⟨k, x.seq, x.cmd⟩ : ACall).cmd.val.text] 35 (0, 0)) := by
    rw [← hw3]
    have := Kc2.out
    simp [World.setCell, Array.getElem?_modify, this]
   have hM3 : Mod (fun g => g = u) w2 w3 := by rw [← hw3]; exact mod_same (Mod.refl _ _) _ _
   rw [hw3]
   have HS3 := Lib.hid (HS2.out.box Kc2.out hM3 (by decide) (by decide) (by decide) (by decide) hub hwb)
   obtain ⟨v, hv⟩ : ∃ v, numC s k = v := ⟨_, rfl⟩
   have hvv := num_nn HP.out.1 k
   rw [hv] at hvv
   have v0 : 0 ≤ v := hvv.1
   have v1 : v ≤ 60 := by omega
   have Hv := Lib.hid hv
   have hkt : k.toNat < 5 := by omega
   have hsk : s[k.toNat]? = some v := by
    rw [← hv]
    unfold numC
    rw [List.getD_eq_getElem?_getD, List.getElem?_eq_getElem (by have := HP.out.1.1; omega)]
    rfl
   have Hsk := Lib.hid hsk
   have q1 : w3.cell? ⟨b + 1, k.toNat, none⟩ = some (.int .i64 v) := HS3.out.2.2.2.2.1.cell (by rw [List.getElem?_map, hsk]; rfl)
   have k0 : (0 : Int) ≤ k := by omega
   have k5 : k < (5 : Int) := by omega
   have g0 : w3.cell? ⟨u, 0, none⟩ = some (.int .i64 k) := blk_cell hK3 rfl
   have g1 : w3.cell? ⟨u, 1, none⟩ = some (.int .i64 x.seq) := blk_cell hK3 rfl
   have f1' := blk_free 1 hK3
   have Kc3 := Lib.hid hK3
   clear hk hw3 hK3 hM3 HS2 Kc2 hv hvv hsk c_0 c_1 c_2 c_3 c_4 c_5 c_6 c_7 c_8 c_9 f0 f1
   go_upto_region 15 with fail
   obtain ⟨c, hc⟩ : ∃ c : ACall, c = ⟨k, v + 1, x.cmd⟩ := ⟨_, rfl⟩
   obtain ⟨w4, hw4⟩ : ∃ w4, w3.setCell ⟨u, 1, none⟩ (.int .i64 (v + 1)) = w4 := ⟨_, rfl⟩
   have hK4 : w4.heap[u]? = some (.cells #[.int .i64 c.client, .int .i64 c.seq, .int .i64 c.cmd.kind, .string c.cmd.key, .int .i64 c.cmd.old.kind, .float .f64 c.cmd.old.num, .string c.cmd.old.text, .int .i64 c.cmd.val.kind, .float .f64 c.cmd.val.num, .string c.cmd.val.text] 35 (0, 0)) := by
    rw [← hw4, hc]
    have := Kc3.out
    simp [World.setCell, Array.getElem?_modify, this]
   have hM4 : Mod (fun g => g = u) w3 w4 := by rw [← hw4]; exact mod_same (Mod.refl _ _) _ _
   rw [hw4]
   have HS4 := Lib.hid (HS3.out.box Kc3.out hM4 (by decide) (by decide) (by decide) (by decide) hub hwb)
   have hcok : c.ok := by rw [hc]; exact ⟨(show I64 k from by unfold I64; omega), (show I64 (v + 1) from by unfold I64; omega), Hxok.out.2.2⟩
   have Hcok := Lib.hid hcok
   have Hck : Hid (c.client = k) := Lib.hid (by rw [hc])
   have Hcs : Hid (c.seq = v + 1) := Lib.hid (by rw [hc])
   have hld := load_call c (At.of (cs := c.cells) hK4)
   have Kc4 := Lib.hid hK4
   clear hc hw4 hK4 hM4 HS3 Kc3 hcok q1 g0 g1 f1'
   go_wp2_with (refine wpList_load rfl 35 _ rfl _ _ rfl hld ?_)
   refine (r_call c _).mono ?_
   rintro e w5 ⟨rfl, hE⟩
   have HS5 := Lib.hid (HS4.out.ext hE)
   have hK5 := hE.blk Kc4.out id
   have Kc5 := Lib.hid hK5
   clear hld hE HS4 Kc4
   by_cases hce : callE c = 0
   case neg =>
    have dce : (callE c != 0) = true := by simpa using hce
    have Hce := Lib.hid hce
    clear hce hK5
    go_wp2
    exact ⟨⟨i + 1, s, m, lg, L, AL, AH, A1, A2, cl, ch, c1, c2, nl, nh, by omega, rfl, rfl, by go_num, Hnl.out, Hnh.out, by omega, by omega, HS5.out, aln_more HP.out⟩, by simp [intOf]; omega⟩
   have dce : (callE c != 0) = false := by simpa using hce
   have Hce := Lib.hid hce
   have e0 : w5.cell? ⟨u, 0, none⟩ = some (.int .i64 k) := by rw [← Hck.out]; exact blk_cell hK5 rfl
   have q5 : w5.cell? ⟨b + 1, k.toNat, none⟩ = some (.int .i64 v) := HS5.out.2.2.2.2.1.cell (by rw [List.getElem?_map, Hsk.out]; rfl)
   have qf := HS5.out.2.2.2.2.1.free k.toNat
   clear hce hK5
   go_upto_region 17 with fail
   have HS6 := Lib.hid (HS5.out.num k.toNat (v + 1) hwb)
   have hM6 : Mod (fun g => g = b + 1) w5 (w5.setCell ⟨b + 1, k.toNat, none⟩ (.int .i64 (v + 1))) := mod_same (Mod.refl _ _) _ _
   have hK6 := hM6.blk Kc5.out (by omega)
   obtain ⟨w6, hw6⟩ : ∃ w6, w5.setCell ⟨b + 1, k.toNat, none⟩ (.int .i64 (v + 1)) = w6 := ⟨_, rfl⟩
   rw [hw6] at HS6 hK6 ⊢
   have Kc6 := Lib.hid hK6
   have hld := load_call c (At.of (cs := c.cells) hK6)
   have hlh : (tkn L).length = nh := by rw [tkn_len, ← Hnh.out]; omega
   have hown : w6.ownsRow 0 56 16 (.slice AH nh ch) nh ((tkn L).flatMap AEvent.cells) := by
    have := HS6.out.2.1.1
    rwa [hlh] at this
   have Hown := Lib.hid hown
   have Hlh := Lib.hid hlh
   clear e0 q5 qf hM6 hK6 hw6 hown hlh HS5 Kc5
   go_wp2_with (first | (refine wpList_load rfl 35 _ rfl _ _ rfl hld ?_) | (at_builtin; go_must (refine wpList_app _ rfl _ _ 49 rfl 56 j0 _ 16 160 Try.underlying49 hjnf hy0 hy1 hy2 rfl (by omega) _ nh _ rfl (Hown.out.alloc _) _ _ 1 ([evA c].flatMap AEvent.cells) rfl (sl_evA w6 c) (event_one _) (by simp only [maxLen]; omega) (by omega) ?_)))
   intro v' w7 ho hgr hat
   have HM7 := HS6.out.modV hgr
   have hK7 := HM7.blk Kc6.out (fun e => own_apart HS6.out.2.1.1 e Kc6.out (by decide) rfl)
   have hS7 := HS6.out.appV (ev := [evA c]) (fun y hy => by rw [List.mem_singleton] at hy; rw [hy]; exact evA_ok Hcok.out) Hlh.out rfl ho hgr hat (by omega)
   have hl7 : (tkn L ++ [evA c]).length = nh + 1 := by rw [List.length_append, Hlh.out]; rfl
   obtain ⟨A7, c7, rfl⟩ := hS7.2.1.form
   rw [hl7] at hS7 ⊢
   obtain ⟨H7, hH7⟩ : ∃ H7, tkn L ++ [evA c] = H7 := ⟨_, rfl⟩
   rw [hH7] at hS7 hl7
   have HH7 := Lib.hid hH7
   have HS7 := Lib.hid hS7
   have Kc7 := Lib.hid hK7
   have Hl7 := Lib.hid hl7
   clear hH7
   clear ho hgr hat HM7 hS7 hK7 hl7 hld Hown HS6 Kc6
   go_upto_region 19 with fail
   obtain ⟨ur, hur⟩ : ∃ ur, w7.heap.size = ur := ⟨_, rfl⟩
   obtain ⟨w8, hw8⟩ : ∃ w8, w8 = w7.alloc (.cells #[.int .i64 0, .int .i64 0, .float .f64 0, .string ⟨#[]⟩] 42) := ⟨_, rfl⟩
   have hE8 : Ext w7 w8 := by rw [hw8]; exact (Mod.refl _ _).alloc _
   have hKr8 : w8.heap[ur]? = some (.cells #[.int .i64 0, .int .i64 0, .float .f64 0, .string ⟨#[]⟩] 42 (0, 0)) := by rw [hw8, ← hur]; exact heap_alloc_new w7 _
   rw [← hw8, hur]
   have hub2 : b + 1 + 1 < ur := by have := (Array.getElem?_eq_some_iff.1 HS7.out.2.2.1).1; omega
   have huur : u < ur := by have := (Array.getElem?_eq_some_iff.1 Kc7.out).1; omega
   have hKc8 := hE8.blk Kc7.out id
   have HS8 := Lib.hid (HS7.out.ext hE8)
   have Kc8 := Lib.hid hKc8
   have Kr8 := Lib.hid hKr8
   have Hq : Hid (c.seq = numC s c.client + 1) := Lib.hid (by rw [Hck.out, Hv.out]; exact Hcs.out)
   have HRd : Hid ((doP m.pairs c.cmd).2.ok) := Lib.hid (rep_okD HS8.out.2.2.2.1.1.2.1 Hcok.out.2.2.2.2.2 (call_nums Hce.out).2.1 (mach_pairs HP.out.2.1))
   have e2 : w8.cell? ⟨u, 2, none⟩ = some (.int .i64 c.cmd.kind) := blk_cell hKc8 rfl
   have m0 : w8.cell? ⟨b + 1 + 1, 0, none⟩ = some _ := blk_cell HS8.out.2.2.1 rfl
   have m1 : w8.cell? ⟨b + 1 + 1, 1, none⟩ = some _ := blk_cell HS8.out.2.2.1 rfl
   clear hur hw8 hE8 HS7 Kc7 hKr8
   by_cases hkd : c.cmd.kind = 1
   ·
    have dk : (c.cmd.kind == 1) = true := by simp [hkd]
    have Hkd := Lib.hid hkd
    have hld := load_cmd (g := u) (o := 2) c.cmd (call_cmd2 (At.of (cs := c.cells) hKc8))
    rcases hdo : doP m.pairs c.cmd with ⟨Q, r⟩
    have Hdo := Lib.hid hdo
    have hrok : r.ok := by have := HRd.out; rw [hdo] at this; exact this
    have Hrok := Lib.hid hrok
    clear hkd hKc8 hdo hrok
    go_wp2_with (refine wpList_load rfl 33 _ rfl _ _ rfl hld ?_)
    refine (r_do_at w8 _ _ m.pairs c.cmd HS8.out.2.2.2.1.prs (mach_small HP.out.2.1).1 Hcok.out.2.2.2.2.2 Hdo.out).mono ?_
    rintro e w9 ⟨v2, rfl, hN, hE⟩
    clear hld m0 m1 e2 hN
    have HS9 := Lib.hid (HS8.out.ext hE)
    have Kc9 := Lib.hid (hE.blk Kc8.out id)
    have hKr := hE.blk Kr8.out id
    have Kr9 := Lib.hid hKr
    obtain ⟨r_0, r_1, r_2, r_3⟩ := cq4 hKr
    have rf0 := blk_free 0 hKr
    have rf1 := blk_free 1 hKr
    have rf2 := blk_free 2 hKr
    have rf3 := blk_free 3 hKr
    clear hE hKr HS8 Kc8 Kr8
    go_upto_region 23 with fail
    clear r_0 r_1 r_2 r_3 rf0 rf1 rf2 rf3
    obtain ⟨w10, hw10⟩ : ∃ w10, (((w9.setCell ⟨ur, 0, none⟩ (.int .i64 r.code)).setCell ⟨ur, 1, none⟩ (.int .i64 r.val.kind)).setCell ⟨ur, 2, none⟩ (.float .f64 r.val.num)).setCell ⟨ur, 3, none⟩ (.string r.val.text) = w10 := ⟨_, rfl⟩
    have hM10 : Mod (fun g => g = ur) w9 w10 := by rw [← hw10]; exact mod_same (mod_same (mod_same (mod_same (Mod.refl _ _) _ _) _ _) _ _) _ _
    have hKr10 : w10.heap[ur]? = some (.cells #[.int .i64 r.code, .int .i64 r.val.kind, .float .f64 r.val.num, .string r.val.text] 42 (0, 0)) := by
     rw [← hw10]
     have := Kr9.out
     simp [World.setCell, Array.getElem?_modify, this]
    rw [hw10]
    have HS10 := Lib.hid (HS9.out.box Kr9.out hM10 (by decide) (by decide) (by decide) (by decide) hub2 hwb)
    have Kc10 := Lib.hid (hM10.blk Kc9.out (by omega))
    have Kr10 := Lib.hid hKr10
    clear hw10 hM10 hKr10 HS9 Kc9 Kr9
    have hown : w10.ownsRow 0 56 16 (.slice A7 (nh + 1) c7) (nh + 1) (H7.flatMap AEvent.cells) := by
     have := HS10.out.2.1.1
     rwa [Hl7.out] at this
    have Hown := Lib.hid hown
    have hld := load_call c (At.of (cs := c.cells) Kc10.out)
    have hldr := load_rep r (At.of (cs := r.cells) Kr10.out)
    clear hown
    go_wp2_with (first | (refine wpList_load rfl 35 _ rfl _ _ rfl hld ?_) | (refine wpList_load rfl 42 _ rfl _ _ rfl hldr ?_) | (at_builtin; go_must (refine wpList_app _ rfl _ _ 49 rfl 56 j0 _ 16 160 Try.underlying49 hjnf hy0 hy1 hy2 rfl (by omega) _ (nh + 1) _ rfl (Hown.out.alloc _) _ _ 1 ([evT ⟨c, r, (nl : Int)⟩].flatMap AEvent.cells) rfl (sl_evT w10 c r (nl : Int)) (event_one _) (by simp only [maxLen]; omega) (by omega) ?_)))
    intro v' w12 ho hgr hat
    have hS12 := HS10.out.appV (ev := [evT ⟨c, r, (nl : Int)⟩]) (fun y hy => by rw [List.mem_singleton] at hy; rw [hy]; exact evT_ok Hcok.out Hrok.out (by unfold I64; omega)) Hl7.out rfl ho hgr hat (by omega)
    have hl12 : (H7 ++ [evT ⟨c, r, (nl : Int)⟩]).length = nh + 1 + 1 := by rw [List.length_append, Hl7.out]; rfl
    obtain ⟨A12, c12, rfl⟩ := hS12.2.1.form
    rw [hl12] at hS12 ⊢
    have ht12 : H7 ++ [evT ⟨c, r, (nl : Int)⟩] = tkn (L ++ [⟨c, r, (nl : Int)⟩]) := by rw [← HH7.out, tkn_snoc, List.append_assoc]; rfl
    rw [ht12] at hS12
    have HS12 := Lib.hid hS12
    clear ho hgr hat hS12 hl12 hld hldr Hown HS10 Kc10 Kr10 ht12
    have hP' := aln_get HP.out Hce.out Hq.out Hkd.out
    rw [Hck.out, Hv.out, Hdo.out, Hnl.out] at hP'
    have HP' := Lib.hid hP'
    clear hP'
    go_wp2
    exact ⟨⟨i + 1, s.set k.toNat (v + 1), m, lg, L ++ [⟨c, r, (nl : Int)⟩], AL, A12, A1, A2, cl, c12, c1, c2, nl, nh + 1 + 1, by omega, rfl, rfl, by go_num, Hnl.out, by rw [List.length_append, ← Hnh.out]; simp; omega, by omega, by omega, HS12.out, HP'.out⟩, by simp [intOf]; omega⟩
   ·
    have dk : (c.cmd.kind == 1) = false := by simp [hkd]
    have Hkd := Lib.hid hkd
    have hld := load_call c (At.of (cs := c.cells) hKc8)
    rcases hdo : onceP m c with ⟨M, r⟩
    have Hdo := Lib.hid hdo
    have hrok : r.ok := by have := HRd.out; rw [← aln_rep HP.out Hce.out Hq.out, hdo] at this; exact this
    have Hrok := Lib.hid hrok
    clear hkd hKc8 hdo hrok
    go_wp2_with (refine wpList_load rfl 35 _ rfl _ _ rfl hld ?_)
    refine (r_once_at w8 _ _ _ _ m c HS8.out.2.2.2.1.prs HS8.out.2.2.2.1.ses (mach_small HP.out.2.1) Hcok.out.2.2.2.2.2 Hdo.out).mono ?_
    rintro e w9 ⟨pv2, v2, rfl, hN, hE⟩
    obtain ⟨A3, c3, rfl⟩ := own_form hN.1.1
    obtain ⟨A4, c4, rfl⟩ := own_form hN.2.1.1
    have hN9 := newM_up hN HS8.out.2.2.2.2.2.2.size
    have hS9 := HS8.out.ext hE
    have hS9a := hS9.setM hwb hN9
    have hM9 : Mod (fun g => g = b + 1 + 1) w9 ((w9.setCell ⟨b + 1 + 1, 0, none⟩ (.slice A3 M.pairs.length c3)).setCell ⟨b + 1 + 1, 1, none⟩ (.slice A4 M.sess.length c4)) := mod_same (mod_same (Mod.refl _ _) _ _) _ _
    have HS9 := Lib.hid hS9a
    have Kc9 := Lib.hid (hM9.blk (hE.blk Kc8.out id) (by omega))
    have hKr9 := hM9.blk (hE.blk Kr8.out id) (by omega)
    have Kr9 := Lib.hid hKr9
    have n0 : w9.cell? ⟨b + 1 + 1, 0, none⟩ = some _ := blk_cell hS9.2.2.1 rfl
    have n1 : w9.cell? ⟨b + 1 + 1, 1, none⟩ = some _ := blk_cell hS9.2.2.1 rfl
    have nf0 := blk_free 0 hS9.2.2.1
    have nf1 := blk_free 1 hS9.2.2.1
    have hKr := hE.blk Kr8.out id
    obtain ⟨r_0, r_1, r_2, r_3⟩ := cq4 hKr
    have rf0 := blk_free 0 hKr
    have rf1 := blk_free 1 hKr
    have rf2 := blk_free 2 hKr
    have rf3 := blk_free 3 hKr
    have hur9 : ur < w9.heap.size := (Array.getElem?_eq_some_iff.1 hKr).1
    clear hld m0 m1 e2 hN hN9 hS9 hS9a hM9 hKr hKr9 hE HS8 Kc8 Kr8
    go_upto_region 22 with fail
    obtain ⟨w9a, hw9a⟩ : ∃ w9a, (w9.setCell ⟨b + 1 + 1, 0, none⟩ (.slice A3 M.pairs.length c3)).setCell ⟨b + 1 + 1, 1, none⟩ (.slice A4 M.sess.length c4) = w9a := ⟨_, rfl⟩
    rw [hw9a] at HS9 Kc9 Kr9 ⊢
    clear n0 n1 nf0 nf1 rf0 rf1 rf2 rf3 r_0 r_1 r_2 r_3 hw9a hur9
    obtain ⟨w10, hw10⟩ : ∃ w10, (((w9a.setCell ⟨ur, 0, none⟩ (.int .i64 r.code)).setCell ⟨ur, 1, none⟩ (.int .i64 r.val.kind)).setCell ⟨ur, 2, none⟩ (.float .f64 r.val.num)).setCell ⟨ur, 3, none⟩ (.string r.val.text) = w10 := ⟨_, rfl⟩
    have hM10 : Mod (fun g => g = ur) w9a w10 := by rw [← hw10]; exact mod_same (mod_same (mod_same (mod_same (Mod.refl _ _) _ _) _ _) _ _) _ _
    have hKr10 : w10.heap[ur]? = some (.cells #[.int .i64 r.code, .int .i64 r.val.kind, .float .f64 r.val.num, .string r.val.text] 42 (0, 0)) := by
     rw [← hw10]
     have := Kr9.out
     simp [World.setCell, Array.getElem?_modify, this]
    rw [hw10]
    have HS10 := Lib.hid (HS9.out.box Kr9.out hM10 (by decide) (by decide) (by decide) (by decide) hub2 hwb)
    have Kc10 := Lib.hid (hM10.blk Kc9.out (by omega))
    have Kr10 := Lib.hid hKr10
    clear hw10 hM10 hKr10 HS9 Kc9 Kr9
    have hown : w10.ownsRow 0 39 16 (.slice AL nl cl) nl (lg.flatMap AEntry.cells) := by
     have := HS10.out.1.1
     rwa [Hnl.out] at this
    have Hown := Lib.hid hown
    have hld := load_call c (At.of (cs := c.cells) Kc10.out)
    clear hown
    go_wp2_with (first | (refine wpList_load rfl 35 _ rfl _ _ rfl hld ?_) | (at_builtin; go_must (refine wpList_app _ rfl _ _ 23 rfl 39 i0 _ 16 152 Try.underlying23 hinf hz0 hz1 hz2 rfl (by omega) _ nl _ rfl (Hown.out.alloc _) _ _ 1 ([entC c].flatMap AEntry.cells) rfl (sl_entC w10 c) (entry_one _) (by simp only [maxLen]; omega) (by omega) ?_)))
    intro v' w11 ho hgr hat
    have hM11 := HS10.out.modE hgr
    have hS11 := HS10.out.appE (es := [entC c]) (fun y hy => by rw [List.mem_singleton] at hy; rw [hy]; exact entC_ok Hcok.out) Hnl.out rfl ho hgr hat (by omega)
    have Kc11 := Lib.hid (hM11.blk Kc10.out (fun e => own_apart HS10.out.1.1 e Kc10.out (by decide) rfl))
    have Kr11 := Lib.hid (hM11.blk Kr10.out (fun e => own_apart HS10.out.1.1 e Kr10.out (by decide) rfl))
    obtain ⟨nl2, hnl2⟩ : ∃ nl2, nl + 1 = nl2 := ⟨_, rfl⟩
    have hl11 : (lg ++ [entC c]).length = nl2 := by rw [List.length_append, Hnl.out]; exact hnl2
    obtain ⟨A11, c11, rfl⟩ := hS11.1.form
    rw [hl11] at hS11 ⊢
    have HS11 := Lib.hid hS11
    have Hl11 := Lib.hid hl11
    have hnl3 : nl2 ≤ i + 1 := by omega
    have Hnl2 := Lib.hid hnl2
    clear ho hgr hat hM11 hS11 hl11 hld Hown HS10 Kc10 Kr10 hnl2
    have hown : w11.ownsRow 0 56 16 (.slice A7 (nh + 1) c7) (nh + 1) (H7.flatMap AEvent.cells) := by
     have := HS11.out.2.1.1
     rwa [Hl7.out] at this
    have Hown := Lib.hid hown
    have hld := load_call c (At.of (cs := c.cells) Kc11.out)
    have hldr := load_rep r (At.of (cs := r.cells) Kr11.out)
    clear hown
    go_wp2_with (first | (refine wpList_load rfl 35 _ rfl _ _ rfl hld ?_) | (refine wpList_load rfl 42 _ rfl _ _ rfl hldr ?_) | (at_builtin; go_must (refine wpList_app _ rfl _ _ 49 rfl 56 j0 _ 16 160 Try.underlying49 hjnf hy0 hy1 hy2 rfl (by omega) _ (nh + 1) _ rfl (Hown.out.alloc _) _ _ 1 ([evT ⟨c, r, (nl2 : Int)⟩].flatMap AEvent.cells) rfl (sl_evT w11 c r (nl2 : Int)) (event_one _) (by simp only [maxLen]; omega) (by omega) ?_)))
    intro v' w12 ho hgr hat
    have hS12 := HS11.out.appV (ev := [evT ⟨c, r, (nl2 : Int)⟩]) (fun y hy => by rw [List.mem_singleton] at hy; rw [hy]; exact evT_ok Hcok.out Hrok.out (by unfold I64; omega)) Hl7.out rfl ho hgr hat (by omega)
    have hl12 : (H7 ++ [evT ⟨c, r, (nl2 : Int)⟩]).length = nh + 1 + 1 := by rw [List.length_append, Hl7.out]; rfl
    obtain ⟨A12, c12, rfl⟩ := hS12.2.1.form
    rw [hl12] at hS12 ⊢
    have ht12 : H7 ++ [evT ⟨c, r, (nl2 : Int)⟩] = tkn (L ++ [⟨c, r, (nl2 : Int)⟩]) := by rw [← HH7.out, tkn_snoc, List.append_assoc]; rfl
    rw [ht12] at hS12
    have HS12 := Lib.hid hS12
    clear ho hgr hat hS12 hl12 hld hldr Hown HS11 Kc11 Kr11 ht12
    have hP' := aln_call HP.out Hce.out Hq.out Hkd.out
    rw [Hck.out, Hv.out, Hdo.out, Hnl.out, show (nl : Int) + 1 = (nl2 : Int) by have := Hnl2.out; omega] at hP'
    have HP' := Lib.hid hP'
    clear hP'
    go_wp2
    exact ⟨⟨i + 1, s.set k.toNat (v + 1), M, lg ++ [entC c], L ++ [⟨c, r, (nl2 : Int)⟩], A11, A12, A3, A4, c11, c12, c3, c4, nl2, nh + 1 + 1, by omega, rfl, rfl, by go_num, Hl11.out, by rw [List.length_append, ← Hnh.out]; simp; omega, by omega, by omega, HS12.out, HP'.out⟩, by simp [intOf]; omega⟩
  obtain ⟨ws, rfl⟩ : ∃ ws : World, ws = wr := ⟨_, rfl⟩
  have HX := Lib.hid HS.out.2.2.2.2.2.2
  have HL := Lib.hid HS.out.1
  have HV := Lib.hid HS.out.2.1
  have Ko := Lib.hid HS.out.2.2.2.2.2.1
  have hwb : w.heap.size ≤ b := by rw [Hb.out]; exact Nat.le_refl _
  clear HS
  go_wp2_with fail
  refine (h_check ws _ _ (tkn L) HV.out.evs).mono ?_
  rintro e x1 ⟨rfl, hE⟩
  rw [aln_check HP.out]
  replace HL := Lib.hid (newE_mod HL.out hE (fun _ _ => id))
  replace HV := Lib.hid (newV_mod HV.out hE (fun _ _ => id))
  replace HX := Lib.hid (HX.out.ext hE)
  replace Ko := Lib.hid (hE.blk Ko.out id)
  clear hE
  go_wp2_with fail
  refine (h_order x1 _ _ _ _ lg (tkn L) HL.out.ents HV.out.evs).mono ?_
  rintro e x2 ⟨rfl, hE⟩
  rw [aln_order HP.out]
  replace HL := Lib.hid (newE_mod HL.out hE (fun _ _ => id))
  replace HV := Lib.hid (newV_mod HV.out hE (fun _ _ => id))
  replace HX := Lib.hid (HX.out.ext hE)
  replace Ko := Lib.hid (hE.blk Ko.out id)
  clear hE
  by_cases hz : nh = 0
  ·
   have dz : ((nh : Int) == 0) = true := by simp; omega
   have Hz := Lib.hid hz
   clear hz
   go_wp2_with fail
   refine (l_wakes25 _).mono ?_
   rintro e wk ⟨rfl, hE⟩
   replace HX := Lib.hid (HX.out.ext hE)
   clear hE
   go_wp2
   go_ret
   exact ⟨rfl, Ext.below HX.out⟩
  have dz : ((nh : Int) == 0) = false := by simp; omega
  have nz : 1 ≤ nh := by omega
  have nz2 : (1 : Int) ≤ (nh : Int) := by omega
  have nz3 : (nh : Int) ≤ 120 := by omega
  clear hz
  go_upto_region 29 with fail
  obtain ⟨jj, hjj, hjm⟩ := kk_of at_ Hnh.out nz (by omega)
  rw [hjj]
  obtain ⟨t, ht⟩ : ∃ t, L[jj]? = some t := ⟨_, List.getElem?_eq_getElem hjm⟩
  have hg := tkn_get ht
  have Hbad : Hid (∀ o, eqReply t.reply o = false → orderB lg ((tkn L).set (2 * jj + 1) (evT ⟨t.call, o, t.index⟩)) = false) := Lib.hid (fun o ho => aln_bad HP.out ht ho)
  obtain ⟨kk, hkk⟩ : ∃ kk, 2 * jj + 1 = kk := ⟨_, rfl⟩
  rw [hkk] at hg Hbad ⊢
  have hkn : kk < nh := by have := Hnh.out; omega
  have hlh : (tkn L).length = nh := by rw [tkn_len, ← Hnh.out]; omega
  obtain ⟨g, cap, cur, hAH, hR⟩ : ∃ g cap cur, Value.slice AH nh ch = .slice (some ⟨g, 0, none⟩) nh cap ∧ Row x2 g 56 cur := by
   have h1 := HV.out.1
   rw [hlh] at h1
   rcases row_of_own h1 with ⟨_, e⟩ | ⟨g, cap, cur, e, hR, _⟩
   ·
    omega
   ·
    exact ⟨g, cap, cur, e, hR⟩
  injection hAH with hAH _ hcap
  subst hAH; subst hcap
  obtain ⟨g', off', y, hA2, _, hy, _, hcy⟩ := HV.out.evs.at (i := kk) hkn
  injection hA2 with hA2
  injection hA2 with hg2 ho2
  subst hg2; subst ho2
  obtain rfl : y = evT t := by rw [hg] at hy; injection hy with hy; exact hy.symm
  have y0 : x2.cell? ⟨g, kk * 16 + 1 + 10, none⟩ = some (.int .i64 t.reply.code) := by have := hcy 11 _ rfl; rwa [Nat.zero_add] at this
  have y1 : x2.cell? ⟨g, kk * 16 + 1 + 10 + 1, none⟩ = some (.int .i64 t.reply.val.kind) := by have := hcy 12 _ rfl; rwa [Nat.zero_add] at this
  have y2 : x2.cell? ⟨g, kk * 16 + 1 + 10 + 2, none⟩ = some (.float .f64 t.reply.val.num) := by have := hcy 13 _ rfl; rwa [Nat.zero_add] at this
  have y3 : x2.cell? ⟨g, kk * 16 + 1 + 10 + 3, none⟩ = some (.string t.reply.val.text) := by have := hcy 14 _ rfl; rwa [Nat.zero_add] at this
  have gl : g < x2.heap.size := hR.lt
  have hgw : w.heap.size ≤ g := HV.out.2.2 g rfl
  have k0 : (0 : Int) ≤ (kk : Int) := by omega
  have k1 : (kk : Int) < (nh : Int) := by omega
  obtain ⟨o0, o1, o2, o3⟩ := cq4 Ko.out
  have bl : b < x2.heap.size := (Array.getElem?_eq_some_iff.1 Ko.out).1
  have Hg := Lib.hid hg
  have Hlh := Lib.hid hlh
  have HR := Lib.hid hR
  clear hjj ht hg hkk hlh hy hcy hR
  rcases heq : eqReply t.reply o with _ | _
  case true =>
   refine wp_region_held_drew (S := fun W' => Ext x2 W') (by kernel_rfl) (Mod.refl _ x2).drew (fun hS => ?_)
   refine tkE 0 (some 122) rfl rfl ?_ hS ?_ ?_; rotate_left; · rintro W' _ _; go_simp; try with_reducible rfl
   try simp only [pL]
   refine tkE 1 (some 123) rfl rfl ?_ hS ?_ ?_; rotate_left; · rintro W' _ _; go_simp; try with_reducible rfl
   try simp only [pL]
   refine tkE 2 (some 124) rfl rfl ?_ hS ?_ ?_; rotate_left; · rintro W' _ _; go_simp; try with_reducible rfl
   try simp only [pL]
   refine tkE 3 (some 125) rfl rfl ?_ hS ?_ ?_; rotate_left; · rintro W' _ _; go_simp; try with_reducible rfl
   try simp only [pL]
   refine tkE 4 (some 126) rfl rfl ?_ hS ?_ ?_; rotate_left; · rintro W' _ _; go_simp; try with_reducible rfl
   try simp only [pL]
   refine tkE 5 (some 127) rfl rfl ?_ hS ?_ ?_; rotate_left; · rintro W' _ _; go_simp; try with_reducible rfl
   try simp only [pL]
   refine tkE 6 (some 128) rfl rfl ?_ hS ?_ ?_; rotate_left; · rintro W' _ _; go_simp; try with_reducible rfl
   try simp only [pL]
   refine wpAnyH_ready (rs := [7]) (by kernel_rfl) (by simp) ?_
   refine AllReadyH.cons rfl (fun K hK => ?_) AllReadyH.nil
   go_simp
   go_wp2_with fail
   refine (k_reply t.reply o _).mono ?_
   rintro e x3 ⟨rfl, hE⟩
   rw [heq]
   have hX := Mod.ext hS hE
   clear hE hS
   go_simp
   refine hK.out _ _ hX (fun hS => ?_)
   clear hK K hX
   refine wpAnyH_done (by kernel_rfl) ?_ _
   replace HX := Lib.hid (HX.out.ext hS)
   clear hS y0 y1 y2 y3 o0 o1 o2 o3 gl bl
   go_wp2_with fail
   refine (l_wakes25 _).mono ?_
   rintro e wk ⟨rfl, hE⟩
   replace HX := Lib.hid (HX.out.ext hE)
   clear hE
   go_wp2
   go_ret
   exact ⟨rfl, Ext.below HX.out⟩
  refine wp_region_held_drew (S := fun W' => Ext x2 W') (by kernel_rfl) (Mod.refl _ x2).drew (fun hS => ?_)
  refine tkE 0 (some 122) rfl rfl ?_ hS ?_ ?_; rotate_left; · rintro W' _ _; go_simp; try with_reducible rfl
  try simp only [pL]
  refine tkE 1 (some 123) rfl rfl ?_ hS ?_ ?_; rotate_left; · rintro W' _ _; go_simp; try with_reducible rfl
  try simp only [pL]
  refine tkE 2 (some 124) rfl rfl ?_ hS ?_ ?_; rotate_left; · rintro W' _ _; go_simp; try with_reducible rfl
  try simp only [pL]
  refine tkE 3 (some 125) rfl rfl ?_ hS ?_ ?_; rotate_left; · rintro W' _ _; go_simp; try with_reducible rfl
  try simp only [pL]
  refine tkE 4 (some 126) rfl rfl ?_ hS ?_ ?_; rotate_left; · rintro W' _ _; go_simp; try with_reducible rfl
  try simp only [pL]
  refine tkE 5 (some 127) rfl rfl ?_ hS ?_ ?_; rotate_left; · rintro W' _ _; go_simp; try with_reducible rfl
  try simp only [pL]
  refine tkE 6 (some 128) rfl rfl ?_ hS ?_ ?_; rotate_left; · rintro W' _ _; go_simp; try with_reducible rfl
  try simp only [pL]
  refine wpAnyH_ready (rs := [7]) (by kernel_rfl) (by simp) ?_
  refine AllReadyH.cons rfl (fun K hK => ?_) AllReadyH.nil
  go_simp
  go_wp2_with fail
  refine (k_reply t.reply o _).mono ?_
  rintro e x3 ⟨rfl, hE⟩
  rw [heq]
  have hX := Mod.ext hS hE
  clear hE hS
  go_simp
  refine hK.out _ _ hX (fun hS => ?_)
  clear hK K hX
  refine wpAnyH_done (by kernel_rfl) ?_ _
  replace HL := Lib.hid (newE_mod HL.out hS (fun _ _ => id))
  replace HV := Lib.hid (newV_mod HV.out hS (fun _ _ => id))
  replace HX := Lib.hid (HX.out.ext hS)
  replace y0 := hS.cell y0 id
  replace y1 := hS.cell y1 id
  replace y2 := hS.cell y2 id
  replace y3 := hS.cell y3 id
  replace o0 := hS.cell o0 id
  replace o1 := hS.cell o1 id
  replace o2 := hS.cell o2 id
  replace o3 := hS.cell o3 id
  have hR3 := HR.out.mod hS id
  have z0 := hR3.free (kk * 16 + 1 + 10)
  have z1 := hR3.free (kk * 16 + 1 + 10 + 1)
  have z2 := hR3.free (kk * 16 + 1 + 10 + 2)
  have z3 := hR3.free (kk * 16 + 1 + 10 + 3)
  replace HR := Lib.hid hR3
  clear hS gl bl hR3
  go_upto_region 32 with fail
  obtain ⟨x4, hx4⟩ : ∃ x4, (((x3.setCell ⟨g, kk * 16 + 1 + 10, none⟩ (.int .i64 o.code)).setCell ⟨g, kk * 16 + 1 + 10 + 1, none⟩ (.int .i64 o.val.kind)).setCell ⟨g, kk * 16 + 1 + 10 + 2, none⟩ (.float .f64 o.val.num)).setCell ⟨g, kk * 16 + 1 + 10 + 3, none⟩ (.string o.val.text) = x4 := ⟨_, rfl⟩
  have hM4 : Mod (fun q => q = g) x3 x4 := by rw [← hx4]; exact mod_same (mod_same (mod_same (mod_same (Mod.refl _ _) _ _) _ _) _ _) _ _
  have hV4 : NewV w x4 (.slice (some ⟨g, 0, none⟩) nh ch) ((tkn L).set kk (evT ⟨t.call, o, t.index⟩)) := by rw [← hx4]; exact newV_rep HV.out Hlh.out Hg.out Ho.out
  rw [hx4]
  have HV4 := Lib.hid hV4
  have HL4 := Lib.hid (newE_mod HL.out hM4 (fun q e => own_apart HL.out.1 e HR.out (by decide)))
  replace HX : Hid (Ext w x4) := Lib.hid (Mod.toExt ((Ext.mod HX.out (Since w.heap.size)).trans hM4 (fun q _ e => by unfold Since; omega)))
  have Hf := Lib.hid (Hbad.out o heq)
  obtain ⟨HH, hHH⟩ : ∃ HH, (tkn L).set kk (evT ⟨t.call, o, t.index⟩) = HH := ⟨_, rfl⟩
  rw [hHH] at HV4 Hf
  clear hx4 hM4 hV4 HL HV HR z0 z1 z2 z3 y0 y1 y2 y3 o0 o1 o2 o3 heq hHH
  go_wp2_with fail
  refine (h_order x4 _ _ _ _ lg HH HL4.out.ents HV4.out.evs).mono ?_
  rintro e x5 ⟨rfl, hE⟩
  rw [Hf.out]
  replace HX := Lib.hid (HX.out.ext hE)
  clear hE HL4 HV4
  go_wp2_with fail
  refine (l_wakes25 _).mono ?_
  rintro e wk ⟨rfl, hE⟩
  replace HX := Lib.hid (HX.out.ext hE)
  clear hE
  go_wp2
  go_ret
  exact ⟨rfl, Ext.below HX.out⟩
theorem histAlone_a (w : World) (v0 : Value) (l : List ACall) (at_ : Int) (o : AReply) (hC : Cas w (fun g => g < w.heap.size) v0 l) (hat64 : I64 at_) (ho : o.ok) :
  Calls Try.prog 4 #[v0, .int .i64 at_, .agg #[.int .i64 o.code, .int .i64 o.val.kind, .float .f64 o.val.num, .string o.val.text]] w fun e w' => e = .returned (.bool true) ∧ Below w.heap.size w w' := by
 obtain ⟨A, cc, rfl⟩ := hC.form
 have hl := hC.1.le
 unfold maxLen at hl
 by_cases h1 : l.length ≤ 60
 case neg =>
  obtain ⟨n, hn⟩ : ∃ n, l.length = n := ⟨_, rfl⟩
  rw [hn] at h1 hl ⊢
  have d1 : decide ((60 : Int) < (n : Int)) = true := by simp; omega
  clear hn hC h1
  go_enter Try.func4, Try.ntmps4
  go_wp2
  go_ret
  exact ⟨rfl, Ext.below ((Mod.refl _ w).alloc _)⟩
 by_cases h2 : o.val.text.size ≤ 2000
 case neg =>
  obtain ⟨n, hn⟩ : ∃ n, l.length = n := ⟨_, rfl⟩
  rw [hn] at h1 hl ⊢
  have d1 : decide ((60 : Int) < (n : Int)) = false := by simp; omega
  have d2 : decide ((2000 : Int) < (o.val.text.size : Int)) = true := by simp; omega
  clear hn hC h1 h2
  go_enter Try.func4, Try.ntmps4
  go_wp2
  go_ret
  exact ⟨rfl, Ext.below ((Mod.refl _ w).alloc _)⟩
 exact histAlone_walk w A _ cc l hC rfl at_ hat64 o ho h1 h2
end Go.Proofs.Ytbclnghbgoblcaa
