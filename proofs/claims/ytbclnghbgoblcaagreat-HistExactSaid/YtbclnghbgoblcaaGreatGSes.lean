/-
 Plain functions: what the page says of sessions, machines and calls; lists of sessions in memory. No program is walked here. Conditions: as each theorem names them.
 Contracts of the two Last. Conditions: as each theorem names them.
 Contracts of sess.Check and of the page's Machine. Conditions: as each theorem names them.
 The contract of the page's Machine. Conditions: as each theorem names them.
 Contracts of sess.Right and of the page's Call. Conditions: as each theorem names them.
 Contracts of slices.Clone of sessions, skerrykeep.TwinMachine, sess.twin. Conditions: as each theorem names them.
-/
import Derived.Test.YtbclnghbgoblcaaGreatGGet
import Derived.Test.YtbclnghbgoblcaaGreatGSpec
import Derived.Test.YtbclnghbgoblcaaGreatGDo5
import Derived.Test.YtbclnghbgoblcaaGreatGCmd
namespace Go.Proofs.YtbclnghbgoblcaaGreat

structure ASess where
 client : Int
 seq : Int
 reply : AReply
structure AMach where
 pairs : List APair
 sess : List ASess
abbrev ASess.cells (s : ASess) : List Value := [.int .i64 s.client, .int .i64 s.seq, .int .i64 s.reply.code, .int .i64 s.reply.val.kind, .float .f64 s.reply.val.num, .string s.reply.val.text]
def ASess.ok (s : ASess) : Prop := I64 s.client ∧ I64 s.seq ∧ s.reply.ok
def AReply.zero : AReply := ⟨0, AVal.zero⟩
/-- The numbers of a call. -/
def numB (client seq : Int) : Bool := decide (1 ≤ client) && decide (client ≤ 4) && decide (1 ≤ seq) && decide (seq ≤ 1099511627776)
def sessOk (s : ASess) : Bool := numB s.client s.seq && decide (0 ≤ s.reply.code) && decide (s.reply.code ≤ 16) && chk s.reply.val == 0
def sortedS : List ASess → Bool
 | [] => true
 | [_] => true
 | a :: b :: l => decide (a.client < b.client) && sortedS (b :: l)
def sessB (l : List ASess) : Bool := l.all sessOk && sortedS l
/-- A right machine. -/
def machB (m : AMach) : Bool := pairsB m.pairs && sessB m.sess
def callE (c : ACall) : Int := if numB c.client c.seq = false then 1 else cmdE c.cmd
/-- A client's last number, and its reply. -/
def lastS : List ASess → Int → Int × AReply
 | [], _ => (0, AReply.zero)
 | s :: l, k => if s.client = k then (s.seq, s.reply) else lastS l k
/-- A client has a session; d: it is laid. -/
def setS (x : ASess) : Bool → List ASess → List ASess
 | d, [] => if d then [] else [x]
 | d, s :: l =>
  if d = false ∧ x.client ≤ s.client then x :: (if s.client = x.client then setS x true l else s :: setS x true l)
  else if s.client = x.client then setS x d l else s :: setS x d l
/-- A call on a machine, once. -/
def onceP (m : AMach) (c : ACall) : AMach × AReply :=
 if callE c ≠ 0 then (m, ⟨callE c, AVal.zero⟩)
 else if machB m = false then (m, ⟨6, AVal.zero⟩)
 else if c.seq = (lastS m.sess c.client).1 then (m, (lastS m.sess c.client).2)
 else if c.seq < (lastS m.sess c.client).1 then (m, ⟨10, AVal.zero⟩)
 else (⟨(doP m.pairs c.cmd).1, setS ⟨c.client, c.seq, (doP m.pairs c.cmd).2⟩ false m.sess⟩, (doP m.pairs c.cmd).2)

/-- A list of sessions. -/
def Ses (w : World) (T : Nat → Prop) (v : Value) (l : List ASess) : Prop := Sl w T 6 v l.length (l.flatMap ASess.cells) ∧ ∀ x ∈ l, x.ok
theorem Ses.mod {w w' : World} {S T : Nat → Prop} {v : Value} {l : List ASess} (h : Ses w T v l) (hm : Mod S w w') (hd : ∀ g, T g → ¬ S g) : Ses w' T v l := ⟨h.1.mod hm hd, h.2⟩
theorem Ses.ext {w w' : World} {T : Nat → Prop} {v : Value} {l : List ASess} (h : Ses w T v l) (hm : Ext w w') : Ses w' T v l := h.mod hm (fun _ _ => id)
theorem Ses.at {w : World} {T : Nat → Prop} {A : Option Addr} {n c : Nat} {l : List ASess} (h : Ses w T (.slice A n c) l) {i : Nat} (hi : i < n) :
  ∃ g off x, A = some ⟨g, off, none⟩ ∧ T g ∧ l[i]? = some x ∧ x.ok ∧ ∀ j u, x.cells[j]? = some u → w.cell? ⟨g, off + i * 6 + j, none⟩ = some u := by
 obtain ⟨⟨hl, A', c', e, hn, hc, hx⟩, hf⟩ := h
 injection e with e1 e2 e3; subst e1; subst e2; subst e3
 obtain ⟨g, off, rfl, hT, hcell⟩ := hx (by omega)
 have hget : l[i]? = some l[i] := List.getElem?_eq_getElem hi
 refine ⟨g, off, l[i], rfl, hT, hget, hf _ (List.getElem_mem hi), fun j u hu => ?_⟩
 have hj : j < 6 := (List.getElem?_eq_some_iff.1 hu).1
 rw [Nat.add_assoc]
 exact hcell _ u (by rw [flat_get (k := 6) (fun _ => rfl) l i j _ hget hj]; exact hu)
theorem Ses.len {w : World} {T : Nat → Prop} {A : Option Addr} {n c : Nat} {l : List ASess} (h : Ses w T (.slice A n c) l) : l.length = n ∧ n ≤ maxLen := by
 have hl := h.1.le
 obtain ⟨⟨_, _, _, e, _⟩, _⟩ := h
 injection e with _ e _
 exact ⟨e.symm, by omega⟩
theorem Ses.form {w : World} {T : Nat → Prop} {v : Value} {l : List ASess} (h : Ses w T v l) : ∃ A c, v = .slice A l.length c := by
 obtain ⟨⟨_, A, c, e, _⟩, _⟩ := h
 exact ⟨A, c, e⟩
theorem Ses.low {w : World} {T : Nat → Prop} {g off n c : Nat} {l : List ASess} (h : Ses w T (.slice (some ⟨g, off, none⟩) n c) l) (hn : 0 < n) : g < w.heap.size := by
 obtain ⟨g', off', x, hA, _, _, _, hcells⟩ := h.at hn
 injection hA with hA; injection hA with hA1 hA2; subst hA1; subst hA2
 exact World.block_lt_of_cell? _ _ (hcells 0 _ rfl)
/-- Sessions of one's own. -/
def NewS (w w' : World) (v : Value) (l : List ASess) : Prop := w'.ownsRow 0 72 6 v l.length (l.flatMap ASess.cells) ∧ (∀ x ∈ l, x.ok) ∧ ∀ g, v.ownBlock = some g → w.heap.size ≤ g
theorem NewS.ses {w w' : World} {v : Value} {l : List ASess} (h : NewS w w' v l) : Ses w' (fun g => v.ownBlock = some g) v l := ⟨Sl.of_own h.1 (fun _ h => h), h.2.1⟩
theorem lastS_drop {l : List ASess} {i : Nat} {x : ASess} (k : Int) (h : l[i]? = some x) : lastS (l.drop i) k = if x.client = k then (x.seq, x.reply) else lastS (l.drop (i + 1)) k := by
 obtain ⟨hi, rfl⟩ := List.getElem?_eq_some_iff.1 h
 rw [List.drop_eq_getElem_cons hi]
 rfl
theorem info_sess : (Tryz.prog.info? 72).map (fun i => (i.zero, i.size, i.bytes)) = some (some (.agg #[.int .i64 0, .int .i64 0, .int .i64 0, .int .i64 0, .float .f64 0, .string ⟨#[]⟩]), 6, 56) := by kernel_rfl
theorem ses_one (l : List ASess) : ∀ u ∈ l.flatMap ASess.cells, u.oneCell' = true := by
 intro u hu
 obtain ⟨p, _, hp⟩ := List.mem_flatMap.1 hu
 simp only [ASess.cells, List.mem_cons, List.not_mem_nil, or_false] at hp
 rcases hp with rfl | rfl | rfl | rfl | rfl | rfl <;> rfl
end Go.Proofs.YtbclnghbgoblcaaGreat

namespace Go.Proofs.YtbclnghbgoblcaaGreat
set_option linter.unusedSimpArgs false
open Go.RowKit

set_option maxRecDepth 100000 in
set_option maxHeartbeats 2000000 in
theorem r_last (w : World) (T : Nat → Prop) (pv v : Value) (l : List ASess) (key : Int) (h : Ses w T v l) :
  Calls Tryz.prog 38 #[.agg #[pv, v], .int .i64 key] w fun e w' => e = .returned (.tuple #[.int .i64 (lastS l key).1, .agg #[.int .i64 (lastS l key).2.code, .int .i64 (lastS l key).2.val.kind, .float .f64 (lastS l key).2.val.num, .string (lastS l key).2.val.text]]) ∧ Ext w w' := by
 obtain ⟨n, hn⟩ : ∃ n, l.length = n := ⟨_, rfl⟩
 obtain ⟨A, c, rfl⟩ := h.form
 have hl := h.1.le
 unfold maxLen at hl
 rw [hn] at h hl ⊢
 have Hn := Lib.hid hn
 clear hn
 obtain ⟨r, hr⟩ : ∃ r, lastS l key = r := ⟨_, rfl⟩
 rw [hr]
 have Hr := Lib.hid hr
 clear hr
 obtain ⟨b, hb⟩ : ∃ b, w.heap.size = b := ⟨_, rfl⟩
 obtain ⟨W, hW⟩ : ∃ W, W = (w.alloc (.cells #[pv, .slice A n c] 33)).alloc (.cells #[.int .i64 0, .int .i64 0, .float .f64 0, .string ⟨#[]⟩] 46) := ⟨_, rfl⟩
 obtain ⟨hA, hB, hsz⟩ := two_new w (.cells #[pv, .slice A n c] 33) (.cells #[.int .i64 0, .int .i64 0, .float .f64 0, .string ⟨#[]⟩] 46)
 rw [← hW, hb] at hA hB hsz
 have hE : Ext w W := by rw [hW]; exact ((Mod.refl _ w).alloc _).alloc _
 have h2 := h.ext hE
 have m1 : W.cell? ⟨b, 1, none⟩ = some (.slice A n c) := blk_cell (cs := [pv, .slice A n c]) hA rfl
 have HA := Lib.hid hA
 have HB := Lib.hid hB
 have HW := Lib.hid hW
 have HEw := Lib.hid hE
 have Hb := Lib.hid hb
 have Hlo := Lib.hid h
 clear hA hB hW hE h hb
 go_enter Tryz.func38, Tryz.ntmps38
 go_wp2_with fail
 rw [← HW.out, Hb.out]
 go_loop [6] (fun iv => ∃ i : Nat, i ≤ n ∧ iv = .int .i64 i ∧ lastS (l.drop i) key = r) (fun iv => n - (intOf iv).toNat)
 case atStart => exact ⟨0, by omega, rfl, by simpa using Hr.out⟩
 case round =>
  obtain ⟨i, hin, rfl, hg⟩ := hrel
  have Hg := Lib.hid hg
  clear hg
  by_cases hi : i < n
  ·
   obtain ⟨g, off, x, rfl, hgT, hx, hxok, hcells⟩ := h2.at hi
   have hi0 : (0 : Int) ≤ (i : Int) := by omega
   have hi1 : (i : Int) < (n : Int) := by omega
   have x0 := hcells 0 _ rfl
   have x1 := hcells 1 _ rfl
   have x2 := hcells 2 _ rfl
   have x3 := hcells 3 _ rfl
   have x4 := hcells 4 _ rfl
   have x5 := hcells 5 _ rfl
   rw [Nat.add_zero] at x0
   have hd := lastS_drop key hx
   have Hd := Lib.hid hd
   have H2 := Lib.hid h2
   clear hcells hx hxok hd h2
   by_cases hk : x.client = key
   ·
    have e : (x.seq, x.reply) = r := by have := Hd.out; rw [if_pos hk, Hg.out] at this; exact this.symm
    have He := Lib.hid e
    clear e
    have hk2 : (x.client == key) = true := by simp [hk]
    clear hk
    have hlo := Hlo.out.low (by omega)
    rw [Hb.out] at hlo
    have hne : ¬ g = b + 1 := by omega
    have hne2 : ¬ b + 1 = g := by omega
    clear hlo
    obtain ⟨g0, g1, g2, g3⟩ := cq4 HB.out
    have f0 : W.frozen? ⟨b + 1, 0, none⟩ = false := blk_free 0 HB.out
    have f1 : W.frozen? ⟨b + 1, 1, none⟩ = false := blk_free 1 HB.out
    have f2 : W.frozen? ⟨b + 1, 2, none⟩ = false := blk_free 2 HB.out
    have f3 : W.frozen? ⟨b + 1, 3, none⟩ = false := blk_free 3 HB.out
    go_wp2_with fail
    go_region_held3 (fun w' => w'.cell? ⟨b, 1, none⟩ = some (.slice (some ⟨g, off, none⟩) n c) ∧ w'.cell? ⟨g, off + i * 6 + 1, none⟩ = some (.int .i64 x.seq) ∧ w'.cell? ⟨g, off + i * 6 + 2, none⟩ = some (.int .i64 x.reply.code) ∧ w'.cell? ⟨g, off + i * 6 + 3, none⟩ = some (.int .i64 x.reply.val.kind) ∧ w'.cell? ⟨g, off + i * 6 + 4, none⟩ = some (.float .f64 x.reply.val.num) ∧ w'.cell? ⟨g, off + i * 6 + 5, none⟩ = some (.string x.reply.val.text)) (go_keep) (fail)
    all_goals
     go_wp2_with fail
     have hm : Mod (fun k => k = b + 1) W ((((W.setCell ⟨b + 1, 0, none⟩ (.int .i64 x.reply.code)).setCell ⟨b + 1, 1, none⟩ (.int .i64 x.reply.val.kind)).setCell ⟨b + 1, 2, none⟩ (.float .f64 x.reply.val.num)).setCell ⟨b + 1, 3, none⟩ (.string x.reply.val.text)) := mod_same (mod_same (mod_same (mod_same (Mod.refl _ W) _ _) _ _) _ _) _ _
     refine bodyPost_ret (v := .tuple #[.int .i64 x.seq, .agg #[(.int .i64 x.reply.code), (.int .i64 x.reply.val.kind), (.float .f64 x.reply.val.num), (.string x.reply.val.text)]]) (by simp [results, Tryz.results38, go_sem, g0, g1, g2, g3]) rfl ⟨by rw [← He.out]; first | done | rfl, ?_⟩
     exact Mod.toExt ((Ext.mod (HEw.out) (Since w.heap.size)).trans hm.drew (fun k _ e => by have := Hb.out; unfold Since; omega))
   ·
    have Hn2 : Hid (lastS (l.drop (i + 1)) key = r) := Lib.hid (by have := Hd.out; rw [if_neg hk, Hg.out] at this; exact this.symm)
    have hk2 : (x.client == key) = false := by simp [hk]
    clear hk
    go_wp2
    exact ⟨⟨i + 1, by omega, by go_num, Hn2.out⟩, by simp [intOf]; omega⟩
  ·
   have e : ((0 : Int), AReply.zero) = r := by
    have := Hg.out
    rw [List.drop_eq_nil_of_le (by rw [Hn.out]; omega)] at this
    exact this
   have He := Lib.hid e
   clear e
   obtain ⟨g0, g1, g2, g3⟩ := cq4 HB.out
   have f0 : W.frozen? ⟨b + 1, 0, none⟩ = false := blk_free 0 HB.out
   have f1 : W.frozen? ⟨b + 1, 1, none⟩ = false := blk_free 1 HB.out
   have f2 : W.frozen? ⟨b + 1, 2, none⟩ = false := blk_free 2 HB.out
   have f3 : W.frozen? ⟨b + 1, 3, none⟩ = false := blk_free 3 HB.out
   go_wp2
   have hm : Mod (fun k => k = b + 1) W ((((W.setCell ⟨b + 1, 0, none⟩ (.int .i64 0)).setCell ⟨b + 1, 1, none⟩ (.int .i64 0)).setCell ⟨b + 1, 2, none⟩ (.float .f64 0)).setCell ⟨b + 1, 3, none⟩ (.string ⟨#[]⟩)) := mod_same (mod_same (mod_same (mod_same (Mod.refl _ W) _ _) _ _) _ _) _ _
   refine bodyPost_ret (v := .tuple #[.int .i64 0, .agg #[(.int .i64 0), (.int .i64 0), (.float .f64 0), (.string ⟨#[]⟩)]]) (by simp [results, Tryz.results38, go_sem, g0, g1, g2, g3]) rfl ⟨by rw [← He.out]; first | done | rfl, ?_⟩
   exact Mod.toExt ((Ext.mod (HEw.out) (Since w.heap.size)).trans hm (fun k _ e => by have := Hb.out; unfold Since; omega))

set_option maxRecDepth 100000 in
set_option maxHeartbeats 2000000 in
theorem s_last (w : World) (T : Nat → Prop) (pv v : Value) (l : List ASess) (key : Int) (h : Ses w T v l) :
  Calls Tryz.prog 35 #[.agg #[pv, v], .int .i64 key] w fun e w' => e = .returned (.tuple #[.int .i64 (lastS l key).1, .agg #[.int .i64 (lastS l key).2.code, .int .i64 (lastS l key).2.val.kind, .float .f64 (lastS l key).2.val.num, .string (lastS l key).2.val.text]]) ∧ Ext w w' := by
 obtain ⟨n, hn⟩ : ∃ n, l.length = n := ⟨_, rfl⟩
 obtain ⟨A, c, rfl⟩ := h.form
 have hl := h.1.le
 unfold maxLen at hl
 rw [hn] at h hl ⊢
 have Hn := Lib.hid hn
 clear hn
 obtain ⟨r, hr⟩ : ∃ r, lastS l key = r := ⟨_, rfl⟩
 rw [hr]
 have Hr := Lib.hid hr
 clear hr
 obtain ⟨b, hb⟩ : ∃ b, w.heap.size = b := ⟨_, rfl⟩
 obtain ⟨W, hW⟩ : ∃ W, W = (w.alloc (.cells #[pv, .slice A n c] 33)).alloc (.cells #[.int .i64 0, .int .i64 0, .float .f64 0, .string ⟨#[]⟩] 46) := ⟨_, rfl⟩
 obtain ⟨hA, hB, hsz⟩ := two_new w (.cells #[pv, .slice A n c] 33) (.cells #[.int .i64 0, .int .i64 0, .float .f64 0, .string ⟨#[]⟩] 46)
 rw [← hW, hb] at hA hB hsz
 have hE : Ext w W := by rw [hW]; exact ((Mod.refl _ w).alloc _).alloc _
 have h2 := h.ext hE
 have m1 : W.cell? ⟨b, 1, none⟩ = some (.slice A n c) := blk_cell (cs := [pv, .slice A n c]) hA rfl
 have HA := Lib.hid hA
 have HB := Lib.hid hB
 have HW := Lib.hid hW
 have HEw := Lib.hid hE
 have Hb := Lib.hid hb
 have Hlo := Lib.hid h
 clear hA hB hW hE h hb
 go_enter Tryz.func35, Tryz.ntmps35
 go_wp2_with fail
 rw [← HW.out, Hb.out]
 go_loopw [11] (fun iv wr => ∃ i : Nat, i ≤ n ∧ iv = .int .i64 i ∧ Ext W wr ∧ lastS (l.drop i) key = r) (fun iv _ => n - (intOf iv).toNat)
 case atStart => exact ⟨0, by omega, rfl, Mod.refl _ W, by simpa using Hr.out⟩
 case round =>
  obtain ⟨i, hin, rfl, hE, hg⟩ := hrel
  have Hg := Lib.hid hg
  have h3 := h2.ext hE
  have hsw : Hid (b + 2 ≤ wr.heap.size) := Lib.hid (by rw [← hsz]; exact hE.size)
  clear hg
  by_cases hi : i < n
  ·
   obtain ⟨g, off, x, rfl, hgT, hx, hxok, hcells⟩ := h3.at hi
   have hi0 : (0 : Int) ≤ (i : Int) := by omega
   have hi1 : (i : Int) < (n : Int) := by omega
   have x0 := hcells 0 _ rfl
   have x1 := hcells 1 _ rfl
   have x2 := hcells 2 _ rfl
   have x3 := hcells 3 _ rfl
   have x4 := hcells 4 _ rfl
   have x5 := hcells 5 _ rfl
   rw [Nat.add_zero] at x0
   have hd := lastS_drop key hx
   have Hd := Lib.hid hd
   have H2 := Lib.hid h2
   clear hcells hx hxok hd h2 h3
   obtain ⟨V, hV⟩ : ∃ V, V = wr.alloc (.cells #[.int .i64 x.client, .int .i64 x.seq, .int .i64 x.reply.code, .int .i64 x.reply.val.kind, .float .f64 x.reply.val.num, .string x.reply.val.text] 72) := ⟨_, rfl⟩
   have hEV : Ext wr V := by rw [hV]; exact (Mod.refl _ wr).alloc _
   have hF : Ext W V := Mod.ext hE hEV
   have hcs : ∀ j u, x.cells[j]? = some u → V.cell? ⟨wr.heap.size, j, none⟩ = some u := by
    intro j u hu
    rw [hV, cell_of_row _ _ _ _ _ _ (heap_alloc_new wr _)]
    simpa using hu
   have y0 := hcs 0 _ rfl
   have y1 := hcs 1 _ rfl
   have y2 := hcs 2 _ rfl
   have y3 := hcs 3 _ rfl
   have y4 := hcs 4 _ rfl
   have y5 := hcs 5 _ rfl
   have HV := Lib.hid hV
   have HF := Lib.hid hF
   have HBV : Hid (V.heap[b + 1]? = some (.cells #[.int .i64 0, .int .i64 0, .float .f64 0, .string ⟨#[]⟩] 46 (0, 0))) := Lib.hid (hF.blk HB.out id)
   clear hV hcs hEV hF
   by_cases hk : x.client = key
   ·
    have e : (x.seq, x.reply) = r := by have := Hd.out; rw [if_pos hk, Hg.out] at this; exact this.symm
    have He := Lib.hid e
    clear e
    have hk2 : (x.client == key) = true := by simp [hk]
    clear hk
    go_wp2_with fail
    rw [← HV.out]
    clear x0 x1 x2 x3 x4 x5
    have hlo : b + 2 ≤ wr.heap.size := hsw.out
    have hne : ¬ wr.heap.size = b + 1 := by omega
    have hne2 : ¬ b + 1 = wr.heap.size := by omega
    clear hlo
    obtain ⟨g0, g1, g2, g3⟩ := cq4 HBV.out
    have f0 : V.frozen? ⟨b + 1, 0, none⟩ = false := blk_free 0 HBV.out
    have f1 : V.frozen? ⟨b + 1, 1, none⟩ = false := blk_free 1 HBV.out
    have f2 : V.frozen? ⟨b + 1, 2, none⟩ = false := blk_free 2 HBV.out
    have f3 : V.frozen? ⟨b + 1, 3, none⟩ = false := blk_free 3 HBV.out
    go_wp2_with fail
    go_region_held3 (fun w' => w'.cell? ⟨wr.heap.size, 1, none⟩ = some (.int .i64 x.seq) ∧ w'.cell? ⟨wr.heap.size, 2, none⟩ = some (.int .i64 x.reply.code) ∧ w'.cell? ⟨wr.heap.size, 3, none⟩ = some (.int .i64 x.reply.val.kind) ∧ w'.cell? ⟨wr.heap.size, 4, none⟩ = some (.float .f64 x.reply.val.num) ∧ w'.cell? ⟨wr.heap.size, 5, none⟩ = some (.string x.reply.val.text)) (go_keep) (fail)
    all_goals
     go_wp2_with fail
     have hm : Mod (fun k => k = b + 1) V ((((V.setCell ⟨b + 1, 0, none⟩ (.int .i64 x.reply.code)).setCell ⟨b + 1, 1, none⟩ (.int .i64 x.reply.val.kind)).setCell ⟨b + 1, 2, none⟩ (.float .f64 x.reply.val.num)).setCell ⟨b + 1, 3, none⟩ (.string x.reply.val.text)) := mod_same (mod_same (mod_same (mod_same (Mod.refl _ V) _ _) _ _) _ _) _ _
     refine bodyPost_ret (v := .tuple #[.int .i64 x.seq, .agg #[(.int .i64 x.reply.code), (.int .i64 x.reply.val.kind), (.float .f64 x.reply.val.num), (.string x.reply.val.text)]]) (by simp [results, Tryz.results35, go_sem, g0, g1, g2, g3]) rfl ⟨by rw [← He.out]; first | done | rfl, ?_⟩
     exact Mod.toExt ((Ext.mod (Mod.ext HEw.out HF.out) (Since w.heap.size)).trans hm.drew (fun k _ e => by have := Hb.out; unfold Since; omega))
   ·
    have Hn2 : Hid (lastS (l.drop (i + 1)) key = r) := Lib.hid (by have := Hd.out; rw [if_neg hk, Hg.out] at this; exact this.symm)
    have hk2 : (x.client == key) = false := by simp [hk]
    clear hk
    go_wp2
    rw [← HV.out]
    exact ⟨⟨i + 1, by omega, by go_num, HF.out, Hn2.out⟩, by simp [intOf]; omega⟩
  ·
   have e : ((0 : Int), AReply.zero) = r := by
    have := Hg.out
    rw [List.drop_eq_nil_of_le (by rw [Hn.out]; omega)] at this
    exact this
   have He := Lib.hid e
   have HF := Lib.hid hE
   have HBV : Hid (wr.heap[b + 1]? = some (.cells #[.int .i64 0, .int .i64 0, .float .f64 0, .string ⟨#[]⟩] 46 (0, 0))) := Lib.hid (hE.blk HB.out id)
   clear e hE
   obtain ⟨g0, g1, g2, g3⟩ := cq4 HBV.out
   have f0 : wr.frozen? ⟨b + 1, 0, none⟩ = false := blk_free 0 HBV.out
   have f1 : wr.frozen? ⟨b + 1, 1, none⟩ = false := blk_free 1 HBV.out
   have f2 : wr.frozen? ⟨b + 1, 2, none⟩ = false := blk_free 2 HBV.out
   have f3 : wr.frozen? ⟨b + 1, 3, none⟩ = false := blk_free 3 HBV.out
   go_wp2
   have hm : Mod (fun k => k = b + 1) wr ((((wr.setCell ⟨b + 1, 0, none⟩ (.int .i64 0)).setCell ⟨b + 1, 1, none⟩ (.int .i64 0)).setCell ⟨b + 1, 2, none⟩ (.float .f64 0)).setCell ⟨b + 1, 3, none⟩ (.string ⟨#[]⟩)) := mod_same (mod_same (mod_same (mod_same (Mod.refl _ wr) _ _) _ _) _ _) _ _
   refine bodyPost_ret (v := .tuple #[.int .i64 0, .agg #[(.int .i64 0), (.int .i64 0), (.float .f64 0), (.string ⟨#[]⟩)]]) (by simp [results, Tryz.results35, go_sem, g0, g1, g2, g3]) rfl ⟨by rw [← He.out]; first | done | rfl, ?_⟩
   exact Mod.toExt ((Ext.mod (Mod.ext HEw.out HF.out) (Since w.heap.size)).trans hm (fun k _ e => by have := Hb.out; unfold Since; omega))
end Go.Proofs.YtbclnghbgoblcaaGreat

namespace Go.Proofs.YtbclnghbgoblcaaGreat
set_option linter.unusedSimpArgs false
open Go.RowKit

/-- Right so far. -/
def GoodS (l : List ASess) (i : Nat) : Prop := ∀ j x, j < i → l[j]? = some x → sessOk x = true ∧ ∀ k p, j = k + 1 → l[k]? = some p → p.client < x.client
theorem GoodS.zero (l : List ASess) : GoodS l 0 := fun j x h => by omega
theorem GoodS.step {l : List ASess} {i : Nat} {x : ASess} (h : GoodS l i) (hx : l[i]? = some x) (h1 : sessOk x = true) (h2 : ∀ k p, i = k + 1 → l[k]? = some p → p.client < x.client) : GoodS l (i + 1) := by
 intro j y hj hy
 by_cases e : j = i
 ·
  subst e; rw [hx] at hy; cases hy; exact ⟨h1, h2⟩
 ·
  exact h j y (by omega) hy
theorem GoodS.all {l : List ASess} (h : GoodS l l.length) : (∀ p ∈ l, sessOk p = true) ∧ sortedS l = true := by
 refine ⟨fun p hp => ?_, ?_⟩
 ·
  obtain ⟨j, hj⟩ := List.mem_iff_getElem?.1 hp
  exact (h j p (List.getElem?_eq_some_iff.1 hj).1 hj).1
 ·
  induction l with
  | nil => rfl
  | cons a l ih =>
   cases l with
   | nil => rfl
   | cons b l =>
    rw [sortedS, Bool.and_eq_true]
    refine ⟨decide_eq_true ((h 1 b (by simp) rfl).2 0 a rfl rfl), ih fun j x hj hx => ?_⟩
    have := h (j + 1) x (by simp at hj ⊢; omega) (by simpa using hx)
    exact ⟨this.1, fun k p e hp => this.2 (k + 1) p (by omega) (by simpa using hp)⟩
theorem sess_good {l : List ASess} (h : GoodS l l.length) : sessB l = true := by
 unfold sessB
 have := h.all
 rw [Bool.and_eq_true, List.all_eq_true]
 exact this
theorem sortedS_iff (l : List ASess) : sortedS l = true ↔ l.Pairwise (fun a b => a.client < b.client) := by
 induction l with
 | nil => simp [sortedS]
 | cons a l ih =>
  cases l with
  | nil => simp [sortedS]
  | cons b l =>
   rw [sortedS, Bool.and_eq_true, ih, List.pairwise_cons (l := b :: l), decide_eq_true_iff]
   constructor
   ·
    rintro ⟨h1, h2⟩
    refine ⟨fun y hy => ?_, h2⟩
    rcases List.mem_cons.1 hy with rfl | hy
    ·
     exact h1
    ·
     exact Int.lt_trans h1 ((List.pairwise_cons.1 h2).1 y hy)
   ·
    rintro ⟨h1, h2⟩
    exact ⟨h1 b (by simp), h2⟩
theorem sessB_iff (l : List ASess) : sessB l = true ↔ (∀ p ∈ l, sessOk p = true) ∧ l.Pairwise (fun a b => a.client < b.client) := by
 unfold sessB
 rw [Bool.and_eq_true, List.all_eq_true, sortedS_iff]
theorem sess_bad {l : List ASess} {i : Nat} {x : ASess} (hx : l[i]? = some x) (h : sessOk x = false) : sessB l = false := by
 rw [← Bool.not_eq_true, sessB_iff]
 rintro ⟨h2, _⟩
 have := h2 x (List.mem_of_getElem? hx)
 rw [h] at this; cases this
theorem sess_bad2 {l : List ASess} {k : Nat} {p x : ASess} (hp : l[k]? = some p) (hx : l[k + 1]? = some x) (h : x.client ≤ p.client) : sessB l = false := by
 rw [← Bool.not_eq_true, sessB_iff]
 rintro ⟨_, h3⟩
 obtain ⟨h4, rfl⟩ := List.getElem?_eq_some_iff.1 hp
 obtain ⟨h5, rfl⟩ := List.getElem?_eq_some_iff.1 hx
 have := List.pairwise_iff_getElem.1 h3 k (k + 1) h4 h5 (by omega)
 omega
def chkM (m : AMach) : Int := if machB m = true then 0 else 6
theorem chkM_yes {p : List APair} {l : List ASess} (hp : pairsB p = true) (h : sessB l = true) : chkM ⟨p, l⟩ = 0 := by unfold chkM machB; rw [hp, h]; rfl
theorem chkM_no {p : List APair} {l : List ASess} (h : sessB l = false) : chkM ⟨p, l⟩ = 6 := by unfold chkM machB; rw [h]; simp
theorem chkM_no1 {p : List APair} {l : List ASess} (h : pairsB p = false) : chkM ⟨p, l⟩ = 6 := by unfold chkM machB; rw [h]; simp
theorem chkP_iff (p : List APair) : (chkP p != 0) = !pairsB p := by unfold chkP; cases pairsB p <;> rfl

theorem n_right (c s : Int) (w : World) : Calls Tryz.prog 44 #[.int .i64 c, .int .i64 s] w fun e w' => e = .returned (.bool (numB c s)) ∧ w' = w := by
 unfold numB
 by_cases h1 : 1 ≤ c
 case neg =>
  have d1 : decide (c ≥ 1) = false := decide_eq_false h1
  have d1' : decide (1 ≤ c) = false := decide_eq_false h1
  clear h1
  go_enter Tryz.func44, Tryz.ntmps44
  go_wp2
  go_ret
  exact ⟨by rw [d1']; rfl, rfl⟩
 have d1 : decide (c ≥ 1) = true := decide_eq_true h1
 have d1' : decide (1 ≤ c) = true := decide_eq_true h1
 clear h1
 by_cases h2 : c ≤ 4
 case neg =>
  have d2 : decide (c ≤ 4) = false := decide_eq_false h2
  clear h2
  go_enter Tryz.func44, Tryz.ntmps44
  go_wp2
  go_ret
  exact ⟨by rw [d1', d2]; rfl, rfl⟩
 have d2 : decide (c ≤ 4) = true := decide_eq_true h2
 clear h2
 by_cases h3 : 1 ≤ s
 case neg =>
  have d3 : decide (s ≥ 1) = false := decide_eq_false h3
  have d3' : decide (1 ≤ s) = false := decide_eq_false h3
  clear h3
  go_enter Tryz.func44, Tryz.ntmps44
  go_wp2
  go_ret
  exact ⟨by rw [d1', d2, d3']; rfl, rfl⟩
 have d3 : decide (s ≥ 1) = true := decide_eq_true h3
 have d3' : decide (1 ≤ s) = true := decide_eq_true h3
 clear h3
 by_cases h4 : s ≤ 1099511627776
 case neg =>
  have d4 : decide (s ≤ 1099511627776) = false := decide_eq_false h4
  clear h4
  go_enter Tryz.func44, Tryz.ntmps44
  go_wp2
  go_ret
  exact ⟨by rw [d1', d2, d3', d4]; rfl, rfl⟩
 have d4 : decide (s ≤ 1099511627776) = true := decide_eq_true h4
 clear h4
 go_enter Tryz.func44, Tryz.ntmps44
 go_wp2
 go_ret
 exact ⟨by rw [d1', d2, d3', d4]; rfl, rfl⟩

set_option maxRecDepth 100000 in
set_option maxHeartbeats 4000000 in
theorem s_check (w : World) (T U : Nat → Prop) (pv v : Value) (p : List APair) (l : List ASess) (hP : Prs w U pv p) (h : Ses w T v l) :
  Calls Tryz.prog 49 #[.agg #[pv, v]] w fun e w' => e = .returned (.int .i64 (chkM ⟨p, l⟩)) ∧ Ext w w' := by
 obtain ⟨n, hn⟩ : ∃ n, l.length = n := ⟨_, rfl⟩
 obtain ⟨A, c, rfl⟩ := h.form
 have hl := h.1.le
 unfold maxLen at hl
 rw [hn] at h hl ⊢
 have Hn := Lib.hid hn
 clear hn
 obtain ⟨W0, hW0⟩ : ∃ W0, W0 = w.alloc (.cells #[pv, .slice A n c] 33) := ⟨_, rfl⟩
 have hE0 : Ext w W0 := by rw [hW0]; exact (Mod.refl _ w).alloc _
 have m0 : W0.cell? ⟨w.heap.size, 0, none⟩ = some pv := by rw [hW0, cell_of_row _ _ _ _ _ _ (heap_alloc_new w _)]; rfl
 have m1 : W0.cell? ⟨w.heap.size, 1, none⟩ = some (.slice A n c) := by rw [hW0, cell_of_row _ _ _ _ _ _ (heap_alloc_new w _)]; rfl
 have HW0 := Lib.hid hW0
 clear hW0
 go_enter Tryz.func49, Tryz.ntmps49
 go_wp2_with fail
 rw [← HW0.out]
 refine (kv_check W0 U pv p (hP.ext hE0)).mono ?_
 rintro e w1 ⟨rfl, hE1⟩
 have q0 := hE1.cell m0 id
 have q1 := hE1.cell m1 id
 have hF1 : Ext w w1 := Mod.ext hE0 hE1
 clear m0 m1 hE1 hE0
 have hpn := chkP_iff p
 rcases hp : pairsB p with _ | _
 ·
  have Hf : Hid (chkM ⟨p, l⟩ = 6) := Lib.hid (chkM_no1 hp)
  rw [hp, Bool.not_false] at hpn
  go_wp2
  go_ret
  exact ⟨ret_int Hf.out.symm, hF1⟩
 rw [hp, Bool.not_true] at hpn
 have Hpp := Lib.hid hp
 clear hp
 go_wp2
 go_loopw [12] (fun iv wr => ∃ i : Nat, i ≤ n ∧ iv = .int .i64 i ∧ Ext w1 wr ∧ GoodS l i) (fun iv _ => n - (intOf iv).toNat)
 case atStart => exact ⟨0, by omega, rfl, Mod.refl _ w1, GoodS.zero l⟩
 case round =>
  obtain ⟨i, hin, rfl, hE, hg⟩ := hrel
  have Hg := Lib.hid hg
  have h2 := h.ext (Mod.ext hF1 hE)
  clear hg
  by_cases hi : i < n
  ·
   obtain ⟨g, off, x, rfl, hgT, hx, hxok, hcells⟩ := h2.at hi
   have hi0 : (0 : Int) ≤ (i : Int) := by omega
   have hi1 : (i : Int) < (n : Int) := by omega
   have x0 := hcells 0 _ rfl
   have x1 := hcells 1 _ rfl
   have x2 := hcells 2 _ rfl
   have x3 := hcells 3 _ rfl
   have x4 := hcells 4 _ rfl
   have x5 := hcells 5 _ rfl
   rw [Nat.add_zero] at x0
   have Hx := Lib.hid hx
   have H2 := Lib.hid h2
   clear hcells hx h2 hxok
   obtain ⟨W, hW⟩ : ∃ W, W = wr.alloc (.cells #[.int .i64 x.client, .int .i64 x.seq, .int .i64 x.reply.code, .int .i64 x.reply.val.kind, .float .f64 x.reply.val.num, .string x.reply.val.text] 72) := ⟨_, rfl⟩
   have hEW : Ext wr W := by rw [hW]; exact (Mod.refl _ wr).alloc _
   have hF : Ext w1 W := Mod.ext hE hEW
   have hcs : ∀ j u, x.cells[j]? = some u → W.cell? ⟨wr.heap.size, j, none⟩ = some u := by
    intro j u hu
    rw [hW, cell_of_row _ _ _ _ _ _ (heap_alloc_new wr _)]
    simpa using hu
   have b0 := hcs 0 _ rfl
   have b1 := hcs 1 _ rfl
   have b2 := hcs 2 _ rfl
   have b3 := hcs 3 _ rfl
   have b4 := hcs 4 _ rfl
   have b5 := hcs 5 _ rfl
   have hq := hF.cell q1 id
   have HW := Lib.hid hW
   clear hW hcs
   go_wp2_with fail
   rw [← HW.out]
   clear x0 x1 x2 x3 x4 x5
   rcases hr : numB x.client x.seq with _ | _
   ·
    have Hf : Hid (chkM ⟨p, l⟩ = 6) := Lib.hid (chkM_no (sess_bad Hx.out (by unfold sessOk; rw [hr]; rfl)))
    refine wp_region_held_drew (S := (fun W' => Ext w1 W' ∧ W'.cell? ⟨wr.heap.size, 0, none⟩ = some (.int .i64 x.client) ∧ W'.cell? ⟨wr.heap.size, 1, none⟩ = some (.int .i64 x.seq) ∧ W'.cell? ⟨wr.heap.size, 2, none⟩ = some (.int .i64 x.reply.code) ∧ W'.cell? ⟨wr.heap.size, 3, none⟩ = some (.int .i64 x.reply.val.kind) ∧ W'.cell? ⟨wr.heap.size, 4, none⟩ = some (.float .f64 x.reply.val.num) ∧ W'.cell? ⟨wr.heap.size, 5, none⟩ = some (.string x.reply.val.text))) (by kernel_rfl) ⟨hF.drew, b0, b1, b2, b3, b4, b5⟩ (fun hS => ?_)
    refine tkH 0 (some 17) rfl rfl ?_ hS ?_ ?_; rotate_left; · rintro W' ⟨_,_,_,_,_,_,_⟩; go_simp; try with_reducible rfl
    try simp only [pL]
    refine tkH 1 (some 18) rfl rfl ?_ hS ?_ ?_; rotate_left; · rintro W' ⟨_,_,_,_,_,_,_⟩; go_simp; try with_reducible rfl
    try simp only [pL]
    refine tkH 2 (some 19) rfl rfl ?_ hS ?_ ?_; rotate_left; · rintro W' ⟨_,_,_,_,_,_,_⟩; go_simp; try with_reducible rfl
    try simp only [pL]
    refine tkH 3 (some 20) rfl rfl ?_ hS ?_ ?_; rotate_left; · rintro W' ⟨_,_,_,_,_,_,_⟩; go_simp; try with_reducible rfl
    try simp only [pL]
    refine wpAnyH_ready (rs := [4]) (by kernel_rfl) (by simp) ?_
    refine AllReadyH.cons rfl (fun K hK => ?_) AllReadyH.nil
    go_simp
    go_wp2_with fail
    refine (n_right x.client x.seq _).mono ?_
    rintro e w1' ⟨rfl, rfl⟩
    rw [hr]
    have hX := hS
    go_simp
    refine hK.out _ _ hX (fun hS => ?_)
    clear hK K
    refine tkH 5 (some 22) rfl rfl ?_ hS ?_ ?_; rotate_left; · rintro W' ⟨_,_,_,_,_,_,_⟩; go_simp; try with_reducible rfl
    try simp only [pL]
    refine tkH 6 (some 23) rfl rfl ?_ hS ?_ ?_; rotate_left; · rintro W' ⟨_,_,_,_,_,_,_⟩; go_simp; try with_reducible rfl
    try simp only [pL]
    refine tuH 7 (some 24) rfl rfl hS ?_
    try simp only [pL]
    refine tuH 8 (some 25) rfl rfl hS ?_
    try simp only [pL]
    refine tuH 9 (some 26) rfl rfl hS ?_
    try simp only [pL]
    refine tuH 10 (some 27) rfl rfl hS ?_
    try simp only [pL]
    refine tkH 11 (some 28) rfl rfl ?_ hS ?_ ?_; rotate_left; · rintro W' ⟨_,_,_,_,_,_,_⟩; go_simp; try with_reducible rfl
    try simp only [pL]
    refine tkH 12 (some 29) rfl rfl ?_ hS ?_ ?_; rotate_left; · rintro W' ⟨_,_,_,_,_,_,_⟩; go_simp; try with_reducible rfl
    try simp only [pL]
    refine tuH 13 (some 30) rfl rfl hS ?_
    try simp only [pL]
    refine tuH 14 (some 31) rfl rfl hS ?_
    try simp only [pL]
    refine tuH 15 (some 32) rfl rfl hS ?_
    try simp only [pL]
    refine tuH 16 (some 33) rfl rfl hS ?_
    try simp only [pL]
    refine tkH 17 (some 34) rfl rfl ?_ hS ?_ ?_; rotate_left; · rintro W' ⟨_,_,_,_,_,_,_⟩; go_simp; try with_reducible rfl
    try simp only [pL]
    refine tkH 18 (some 35) rfl rfl ?_ hS ?_ ?_; rotate_left; · rintro W' ⟨_,_,_,_,_,_,_⟩; go_simp; try with_reducible rfl
    try simp only [pL]
    refine tuH 19 (some 36) rfl rfl hS ?_
    try simp only [pL]
    refine tuH 20 (some 37) rfl rfl hS ?_
    try simp only [pL]
    refine tuH 21 (some 38) rfl rfl hS ?_
    try simp only [pL]
    refine tuH 22 (some 39) rfl rfl hS ?_
    try simp only [pL]
    refine tuH 23 (some 40) rfl rfl hS ?_
    try simp only [pL]
    refine tkH 24 (some 41) rfl rfl ?_ hS ?_ ?_; rotate_left; · rintro W' ⟨_,_,_,_,_,_,_⟩; go_simp; try with_reducible rfl
    try simp only [pL]
    refine tkH 25 (some 42) rfl rfl ?_ hS ?_ ?_; rotate_left; · rintro W' ⟨_,_,_,_,_,_,_⟩; go_simp; try with_reducible rfl
    try simp only [pL]
    refine tuH 26 (some 43) rfl rfl hS ?_
    try simp only [pL]
    refine tuH 27 (some 44) rfl rfl hS ?_
    try simp only [pL]
    refine tuH 28 (some 45) rfl rfl hS ?_
    try simp only [pL]
    refine tuH 29 (some 46) rfl rfl hS ?_
    try simp only [pL]
    refine tuH 30 (some 47) rfl rfl hS ?_
    try simp only [pL]
    refine tuH 31 (some 48) rfl rfl hS ?_
    try simp only [pL]
    refine tuH 32 (some 49) rfl rfl hS ?_
    try simp only [pL]
    refine tuH 33 (some 50) rfl rfl hS ?_
    try simp only [pL]
    refine tuH 34 (some 51) rfl rfl hS ?_
    try simp only [pL]
    refine tuH 35 (some 52) rfl rfl hS ?_
    try simp only [pL]
    refine tuH 36 (some 53) rfl rfl hS ?_
    try simp only [pL]
    refine tuH 37 (some 54) rfl rfl hS ?_
    try simp only [pL]
    refine tuH 38 (some 55) rfl rfl hS ?_
    try simp only [pL]
    refine tuH 39 (some 56) rfl rfl hS ?_
    try simp only [pL]
    refine tkH 40 (some 57) rfl rfl ?_ hS ?_ ?_; rotate_left; · rintro W' ⟨_,_,_,_,_,_,_⟩; go_simp; try with_reducible rfl
    try simp only [pL]
    refine wpAnyH_done (by kernel_rfl) ?_ _
    go_wp2
    go_ret
    exact ⟨ret_int Hf.out.symm, Mod.ext hF1 hS.1⟩
   by_cases hk : x.reply.code < 0
   case pos =>
    have hk' : decide (x.reply.code < 0) = true := decide_eq_true hk
    have Hf : Hid (chkM ⟨p, l⟩ = 6) := Lib.hid (chkM_no (sess_bad Hx.out (by unfold sessOk; rw [show decide (0 ≤ x.reply.code) = false from decide_eq_false (by omega)]; simp)))
    clear hk
    refine wp_region_held_drew (S := (fun W' => Ext w1 W' ∧ W'.cell? ⟨wr.heap.size, 0, none⟩ = some (.int .i64 x.client) ∧ W'.cell? ⟨wr.heap.size, 1, none⟩ = some (.int .i64 x.seq) ∧ W'.cell? ⟨wr.heap.size, 2, none⟩ = some (.int .i64 x.reply.code) ∧ W'.cell? ⟨wr.heap.size, 3, none⟩ = some (.int .i64 x.reply.val.kind) ∧ W'.cell? ⟨wr.heap.size, 4, none⟩ = some (.float .f64 x.reply.val.num) ∧ W'.cell? ⟨wr.heap.size, 5, none⟩ = some (.string x.reply.val.text))) (by kernel_rfl) ⟨hF.drew, b0, b1, b2, b3, b4, b5⟩ (fun hS => ?_)
    refine tkH 0 (some 17) rfl rfl ?_ hS ?_ ?_; rotate_left; · rintro W' ⟨_,_,_,_,_,_,_⟩; go_simp; try with_reducible rfl
    try simp only [pL]
    refine tkH 1 (some 18) rfl rfl ?_ hS ?_ ?_; rotate_left; · rintro W' ⟨_,_,_,_,_,_,_⟩; go_simp; try with_reducible rfl
    try simp only [pL]
    refine tkH 2 (some 19) rfl rfl ?_ hS ?_ ?_; rotate_left; · rintro W' ⟨_,_,_,_,_,_,_⟩; go_simp; try with_reducible rfl
    try simp only [pL]
    refine tkH 3 (some 20) rfl rfl ?_ hS ?_ ?_; rotate_left; · rintro W' ⟨_,_,_,_,_,_,_⟩; go_simp; try with_reducible rfl
    try simp only [pL]
    refine wpAnyH_ready (rs := [4]) (by kernel_rfl) (by simp) ?_
    refine AllReadyH.cons rfl (fun K hK => ?_) AllReadyH.nil
    go_simp
    go_wp2_with fail
    refine (n_right x.client x.seq _).mono ?_
    rintro e w1' ⟨rfl, rfl⟩
    rw [hr]
    have hX := hS
    go_simp
    refine hK.out _ _ hX (fun hS => ?_)
    clear hK K
    refine tkH 5 (some 22) rfl rfl ?_ hS ?_ ?_; rotate_left; · rintro W' ⟨_,_,_,_,_,_,_⟩; go_simp; try with_reducible rfl
    try simp only [pL]
    refine tkH 6 (some 23) rfl rfl ?_ hS ?_ ?_; rotate_left; · rintro W' ⟨_,_,_,_,_,_,_⟩; go_simp; try with_reducible rfl
    try simp only [pL]
    refine tkH 7 (some 24) rfl rfl ?_ hS ?_ ?_; rotate_left; · rintro W' ⟨_,_,_,_,_,_,_⟩; go_simp; try with_reducible rfl
    try simp only [pL]
    refine tkH 8 (some 25) rfl rfl ?_ hS ?_ ?_; rotate_left; · rintro W' ⟨_,_,_,_,_,_,_⟩; go_simp; try with_reducible rfl
    try simp only [pL]
    refine tkH 9 (some 26) rfl rfl ?_ hS ?_ ?_; rotate_left; · rintro W' ⟨_,_,_,_,_,_,_⟩; go_simp; try with_reducible rfl
    try simp only [pL]
    refine tkH 10 (some 27) rfl rfl ?_ hS ?_ ?_; rotate_left; · rintro W' ⟨_,_,_,_,_,_,_⟩; go_simp; try with_reducible rfl
    try simp only [pL]
    refine tkH 11 (some 28) rfl rfl ?_ hS ?_ ?_; rotate_left; · rintro W' ⟨_,_,_,_,_,_,_⟩; go_simp; try with_reducible rfl
    try simp only [pL]
    refine tkH 12 (some 29) rfl rfl ?_ hS ?_ ?_; rotate_left; · rintro W' ⟨_,_,_,_,_,_,_⟩; go_simp; try with_reducible rfl
    try simp only [pL]
    refine tuH 13 (some 30) rfl rfl hS ?_
    try simp only [pL]
    refine tuH 14 (some 31) rfl rfl hS ?_
    try simp only [pL]
    refine tuH 15 (some 32) rfl rfl hS ?_
    try simp only [pL]
    refine tuH 16 (some 33) rfl rfl hS ?_
    try simp only [pL]
    refine tkH 17 (some 34) rfl rfl ?_ hS ?_ ?_; rotate_left; · rintro W' ⟨_,_,_,_,_,_,_⟩; go_simp; try with_reducible rfl
    try simp only [pL]
    refine tkH 18 (some 35) rfl rfl ?_ hS ?_ ?_; rotate_left; · rintro W' ⟨_,_,_,_,_,_,_⟩; go_simp; try with_reducible rfl
    try simp only [pL]
    refine tuH 19 (some 36) rfl rfl hS ?_
    try simp only [pL]
    refine tuH 20 (some 37) rfl rfl hS ?_
    try simp only [pL]
    refine tuH 21 (some 38) rfl rfl hS ?_
    try simp only [pL]
    refine tuH 22 (some 39) rfl rfl hS ?_
    try simp only [pL]
    refine tuH 23 (some 40) rfl rfl hS ?_
    try simp only [pL]
    refine tkH 24 (some 41) rfl rfl ?_ hS ?_ ?_; rotate_left; · rintro W' ⟨_,_,_,_,_,_,_⟩; go_simp; try with_reducible rfl
    try simp only [pL]
    refine tkH 25 (some 42) rfl rfl ?_ hS ?_ ?_; rotate_left; · rintro W' ⟨_,_,_,_,_,_,_⟩; go_simp; try with_reducible rfl
    try simp only [pL]
    refine tuH 26 (some 43) rfl rfl hS ?_
    try simp only [pL]
    refine tuH 27 (some 44) rfl rfl hS ?_
    try simp only [pL]
    refine tuH 28 (some 45) rfl rfl hS ?_
    try simp only [pL]
    refine tuH 29 (some 46) rfl rfl hS ?_
    try simp only [pL]
    refine tuH 30 (some 47) rfl rfl hS ?_
    try simp only [pL]
    refine tuH 31 (some 48) rfl rfl hS ?_
    try simp only [pL]
    refine tuH 32 (some 49) rfl rfl hS ?_
    try simp only [pL]
    refine tuH 33 (some 50) rfl rfl hS ?_
    try simp only [pL]
    refine tuH 34 (some 51) rfl rfl hS ?_
    try simp only [pL]
    refine tuH 35 (some 52) rfl rfl hS ?_
    try simp only [pL]
    refine tuH 36 (some 53) rfl rfl hS ?_
    try simp only [pL]
    refine tuH 37 (some 54) rfl rfl hS ?_
    try simp only [pL]
    refine tuH 38 (some 55) rfl rfl hS ?_
    try simp only [pL]
    refine tuH 39 (some 56) rfl rfl hS ?_
    try simp only [pL]
    refine tkH 40 (some 57) rfl rfl ?_ hS ?_ ?_; rotate_left; · rintro W' ⟨_,_,_,_,_,_,_⟩; go_simp; try with_reducible rfl
    try simp only [pL]
    refine wpAnyH_done (by kernel_rfl) ?_ _
    go_wp2
    go_ret
    exact ⟨ret_int Hf.out.symm, Mod.ext hF1 hS.1⟩
   have hk' : decide (x.reply.code < 0) = false := decide_eq_false hk
   by_cases hm : 16 < x.reply.code
   case pos =>
    have hm' : decide (16 < x.reply.code) = true := decide_eq_true hm
    have Hf : Hid (chkM ⟨p, l⟩ = 6) := Lib.hid (chkM_no (sess_bad Hx.out (by unfold sessOk; rw [show decide (x.reply.code ≤ 16) = false from decide_eq_false (by omega)]; simp)))
    clear hk hm
    refine wp_region_held_drew (S := (fun W' => Ext w1 W' ∧ W'.cell? ⟨wr.heap.size, 0, none⟩ = some (.int .i64 x.client) ∧ W'.cell? ⟨wr.heap.size, 1, none⟩ = some (.int .i64 x.seq) ∧ W'.cell? ⟨wr.heap.size, 2, none⟩ = some (.int .i64 x.reply.code) ∧ W'.cell? ⟨wr.heap.size, 3, none⟩ = some (.int .i64 x.reply.val.kind) ∧ W'.cell? ⟨wr.heap.size, 4, none⟩ = some (.float .f64 x.reply.val.num) ∧ W'.cell? ⟨wr.heap.size, 5, none⟩ = some (.string x.reply.val.text))) (by kernel_rfl) ⟨hF.drew, b0, b1, b2, b3, b4, b5⟩ (fun hS => ?_)
    refine tkH 0 (some 17) rfl rfl ?_ hS ?_ ?_; rotate_left; · rintro W' ⟨_,_,_,_,_,_,_⟩; go_simp; try with_reducible rfl
    try simp only [pL]
    refine tkH 1 (some 18) rfl rfl ?_ hS ?_ ?_; rotate_left; · rintro W' ⟨_,_,_,_,_,_,_⟩; go_simp; try with_reducible rfl
    try simp only [pL]
    refine tkH 2 (some 19) rfl rfl ?_ hS ?_ ?_; rotate_left; · rintro W' ⟨_,_,_,_,_,_,_⟩; go_simp; try with_reducible rfl
    try simp only [pL]
    refine tkH 3 (some 20) rfl rfl ?_ hS ?_ ?_; rotate_left; · rintro W' ⟨_,_,_,_,_,_,_⟩; go_simp; try with_reducible rfl
    try simp only [pL]
    refine wpAnyH_ready (rs := [4]) (by kernel_rfl) (by simp) ?_
    refine AllReadyH.cons rfl (fun K hK => ?_) AllReadyH.nil
    go_simp
    go_wp2_with fail
    refine (n_right x.client x.seq _).mono ?_
    rintro e w1' ⟨rfl, rfl⟩
    rw [hr]
    have hX := hS
    go_simp
    refine hK.out _ _ hX (fun hS => ?_)
    clear hK K
    refine tkH 5 (some 22) rfl rfl ?_ hS ?_ ?_; rotate_left; · rintro W' ⟨_,_,_,_,_,_,_⟩; go_simp; try with_reducible rfl
    try simp only [pL]
    refine tkH 6 (some 23) rfl rfl ?_ hS ?_ ?_; rotate_left; · rintro W' ⟨_,_,_,_,_,_,_⟩; go_simp; try with_reducible rfl
    try simp only [pL]
    refine tkH 7 (some 24) rfl rfl ?_ hS ?_ ?_; rotate_left; · rintro W' ⟨_,_,_,_,_,_,_⟩; go_simp; try with_reducible rfl
    try simp only [pL]
    refine tkH 8 (some 25) rfl rfl ?_ hS ?_ ?_; rotate_left; · rintro W' ⟨_,_,_,_,_,_,_⟩; go_simp; try with_reducible rfl
    try simp only [pL]
    refine tkH 9 (some 26) rfl rfl ?_ hS ?_ ?_; rotate_left; · rintro W' ⟨_,_,_,_,_,_,_⟩; go_simp; try with_reducible rfl
    try simp only [pL]
    refine tkH 10 (some 27) rfl rfl ?_ hS ?_ ?_; rotate_left; · rintro W' ⟨_,_,_,_,_,_,_⟩; go_simp; try with_reducible rfl
    try simp only [pL]
    refine tkH 11 (some 28) rfl rfl ?_ hS ?_ ?_; rotate_left; · rintro W' ⟨_,_,_,_,_,_,_⟩; go_simp; try with_reducible rfl
    try simp only [pL]
    refine tkH 12 (some 29) rfl rfl ?_ hS ?_ ?_; rotate_left; · rintro W' ⟨_,_,_,_,_,_,_⟩; go_simp; try with_reducible rfl
    try simp only [pL]
    refine tkH 13 (some 30) rfl rfl ?_ hS ?_ ?_; rotate_left; · rintro W' ⟨_,_,_,_,_,_,_⟩; go_simp; try with_reducible rfl
    try simp only [pL]
    refine tkH 14 (some 31) rfl rfl ?_ hS ?_ ?_; rotate_left; · rintro W' ⟨_,_,_,_,_,_,_⟩; go_simp; try with_reducible rfl
    try simp only [pL]
    refine tkH 15 (some 32) rfl rfl ?_ hS ?_ ?_; rotate_left; · rintro W' ⟨_,_,_,_,_,_,_⟩; go_simp; try with_reducible rfl
    try simp only [pL]
    refine tkH 16 (some 33) rfl rfl ?_ hS ?_ ?_; rotate_left; · rintro W' ⟨_,_,_,_,_,_,_⟩; go_simp; try with_reducible rfl
    try simp only [pL]
    refine tkH 17 (some 34) rfl rfl ?_ hS ?_ ?_; rotate_left; · rintro W' ⟨_,_,_,_,_,_,_⟩; go_simp; try with_reducible rfl
    try simp only [pL]
    refine tkH 18 (some 35) rfl rfl ?_ hS ?_ ?_; rotate_left; · rintro W' ⟨_,_,_,_,_,_,_⟩; go_simp; try with_reducible rfl
    try simp only [pL]
    refine tuH 19 (some 36) rfl rfl hS ?_
    try simp only [pL]
    refine tuH 20 (some 37) rfl rfl hS ?_
    try simp only [pL]
    refine tuH 21 (some 38) rfl rfl hS ?_
    try simp only [pL]
    refine tuH 22 (some 39) rfl rfl hS ?_
    try simp only [pL]
    refine tuH 23 (some 40) rfl rfl hS ?_
    try simp only [pL]
    refine tkH 24 (some 41) rfl rfl ?_ hS ?_ ?_; rotate_left; · rintro W' ⟨_,_,_,_,_,_,_⟩; go_simp; try with_reducible rfl
    try simp only [pL]
    refine tkH 25 (some 42) rfl rfl ?_ hS ?_ ?_; rotate_left; · rintro W' ⟨_,_,_,_,_,_,_⟩; go_simp; try with_reducible rfl
    try simp only [pL]
    refine tuH 26 (some 43) rfl rfl hS ?_
    try simp only [pL]
    refine tuH 27 (some 44) rfl rfl hS ?_
    try simp only [pL]
    refine tuH 28 (some 45) rfl rfl hS ?_
    try simp only [pL]
    refine tuH 29 (some 46) rfl rfl hS ?_
    try simp only [pL]
    refine tuH 30 (some 47) rfl rfl hS ?_
    try simp only [pL]
    refine tuH 31 (some 48) rfl rfl hS ?_
    try simp only [pL]
    refine tuH 32 (some 49) rfl rfl hS ?_
    try simp only [pL]
    refine tuH 33 (some 50) rfl rfl hS ?_
    try simp only [pL]
    refine tuH 34 (some 51) rfl rfl hS ?_
    try simp only [pL]
    refine tuH 35 (some 52) rfl rfl hS ?_
    try simp only [pL]
    refine tuH 36 (some 53) rfl rfl hS ?_
    try simp only [pL]
    refine tuH 37 (some 54) rfl rfl hS ?_
    try simp only [pL]
    refine tuH 38 (some 55) rfl rfl hS ?_
    try simp only [pL]
    refine tuH 39 (some 56) rfl rfl hS ?_
    try simp only [pL]
    refine tkH 40 (some 57) rfl rfl ?_ hS ?_ ?_; rotate_left; · rintro W' ⟨_,_,_,_,_,_,_⟩; go_simp; try with_reducible rfl
    try simp only [pL]
    refine wpAnyH_done (by kernel_rfl) ?_ _
    go_wp2
    go_ret
    exact ⟨ret_int Hf.out.symm, Mod.ext hF1 hS.1⟩
   have hm' : decide (16 < x.reply.code) = false := decide_eq_false hm
   by_cases hc : chk x.reply.val = 0
   case neg =>
    have hc' : (chk x.reply.val != 0) = true := by simpa using hc
    have Hf : Hid (chkM ⟨p, l⟩ = 6) := Lib.hid (chkM_no (sess_bad Hx.out (by unfold sessOk; rw [show (chk x.reply.val == 0) = false from by simpa using hc]; simp)))
    clear hc hk hm
    refine wp_region_held_drew (S := (fun W' => Ext w1 W' ∧ W'.cell? ⟨wr.heap.size, 0, none⟩ = some (.int .i64 x.client) ∧ W'.cell? ⟨wr.heap.size, 1, none⟩ = some (.int .i64 x.seq) ∧ W'.cell? ⟨wr.heap.size, 2, none⟩ = some (.int .i64 x.reply.code) ∧ W'.cell? ⟨wr.heap.size, 3, none⟩ = some (.int .i64 x.reply.val.kind) ∧ W'.cell? ⟨wr.heap.size, 4, none⟩ = some (.float .f64 x.reply.val.num) ∧ W'.cell? ⟨wr.heap.size, 5, none⟩ = some (.string x.reply.val.text))) (by kernel_rfl) ⟨hF.drew, b0, b1, b2, b3, b4, b5⟩ (fun hS => ?_)
    refine tkH 0 (some 17) rfl rfl ?_ hS ?_ ?_; rotate_left; · rintro W' ⟨_,_,_,_,_,_,_⟩; go_simp; try with_reducible rfl
    try simp only [pL]
    refine tkH 1 (some 18) rfl rfl ?_ hS ?_ ?_; rotate_left; · rintro W' ⟨_,_,_,_,_,_,_⟩; go_simp; try with_reducible rfl
    try simp only [pL]
    refine tkH 2 (some 19) rfl rfl ?_ hS ?_ ?_; rotate_left; · rintro W' ⟨_,_,_,_,_,_,_⟩; go_simp; try with_reducible rfl
    try simp only [pL]
    refine tkH 3 (some 20) rfl rfl ?_ hS ?_ ?_; rotate_left; · rintro W' ⟨_,_,_,_,_,_,_⟩; go_simp; try with_reducible rfl
    try simp only [pL]
    refine wpAnyH_ready (rs := [4]) (by kernel_rfl) (by simp) ?_
    refine AllReadyH.cons rfl (fun K hK => ?_) AllReadyH.nil
    go_simp
    go_wp2_with fail
    refine (n_right x.client x.seq _).mono ?_
    rintro e w1' ⟨rfl, rfl⟩
    rw [hr]
    have hX := hS
    go_simp
    refine hK.out _ _ hX (fun hS => ?_)
    clear hK K
    refine tkH 5 (some 22) rfl rfl ?_ hS ?_ ?_; rotate_left; · rintro W' ⟨_,_,_,_,_,_,_⟩; go_simp; try with_reducible rfl
    try simp only [pL]
    refine tkH 6 (some 23) rfl rfl ?_ hS ?_ ?_; rotate_left; · rintro W' ⟨_,_,_,_,_,_,_⟩; go_simp; try with_reducible rfl
    try simp only [pL]
    refine tkH 7 (some 24) rfl rfl ?_ hS ?_ ?_; rotate_left; · rintro W' ⟨_,_,_,_,_,_,_⟩; go_simp; try with_reducible rfl
    try simp only [pL]
    refine tkH 8 (some 25) rfl rfl ?_ hS ?_ ?_; rotate_left; · rintro W' ⟨_,_,_,_,_,_,_⟩; go_simp; try with_reducible rfl
    try simp only [pL]
    refine tkH 9 (some 26) rfl rfl ?_ hS ?_ ?_; rotate_left; · rintro W' ⟨_,_,_,_,_,_,_⟩; go_simp; try with_reducible rfl
    try simp only [pL]
    refine tkH 10 (some 27) rfl rfl ?_ hS ?_ ?_; rotate_left; · rintro W' ⟨_,_,_,_,_,_,_⟩; go_simp; try with_reducible rfl
    try simp only [pL]
    refine tkH 11 (some 28) rfl rfl ?_ hS ?_ ?_; rotate_left; · rintro W' ⟨_,_,_,_,_,_,_⟩; go_simp; try with_reducible rfl
    try simp only [pL]
    refine tkH 12 (some 29) rfl rfl ?_ hS ?_ ?_; rotate_left; · rintro W' ⟨_,_,_,_,_,_,_⟩; go_simp; try with_reducible rfl
    try simp only [pL]
    refine tkH 13 (some 30) rfl rfl ?_ hS ?_ ?_; rotate_left; · rintro W' ⟨_,_,_,_,_,_,_⟩; go_simp; try with_reducible rfl
    try simp only [pL]
    refine tkH 14 (some 31) rfl rfl ?_ hS ?_ ?_; rotate_left; · rintro W' ⟨_,_,_,_,_,_,_⟩; go_simp; try with_reducible rfl
    try simp only [pL]
    refine tkH 15 (some 32) rfl rfl ?_ hS ?_ ?_; rotate_left; · rintro W' ⟨_,_,_,_,_,_,_⟩; go_simp; try with_reducible rfl
    try simp only [pL]
    refine tkH 16 (some 33) rfl rfl ?_ hS ?_ ?_; rotate_left; · rintro W' ⟨_,_,_,_,_,_,_⟩; go_simp; try with_reducible rfl
    try simp only [pL]
    refine tkH 17 (some 34) rfl rfl ?_ hS ?_ ?_; rotate_left; · rintro W' ⟨_,_,_,_,_,_,_⟩; go_simp; try with_reducible rfl
    try simp only [pL]
    refine tkH 18 (some 35) rfl rfl ?_ hS ?_ ?_; rotate_left; · rintro W' ⟨_,_,_,_,_,_,_⟩; go_simp; try with_reducible rfl
    try simp only [pL]
    refine tkH 19 (some 36) rfl rfl ?_ hS ?_ ?_; rotate_left; · rintro W' ⟨_,_,_,_,_,_,_⟩; go_simp; try with_reducible rfl
    try simp only [pL]
    refine tkH 20 (some 37) rfl rfl ?_ hS ?_ ?_; rotate_left; · rintro W' ⟨_,_,_,_,_,_,_⟩; go_simp; try with_reducible rfl
    try simp only [pL]
    refine tkH 21 (some 38) rfl rfl ?_ hS ?_ ?_; rotate_left; · rintro W' ⟨_,_,_,_,_,_,_⟩; go_simp; try with_reducible rfl
    try simp only [pL]
    refine wpAnyH_ready (rs := [22]) (by kernel_rfl) (by simp) ?_
    refine AllReadyH.cons rfl (fun K hK => ?_) AllReadyH.nil
    go_simp
    go_wp2_with fail
    refine (v_check x.reply.val _).mono ?_
    rintro e w1' ⟨rfl, hE1⟩
    have hX := (⟨Mod.ext hS.1 hE1, hE1.cell hS.2.1 id, hE1.cell hS.2.2.1 id, hE1.cell hS.2.2.2.1 id, hE1.cell hS.2.2.2.2.1 id, hE1.cell hS.2.2.2.2.2.1 id, hE1.cell hS.2.2.2.2.2.2 id⟩ : Ext w1 w1' ∧ _ ∧ _ ∧ _ ∧ _ ∧ _ ∧ _)
    go_simp
    refine hK.out _ _ hX (fun hS => ?_)
    clear hK K
    refine tkH 23 (some 40) rfl rfl ?_ hS ?_ ?_; rotate_left; · rintro W' ⟨_,_,_,_,_,_,_⟩; go_simp; try with_reducible rfl
    try simp only [pL]
    refine tkH 24 (some 41) rfl rfl ?_ hS ?_ ?_; rotate_left; · rintro W' ⟨_,_,_,_,_,_,_⟩; go_simp; try with_reducible rfl
    try simp only [pL]
    refine tkH 25 (some 42) rfl rfl ?_ hS ?_ ?_; rotate_left; · rintro W' ⟨_,_,_,_,_,_,_⟩; go_simp; try with_reducible rfl
    try simp only [pL]
    refine tuH 26 (some 43) rfl rfl hS ?_
    try simp only [pL]
    refine tuH 27 (some 44) rfl rfl hS ?_
    try simp only [pL]
    refine tuH 28 (some 45) rfl rfl hS ?_
    try simp only [pL]
    refine tuH 29 (some 46) rfl rfl hS ?_
    try simp only [pL]
    refine tuH 30 (some 47) rfl rfl hS ?_
    try simp only [pL]
    refine tuH 31 (some 48) rfl rfl hS ?_
    try simp only [pL]
    refine tuH 32 (some 49) rfl rfl hS ?_
    try simp only [pL]
    refine tuH 33 (some 50) rfl rfl hS ?_
    try simp only [pL]
    refine tuH 34 (some 51) rfl rfl hS ?_
    try simp only [pL]
    refine tuH 35 (some 52) rfl rfl hS ?_
    try simp only [pL]
    refine tuH 36 (some 53) rfl rfl hS ?_
    try simp only [pL]
    refine tuH 37 (some 54) rfl rfl hS ?_
    try simp only [pL]
    refine tuH 38 (some 55) rfl rfl hS ?_
    try simp only [pL]
    refine tuH 39 (some 56) rfl rfl hS ?_
    try simp only [pL]
    refine tkH 40 (some 57) rfl rfl ?_ hS ?_ ?_; rotate_left; · rintro W' ⟨_,_,_,_,_,_,_⟩; go_simp; try with_reducible rfl
    try simp only [pL]
    refine wpAnyH_done (by kernel_rfl) ?_ _
    go_wp2
    go_ret
    exact ⟨ret_int Hf.out.symm, Mod.ext hF1 hS.1⟩
   have hc' : (chk x.reply.val != 0) = false := by simpa using hc
   have Hok : Hid (sessOk x = true) := Lib.hid (by unfold sessOk; rw [hr, hc, show decide (0 ≤ x.reply.code) = true from decide_eq_true (by omega), show decide (x.reply.code ≤ 16) = true from decide_eq_true (by omega)]; rfl)
   clear hc hk hm
   rcases i with _ | k
   ·
    have Hst := Lib.hid (Hg.out.step Hx.out Hok.out (fun k p e => by omega))
    have z0 : decide ((0 : Int) < ((0 : Nat) : Int)) = false := by simp
    refine wp_region_held_drew (S := (fun W' => Ext w1 W' ∧ W'.cell? ⟨wr.heap.size, 0, none⟩ = some (.int .i64 x.client) ∧ W'.cell? ⟨wr.heap.size, 1, none⟩ = some (.int .i64 x.seq) ∧ W'.cell? ⟨wr.heap.size, 2, none⟩ = some (.int .i64 x.reply.code) ∧ W'.cell? ⟨wr.heap.size, 3, none⟩ = some (.int .i64 x.reply.val.kind) ∧ W'.cell? ⟨wr.heap.size, 4, none⟩ = some (.float .f64 x.reply.val.num) ∧ W'.cell? ⟨wr.heap.size, 5, none⟩ = some (.string x.reply.val.text))) (by kernel_rfl) ⟨hF.drew, b0, b1, b2, b3, b4, b5⟩ (fun hS => ?_)
    refine tkH 0 (some 17) rfl rfl ?_ hS ?_ ?_; rotate_left; · rintro W' ⟨_,_,_,_,_,_,_⟩; go_simp; try with_reducible rfl
    try simp only [pL]
    refine tkH 1 (some 18) rfl rfl ?_ hS ?_ ?_; rotate_left; · rintro W' ⟨_,_,_,_,_,_,_⟩; go_simp; try with_reducible rfl
    try simp only [pL]
    refine tkH 2 (some 19) rfl rfl ?_ hS ?_ ?_; rotate_left; · rintro W' ⟨_,_,_,_,_,_,_⟩; go_simp; try with_reducible rfl
    try simp only [pL]
    refine tkH 3 (some 20) rfl rfl ?_ hS ?_ ?_; rotate_left; · rintro W' ⟨_,_,_,_,_,_,_⟩; go_simp; try with_reducible rfl
    try simp only [pL]
    refine wpAnyH_ready (rs := [4]) (by kernel_rfl) (by simp) ?_
    refine AllReadyH.cons rfl (fun K hK => ?_) AllReadyH.nil
    go_simp
    go_wp2_with fail
    refine (n_right x.client x.seq _).mono ?_
    rintro e w1' ⟨rfl, rfl⟩
    rw [hr]
    have hX := hS
    go_simp
    refine hK.out _ _ hX (fun hS => ?_)
    clear hK K
    refine tkH 5 (some 22) rfl rfl ?_ hS ?_ ?_; rotate_left; · rintro W' ⟨_,_,_,_,_,_,_⟩; go_simp; try with_reducible rfl
    try simp only [pL]
    refine tkH 6 (some 23) rfl rfl ?_ hS ?_ ?_; rotate_left; · rintro W' ⟨_,_,_,_,_,_,_⟩; go_simp; try with_reducible rfl
    try simp only [pL]
    refine tkH 7 (some 24) rfl rfl ?_ hS ?_ ?_; rotate_left; · rintro W' ⟨_,_,_,_,_,_,_⟩; go_simp; try with_reducible rfl
    try simp only [pL]
    refine tkH 8 (some 25) rfl rfl ?_ hS ?_ ?_; rotate_left; · rintro W' ⟨_,_,_,_,_,_,_⟩; go_simp; try with_reducible rfl
    try simp only [pL]
    refine tkH 9 (some 26) rfl rfl ?_ hS ?_ ?_; rotate_left; · rintro W' ⟨_,_,_,_,_,_,_⟩; go_simp; try with_reducible rfl
    try simp only [pL]
    refine tkH 10 (some 27) rfl rfl ?_ hS ?_ ?_; rotate_left; · rintro W' ⟨_,_,_,_,_,_,_⟩; go_simp; try with_reducible rfl
    try simp only [pL]
    refine tkH 11 (some 28) rfl rfl ?_ hS ?_ ?_; rotate_left; · rintro W' ⟨_,_,_,_,_,_,_⟩; go_simp; try with_reducible rfl
    try simp only [pL]
    refine tkH 12 (some 29) rfl rfl ?_ hS ?_ ?_; rotate_left; · rintro W' ⟨_,_,_,_,_,_,_⟩; go_simp; try with_reducible rfl
    try simp only [pL]
    refine tkH 13 (some 30) rfl rfl ?_ hS ?_ ?_; rotate_left; · rintro W' ⟨_,_,_,_,_,_,_⟩; go_simp; try with_reducible rfl
    try simp only [pL]
    refine tkH 14 (some 31) rfl rfl ?_ hS ?_ ?_; rotate_left; · rintro W' ⟨_,_,_,_,_,_,_⟩; go_simp; try with_reducible rfl
    try simp only [pL]
    refine tkH 15 (some 32) rfl rfl ?_ hS ?_ ?_; rotate_left; · rintro W' ⟨_,_,_,_,_,_,_⟩; go_simp; try with_reducible rfl
    try simp only [pL]
    refine tkH 16 (some 33) rfl rfl ?_ hS ?_ ?_; rotate_left; · rintro W' ⟨_,_,_,_,_,_,_⟩; go_simp; try with_reducible rfl
    try simp only [pL]
    refine tkH 17 (some 34) rfl rfl ?_ hS ?_ ?_; rotate_left; · rintro W' ⟨_,_,_,_,_,_,_⟩; go_simp; try with_reducible rfl
    try simp only [pL]
    refine tkH 18 (some 35) rfl rfl ?_ hS ?_ ?_; rotate_left; · rintro W' ⟨_,_,_,_,_,_,_⟩; go_simp; try with_reducible rfl
    try simp only [pL]
    refine tkH 19 (some 36) rfl rfl ?_ hS ?_ ?_; rotate_left; · rintro W' ⟨_,_,_,_,_,_,_⟩; go_simp; try with_reducible rfl
    try simp only [pL]
    refine tkH 20 (some 37) rfl rfl ?_ hS ?_ ?_; rotate_left; · rintro W' ⟨_,_,_,_,_,_,_⟩; go_simp; try with_reducible rfl
    try simp only [pL]
    refine tkH 21 (some 38) rfl rfl ?_ hS ?_ ?_; rotate_left; · rintro W' ⟨_,_,_,_,_,_,_⟩; go_simp; try with_reducible rfl
    try simp only [pL]
    refine wpAnyH_ready (rs := [22]) (by kernel_rfl) (by simp) ?_
    refine AllReadyH.cons rfl (fun K hK => ?_) AllReadyH.nil
    go_simp
    go_wp2_with fail
    refine (v_check x.reply.val _).mono ?_
    rintro e w1' ⟨rfl, hE1⟩
    have hX := (⟨Mod.ext hS.1 hE1, hE1.cell hS.2.1 id, hE1.cell hS.2.2.1 id, hE1.cell hS.2.2.2.1 id, hE1.cell hS.2.2.2.2.1 id, hE1.cell hS.2.2.2.2.2.1 id, hE1.cell hS.2.2.2.2.2.2 id⟩ : Ext w1 w1' ∧ _ ∧ _ ∧ _ ∧ _ ∧ _ ∧ _)
    go_simp
    refine hK.out _ _ hX (fun hS => ?_)
    clear hK K
    refine tkH 23 (some 40) rfl rfl ?_ hS ?_ ?_; rotate_left; · rintro W' ⟨_,_,_,_,_,_,_⟩; go_simp; try with_reducible rfl
    try simp only [pL]
    refine tkH 24 (some 41) rfl rfl ?_ hS ?_ ?_; rotate_left; · rintro W' ⟨_,_,_,_,_,_,_⟩; go_simp; try with_reducible rfl
    try simp only [pL]
    refine tkH 25 (some 42) rfl rfl ?_ hS ?_ ?_; rotate_left; · rintro W' ⟨_,_,_,_,_,_,_⟩; go_simp; try with_reducible rfl
    try simp only [pL]
    refine tkH 26 (some 43) rfl rfl ?_ hS ?_ ?_; rotate_left; · rintro W' ⟨_,_,_,_,_,_,_⟩; go_simp; try with_reducible rfl
    try simp only [pL]
    refine tkH 27 (some 44) rfl rfl ?_ hS ?_ ?_; rotate_left; · rintro W' ⟨_,_,_,_,_,_,_⟩; go_simp; try with_reducible rfl
    try simp only [pL]
    refine tkH 28 (some 45) rfl rfl ?_ hS ?_ ?_; rotate_left; · rintro W' ⟨_,_,_,_,_,_,_⟩; go_simp; try with_reducible rfl
    try simp only [pL]
    refine tuH 29 (some 46) rfl rfl hS ?_
    try simp only [pL]
    refine tuH 30 (some 47) rfl rfl hS ?_
    try simp only [pL]
    refine tuH 31 (some 48) rfl rfl hS ?_
    try simp only [pL]
    refine tuH 32 (some 49) rfl rfl hS ?_
    try simp only [pL]
    refine tuH 33 (some 50) rfl rfl hS ?_
    try simp only [pL]
    refine tuH 34 (some 51) rfl rfl hS ?_
    try simp only [pL]
    refine tuH 35 (some 52) rfl rfl hS ?_
    try simp only [pL]
    refine tuH 36 (some 53) rfl rfl hS ?_
    try simp only [pL]
    refine tuH 37 (some 54) rfl rfl hS ?_
    try simp only [pL]
    refine tuH 38 (some 55) rfl rfl hS ?_
    try simp only [pL]
    refine tkH 39 (some 56) rfl rfl ?_ hS ?_ ?_; rotate_left; · rintro W' ⟨_,_,_,_,_,_,_⟩; go_simp; try with_reducible rfl
    try simp only [pL]
    refine tkH 40 (some 57) rfl rfl ?_ hS ?_ ?_; rotate_left; · rintro W' ⟨_,_,_,_,_,_,_⟩; go_simp; try with_reducible rfl
    try simp only [pL]
    refine wpAnyH_done (by kernel_rfl) ?_ _
    go_wp2
    exact ⟨⟨0 + 1, by omega, by go_num, hS.1, Hst.out⟩, by simp [intOf]; omega⟩
   ·
    obtain ⟨g', off', p', hA, _, hp, _, hcells⟩ := H2.out.at (i := k) (by omega)
    injection hA with hA; injection hA with hA1 hA2; subst hA1; subst hA2
    have p0 := hEW.cell (hcells 0 _ rfl) id
    rw [Nat.add_zero] at p0
    have z0 : decide ((0 : Int) < ((k + 1 : Nat) : Int)) = true := by simp
    have z1 : ((k + 1 : Nat) : Int) - 1 = (k : Int) := by omega
    have z2 : (0 : Int) ≤ (k : Int) := by omega
    have z3 : (k : Int) < (n : Int) := by omega
    have z4 : IntKind.i64.wrap (k : Int) = (k : Int) := IntWalk.i64_in _ (by omega)
    have Hp := Lib.hid hp
    have Hrel : Hid (k + 1 ≤ n ∧ k + 1 < n) := Lib.hid ⟨by omega, by omega⟩
    clear hcells hp
    by_cases hlt : x.client ≤ p'.client
    ·
     have Hf : Hid (chkM ⟨p, l⟩ = 6) := Lib.hid (chkM_no (sess_bad2 Hp.out Hx.out hlt))
     have hbl : decide (x.client ≤ p'.client) = true := decide_eq_true hlt
     clear hlt
     refine wp_region_held_drew (S := (fun W' => Ext w1 W' ∧ W'.cell? ⟨wr.heap.size, 0, none⟩ = some (.int .i64 x.client) ∧ W'.cell? ⟨wr.heap.size, 1, none⟩ = some (.int .i64 x.seq) ∧ W'.cell? ⟨wr.heap.size, 2, none⟩ = some (.int .i64 x.reply.code) ∧ W'.cell? ⟨wr.heap.size, 3, none⟩ = some (.int .i64 x.reply.val.kind) ∧ W'.cell? ⟨wr.heap.size, 4, none⟩ = some (.float .f64 x.reply.val.num) ∧ W'.cell? ⟨wr.heap.size, 5, none⟩ = some (.string x.reply.val.text) ∧ W'.cell? ⟨w.heap.size, 1, none⟩ = some (.slice (some ⟨g, off, none⟩) n c) ∧ W'.cell? ⟨g, off + k * 6, none⟩ = some (.int .i64 p'.client))) (by kernel_rfl) ⟨hF.drew, b0, b1, b2, b3, b4, b5, hq, p0⟩ (fun hS => ?_)
     refine tkH 0 (some 17) rfl rfl ?_ hS ?_ ?_; rotate_left; · rintro W' ⟨_,_,_,_,_,_,_,_,_⟩; go_simp; try with_reducible rfl
     try simp only [pL]
     refine tkH 1 (some 18) rfl rfl ?_ hS ?_ ?_; rotate_left; · rintro W' ⟨_,_,_,_,_,_,_,_,_⟩; go_simp; try with_reducible rfl
     try simp only [pL]
     refine tkH 2 (some 19) rfl rfl ?_ hS ?_ ?_; rotate_left; · rintro W' ⟨_,_,_,_,_,_,_,_,_⟩; go_simp; try with_reducible rfl
     try simp only [pL]
     refine tkH 3 (some 20) rfl rfl ?_ hS ?_ ?_; rotate_left; · rintro W' ⟨_,_,_,_,_,_,_,_,_⟩; go_simp; try with_reducible rfl
     try simp only [pL]
     refine wpAnyH_ready (rs := [4]) (by kernel_rfl) (by simp) ?_
     refine AllReadyH.cons rfl (fun K hK => ?_) AllReadyH.nil
     go_simp
     go_wp2_with fail
     refine (n_right x.client x.seq _).mono ?_
     rintro e w1' ⟨rfl, rfl⟩
     rw [hr]
     have hX := hS
     go_simp
     refine hK.out _ _ hX (fun hS => ?_)
     clear hK K
     refine tkH 5 (some 22) rfl rfl ?_ hS ?_ ?_; rotate_left; · rintro W' ⟨_,_,_,_,_,_,_,_,_⟩; go_simp; try with_reducible rfl
     try simp only [pL]
     refine tkH 6 (some 23) rfl rfl ?_ hS ?_ ?_; rotate_left; · rintro W' ⟨_,_,_,_,_,_,_,_,_⟩; go_simp; try with_reducible rfl
     try simp only [pL]
     refine tkH 7 (some 24) rfl rfl ?_ hS ?_ ?_; rotate_left; · rintro W' ⟨_,_,_,_,_,_,_,_,_⟩; go_simp; try with_reducible rfl
     try simp only [pL]
     refine tkH 8 (some 25) rfl rfl ?_ hS ?_ ?_; rotate_left; · rintro W' ⟨_,_,_,_,_,_,_,_,_⟩; go_simp; try with_reducible rfl
     try simp only [pL]
     refine tkH 9 (some 26) rfl rfl ?_ hS ?_ ?_; rotate_left; · rintro W' ⟨_,_,_,_,_,_,_,_,_⟩; go_simp; try with_reducible rfl
     try simp only [pL]
     refine tkH 10 (some 27) rfl rfl ?_ hS ?_ ?_; rotate_left; · rintro W' ⟨_,_,_,_,_,_,_,_,_⟩; go_simp; try with_reducible rfl
     try simp only [pL]
     refine tkH 11 (some 28) rfl rfl ?_ hS ?_ ?_; rotate_left; · rintro W' ⟨_,_,_,_,_,_,_,_,_⟩; go_simp; try with_reducible rfl
     try simp only [pL]
     refine tkH 12 (some 29) rfl rfl ?_ hS ?_ ?_; rotate_left; · rintro W' ⟨_,_,_,_,_,_,_,_,_⟩; go_simp; try with_reducible rfl
     try simp only [pL]
     refine tkH 13 (some 30) rfl rfl ?_ hS ?_ ?_; rotate_left; · rintro W' ⟨_,_,_,_,_,_,_,_,_⟩; go_simp; try with_reducible rfl
     try simp only [pL]
     refine tkH 14 (some 31) rfl rfl ?_ hS ?_ ?_; rotate_left; · rintro W' ⟨_,_,_,_,_,_,_,_,_⟩; go_simp; try with_reducible rfl
     try simp only [pL]
     refine tkH 15 (some 32) rfl rfl ?_ hS ?_ ?_; rotate_left; · rintro W' ⟨_,_,_,_,_,_,_,_,_⟩; go_simp; try with_reducible rfl
     try simp only [pL]
     refine tkH 16 (some 33) rfl rfl ?_ hS ?_ ?_; rotate_left; · rintro W' ⟨_,_,_,_,_,_,_,_,_⟩; go_simp; try with_reducible rfl
     try simp only [pL]
     refine tkH 17 (some 34) rfl rfl ?_ hS ?_ ?_; rotate_left; · rintro W' ⟨_,_,_,_,_,_,_,_,_⟩; go_simp; try with_reducible rfl
     try simp only [pL]
     refine tkH 18 (some 35) rfl rfl ?_ hS ?_ ?_; rotate_left; · rintro W' ⟨_,_,_,_,_,_,_,_,_⟩; go_simp; try with_reducible rfl
     try simp only [pL]
     refine tkH 19 (some 36) rfl rfl ?_ hS ?_ ?_; rotate_left; · rintro W' ⟨_,_,_,_,_,_,_,_,_⟩; go_simp; try with_reducible rfl
     try simp only [pL]
     refine tkH 20 (some 37) rfl rfl ?_ hS ?_ ?_; rotate_left; · rintro W' ⟨_,_,_,_,_,_,_,_,_⟩; go_simp; try with_reducible rfl
     try simp only [pL]
     refine tkH 21 (some 38) rfl rfl ?_ hS ?_ ?_; rotate_left; · rintro W' ⟨_,_,_,_,_,_,_,_,_⟩; go_simp; try with_reducible rfl
     try simp only [pL]
     refine wpAnyH_ready (rs := [22]) (by kernel_rfl) (by simp) ?_
     refine AllReadyH.cons rfl (fun K hK => ?_) AllReadyH.nil
     go_simp
     go_wp2_with fail
     refine (v_check x.reply.val _).mono ?_
     rintro e w1' ⟨rfl, hE1⟩
     have hX := (⟨Mod.ext hS.1 hE1, hE1.cell hS.2.1 id, hE1.cell hS.2.2.1 id, hE1.cell hS.2.2.2.1 id, hE1.cell hS.2.2.2.2.1 id, hE1.cell hS.2.2.2.2.2.1 id, hE1.cell hS.2.2.2.2.2.2.1 id, hE1.cell hS.2.2.2.2.2.2.2.1 id, hE1.cell hS.2.2.2.2.2.2.2.2 id⟩ : Ext w1 w1' ∧ _ ∧ _ ∧ _ ∧ _ ∧ _ ∧ _ ∧ _ ∧ _)
     go_simp
     refine hK.out _ _ hX (fun hS => ?_)
     clear hK K
     refine tkH 23 (some 40) rfl rfl ?_ hS ?_ ?_; rotate_left; · rintro W' ⟨_,_,_,_,_,_,_,_,_⟩; go_simp; try with_reducible rfl
     try simp only [pL]
     refine tkH 24 (some 41) rfl rfl ?_ hS ?_ ?_; rotate_left; · rintro W' ⟨_,_,_,_,_,_,_,_,_⟩; go_simp; try with_reducible rfl
     try simp only [pL]
     refine tkH 25 (some 42) rfl rfl ?_ hS ?_ ?_; rotate_left; · rintro W' ⟨_,_,_,_,_,_,_,_,_⟩; go_simp; try with_reducible rfl
     try simp only [pL]
     refine tkH 26 (some 43) rfl rfl ?_ hS ?_ ?_; rotate_left; · rintro W' ⟨_,_,_,_,_,_,_,_,_⟩; go_simp; try with_reducible rfl
     try simp only [pL]
     refine tkH 27 (some 44) rfl rfl ?_ hS ?_ ?_; rotate_left; · rintro W' ⟨_,_,_,_,_,_,_,_,_⟩; go_simp; try with_reducible rfl
     try simp only [pL]
     refine tkH 28 (some 45) rfl rfl ?_ hS ?_ ?_; rotate_left; · rintro W' ⟨_,_,_,_,_,_,_,_,_⟩; go_simp; try with_reducible rfl
     try simp only [pL]
     refine tkH 29 (some 46) rfl rfl ?_ hS ?_ ?_; rotate_left; · rintro W' ⟨_,_,_,_,_,_,_,_,_⟩; go_simp; try with_reducible rfl
     try simp only [pL]
     refine tkH 30 (some 47) rfl rfl ?_ hS ?_ ?_; rotate_left; · rintro W' ⟨_,_,_,_,_,_,_,_,_⟩; go_simp; try with_reducible rfl
     try simp only [pL]
     refine tkH 31 (some 48) rfl rfl ?_ hS ?_ ?_; rotate_left; · rintro W' ⟨_,_,_,_,_,_,_,_,_⟩; go_simp; try with_reducible rfl
     try simp only [pL]
     refine tkH 32 (some 49) rfl rfl ?_ hS ?_ ?_; rotate_left; · rintro W' ⟨_,_,_,_,_,_,_,_,_⟩; go_simp; try with_reducible rfl
     try simp only [pL]
     refine tkH 33 (some 50) rfl rfl ?_ hS ?_ ?_; rotate_left; · rintro W' ⟨_,_,_,_,_,_,_,_,_⟩; go_simp; try with_reducible rfl
     try simp only [pL]
     refine tkH 34 (some 51) rfl rfl ?_ hS ?_ ?_; rotate_left; · rintro W' ⟨_,_,_,_,_,_,_,_,_⟩; go_simp; try with_reducible rfl
     try simp only [pL]
     refine tkH 35 (some 52) rfl rfl ?_ hS ?_ ?_; rotate_left; · rintro W' ⟨_,_,_,_,_,_,_,_,_⟩; go_simp; try with_reducible rfl
     try simp only [pL]
     refine tkH 36 (some 53) rfl rfl ?_ hS ?_ ?_; rotate_left; · rintro W' ⟨_,_,_,_,_,_,_,_,_⟩; go_simp; try with_reducible rfl
     try simp only [pL]
     refine tkH 37 (some 54) rfl rfl ?_ hS ?_ ?_; rotate_left; · rintro W' ⟨_,_,_,_,_,_,_,_,_⟩; go_simp; try with_reducible rfl
     try simp only [pL]
     refine tkH 38 (some 55) rfl rfl ?_ hS ?_ ?_; rotate_left; · rintro W' ⟨_,_,_,_,_,_,_,_,_⟩; go_simp; try with_reducible rfl
     try simp only [pL]
     refine tkH 39 (some 56) rfl rfl ?_ hS ?_ ?_; rotate_left; · rintro W' ⟨_,_,_,_,_,_,_,_,_⟩; go_simp; try with_reducible rfl
     try simp only [pL]
     refine tkH 40 (some 57) rfl rfl ?_ hS ?_ ?_; rotate_left; · rintro W' ⟨_,_,_,_,_,_,_,_,_⟩; go_simp; try with_reducible rfl
     try simp only [pL]
     refine wpAnyH_done (by kernel_rfl) ?_ _
     go_wp2
     go_ret
     exact ⟨ret_int Hf.out.symm, Mod.ext hF1 hS.1⟩
    ·
     have Hst := Lib.hid (Hg.out.step Hx.out Hok.out (fun k' p'' e hp' => by
      obtain rfl : k = k' := by omega
      rw [Hp.out] at hp'; cases hp'; omega))
     have hbl : decide (x.client ≤ p'.client) = false := decide_eq_false hlt
     clear hlt
     refine wp_region_held_drew (S := (fun W' => Ext w1 W' ∧ W'.cell? ⟨wr.heap.size, 0, none⟩ = some (.int .i64 x.client) ∧ W'.cell? ⟨wr.heap.size, 1, none⟩ = some (.int .i64 x.seq) ∧ W'.cell? ⟨wr.heap.size, 2, none⟩ = some (.int .i64 x.reply.code) ∧ W'.cell? ⟨wr.heap.size, 3, none⟩ = some (.int .i64 x.reply.val.kind) ∧ W'.cell? ⟨wr.heap.size, 4, none⟩ = some (.float .f64 x.reply.val.num) ∧ W'.cell? ⟨wr.heap.size, 5, none⟩ = some (.string x.reply.val.text) ∧ W'.cell? ⟨w.heap.size, 1, none⟩ = some (.slice (some ⟨g, off, none⟩) n c) ∧ W'.cell? ⟨g, off + k * 6, none⟩ = some (.int .i64 p'.client))) (by kernel_rfl) ⟨hF.drew, b0, b1, b2, b3, b4, b5, hq, p0⟩ (fun hS => ?_)
     refine tkH 0 (some 17) rfl rfl ?_ hS ?_ ?_; rotate_left; · rintro W' ⟨_,_,_,_,_,_,_,_,_⟩; go_simp; try with_reducible rfl
     try simp only [pL]
     refine tkH 1 (some 18) rfl rfl ?_ hS ?_ ?_; rotate_left; · rintro W' ⟨_,_,_,_,_,_,_,_,_⟩; go_simp; try with_reducible rfl
     try simp only [pL]
     refine tkH 2 (some 19) rfl rfl ?_ hS ?_ ?_; rotate_left; · rintro W' ⟨_,_,_,_,_,_,_,_,_⟩; go_simp; try with_reducible rfl
     try simp only [pL]
     refine tkH 3 (some 20) rfl rfl ?_ hS ?_ ?_; rotate_left; · rintro W' ⟨_,_,_,_,_,_,_,_,_⟩; go_simp; try with_reducible rfl
     try simp only [pL]
     refine wpAnyH_ready (rs := [4]) (by kernel_rfl) (by simp) ?_
     refine AllReadyH.cons rfl (fun K hK => ?_) AllReadyH.nil
     go_simp
     go_wp2_with fail
     refine (n_right x.client x.seq _).mono ?_
     rintro e w1' ⟨rfl, rfl⟩
     rw [hr]
     have hX := hS
     go_simp
     refine hK.out _ _ hX (fun hS => ?_)
     clear hK K
     refine tkH 5 (some 22) rfl rfl ?_ hS ?_ ?_; rotate_left; · rintro W' ⟨_,_,_,_,_,_,_,_,_⟩; go_simp; try with_reducible rfl
     try simp only [pL]
     refine tkH 6 (some 23) rfl rfl ?_ hS ?_ ?_; rotate_left; · rintro W' ⟨_,_,_,_,_,_,_,_,_⟩; go_simp; try with_reducible rfl
     try simp only [pL]
     refine tkH 7 (some 24) rfl rfl ?_ hS ?_ ?_; rotate_left; · rintro W' ⟨_,_,_,_,_,_,_,_,_⟩; go_simp; try with_reducible rfl
     try simp only [pL]
     refine tkH 8 (some 25) rfl rfl ?_ hS ?_ ?_; rotate_left; · rintro W' ⟨_,_,_,_,_,_,_,_,_⟩; go_simp; try with_reducible rfl
     try simp only [pL]
     refine tkH 9 (some 26) rfl rfl ?_ hS ?_ ?_; rotate_left; · rintro W' ⟨_,_,_,_,_,_,_,_,_⟩; go_simp; try with_reducible rfl
     try simp only [pL]
     refine tkH 10 (some 27) rfl rfl ?_ hS ?_ ?_; rotate_left; · rintro W' ⟨_,_,_,_,_,_,_,_,_⟩; go_simp; try with_reducible rfl
     try simp only [pL]
     refine tkH 11 (some 28) rfl rfl ?_ hS ?_ ?_; rotate_left; · rintro W' ⟨_,_,_,_,_,_,_,_,_⟩; go_simp; try with_reducible rfl
     try simp only [pL]
     refine tkH 12 (some 29) rfl rfl ?_ hS ?_ ?_; rotate_left; · rintro W' ⟨_,_,_,_,_,_,_,_,_⟩; go_simp; try with_reducible rfl
     try simp only [pL]
     refine tkH 13 (some 30) rfl rfl ?_ hS ?_ ?_; rotate_left; · rintro W' ⟨_,_,_,_,_,_,_,_,_⟩; go_simp; try with_reducible rfl
     try simp only [pL]
     refine tkH 14 (some 31) rfl rfl ?_ hS ?_ ?_; rotate_left; · rintro W' ⟨_,_,_,_,_,_,_,_,_⟩; go_simp; try with_reducible rfl
     try simp only [pL]
     refine tkH 15 (some 32) rfl rfl ?_ hS ?_ ?_; rotate_left; · rintro W' ⟨_,_,_,_,_,_,_,_,_⟩; go_simp; try with_reducible rfl
     try simp only [pL]
     refine tkH 16 (some 33) rfl rfl ?_ hS ?_ ?_; rotate_left; · rintro W' ⟨_,_,_,_,_,_,_,_,_⟩; go_simp; try with_reducible rfl
     try simp only [pL]
     refine tkH 17 (some 34) rfl rfl ?_ hS ?_ ?_; rotate_left; · rintro W' ⟨_,_,_,_,_,_,_,_,_⟩; go_simp; try with_reducible rfl
     try simp only [pL]
     refine tkH 18 (some 35) rfl rfl ?_ hS ?_ ?_; rotate_left; · rintro W' ⟨_,_,_,_,_,_,_,_,_⟩; go_simp; try with_reducible rfl
     try simp only [pL]
     refine tkH 19 (some 36) rfl rfl ?_ hS ?_ ?_; rotate_left; · rintro W' ⟨_,_,_,_,_,_,_,_,_⟩; go_simp; try with_reducible rfl
     try simp only [pL]
     refine tkH 20 (some 37) rfl rfl ?_ hS ?_ ?_; rotate_left; · rintro W' ⟨_,_,_,_,_,_,_,_,_⟩; go_simp; try with_reducible rfl
     try simp only [pL]
     refine tkH 21 (some 38) rfl rfl ?_ hS ?_ ?_; rotate_left; · rintro W' ⟨_,_,_,_,_,_,_,_,_⟩; go_simp; try with_reducible rfl
     try simp only [pL]
     refine wpAnyH_ready (rs := [22]) (by kernel_rfl) (by simp) ?_
     refine AllReadyH.cons rfl (fun K hK => ?_) AllReadyH.nil
     go_simp
     go_wp2_with fail
     refine (v_check x.reply.val _).mono ?_
     rintro e w1' ⟨rfl, hE1⟩
     have hX := (⟨Mod.ext hS.1 hE1, hE1.cell hS.2.1 id, hE1.cell hS.2.2.1 id, hE1.cell hS.2.2.2.1 id, hE1.cell hS.2.2.2.2.1 id, hE1.cell hS.2.2.2.2.2.1 id, hE1.cell hS.2.2.2.2.2.2.1 id, hE1.cell hS.2.2.2.2.2.2.2.1 id, hE1.cell hS.2.2.2.2.2.2.2.2 id⟩ : Ext w1 w1' ∧ _ ∧ _ ∧ _ ∧ _ ∧ _ ∧ _ ∧ _ ∧ _)
     go_simp
     refine hK.out _ _ hX (fun hS => ?_)
     clear hK K
     refine tkH 23 (some 40) rfl rfl ?_ hS ?_ ?_; rotate_left; · rintro W' ⟨_,_,_,_,_,_,_,_,_⟩; go_simp; try with_reducible rfl
     try simp only [pL]
     refine tkH 24 (some 41) rfl rfl ?_ hS ?_ ?_; rotate_left; · rintro W' ⟨_,_,_,_,_,_,_,_,_⟩; go_simp; try with_reducible rfl
     try simp only [pL]
     refine tkH 25 (some 42) rfl rfl ?_ hS ?_ ?_; rotate_left; · rintro W' ⟨_,_,_,_,_,_,_,_,_⟩; go_simp; try with_reducible rfl
     try simp only [pL]
     refine tkH 26 (some 43) rfl rfl ?_ hS ?_ ?_; rotate_left; · rintro W' ⟨_,_,_,_,_,_,_,_,_⟩; go_simp; try with_reducible rfl
     try simp only [pL]
     refine tkH 27 (some 44) rfl rfl ?_ hS ?_ ?_; rotate_left; · rintro W' ⟨_,_,_,_,_,_,_,_,_⟩; go_simp; try with_reducible rfl
     try simp only [pL]
     refine tkH 28 (some 45) rfl rfl ?_ hS ?_ ?_; rotate_left; · rintro W' ⟨_,_,_,_,_,_,_,_,_⟩; go_simp; try with_reducible rfl
     try simp only [pL]
     refine tkH 29 (some 46) rfl rfl ?_ hS ?_ ?_; rotate_left; · rintro W' ⟨_,_,_,_,_,_,_,_,_⟩; go_simp; try with_reducible rfl
     try simp only [pL]
     refine tkH 30 (some 47) rfl rfl ?_ hS ?_ ?_; rotate_left; · rintro W' ⟨_,_,_,_,_,_,_,_,_⟩; go_simp; try with_reducible rfl
     try simp only [pL]
     refine tkH 31 (some 48) rfl rfl ?_ hS ?_ ?_; rotate_left; · rintro W' ⟨_,_,_,_,_,_,_,_,_⟩; go_simp; try with_reducible rfl
     try simp only [pL]
     refine tkH 32 (some 49) rfl rfl ?_ hS ?_ ?_; rotate_left; · rintro W' ⟨_,_,_,_,_,_,_,_,_⟩; go_simp; try with_reducible rfl
     try simp only [pL]
     refine tkH 33 (some 50) rfl rfl ?_ hS ?_ ?_; rotate_left; · rintro W' ⟨_,_,_,_,_,_,_,_,_⟩; go_simp; try with_reducible rfl
     try simp only [pL]
     refine tkH 34 (some 51) rfl rfl ?_ hS ?_ ?_; rotate_left; · rintro W' ⟨_,_,_,_,_,_,_,_,_⟩; go_simp; try with_reducible rfl
     try simp only [pL]
     refine tkH 35 (some 52) rfl rfl ?_ hS ?_ ?_; rotate_left; · rintro W' ⟨_,_,_,_,_,_,_,_,_⟩; go_simp; try with_reducible rfl
     try simp only [pL]
     refine tkH 36 (some 53) rfl rfl ?_ hS ?_ ?_; rotate_left; · rintro W' ⟨_,_,_,_,_,_,_,_,_⟩; go_simp; try with_reducible rfl
     try simp only [pL]
     refine tkH 37 (some 54) rfl rfl ?_ hS ?_ ?_; rotate_left; · rintro W' ⟨_,_,_,_,_,_,_,_,_⟩; go_simp; try with_reducible rfl
     try simp only [pL]
     refine tkH 38 (some 55) rfl rfl ?_ hS ?_ ?_; rotate_left; · rintro W' ⟨_,_,_,_,_,_,_,_,_⟩; go_simp; try with_reducible rfl
     try simp only [pL]
     refine tkH 39 (some 56) rfl rfl ?_ hS ?_ ?_; rotate_left; · rintro W' ⟨_,_,_,_,_,_,_,_,_⟩; go_simp; try with_reducible rfl
     try simp only [pL]
     refine tkH 40 (some 57) rfl rfl ?_ hS ?_ ?_; rotate_left; · rintro W' ⟨_,_,_,_,_,_,_,_,_⟩; go_simp; try with_reducible rfl
     try simp only [pL]
     refine wpAnyH_done (by kernel_rfl) ?_ _
     go_wp2
     clear z4
     exact ⟨⟨k + 1 + 1, by have := Hrel.out; omega, by go_num, hS.1, Hst.out⟩, by have := Hrel.out; simp [intOf]; omega⟩
  ·
   have Hf : Hid (chkM ⟨p, l⟩ = 0) := Lib.hid (chkM_yes Hpp.out (sess_good (by rw [Hn.out, show n = i from by omega]; exact Hg.out)))
   go_wp2
   go_ret
   exact ⟨ret_int Hf.out.symm, Mod.ext hF1 hE⟩
end Go.Proofs.YtbclnghbgoblcaaGreat

namespace Go.Proofs.YtbclnghbgoblcaaGreat
set_option linter.unusedSimpArgs false
open Go.RowKit

theorem machB_yes {p : List APair} {l : List ASess} (hp : pairsB p = true) (h : sessB l = true) : machB ⟨p, l⟩ = true := by unfold machB; rw [hp, h]; rfl
theorem machB_no {p : List APair} {l : List ASess} (h : sessB l = false) : machB ⟨p, l⟩ = false := by unfold machB; rw [h]; simp
theorem machB_no1 {p : List APair} {l : List ASess} (h : pairsB p = false) : machB ⟨p, l⟩ = false := by unfold machB; rw [h]; simp

set_option maxRecDepth 100000 in
set_option maxHeartbeats 4000000 in
theorem r_machine (w : World) (T U : Nat → Prop) (pv v : Value) (p : List APair) (l : List ASess) (hP : Prs w U pv p) (h : Ses w T v l) :
  Calls Tryz.prog 55 #[.agg #[pv, v]] w fun e w' => e = .returned (.bool (machB ⟨p, l⟩)) ∧ Ext w w' := by
 obtain ⟨n, hn⟩ : ∃ n, l.length = n := ⟨_, rfl⟩
 obtain ⟨A, c, rfl⟩ := h.form
 have hl := h.1.le
 unfold maxLen at hl
 rw [hn] at h hl ⊢
 have Hn := Lib.hid hn
 clear hn
 obtain ⟨W0, hW0⟩ : ∃ W0, W0 = w.alloc (.cells #[pv, .slice A n c] 33) := ⟨_, rfl⟩
 have hE0 : Ext w W0 := by rw [hW0]; exact (Mod.refl _ w).alloc _
 have m0 : W0.cell? ⟨w.heap.size, 0, none⟩ = some pv := by rw [hW0, cell_of_row _ _ _ _ _ _ (heap_alloc_new w _)]; rfl
 have m1 : W0.cell? ⟨w.heap.size, 1, none⟩ = some (.slice A n c) := by rw [hW0, cell_of_row _ _ _ _ _ _ (heap_alloc_new w _)]; rfl
 have HW0 := Lib.hid hW0
 clear hW0
 go_enter Tryz.func55, Tryz.ntmps55
 go_wp2_with fail
 rw [← HW0.out]
 refine (r_pairs W0 U pv p (hP.ext hE0)).mono ?_
 rintro e w1 ⟨rfl, hE1⟩
 have q0 := hE1.cell m0 id
 have q1 := hE1.cell m1 id
 have hF1 : Ext w w1 := Mod.ext hE0 hE1
 clear m0 m1 hE1 hE0
 rcases hp : pairsB p with _ | _
 ·
  have Hf : Hid (machB ⟨p, l⟩ = false) := Lib.hid (machB_no1 hp)
  go_wp2
  go_ret
  exact ⟨ret_bool Hf.out.symm, hF1⟩
 have Hpp := Lib.hid hp
 clear hp
 go_wp2
 go_loopw [3] (fun iv wr => ∃ i : Nat, i ≤ n ∧ iv = .int .i64 i ∧ Ext w1 wr ∧ GoodS l i) (fun iv _ => n - (intOf iv).toNat)
 case atStart => exact ⟨0, by omega, rfl, Mod.refl _ w1, GoodS.zero l⟩
 case round =>
  obtain ⟨i, hin, rfl, hE, hg⟩ := hrel
  have Hg := Lib.hid hg
  have h2 := h.ext (Mod.ext hF1 hE)
  clear hg
  have hqr := hE.cell q1 id
  by_cases hi : i < n
  ·
   obtain ⟨g, off, x, rfl, hgT, hx, hxok, hcells⟩ := h2.at hi
   have hi0 : (0 : Int) ≤ (i : Int) := by omega
   have hi1 : (i : Int) < (n : Int) := by omega
   have x0 := hcells 0 _ rfl
   have x1 := hcells 1 _ rfl
   have x2 := hcells 2 _ rfl
   have x3 := hcells 3 _ rfl
   have x4 := hcells 4 _ rfl
   have x5 := hcells 5 _ rfl
   rw [Nat.add_zero] at x0
   have Hx := Lib.hid hx
   have H2 := Lib.hid h2
   clear hcells hx h2 hxok
   obtain ⟨W, hW⟩ : ∃ W, W = wr.alloc (.cells #[.int .i64 x.client, .int .i64 x.seq, .int .i64 x.reply.code, .int .i64 x.reply.val.kind, .float .f64 x.reply.val.num, .string x.reply.val.text] 72) := ⟨_, rfl⟩
   have hEW : Ext wr W := by rw [hW]; exact (Mod.refl _ wr).alloc _
   have hF : Ext w1 W := Mod.ext hE hEW
   have hcs : ∀ j u, x.cells[j]? = some u → W.cell? ⟨wr.heap.size, j, none⟩ = some u := by
    intro j u hu
    rw [hW, cell_of_row _ _ _ _ _ _ (heap_alloc_new wr _)]
    simpa using hu
   have b0 := hcs 0 _ rfl
   have b1 := hcs 1 _ rfl
   have b2 := hcs 2 _ rfl
   have b3 := hcs 3 _ rfl
   have b4 := hcs 4 _ rfl
   have b5 := hcs 5 _ rfl
   have hq := hF.cell q1 id
   have HW := Lib.hid hW
   clear hW hcs
   go_wp2_with fail
   rw [← HW.out]
   clear x0 x1 x2 x3 x4 x5
   by_cases h1 : x.client < 1
   case pos =>
    have h1' : decide (x.client < 1) = true := decide_eq_true h1
    have Hf : Hid (machB ⟨p, l⟩ = false) := Lib.hid (machB_no (sess_bad Hx.out (by unfold sessOk numB; rw [show decide (1 ≤ x.client) = false from decide_eq_false (by omega)]; simp)))
    clear h1
    refine wp_region_held_drew (S := (fun W' => Ext w1 W' ∧ W'.cell? ⟨wr.heap.size, 0, none⟩ = some (.int .i64 x.client) ∧ W'.cell? ⟨wr.heap.size, 1, none⟩ = some (.int .i64 x.seq) ∧ W'.cell? ⟨wr.heap.size, 2, none⟩ = some (.int .i64 x.reply.code) ∧ W'.cell? ⟨wr.heap.size, 3, none⟩ = some (.int .i64 x.reply.val.kind) ∧ W'.cell? ⟨wr.heap.size, 4, none⟩ = some (.float .f64 x.reply.val.num) ∧ W'.cell? ⟨wr.heap.size, 5, none⟩ = some (.string x.reply.val.text))) (by kernel_rfl) ⟨hF.drew, b0, b1, b2, b3, b4, b5⟩ (fun hS => ?_)
    refine tkH 0 (some 21) rfl rfl ?_ hS ?_ ?_; rotate_left; · rintro W' ⟨_,_,_,_,_,_,_⟩; go_simp; try with_reducible rfl
    try simp only [pL]
    refine tkH 1 (some 22) rfl rfl ?_ hS ?_ ?_; rotate_left; · rintro W' ⟨_,_,_,_,_,_,_⟩; go_simp; try with_reducible rfl
    try simp only [pL]
    refine tkH 2 (some 23) rfl rfl ?_ hS ?_ ?_; rotate_left; · rintro W' ⟨_,_,_,_,_,_,_⟩; go_simp; try with_reducible rfl
    try simp only [pL]
    refine tkH 3 (some 24) rfl rfl ?_ hS ?_ ?_; rotate_left; · rintro W' ⟨_,_,_,_,_,_,_⟩; go_simp; try with_reducible rfl
    try simp only [pL]
    refine tuH 4 (some 25) rfl rfl hS ?_
    try simp only [pL]
    refine tuH 5 (some 26) rfl rfl hS ?_
    try simp only [pL]
    refine tuH 6 (some 27) rfl rfl hS ?_
    try simp only [pL]
    refine tkH 7 (some 28) rfl rfl ?_ hS ?_ ?_; rotate_left; · rintro W' ⟨_,_,_,_,_,_,_⟩; go_simp; try with_reducible rfl
    try simp only [pL]
    refine tkH 8 (some 29) rfl rfl ?_ hS ?_ ?_; rotate_left; · rintro W' ⟨_,_,_,_,_,_,_⟩; go_simp; try with_reducible rfl
    try simp only [pL]
    refine tuH 9 (some 30) rfl rfl hS ?_
    try simp only [pL]
    refine tuH 10 (some 31) rfl rfl hS ?_
    try simp only [pL]
    refine tuH 11 (some 32) rfl rfl hS ?_
    try simp only [pL]
    refine tkH 12 (some 33) rfl rfl ?_ hS ?_ ?_; rotate_left; · rintro W' ⟨_,_,_,_,_,_,_⟩; go_simp; try with_reducible rfl
    try simp only [pL]
    refine tkH 13 (some 34) rfl rfl ?_ hS ?_ ?_; rotate_left; · rintro W' ⟨_,_,_,_,_,_,_⟩; go_simp; try with_reducible rfl
    try simp only [pL]
    refine tuH 14 (some 35) rfl rfl hS ?_
    try simp only [pL]
    refine tuH 15 (some 36) rfl rfl hS ?_
    try simp only [pL]
    refine tuH 16 (some 37) rfl rfl hS ?_
    try simp only [pL]
    refine tkH 17 (some 38) rfl rfl ?_ hS ?_ ?_; rotate_left; · rintro W' ⟨_,_,_,_,_,_,_⟩; go_simp; try with_reducible rfl
    try simp only [pL]
    refine tkH 18 (some 39) rfl rfl ?_ hS ?_ ?_; rotate_left; · rintro W' ⟨_,_,_,_,_,_,_⟩; go_simp; try with_reducible rfl
    try simp only [pL]
    refine tuH 19 (some 40) rfl rfl hS ?_
    try simp only [pL]
    refine tuH 20 (some 41) rfl rfl hS ?_
    try simp only [pL]
    refine tuH 21 (some 42) rfl rfl hS ?_
    try simp only [pL]
    refine tuH 22 (some 43) rfl rfl hS ?_
    try simp only [pL]
    refine tkH 23 (some 44) rfl rfl ?_ hS ?_ ?_; rotate_left; · rintro W' ⟨_,_,_,_,_,_,_⟩; go_simp; try with_reducible rfl
    try simp only [pL]
    refine tkH 24 (some 45) rfl rfl ?_ hS ?_ ?_; rotate_left; · rintro W' ⟨_,_,_,_,_,_,_⟩; go_simp; try with_reducible rfl
    try simp only [pL]
    refine tuH 25 (some 46) rfl rfl hS ?_
    try simp only [pL]
    refine tuH 26 (some 47) rfl rfl hS ?_
    try simp only [pL]
    refine tuH 27 (some 48) rfl rfl hS ?_
    try simp only [pL]
    refine tuH 28 (some 49) rfl rfl hS ?_
    try simp only [pL]
    refine tkH 29 (some 50) rfl rfl ?_ hS ?_ ?_; rotate_left; · rintro W' ⟨_,_,_,_,_,_,_⟩; go_simp; try with_reducible rfl
    try simp only [pL]
    refine tkH 30 (some 51) rfl rfl ?_ hS ?_ ?_; rotate_left; · rintro W' ⟨_,_,_,_,_,_,_⟩; go_simp; try with_reducible rfl
    try simp only [pL]
    refine tuH 31 (some 52) rfl rfl hS ?_
    try simp only [pL]
    refine tuH 32 (some 53) rfl rfl hS ?_
    try simp only [pL]
    refine tuH 33 (some 54) rfl rfl hS ?_
    try simp only [pL]
    refine tuH 34 (some 55) rfl rfl hS ?_
    try simp only [pL]
    refine tuH 35 (some 56) rfl rfl hS ?_
    try simp only [pL]
    refine tkH 36 (some 57) rfl rfl ?_ hS ?_ ?_; rotate_left; · rintro W' ⟨_,_,_,_,_,_,_⟩; go_simp; try with_reducible rfl
    try simp only [pL]
    refine tkH 37 (some 58) rfl rfl ?_ hS ?_ ?_; rotate_left; · rintro W' ⟨_,_,_,_,_,_,_⟩; go_simp; try with_reducible rfl
    try simp only [pL]
    refine tuH 38 (some 59) rfl rfl hS ?_
    try simp only [pL]
    refine tuH 39 (some 60) rfl rfl hS ?_
    try simp only [pL]
    refine tuH 40 (some 61) rfl rfl hS ?_
    try simp only [pL]
    refine tuH 41 (some 62) rfl rfl hS ?_
    try simp only [pL]
    refine tuH 42 (some 63) rfl rfl hS ?_
    try simp only [pL]
    refine tuH 43 (some 64) rfl rfl hS ?_
    try simp only [pL]
    refine tuH 44 (some 65) rfl rfl hS ?_
    try simp only [pL]
    refine tuH 45 (some 66) rfl rfl hS ?_
    try simp only [pL]
    refine tuH 46 (some 67) rfl rfl hS ?_
    try simp only [pL]
    refine tuH 47 (some 68) rfl rfl hS ?_
    try simp only [pL]
    refine tuH 48 (some 69) rfl rfl hS ?_
    try simp only [pL]
    refine tuH 49 (some 70) rfl rfl hS ?_
    try simp only [pL]
    refine tuH 50 (some 71) rfl rfl hS ?_
    try simp only [pL]
    refine tuH 51 (some 72) rfl rfl hS ?_
    try simp only [pL]
    refine tkH 52 (some 73) rfl rfl ?_ hS ?_ ?_; rotate_left; · rintro W' ⟨_,_,_,_,_,_,_⟩; go_simp; try with_reducible rfl
    try simp only [pL]
    refine wpAnyH_done (by kernel_rfl) ?_ _
    go_wp2
    go_ret
    exact ⟨ret_bool Hf.out.symm, Mod.ext hF1 hS.1⟩
   have h1' : decide (x.client < 1) = false := decide_eq_false h1
   by_cases h2 : 4 < x.client
   case pos =>
    have h2' : decide (4 < x.client) = true := decide_eq_true h2
    have Hf : Hid (machB ⟨p, l⟩ = false) := Lib.hid (machB_no (sess_bad Hx.out (by unfold sessOk numB; rw [show decide (x.client ≤ 4) = false from decide_eq_false (by omega)]; simp)))
    clear h2
    refine wp_region_held_drew (S := (fun W' => Ext w1 W' ∧ W'.cell? ⟨wr.heap.size, 0, none⟩ = some (.int .i64 x.client) ∧ W'.cell? ⟨wr.heap.size, 1, none⟩ = some (.int .i64 x.seq) ∧ W'.cell? ⟨wr.heap.size, 2, none⟩ = some (.int .i64 x.reply.code) ∧ W'.cell? ⟨wr.heap.size, 3, none⟩ = some (.int .i64 x.reply.val.kind) ∧ W'.cell? ⟨wr.heap.size, 4, none⟩ = some (.float .f64 x.reply.val.num) ∧ W'.cell? ⟨wr.heap.size, 5, none⟩ = some (.string x.reply.val.text))) (by kernel_rfl) ⟨hF.drew, b0, b1, b2, b3, b4, b5⟩ (fun hS => ?_)
    refine tkH 0 (some 21) rfl rfl ?_ hS ?_ ?_; rotate_left; · rintro W' ⟨_,_,_,_,_,_,_⟩; go_simp; try with_reducible rfl
    try simp only [pL]
    refine tkH 1 (some 22) rfl rfl ?_ hS ?_ ?_; rotate_left; · rintro W' ⟨_,_,_,_,_,_,_⟩; go_simp; try with_reducible rfl
    try simp only [pL]
    refine tkH 2 (some 23) rfl rfl ?_ hS ?_ ?_; rotate_left; · rintro W' ⟨_,_,_,_,_,_,_⟩; go_simp; try with_reducible rfl
    try simp only [pL]
    refine tkH 3 (some 24) rfl rfl ?_ hS ?_ ?_; rotate_left; · rintro W' ⟨_,_,_,_,_,_,_⟩; go_simp; try with_reducible rfl
    try simp only [pL]
    refine tkH 4 (some 25) rfl rfl ?_ hS ?_ ?_; rotate_left; · rintro W' ⟨_,_,_,_,_,_,_⟩; go_simp; try with_reducible rfl
    try simp only [pL]
    refine tkH 5 (some 26) rfl rfl ?_ hS ?_ ?_; rotate_left; · rintro W' ⟨_,_,_,_,_,_,_⟩; go_simp; try with_reducible rfl
    try simp only [pL]
    refine tkH 6 (some 27) rfl rfl ?_ hS ?_ ?_; rotate_left; · rintro W' ⟨_,_,_,_,_,_,_⟩; go_simp; try with_reducible rfl
    try simp only [pL]
    refine tkH 7 (some 28) rfl rfl ?_ hS ?_ ?_; rotate_left; · rintro W' ⟨_,_,_,_,_,_,_⟩; go_simp; try with_reducible rfl
    try simp only [pL]
    refine tkH 8 (some 29) rfl rfl ?_ hS ?_ ?_; rotate_left; · rintro W' ⟨_,_,_,_,_,_,_⟩; go_simp; try with_reducible rfl
    try simp only [pL]
    refine tuH 9 (some 30) rfl rfl hS ?_
    try simp only [pL]
    refine tuH 10 (some 31) rfl rfl hS ?_
    try simp only [pL]
    refine tuH 11 (some 32) rfl rfl hS ?_
    try simp only [pL]
    refine tkH 12 (some 33) rfl rfl ?_ hS ?_ ?_; rotate_left; · rintro W' ⟨_,_,_,_,_,_,_⟩; go_simp; try with_reducible rfl
    try simp only [pL]
    refine tkH 13 (some 34) rfl rfl ?_ hS ?_ ?_; rotate_left; · rintro W' ⟨_,_,_,_,_,_,_⟩; go_simp; try with_reducible rfl
    try simp only [pL]
    refine tuH 14 (some 35) rfl rfl hS ?_
    try simp only [pL]
    refine tuH 15 (some 36) rfl rfl hS ?_
    try simp only [pL]
    refine tuH 16 (some 37) rfl rfl hS ?_
    try simp only [pL]
    refine tkH 17 (some 38) rfl rfl ?_ hS ?_ ?_; rotate_left; · rintro W' ⟨_,_,_,_,_,_,_⟩; go_simp; try with_reducible rfl
    try simp only [pL]
    refine tkH 18 (some 39) rfl rfl ?_ hS ?_ ?_; rotate_left; · rintro W' ⟨_,_,_,_,_,_,_⟩; go_simp; try with_reducible rfl
    try simp only [pL]
    refine tuH 19 (some 40) rfl rfl hS ?_
    try simp only [pL]
    refine tuH 20 (some 41) rfl rfl hS ?_
    try simp only [pL]
    refine tuH 21 (some 42) rfl rfl hS ?_
    try simp only [pL]
    refine tuH 22 (some 43) rfl rfl hS ?_
    try simp only [pL]
    refine tkH 23 (some 44) rfl rfl ?_ hS ?_ ?_; rotate_left; · rintro W' ⟨_,_,_,_,_,_,_⟩; go_simp; try with_reducible rfl
    try simp only [pL]
    refine tkH 24 (some 45) rfl rfl ?_ hS ?_ ?_; rotate_left; · rintro W' ⟨_,_,_,_,_,_,_⟩; go_simp; try with_reducible rfl
    try simp only [pL]
    refine tuH 25 (some 46) rfl rfl hS ?_
    try simp only [pL]
    refine tuH 26 (some 47) rfl rfl hS ?_
    try simp only [pL]
    refine tuH 27 (some 48) rfl rfl hS ?_
    try simp only [pL]
    refine tuH 28 (some 49) rfl rfl hS ?_
    try simp only [pL]
    refine tkH 29 (some 50) rfl rfl ?_ hS ?_ ?_; rotate_left; · rintro W' ⟨_,_,_,_,_,_,_⟩; go_simp; try with_reducible rfl
    try simp only [pL]
    refine tkH 30 (some 51) rfl rfl ?_ hS ?_ ?_; rotate_left; · rintro W' ⟨_,_,_,_,_,_,_⟩; go_simp; try with_reducible rfl
    try simp only [pL]
    refine tuH 31 (some 52) rfl rfl hS ?_
    try simp only [pL]
    refine tuH 32 (some 53) rfl rfl hS ?_
    try simp only [pL]
    refine tuH 33 (some 54) rfl rfl hS ?_
    try simp only [pL]
    refine tuH 34 (some 55) rfl rfl hS ?_
    try simp only [pL]
    refine tuH 35 (some 56) rfl rfl hS ?_
    try simp only [pL]
    refine tkH 36 (some 57) rfl rfl ?_ hS ?_ ?_; rotate_left; · rintro W' ⟨_,_,_,_,_,_,_⟩; go_simp; try with_reducible rfl
    try simp only [pL]
    refine tkH 37 (some 58) rfl rfl ?_ hS ?_ ?_; rotate_left; · rintro W' ⟨_,_,_,_,_,_,_⟩; go_simp; try with_reducible rfl
    try simp only [pL]
    refine tuH 38 (some 59) rfl rfl hS ?_
    try simp only [pL]
    refine tuH 39 (some 60) rfl rfl hS ?_
    try simp only [pL]
    refine tuH 40 (some 61) rfl rfl hS ?_
    try simp only [pL]
    refine tuH 41 (some 62) rfl rfl hS ?_
    try simp only [pL]
    refine tuH 42 (some 63) rfl rfl hS ?_
    try simp only [pL]
    refine tuH 43 (some 64) rfl rfl hS ?_
    try simp only [pL]
    refine tuH 44 (some 65) rfl rfl hS ?_
    try simp only [pL]
    refine tuH 45 (some 66) rfl rfl hS ?_
    try simp only [pL]
    refine tuH 46 (some 67) rfl rfl hS ?_
    try simp only [pL]
    refine tuH 47 (some 68) rfl rfl hS ?_
    try simp only [pL]
    refine tuH 48 (some 69) rfl rfl hS ?_
    try simp only [pL]
    refine tuH 49 (some 70) rfl rfl hS ?_
    try simp only [pL]
    refine tuH 50 (some 71) rfl rfl hS ?_
    try simp only [pL]
    refine tuH 51 (some 72) rfl rfl hS ?_
    try simp only [pL]
    refine tkH 52 (some 73) rfl rfl ?_ hS ?_ ?_; rotate_left; · rintro W' ⟨_,_,_,_,_,_,_⟩; go_simp; try with_reducible rfl
    try simp only [pL]
    refine wpAnyH_done (by kernel_rfl) ?_ _
    go_wp2
    go_ret
    exact ⟨ret_bool Hf.out.symm, Mod.ext hF1 hS.1⟩
   have h2' : decide (4 < x.client) = false := decide_eq_false h2
   by_cases h3 : x.seq < 1
   case pos =>
    have h3' : decide (x.seq < 1) = true := decide_eq_true h3
    have Hf : Hid (machB ⟨p, l⟩ = false) := Lib.hid (machB_no (sess_bad Hx.out (by unfold sessOk numB; rw [show decide (1 ≤ x.seq) = false from decide_eq_false (by omega)]; simp)))
    clear h3
    refine wp_region_held_drew (S := (fun W' => Ext w1 W' ∧ W'.cell? ⟨wr.heap.size, 0, none⟩ = some (.int .i64 x.client) ∧ W'.cell? ⟨wr.heap.size, 1, none⟩ = some (.int .i64 x.seq) ∧ W'.cell? ⟨wr.heap.size, 2, none⟩ = some (.int .i64 x.reply.code) ∧ W'.cell? ⟨wr.heap.size, 3, none⟩ = some (.int .i64 x.reply.val.kind) ∧ W'.cell? ⟨wr.heap.size, 4, none⟩ = some (.float .f64 x.reply.val.num) ∧ W'.cell? ⟨wr.heap.size, 5, none⟩ = some (.string x.reply.val.text))) (by kernel_rfl) ⟨hF.drew, b0, b1, b2, b3, b4, b5⟩ (fun hS => ?_)
    refine tkH 0 (some 21) rfl rfl ?_ hS ?_ ?_; rotate_left; · rintro W' ⟨_,_,_,_,_,_,_⟩; go_simp; try with_reducible rfl
    try simp only [pL]
    refine tkH 1 (some 22) rfl rfl ?_ hS ?_ ?_; rotate_left; · rintro W' ⟨_,_,_,_,_,_,_⟩; go_simp; try with_reducible rfl
    try simp only [pL]
    refine tkH 2 (some 23) rfl rfl ?_ hS ?_ ?_; rotate_left; · rintro W' ⟨_,_,_,_,_,_,_⟩; go_simp; try with_reducible rfl
    try simp only [pL]
    refine tkH 3 (some 24) rfl rfl ?_ hS ?_ ?_; rotate_left; · rintro W' ⟨_,_,_,_,_,_,_⟩; go_simp; try with_reducible rfl
    try simp only [pL]
    refine tkH 4 (some 25) rfl rfl ?_ hS ?_ ?_; rotate_left; · rintro W' ⟨_,_,_,_,_,_,_⟩; go_simp; try with_reducible rfl
    try simp only [pL]
    refine tkH 5 (some 26) rfl rfl ?_ hS ?_ ?_; rotate_left; · rintro W' ⟨_,_,_,_,_,_,_⟩; go_simp; try with_reducible rfl
    try simp only [pL]
    refine tkH 6 (some 27) rfl rfl ?_ hS ?_ ?_; rotate_left; · rintro W' ⟨_,_,_,_,_,_,_⟩; go_simp; try with_reducible rfl
    try simp only [pL]
    refine tkH 7 (some 28) rfl rfl ?_ hS ?_ ?_; rotate_left; · rintro W' ⟨_,_,_,_,_,_,_⟩; go_simp; try with_reducible rfl
    try simp only [pL]
    refine tkH 8 (some 29) rfl rfl ?_ hS ?_ ?_; rotate_left; · rintro W' ⟨_,_,_,_,_,_,_⟩; go_simp; try with_reducible rfl
    try simp only [pL]
    refine tkH 9 (some 30) rfl rfl ?_ hS ?_ ?_; rotate_left; · rintro W' ⟨_,_,_,_,_,_,_⟩; go_simp; try with_reducible rfl
    try simp only [pL]
    refine tkH 10 (some 31) rfl rfl ?_ hS ?_ ?_; rotate_left; · rintro W' ⟨_,_,_,_,_,_,_⟩; go_simp; try with_reducible rfl
    try simp only [pL]
    refine tkH 11 (some 32) rfl rfl ?_ hS ?_ ?_; rotate_left; · rintro W' ⟨_,_,_,_,_,_,_⟩; go_simp; try with_reducible rfl
    try simp only [pL]
    refine tkH 12 (some 33) rfl rfl ?_ hS ?_ ?_; rotate_left; · rintro W' ⟨_,_,_,_,_,_,_⟩; go_simp; try with_reducible rfl
    try simp only [pL]
    refine tkH 13 (some 34) rfl rfl ?_ hS ?_ ?_; rotate_left; · rintro W' ⟨_,_,_,_,_,_,_⟩; go_simp; try with_reducible rfl
    try simp only [pL]
    refine tuH 14 (some 35) rfl rfl hS ?_
    try simp only [pL]
    refine tuH 15 (some 36) rfl rfl hS ?_
    try simp only [pL]
    refine tuH 16 (some 37) rfl rfl hS ?_
    try simp only [pL]
    refine tkH 17 (some 38) rfl rfl ?_ hS ?_ ?_; rotate_left; · rintro W' ⟨_,_,_,_,_,_,_⟩; go_simp; try with_reducible rfl
    try simp only [pL]
    refine tkH 18 (some 39) rfl rfl ?_ hS ?_ ?_; rotate_left; · rintro W' ⟨_,_,_,_,_,_,_⟩; go_simp; try with_reducible rfl
    try simp only [pL]
    refine tuH 19 (some 40) rfl rfl hS ?_
    try simp only [pL]
    refine tuH 20 (some 41) rfl rfl hS ?_
    try simp only [pL]
    refine tuH 21 (some 42) rfl rfl hS ?_
    try simp only [pL]
    refine tuH 22 (some 43) rfl rfl hS ?_
    try simp only [pL]
    refine tkH 23 (some 44) rfl rfl ?_ hS ?_ ?_; rotate_left; · rintro W' ⟨_,_,_,_,_,_,_⟩; go_simp; try with_reducible rfl
    try simp only [pL]
    refine tkH 24 (some 45) rfl rfl ?_ hS ?_ ?_; rotate_left; · rintro W' ⟨_,_,_,_,_,_,_⟩; go_simp; try with_reducible rfl
    try simp only [pL]
    refine tuH 25 (some 46) rfl rfl hS ?_
    try simp only [pL]
    refine tuH 26 (some 47) rfl rfl hS ?_
    try simp only [pL]
    refine tuH 27 (some 48) rfl rfl hS ?_
    try simp only [pL]
    refine tuH 28 (some 49) rfl rfl hS ?_
    try simp only [pL]
    refine tkH 29 (some 50) rfl rfl ?_ hS ?_ ?_; rotate_left; · rintro W' ⟨_,_,_,_,_,_,_⟩; go_simp; try with_reducible rfl
    try simp only [pL]
    refine tkH 30 (some 51) rfl rfl ?_ hS ?_ ?_; rotate_left; · rintro W' ⟨_,_,_,_,_,_,_⟩; go_simp; try with_reducible rfl
    try simp only [pL]
    refine tuH 31 (some 52) rfl rfl hS ?_
    try simp only [pL]
    refine tuH 32 (some 53) rfl rfl hS ?_
    try simp only [pL]
    refine tuH 33 (some 54) rfl rfl hS ?_
    try simp only [pL]
    refine tuH 34 (some 55) rfl rfl hS ?_
    try simp only [pL]
    refine tuH 35 (some 56) rfl rfl hS ?_
    try simp only [pL]
    refine tkH 36 (some 57) rfl rfl ?_ hS ?_ ?_; rotate_left; · rintro W' ⟨_,_,_,_,_,_,_⟩; go_simp; try with_reducible rfl
    try simp only [pL]
    refine tkH 37 (some 58) rfl rfl ?_ hS ?_ ?_; rotate_left; · rintro W' ⟨_,_,_,_,_,_,_⟩; go_simp; try with_reducible rfl
    try simp only [pL]
    refine tuH 38 (some 59) rfl rfl hS ?_
    try simp only [pL]
    refine tuH 39 (some 60) rfl rfl hS ?_
    try simp only [pL]
    refine tuH 40 (some 61) rfl rfl hS ?_
    try simp only [pL]
    refine tuH 41 (some 62) rfl rfl hS ?_
    try simp only [pL]
    refine tuH 42 (some 63) rfl rfl hS ?_
    try simp only [pL]
    refine tuH 43 (some 64) rfl rfl hS ?_
    try simp only [pL]
    refine tuH 44 (some 65) rfl rfl hS ?_
    try simp only [pL]
    refine tuH 45 (some 66) rfl rfl hS ?_
    try simp only [pL]
    refine tuH 46 (some 67) rfl rfl hS ?_
    try simp only [pL]
    refine tuH 47 (some 68) rfl rfl hS ?_
    try simp only [pL]
    refine tuH 48 (some 69) rfl rfl hS ?_
    try simp only [pL]
    refine tuH 49 (some 70) rfl rfl hS ?_
    try simp only [pL]
    refine tuH 50 (some 71) rfl rfl hS ?_
    try simp only [pL]
    refine tuH 51 (some 72) rfl rfl hS ?_
    try simp only [pL]
    refine tkH 52 (some 73) rfl rfl ?_ hS ?_ ?_; rotate_left; · rintro W' ⟨_,_,_,_,_,_,_⟩; go_simp; try with_reducible rfl
    try simp only [pL]
    refine wpAnyH_done (by kernel_rfl) ?_ _
    go_wp2
    go_ret
    exact ⟨ret_bool Hf.out.symm, Mod.ext hF1 hS.1⟩
   have h3' : decide (x.seq < 1) = false := decide_eq_false h3
   by_cases h4 : 1099511627776 < x.seq
   case pos =>
    have h4' : decide (1099511627776 < x.seq) = true := decide_eq_true h4
    have Hf : Hid (machB ⟨p, l⟩ = false) := Lib.hid (machB_no (sess_bad Hx.out (by unfold sessOk numB; rw [show decide (x.seq ≤ 1099511627776) = false from decide_eq_false (by omega)]; simp)))
    clear h4
    refine wp_region_held_drew (S := (fun W' => Ext w1 W' ∧ W'.cell? ⟨wr.heap.size, 0, none⟩ = some (.int .i64 x.client) ∧ W'.cell? ⟨wr.heap.size, 1, none⟩ = some (.int .i64 x.seq) ∧ W'.cell? ⟨wr.heap.size, 2, none⟩ = some (.int .i64 x.reply.code) ∧ W'.cell? ⟨wr.heap.size, 3, none⟩ = some (.int .i64 x.reply.val.kind) ∧ W'.cell? ⟨wr.heap.size, 4, none⟩ = some (.float .f64 x.reply.val.num) ∧ W'.cell? ⟨wr.heap.size, 5, none⟩ = some (.string x.reply.val.text))) (by kernel_rfl) ⟨hF.drew, b0, b1, b2, b3, b4, b5⟩ (fun hS => ?_)
    refine tkH 0 (some 21) rfl rfl ?_ hS ?_ ?_; rotate_left; · rintro W' ⟨_,_,_,_,_,_,_⟩; go_simp; try with_reducible rfl
    try simp only [pL]
    refine tkH 1 (some 22) rfl rfl ?_ hS ?_ ?_; rotate_left; · rintro W' ⟨_,_,_,_,_,_,_⟩; go_simp; try with_reducible rfl
    try simp only [pL]
    refine tkH 2 (some 23) rfl rfl ?_ hS ?_ ?_; rotate_left; · rintro W' ⟨_,_,_,_,_,_,_⟩; go_simp; try with_reducible rfl
    try simp only [pL]
    refine tkH 3 (some 24) rfl rfl ?_ hS ?_ ?_; rotate_left; · rintro W' ⟨_,_,_,_,_,_,_⟩; go_simp; try with_reducible rfl
    try simp only [pL]
    refine tkH 4 (some 25) rfl rfl ?_ hS ?_ ?_; rotate_left; · rintro W' ⟨_,_,_,_,_,_,_⟩; go_simp; try with_reducible rfl
    try simp only [pL]
    refine tkH 5 (some 26) rfl rfl ?_ hS ?_ ?_; rotate_left; · rintro W' ⟨_,_,_,_,_,_,_⟩; go_simp; try with_reducible rfl
    try simp only [pL]
    refine tkH 6 (some 27) rfl rfl ?_ hS ?_ ?_; rotate_left; · rintro W' ⟨_,_,_,_,_,_,_⟩; go_simp; try with_reducible rfl
    try simp only [pL]
    refine tkH 7 (some 28) rfl rfl ?_ hS ?_ ?_; rotate_left; · rintro W' ⟨_,_,_,_,_,_,_⟩; go_simp; try with_reducible rfl
    try simp only [pL]
    refine tkH 8 (some 29) rfl rfl ?_ hS ?_ ?_; rotate_left; · rintro W' ⟨_,_,_,_,_,_,_⟩; go_simp; try with_reducible rfl
    try simp only [pL]
    refine tkH 9 (some 30) rfl rfl ?_ hS ?_ ?_; rotate_left; · rintro W' ⟨_,_,_,_,_,_,_⟩; go_simp; try with_reducible rfl
    try simp only [pL]
    refine tkH 10 (some 31) rfl rfl ?_ hS ?_ ?_; rotate_left; · rintro W' ⟨_,_,_,_,_,_,_⟩; go_simp; try with_reducible rfl
    try simp only [pL]
    refine tkH 11 (some 32) rfl rfl ?_ hS ?_ ?_; rotate_left; · rintro W' ⟨_,_,_,_,_,_,_⟩; go_simp; try with_reducible rfl
    try simp only [pL]
    refine tkH 12 (some 33) rfl rfl ?_ hS ?_ ?_; rotate_left; · rintro W' ⟨_,_,_,_,_,_,_⟩; go_simp; try with_reducible rfl
    try simp only [pL]
    refine tkH 13 (some 34) rfl rfl ?_ hS ?_ ?_; rotate_left; · rintro W' ⟨_,_,_,_,_,_,_⟩; go_simp; try with_reducible rfl
    try simp only [pL]
    refine tkH 14 (some 35) rfl rfl ?_ hS ?_ ?_; rotate_left; · rintro W' ⟨_,_,_,_,_,_,_⟩; go_simp; try with_reducible rfl
    try simp only [pL]
    refine tkH 15 (some 36) rfl rfl ?_ hS ?_ ?_; rotate_left; · rintro W' ⟨_,_,_,_,_,_,_⟩; go_simp; try with_reducible rfl
    try simp only [pL]
    refine tkH 16 (some 37) rfl rfl ?_ hS ?_ ?_; rotate_left; · rintro W' ⟨_,_,_,_,_,_,_⟩; go_simp; try with_reducible rfl
    try simp only [pL]
    refine tkH 17 (some 38) rfl rfl ?_ hS ?_ ?_; rotate_left; · rintro W' ⟨_,_,_,_,_,_,_⟩; go_simp; try with_reducible rfl
    try simp only [pL]
    refine tkH 18 (some 39) rfl rfl ?_ hS ?_ ?_; rotate_left; · rintro W' ⟨_,_,_,_,_,_,_⟩; go_simp; try with_reducible rfl
    try simp only [pL]
    refine tuH 19 (some 40) rfl rfl hS ?_
    try simp only [pL]
    refine tuH 20 (some 41) rfl rfl hS ?_
    try simp only [pL]
    refine tuH 21 (some 42) rfl rfl hS ?_
    try simp only [pL]
    refine tuH 22 (some 43) rfl rfl hS ?_
    try simp only [pL]
    refine tkH 23 (some 44) rfl rfl ?_ hS ?_ ?_; rotate_left; · rintro W' ⟨_,_,_,_,_,_,_⟩; go_simp; try with_reducible rfl
    try simp only [pL]
    refine tkH 24 (some 45) rfl rfl ?_ hS ?_ ?_; rotate_left; · rintro W' ⟨_,_,_,_,_,_,_⟩; go_simp; try with_reducible rfl
    try simp only [pL]
    refine tuH 25 (some 46) rfl rfl hS ?_
    try simp only [pL]
    refine tuH 26 (some 47) rfl rfl hS ?_
    try simp only [pL]
    refine tuH 27 (some 48) rfl rfl hS ?_
    try simp only [pL]
    refine tuH 28 (some 49) rfl rfl hS ?_
    try simp only [pL]
    refine tkH 29 (some 50) rfl rfl ?_ hS ?_ ?_; rotate_left; · rintro W' ⟨_,_,_,_,_,_,_⟩; go_simp; try with_reducible rfl
    try simp only [pL]
    refine tkH 30 (some 51) rfl rfl ?_ hS ?_ ?_; rotate_left; · rintro W' ⟨_,_,_,_,_,_,_⟩; go_simp; try with_reducible rfl
    try simp only [pL]
    refine tuH 31 (some 52) rfl rfl hS ?_
    try simp only [pL]
    refine tuH 32 (some 53) rfl rfl hS ?_
    try simp only [pL]
    refine tuH 33 (some 54) rfl rfl hS ?_
    try simp only [pL]
    refine tuH 34 (some 55) rfl rfl hS ?_
    try simp only [pL]
    refine tuH 35 (some 56) rfl rfl hS ?_
    try simp only [pL]
    refine tkH 36 (some 57) rfl rfl ?_ hS ?_ ?_; rotate_left; · rintro W' ⟨_,_,_,_,_,_,_⟩; go_simp; try with_reducible rfl
    try simp only [pL]
    refine tkH 37 (some 58) rfl rfl ?_ hS ?_ ?_; rotate_left; · rintro W' ⟨_,_,_,_,_,_,_⟩; go_simp; try with_reducible rfl
    try simp only [pL]
    refine tuH 38 (some 59) rfl rfl hS ?_
    try simp only [pL]
    refine tuH 39 (some 60) rfl rfl hS ?_
    try simp only [pL]
    refine tuH 40 (some 61) rfl rfl hS ?_
    try simp only [pL]
    refine tuH 41 (some 62) rfl rfl hS ?_
    try simp only [pL]
    refine tuH 42 (some 63) rfl rfl hS ?_
    try simp only [pL]
    refine tuH 43 (some 64) rfl rfl hS ?_
    try simp only [pL]
    refine tuH 44 (some 65) rfl rfl hS ?_
    try simp only [pL]
    refine tuH 45 (some 66) rfl rfl hS ?_
    try simp only [pL]
    refine tuH 46 (some 67) rfl rfl hS ?_
    try simp only [pL]
    refine tuH 47 (some 68) rfl rfl hS ?_
    try simp only [pL]
    refine tuH 48 (some 69) rfl rfl hS ?_
    try simp only [pL]
    refine tuH 49 (some 70) rfl rfl hS ?_
    try simp only [pL]
    refine tuH 50 (some 71) rfl rfl hS ?_
    try simp only [pL]
    refine tuH 51 (some 72) rfl rfl hS ?_
    try simp only [pL]
    refine tkH 52 (some 73) rfl rfl ?_ hS ?_ ?_; rotate_left; · rintro W' ⟨_,_,_,_,_,_,_⟩; go_simp; try with_reducible rfl
    try simp only [pL]
    refine wpAnyH_done (by kernel_rfl) ?_ _
    go_wp2
    go_ret
    exact ⟨ret_bool Hf.out.symm, Mod.ext hF1 hS.1⟩
   have h4' : decide (1099511627776 < x.seq) = false := decide_eq_false h4
   by_cases hk : x.reply.code < 0
   case pos =>
    have hk' : decide (x.reply.code < 0) = true := decide_eq_true hk
    have Hf : Hid (machB ⟨p, l⟩ = false) := Lib.hid (machB_no (sess_bad Hx.out (by unfold sessOk; rw [show decide (0 ≤ x.reply.code) = false from decide_eq_false (by omega)]; simp)))
    clear hk
    refine wp_region_held_drew (S := (fun W' => Ext w1 W' ∧ W'.cell? ⟨wr.heap.size, 0, none⟩ = some (.int .i64 x.client) ∧ W'.cell? ⟨wr.heap.size, 1, none⟩ = some (.int .i64 x.seq) ∧ W'.cell? ⟨wr.heap.size, 2, none⟩ = some (.int .i64 x.reply.code) ∧ W'.cell? ⟨wr.heap.size, 3, none⟩ = some (.int .i64 x.reply.val.kind) ∧ W'.cell? ⟨wr.heap.size, 4, none⟩ = some (.float .f64 x.reply.val.num) ∧ W'.cell? ⟨wr.heap.size, 5, none⟩ = some (.string x.reply.val.text))) (by kernel_rfl) ⟨hF.drew, b0, b1, b2, b3, b4, b5⟩ (fun hS => ?_)
    refine tkH 0 (some 21) rfl rfl ?_ hS ?_ ?_; rotate_left; · rintro W' ⟨_,_,_,_,_,_,_⟩; go_simp; try with_reducible rfl
    try simp only [pL]
    refine tkH 1 (some 22) rfl rfl ?_ hS ?_ ?_; rotate_left; · rintro W' ⟨_,_,_,_,_,_,_⟩; go_simp; try with_reducible rfl
    try simp only [pL]
    refine tkH 2 (some 23) rfl rfl ?_ hS ?_ ?_; rotate_left; · rintro W' ⟨_,_,_,_,_,_,_⟩; go_simp; try with_reducible rfl
    try simp only [pL]
    refine tkH 3 (some 24) rfl rfl ?_ hS ?_ ?_; rotate_left; · rintro W' ⟨_,_,_,_,_,_,_⟩; go_simp; try with_reducible rfl
    try simp only [pL]
    refine tkH 4 (some 25) rfl rfl ?_ hS ?_ ?_; rotate_left; · rintro W' ⟨_,_,_,_,_,_,_⟩; go_simp; try with_reducible rfl
    try simp only [pL]
    refine tkH 5 (some 26) rfl rfl ?_ hS ?_ ?_; rotate_left; · rintro W' ⟨_,_,_,_,_,_,_⟩; go_simp; try with_reducible rfl
    try simp only [pL]
    refine tkH 6 (some 27) rfl rfl ?_ hS ?_ ?_; rotate_left; · rintro W' ⟨_,_,_,_,_,_,_⟩; go_simp; try with_reducible rfl
    try simp only [pL]
    refine tkH 7 (some 28) rfl rfl ?_ hS ?_ ?_; rotate_left; · rintro W' ⟨_,_,_,_,_,_,_⟩; go_simp; try with_reducible rfl
    try simp only [pL]
    refine tkH 8 (some 29) rfl rfl ?_ hS ?_ ?_; rotate_left; · rintro W' ⟨_,_,_,_,_,_,_⟩; go_simp; try with_reducible rfl
    try simp only [pL]
    refine tkH 9 (some 30) rfl rfl ?_ hS ?_ ?_; rotate_left; · rintro W' ⟨_,_,_,_,_,_,_⟩; go_simp; try with_reducible rfl
    try simp only [pL]
    refine tkH 10 (some 31) rfl rfl ?_ hS ?_ ?_; rotate_left; · rintro W' ⟨_,_,_,_,_,_,_⟩; go_simp; try with_reducible rfl
    try simp only [pL]
    refine tkH 11 (some 32) rfl rfl ?_ hS ?_ ?_; rotate_left; · rintro W' ⟨_,_,_,_,_,_,_⟩; go_simp; try with_reducible rfl
    try simp only [pL]
    refine tkH 12 (some 33) rfl rfl ?_ hS ?_ ?_; rotate_left; · rintro W' ⟨_,_,_,_,_,_,_⟩; go_simp; try with_reducible rfl
    try simp only [pL]
    refine tkH 13 (some 34) rfl rfl ?_ hS ?_ ?_; rotate_left; · rintro W' ⟨_,_,_,_,_,_,_⟩; go_simp; try with_reducible rfl
    try simp only [pL]
    refine tkH 14 (some 35) rfl rfl ?_ hS ?_ ?_; rotate_left; · rintro W' ⟨_,_,_,_,_,_,_⟩; go_simp; try with_reducible rfl
    try simp only [pL]
    refine tkH 15 (some 36) rfl rfl ?_ hS ?_ ?_; rotate_left; · rintro W' ⟨_,_,_,_,_,_,_⟩; go_simp; try with_reducible rfl
    try simp only [pL]
    refine tkH 16 (some 37) rfl rfl ?_ hS ?_ ?_; rotate_left; · rintro W' ⟨_,_,_,_,_,_,_⟩; go_simp; try with_reducible rfl
    try simp only [pL]
    refine tkH 17 (some 38) rfl rfl ?_ hS ?_ ?_; rotate_left; · rintro W' ⟨_,_,_,_,_,_,_⟩; go_simp; try with_reducible rfl
    try simp only [pL]
    refine tkH 18 (some 39) rfl rfl ?_ hS ?_ ?_; rotate_left; · rintro W' ⟨_,_,_,_,_,_,_⟩; go_simp; try with_reducible rfl
    try simp only [pL]
    refine tkH 19 (some 40) rfl rfl ?_ hS ?_ ?_; rotate_left; · rintro W' ⟨_,_,_,_,_,_,_⟩; go_simp; try with_reducible rfl
    try simp only [pL]
    refine tkH 20 (some 41) rfl rfl ?_ hS ?_ ?_; rotate_left; · rintro W' ⟨_,_,_,_,_,_,_⟩; go_simp; try with_reducible rfl
    try simp only [pL]
    refine tkH 21 (some 42) rfl rfl ?_ hS ?_ ?_; rotate_left; · rintro W' ⟨_,_,_,_,_,_,_⟩; go_simp; try with_reducible rfl
    try simp only [pL]
    refine tkH 22 (some 43) rfl rfl ?_ hS ?_ ?_; rotate_left; · rintro W' ⟨_,_,_,_,_,_,_⟩; go_simp; try with_reducible rfl
    try simp only [pL]
    refine tkH 23 (some 44) rfl rfl ?_ hS ?_ ?_; rotate_left; · rintro W' ⟨_,_,_,_,_,_,_⟩; go_simp; try with_reducible rfl
    try simp only [pL]
    refine tkH 24 (some 45) rfl rfl ?_ hS ?_ ?_; rotate_left; · rintro W' ⟨_,_,_,_,_,_,_⟩; go_simp; try with_reducible rfl
    try simp only [pL]
    refine tuH 25 (some 46) rfl rfl hS ?_
    try simp only [pL]
    refine tuH 26 (some 47) rfl rfl hS ?_
    try simp only [pL]
    refine tuH 27 (some 48) rfl rfl hS ?_
    try simp only [pL]
    refine tuH 28 (some 49) rfl rfl hS ?_
    try simp only [pL]
    refine tkH 29 (some 50) rfl rfl ?_ hS ?_ ?_; rotate_left; · rintro W' ⟨_,_,_,_,_,_,_⟩; go_simp; try with_reducible rfl
    try simp only [pL]
    refine tkH 30 (some 51) rfl rfl ?_ hS ?_ ?_; rotate_left; · rintro W' ⟨_,_,_,_,_,_,_⟩; go_simp; try with_reducible rfl
    try simp only [pL]
    refine tuH 31 (some 52) rfl rfl hS ?_
    try simp only [pL]
    refine tuH 32 (some 53) rfl rfl hS ?_
    try simp only [pL]
    refine tuH 33 (some 54) rfl rfl hS ?_
    try simp only [pL]
    refine tuH 34 (some 55) rfl rfl hS ?_
    try simp only [pL]
    refine tuH 35 (some 56) rfl rfl hS ?_
    try simp only [pL]
    refine tkH 36 (some 57) rfl rfl ?_ hS ?_ ?_; rotate_left; · rintro W' ⟨_,_,_,_,_,_,_⟩; go_simp; try with_reducible rfl
    try simp only [pL]
    refine tkH 37 (some 58) rfl rfl ?_ hS ?_ ?_; rotate_left; · rintro W' ⟨_,_,_,_,_,_,_⟩; go_simp; try with_reducible rfl
    try simp only [pL]
    refine tuH 38 (some 59) rfl rfl hS ?_
    try simp only [pL]
    refine tuH 39 (some 60) rfl rfl hS ?_
    try simp only [pL]
    refine tuH 40 (some 61) rfl rfl hS ?_
    try simp only [pL]
    refine tuH 41 (some 62) rfl rfl hS ?_
    try simp only [pL]
    refine tuH 42 (some 63) rfl rfl hS ?_
    try simp only [pL]
    refine tuH 43 (some 64) rfl rfl hS ?_
    try simp only [pL]
    refine tuH 44 (some 65) rfl rfl hS ?_
    try simp only [pL]
    refine tuH 45 (some 66) rfl rfl hS ?_
    try simp only [pL]
    refine tuH 46 (some 67) rfl rfl hS ?_
    try simp only [pL]
    refine tuH 47 (some 68) rfl rfl hS ?_
    try simp only [pL]
    refine tuH 48 (some 69) rfl rfl hS ?_
    try simp only [pL]
    refine tuH 49 (some 70) rfl rfl hS ?_
    try simp only [pL]
    refine tuH 50 (some 71) rfl rfl hS ?_
    try simp only [pL]
    refine tuH 51 (some 72) rfl rfl hS ?_
    try simp only [pL]
    refine tkH 52 (some 73) rfl rfl ?_ hS ?_ ?_; rotate_left; · rintro W' ⟨_,_,_,_,_,_,_⟩; go_simp; try with_reducible rfl
    try simp only [pL]
    refine wpAnyH_done (by kernel_rfl) ?_ _
    go_wp2
    go_ret
    exact ⟨ret_bool Hf.out.symm, Mod.ext hF1 hS.1⟩
   have hk' : decide (x.reply.code < 0) = false := decide_eq_false hk
   by_cases hm : 16 < x.reply.code
   case pos =>
    have hm' : decide (16 < x.reply.code) = true := decide_eq_true hm
    have Hf : Hid (machB ⟨p, l⟩ = false) := Lib.hid (machB_no (sess_bad Hx.out (by unfold sessOk; rw [show decide (x.reply.code ≤ 16) = false from decide_eq_false (by omega)]; simp)))
    clear hm
    refine wp_region_held_drew (S := (fun W' => Ext w1 W' ∧ W'.cell? ⟨wr.heap.size, 0, none⟩ = some (.int .i64 x.client) ∧ W'.cell? ⟨wr.heap.size, 1, none⟩ = some (.int .i64 x.seq) ∧ W'.cell? ⟨wr.heap.size, 2, none⟩ = some (.int .i64 x.reply.code) ∧ W'.cell? ⟨wr.heap.size, 3, none⟩ = some (.int .i64 x.reply.val.kind) ∧ W'.cell? ⟨wr.heap.size, 4, none⟩ = some (.float .f64 x.reply.val.num) ∧ W'.cell? ⟨wr.heap.size, 5, none⟩ = some (.string x.reply.val.text))) (by kernel_rfl) ⟨hF.drew, b0, b1, b2, b3, b4, b5⟩ (fun hS => ?_)
    refine tkH 0 (some 21) rfl rfl ?_ hS ?_ ?_; rotate_left; · rintro W' ⟨_,_,_,_,_,_,_⟩; go_simp; try with_reducible rfl
    try simp only [pL]
    refine tkH 1 (some 22) rfl rfl ?_ hS ?_ ?_; rotate_left; · rintro W' ⟨_,_,_,_,_,_,_⟩; go_simp; try with_reducible rfl
    try simp only [pL]
    refine tkH 2 (some 23) rfl rfl ?_ hS ?_ ?_; rotate_left; · rintro W' ⟨_,_,_,_,_,_,_⟩; go_simp; try with_reducible rfl
    try simp only [pL]
    refine tkH 3 (some 24) rfl rfl ?_ hS ?_ ?_; rotate_left; · rintro W' ⟨_,_,_,_,_,_,_⟩; go_simp; try with_reducible rfl
    try simp only [pL]
    refine tkH 4 (some 25) rfl rfl ?_ hS ?_ ?_; rotate_left; · rintro W' ⟨_,_,_,_,_,_,_⟩; go_simp; try with_reducible rfl
    try simp only [pL]
    refine tkH 5 (some 26) rfl rfl ?_ hS ?_ ?_; rotate_left; · rintro W' ⟨_,_,_,_,_,_,_⟩; go_simp; try with_reducible rfl
    try simp only [pL]
    refine tkH 6 (some 27) rfl rfl ?_ hS ?_ ?_; rotate_left; · rintro W' ⟨_,_,_,_,_,_,_⟩; go_simp; try with_reducible rfl
    try simp only [pL]
    refine tkH 7 (some 28) rfl rfl ?_ hS ?_ ?_; rotate_left; · rintro W' ⟨_,_,_,_,_,_,_⟩; go_simp; try with_reducible rfl
    try simp only [pL]
    refine tkH 8 (some 29) rfl rfl ?_ hS ?_ ?_; rotate_left; · rintro W' ⟨_,_,_,_,_,_,_⟩; go_simp; try with_reducible rfl
    try simp only [pL]
    refine tkH 9 (some 30) rfl rfl ?_ hS ?_ ?_; rotate_left; · rintro W' ⟨_,_,_,_,_,_,_⟩; go_simp; try with_reducible rfl
    try simp only [pL]
    refine tkH 10 (some 31) rfl rfl ?_ hS ?_ ?_; rotate_left; · rintro W' ⟨_,_,_,_,_,_,_⟩; go_simp; try with_reducible rfl
    try simp only [pL]
    refine tkH 11 (some 32) rfl rfl ?_ hS ?_ ?_; rotate_left; · rintro W' ⟨_,_,_,_,_,_,_⟩; go_simp; try with_reducible rfl
    try simp only [pL]
    refine tkH 12 (some 33) rfl rfl ?_ hS ?_ ?_; rotate_left; · rintro W' ⟨_,_,_,_,_,_,_⟩; go_simp; try with_reducible rfl
    try simp only [pL]
    refine tkH 13 (some 34) rfl rfl ?_ hS ?_ ?_; rotate_left; · rintro W' ⟨_,_,_,_,_,_,_⟩; go_simp; try with_reducible rfl
    try simp only [pL]
    refine tkH 14 (some 35) rfl rfl ?_ hS ?_ ?_; rotate_left; · rintro W' ⟨_,_,_,_,_,_,_⟩; go_simp; try with_reducible rfl
    try simp only [pL]
    refine tkH 15 (some 36) rfl rfl ?_ hS ?_ ?_; rotate_left; · rintro W' ⟨_,_,_,_,_,_,_⟩; go_simp; try with_reducible rfl
    try simp only [pL]
    refine tkH 16 (some 37) rfl rfl ?_ hS ?_ ?_; rotate_left; · rintro W' ⟨_,_,_,_,_,_,_⟩; go_simp; try with_reducible rfl
    try simp only [pL]
    refine tkH 17 (some 38) rfl rfl ?_ hS ?_ ?_; rotate_left; · rintro W' ⟨_,_,_,_,_,_,_⟩; go_simp; try with_reducible rfl
    try simp only [pL]
    refine tkH 18 (some 39) rfl rfl ?_ hS ?_ ?_; rotate_left; · rintro W' ⟨_,_,_,_,_,_,_⟩; go_simp; try with_reducible rfl
    try simp only [pL]
    refine tkH 19 (some 40) rfl rfl ?_ hS ?_ ?_; rotate_left; · rintro W' ⟨_,_,_,_,_,_,_⟩; go_simp; try with_reducible rfl
    try simp only [pL]
    refine tkH 20 (some 41) rfl rfl ?_ hS ?_ ?_; rotate_left; · rintro W' ⟨_,_,_,_,_,_,_⟩; go_simp; try with_reducible rfl
    try simp only [pL]
    refine tkH 21 (some 42) rfl rfl ?_ hS ?_ ?_; rotate_left; · rintro W' ⟨_,_,_,_,_,_,_⟩; go_simp; try with_reducible rfl
    try simp only [pL]
    refine tkH 22 (some 43) rfl rfl ?_ hS ?_ ?_; rotate_left; · rintro W' ⟨_,_,_,_,_,_,_⟩; go_simp; try with_reducible rfl
    try simp only [pL]
    refine tkH 23 (some 44) rfl rfl ?_ hS ?_ ?_; rotate_left; · rintro W' ⟨_,_,_,_,_,_,_⟩; go_simp; try with_reducible rfl
    try simp only [pL]
    refine tkH 24 (some 45) rfl rfl ?_ hS ?_ ?_; rotate_left; · rintro W' ⟨_,_,_,_,_,_,_⟩; go_simp; try with_reducible rfl
    try simp only [pL]
    refine tkH 25 (some 46) rfl rfl ?_ hS ?_ ?_; rotate_left; · rintro W' ⟨_,_,_,_,_,_,_⟩; go_simp; try with_reducible rfl
    try simp only [pL]
    refine tkH 26 (some 47) rfl rfl ?_ hS ?_ ?_; rotate_left; · rintro W' ⟨_,_,_,_,_,_,_⟩; go_simp; try with_reducible rfl
    try simp only [pL]
    refine tkH 27 (some 48) rfl rfl ?_ hS ?_ ?_; rotate_left; · rintro W' ⟨_,_,_,_,_,_,_⟩; go_simp; try with_reducible rfl
    try simp only [pL]
    refine tkH 28 (some 49) rfl rfl ?_ hS ?_ ?_; rotate_left; · rintro W' ⟨_,_,_,_,_,_,_⟩; go_simp; try with_reducible rfl
    try simp only [pL]
    refine tkH 29 (some 50) rfl rfl ?_ hS ?_ ?_; rotate_left; · rintro W' ⟨_,_,_,_,_,_,_⟩; go_simp; try with_reducible rfl
    try simp only [pL]
    refine tkH 30 (some 51) rfl rfl ?_ hS ?_ ?_; rotate_left; · rintro W' ⟨_,_,_,_,_,_,_⟩; go_simp; try with_reducible rfl
    try simp only [pL]
    refine tuH 31 (some 52) rfl rfl hS ?_
    try simp only [pL]
    refine tuH 32 (some 53) rfl rfl hS ?_
    try simp only [pL]
    refine tuH 33 (some 54) rfl rfl hS ?_
    try simp only [pL]
    refine tuH 34 (some 55) rfl rfl hS ?_
    try simp only [pL]
    refine tuH 35 (some 56) rfl rfl hS ?_
    try simp only [pL]
    refine tkH 36 (some 57) rfl rfl ?_ hS ?_ ?_; rotate_left; · rintro W' ⟨_,_,_,_,_,_,_⟩; go_simp; try with_reducible rfl
    try simp only [pL]
    refine tkH 37 (some 58) rfl rfl ?_ hS ?_ ?_; rotate_left; · rintro W' ⟨_,_,_,_,_,_,_⟩; go_simp; try with_reducible rfl
    try simp only [pL]
    refine tuH 38 (some 59) rfl rfl hS ?_
    try simp only [pL]
    refine tuH 39 (some 60) rfl rfl hS ?_
    try simp only [pL]
    refine tuH 40 (some 61) rfl rfl hS ?_
    try simp only [pL]
    refine tuH 41 (some 62) rfl rfl hS ?_
    try simp only [pL]
    refine tuH 42 (some 63) rfl rfl hS ?_
    try simp only [pL]
    refine tuH 43 (some 64) rfl rfl hS ?_
    try simp only [pL]
    refine tuH 44 (some 65) rfl rfl hS ?_
    try simp only [pL]
    refine tuH 45 (some 66) rfl rfl hS ?_
    try simp only [pL]
    refine tuH 46 (some 67) rfl rfl hS ?_
    try simp only [pL]
    refine tuH 47 (some 68) rfl rfl hS ?_
    try simp only [pL]
    refine tuH 48 (some 69) rfl rfl hS ?_
    try simp only [pL]
    refine tuH 49 (some 70) rfl rfl hS ?_
    try simp only [pL]
    refine tuH 50 (some 71) rfl rfl hS ?_
    try simp only [pL]
    refine tuH 51 (some 72) rfl rfl hS ?_
    try simp only [pL]
    refine tkH 52 (some 73) rfl rfl ?_ hS ?_ ?_; rotate_left; · rintro W' ⟨_,_,_,_,_,_,_⟩; go_simp; try with_reducible rfl
    try simp only [pL]
    refine wpAnyH_done (by kernel_rfl) ?_ _
    go_wp2
    go_ret
    exact ⟨ret_bool Hf.out.symm, Mod.ext hF1 hS.1⟩
   have hm' : decide (16 < x.reply.code) = false := decide_eq_false hm
   by_cases hc : chk x.reply.val = 0
   case neg =>
    have hc' : (chk x.reply.val != 0) = true := by simpa using hc
    have Hf : Hid (machB ⟨p, l⟩ = false) := Lib.hid (machB_no (sess_bad Hx.out (by unfold sessOk; rw [show (chk x.reply.val == 0) = false from by simpa using hc]; simp)))
    clear hc h1 h2 h3 h4 hk hm
    refine wp_region_held_drew (S := (fun W' => Ext w1 W' ∧ W'.cell? ⟨wr.heap.size, 0, none⟩ = some (.int .i64 x.client) ∧ W'.cell? ⟨wr.heap.size, 1, none⟩ = some (.int .i64 x.seq) ∧ W'.cell? ⟨wr.heap.size, 2, none⟩ = some (.int .i64 x.reply.code) ∧ W'.cell? ⟨wr.heap.size, 3, none⟩ = some (.int .i64 x.reply.val.kind) ∧ W'.cell? ⟨wr.heap.size, 4, none⟩ = some (.float .f64 x.reply.val.num) ∧ W'.cell? ⟨wr.heap.size, 5, none⟩ = some (.string x.reply.val.text))) (by kernel_rfl) ⟨hF.drew, b0, b1, b2, b3, b4, b5⟩ (fun hS => ?_)
    refine tkH 0 (some 21) rfl rfl ?_ hS ?_ ?_; rotate_left; · rintro W' ⟨_,_,_,_,_,_,_⟩; go_simp; try with_reducible rfl
    try simp only [pL]
    refine tkH 1 (some 22) rfl rfl ?_ hS ?_ ?_; rotate_left; · rintro W' ⟨_,_,_,_,_,_,_⟩; go_simp; try with_reducible rfl
    try simp only [pL]
    refine tkH 2 (some 23) rfl rfl ?_ hS ?_ ?_; rotate_left; · rintro W' ⟨_,_,_,_,_,_,_⟩; go_simp; try with_reducible rfl
    try simp only [pL]
    refine tkH 3 (some 24) rfl rfl ?_ hS ?_ ?_; rotate_left; · rintro W' ⟨_,_,_,_,_,_,_⟩; go_simp; try with_reducible rfl
    try simp only [pL]
    refine tkH 4 (some 25) rfl rfl ?_ hS ?_ ?_; rotate_left; · rintro W' ⟨_,_,_,_,_,_,_⟩; go_simp; try with_reducible rfl
    try simp only [pL]
    refine tkH 5 (some 26) rfl rfl ?_ hS ?_ ?_; rotate_left; · rintro W' ⟨_,_,_,_,_,_,_⟩; go_simp; try with_reducible rfl
    try simp only [pL]
    refine tkH 6 (some 27) rfl rfl ?_ hS ?_ ?_; rotate_left; · rintro W' ⟨_,_,_,_,_,_,_⟩; go_simp; try with_reducible rfl
    try simp only [pL]
    refine tkH 7 (some 28) rfl rfl ?_ hS ?_ ?_; rotate_left; · rintro W' ⟨_,_,_,_,_,_,_⟩; go_simp; try with_reducible rfl
    try simp only [pL]
    refine tkH 8 (some 29) rfl rfl ?_ hS ?_ ?_; rotate_left; · rintro W' ⟨_,_,_,_,_,_,_⟩; go_simp; try with_reducible rfl
    try simp only [pL]
    refine tkH 9 (some 30) rfl rfl ?_ hS ?_ ?_; rotate_left; · rintro W' ⟨_,_,_,_,_,_,_⟩; go_simp; try with_reducible rfl
    try simp only [pL]
    refine tkH 10 (some 31) rfl rfl ?_ hS ?_ ?_; rotate_left; · rintro W' ⟨_,_,_,_,_,_,_⟩; go_simp; try with_reducible rfl
    try simp only [pL]
    refine tkH 11 (some 32) rfl rfl ?_ hS ?_ ?_; rotate_left; · rintro W' ⟨_,_,_,_,_,_,_⟩; go_simp; try with_reducible rfl
    try simp only [pL]
    refine tkH 12 (some 33) rfl rfl ?_ hS ?_ ?_; rotate_left; · rintro W' ⟨_,_,_,_,_,_,_⟩; go_simp; try with_reducible rfl
    try simp only [pL]
    refine tkH 13 (some 34) rfl rfl ?_ hS ?_ ?_; rotate_left; · rintro W' ⟨_,_,_,_,_,_,_⟩; go_simp; try with_reducible rfl
    try simp only [pL]
    refine tkH 14 (some 35) rfl rfl ?_ hS ?_ ?_; rotate_left; · rintro W' ⟨_,_,_,_,_,_,_⟩; go_simp; try with_reducible rfl
    try simp only [pL]
    refine tkH 15 (some 36) rfl rfl ?_ hS ?_ ?_; rotate_left; · rintro W' ⟨_,_,_,_,_,_,_⟩; go_simp; try with_reducible rfl
    try simp only [pL]
    refine tkH 16 (some 37) rfl rfl ?_ hS ?_ ?_; rotate_left; · rintro W' ⟨_,_,_,_,_,_,_⟩; go_simp; try with_reducible rfl
    try simp only [pL]
    refine tkH 17 (some 38) rfl rfl ?_ hS ?_ ?_; rotate_left; · rintro W' ⟨_,_,_,_,_,_,_⟩; go_simp; try with_reducible rfl
    try simp only [pL]
    refine tkH 18 (some 39) rfl rfl ?_ hS ?_ ?_; rotate_left; · rintro W' ⟨_,_,_,_,_,_,_⟩; go_simp; try with_reducible rfl
    try simp only [pL]
    refine tkH 19 (some 40) rfl rfl ?_ hS ?_ ?_; rotate_left; · rintro W' ⟨_,_,_,_,_,_,_⟩; go_simp; try with_reducible rfl
    try simp only [pL]
    refine tkH 20 (some 41) rfl rfl ?_ hS ?_ ?_; rotate_left; · rintro W' ⟨_,_,_,_,_,_,_⟩; go_simp; try with_reducible rfl
    try simp only [pL]
    refine tkH 21 (some 42) rfl rfl ?_ hS ?_ ?_; rotate_left; · rintro W' ⟨_,_,_,_,_,_,_⟩; go_simp; try with_reducible rfl
    try simp only [pL]
    refine tkH 22 (some 43) rfl rfl ?_ hS ?_ ?_; rotate_left; · rintro W' ⟨_,_,_,_,_,_,_⟩; go_simp; try with_reducible rfl
    try simp only [pL]
    refine tkH 23 (some 44) rfl rfl ?_ hS ?_ ?_; rotate_left; · rintro W' ⟨_,_,_,_,_,_,_⟩; go_simp; try with_reducible rfl
    try simp only [pL]
    refine tkH 24 (some 45) rfl rfl ?_ hS ?_ ?_; rotate_left; · rintro W' ⟨_,_,_,_,_,_,_⟩; go_simp; try with_reducible rfl
    try simp only [pL]
    refine tkH 25 (some 46) rfl rfl ?_ hS ?_ ?_; rotate_left; · rintro W' ⟨_,_,_,_,_,_,_⟩; go_simp; try with_reducible rfl
    try simp only [pL]
    refine tkH 26 (some 47) rfl rfl ?_ hS ?_ ?_; rotate_left; · rintro W' ⟨_,_,_,_,_,_,_⟩; go_simp; try with_reducible rfl
    try simp only [pL]
    refine tkH 27 (some 48) rfl rfl ?_ hS ?_ ?_; rotate_left; · rintro W' ⟨_,_,_,_,_,_,_⟩; go_simp; try with_reducible rfl
    try simp only [pL]
    refine tkH 28 (some 49) rfl rfl ?_ hS ?_ ?_; rotate_left; · rintro W' ⟨_,_,_,_,_,_,_⟩; go_simp; try with_reducible rfl
    try simp only [pL]
    refine tkH 29 (some 50) rfl rfl ?_ hS ?_ ?_; rotate_left; · rintro W' ⟨_,_,_,_,_,_,_⟩; go_simp; try with_reducible rfl
    try simp only [pL]
    refine tkH 30 (some 51) rfl rfl ?_ hS ?_ ?_; rotate_left; · rintro W' ⟨_,_,_,_,_,_,_⟩; go_simp; try with_reducible rfl
    try simp only [pL]
    refine tkH 31 (some 52) rfl rfl ?_ hS ?_ ?_; rotate_left; · rintro W' ⟨_,_,_,_,_,_,_⟩; go_simp; try with_reducible rfl
    try simp only [pL]
    refine tkH 32 (some 53) rfl rfl ?_ hS ?_ ?_; rotate_left; · rintro W' ⟨_,_,_,_,_,_,_⟩; go_simp; try with_reducible rfl
    try simp only [pL]
    refine tkH 33 (some 54) rfl rfl ?_ hS ?_ ?_; rotate_left; · rintro W' ⟨_,_,_,_,_,_,_⟩; go_simp; try with_reducible rfl
    try simp only [pL]
    refine wpAnyH_ready (rs := [34]) (by kernel_rfl) (by simp) ?_
    refine AllReadyH.cons rfl (fun K hK => ?_) AllReadyH.nil
    go_simp
    go_wp2_with fail
    refine (r_check x.reply.val _).mono ?_
    rintro e w1' ⟨rfl, hE1⟩
    have hX := (⟨Mod.ext hS.1 hE1, hE1.cell hS.2.1 id, hE1.cell hS.2.2.1 id, hE1.cell hS.2.2.2.1 id, hE1.cell hS.2.2.2.2.1 id, hE1.cell hS.2.2.2.2.2.1 id, hE1.cell hS.2.2.2.2.2.2 id⟩ : Ext w1 w1' ∧ _ ∧ _ ∧ _ ∧ _ ∧ _ ∧ _)
    go_simp
    refine hK.out _ _ hX (fun hS => ?_)
    clear hK K
    refine tkH 35 (some 56) rfl rfl ?_ hS ?_ ?_; rotate_left; · rintro W' ⟨_,_,_,_,_,_,_⟩; go_simp; try with_reducible rfl
    try simp only [pL]
    refine tkH 36 (some 57) rfl rfl ?_ hS ?_ ?_; rotate_left; · rintro W' ⟨_,_,_,_,_,_,_⟩; go_simp; try with_reducible rfl
    try simp only [pL]
    refine tkH 37 (some 58) rfl rfl ?_ hS ?_ ?_; rotate_left; · rintro W' ⟨_,_,_,_,_,_,_⟩; go_simp; try with_reducible rfl
    try simp only [pL]
    refine tuH 38 (some 59) rfl rfl hS ?_
    try simp only [pL]
    refine tuH 39 (some 60) rfl rfl hS ?_
    try simp only [pL]
    refine tuH 40 (some 61) rfl rfl hS ?_
    try simp only [pL]
    refine tuH 41 (some 62) rfl rfl hS ?_
    try simp only [pL]
    refine tuH 42 (some 63) rfl rfl hS ?_
    try simp only [pL]
    refine tuH 43 (some 64) rfl rfl hS ?_
    try simp only [pL]
    refine tuH 44 (some 65) rfl rfl hS ?_
    try simp only [pL]
    refine tuH 45 (some 66) rfl rfl hS ?_
    try simp only [pL]
    refine tuH 46 (some 67) rfl rfl hS ?_
    try simp only [pL]
    refine tuH 47 (some 68) rfl rfl hS ?_
    try simp only [pL]
    refine tuH 48 (some 69) rfl rfl hS ?_
    try simp only [pL]
    refine tuH 49 (some 70) rfl rfl hS ?_
    try simp only [pL]
    refine tuH 50 (some 71) rfl rfl hS ?_
    try simp only [pL]
    refine tuH 51 (some 72) rfl rfl hS ?_
    try simp only [pL]
    refine tkH 52 (some 73) rfl rfl ?_ hS ?_ ?_; rotate_left; · rintro W' ⟨_,_,_,_,_,_,_⟩; go_simp; try with_reducible rfl
    try simp only [pL]
    refine wpAnyH_done (by kernel_rfl) ?_ _
    go_wp2
    go_ret
    exact ⟨ret_bool Hf.out.symm, Mod.ext hF1 hS.1⟩
   have hc' : (chk x.reply.val != 0) = false := by simpa using hc
   have Hok : Hid (sessOk x = true) := Lib.hid (by unfold sessOk; rw [show numB x.client x.seq = true from by unfold numB; rw [decide_eq_true (show 1 ≤ x.client by omega), decide_eq_true (show x.client ≤ 4 by omega), decide_eq_true (show 1 ≤ x.seq by omega), decide_eq_true (show x.seq ≤ 1099511627776 by omega)]; rfl, hc, show decide (0 ≤ x.reply.code) = true from decide_eq_true (by omega), show decide (x.reply.code ≤ 16) = true from decide_eq_true (by omega)]; rfl)
   clear hc h1 h2 h3 h4 hk hm
   rcases i with _ | k
   ·
    have Hst := Lib.hid (Hg.out.step Hx.out Hok.out (fun k p e => by omega))
    have z0 : decide ((0 : Int) < ((0 : Nat) : Int)) = false := by simp
    refine wp_region_held_drew (S := (fun W' => Ext w1 W' ∧ W'.cell? ⟨wr.heap.size, 0, none⟩ = some (.int .i64 x.client) ∧ W'.cell? ⟨wr.heap.size, 1, none⟩ = some (.int .i64 x.seq) ∧ W'.cell? ⟨wr.heap.size, 2, none⟩ = some (.int .i64 x.reply.code) ∧ W'.cell? ⟨wr.heap.size, 3, none⟩ = some (.int .i64 x.reply.val.kind) ∧ W'.cell? ⟨wr.heap.size, 4, none⟩ = some (.float .f64 x.reply.val.num) ∧ W'.cell? ⟨wr.heap.size, 5, none⟩ = some (.string x.reply.val.text))) (by kernel_rfl) ⟨hF.drew, b0, b1, b2, b3, b4, b5⟩ (fun hS => ?_)
    refine tkH 0 (some 21) rfl rfl ?_ hS ?_ ?_; rotate_left; · rintro W' ⟨_,_,_,_,_,_,_⟩; go_simp; try with_reducible rfl
    try simp only [pL]
    refine tkH 1 (some 22) rfl rfl ?_ hS ?_ ?_; rotate_left; · rintro W' ⟨_,_,_,_,_,_,_⟩; go_simp; try with_reducible rfl
    try simp only [pL]
    refine tkH 2 (some 23) rfl rfl ?_ hS ?_ ?_; rotate_left; · rintro W' ⟨_,_,_,_,_,_,_⟩; go_simp; try with_reducible rfl
    try simp only [pL]
    refine tkH 3 (some 24) rfl rfl ?_ hS ?_ ?_; rotate_left; · rintro W' ⟨_,_,_,_,_,_,_⟩; go_simp; try with_reducible rfl
    try simp only [pL]
    refine tkH 4 (some 25) rfl rfl ?_ hS ?_ ?_; rotate_left; · rintro W' ⟨_,_,_,_,_,_,_⟩; go_simp; try with_reducible rfl
    try simp only [pL]
    refine tkH 5 (some 26) rfl rfl ?_ hS ?_ ?_; rotate_left; · rintro W' ⟨_,_,_,_,_,_,_⟩; go_simp; try with_reducible rfl
    try simp only [pL]
    refine tkH 6 (some 27) rfl rfl ?_ hS ?_ ?_; rotate_left; · rintro W' ⟨_,_,_,_,_,_,_⟩; go_simp; try with_reducible rfl
    try simp only [pL]
    refine tkH 7 (some 28) rfl rfl ?_ hS ?_ ?_; rotate_left; · rintro W' ⟨_,_,_,_,_,_,_⟩; go_simp; try with_reducible rfl
    try simp only [pL]
    refine tkH 8 (some 29) rfl rfl ?_ hS ?_ ?_; rotate_left; · rintro W' ⟨_,_,_,_,_,_,_⟩; go_simp; try with_reducible rfl
    try simp only [pL]
    refine tkH 9 (some 30) rfl rfl ?_ hS ?_ ?_; rotate_left; · rintro W' ⟨_,_,_,_,_,_,_⟩; go_simp; try with_reducible rfl
    try simp only [pL]
    refine tkH 10 (some 31) rfl rfl ?_ hS ?_ ?_; rotate_left; · rintro W' ⟨_,_,_,_,_,_,_⟩; go_simp; try with_reducible rfl
    try simp only [pL]
    refine tkH 11 (some 32) rfl rfl ?_ hS ?_ ?_; rotate_left; · rintro W' ⟨_,_,_,_,_,_,_⟩; go_simp; try with_reducible rfl
    try simp only [pL]
    refine tkH 12 (some 33) rfl rfl ?_ hS ?_ ?_; rotate_left; · rintro W' ⟨_,_,_,_,_,_,_⟩; go_simp; try with_reducible rfl
    try simp only [pL]
    refine tkH 13 (some 34) rfl rfl ?_ hS ?_ ?_; rotate_left; · rintro W' ⟨_,_,_,_,_,_,_⟩; go_simp; try with_reducible rfl
    try simp only [pL]
    refine tkH 14 (some 35) rfl rfl ?_ hS ?_ ?_; rotate_left; · rintro W' ⟨_,_,_,_,_,_,_⟩; go_simp; try with_reducible rfl
    try simp only [pL]
    refine tkH 15 (some 36) rfl rfl ?_ hS ?_ ?_; rotate_left; · rintro W' ⟨_,_,_,_,_,_,_⟩; go_simp; try with_reducible rfl
    try simp only [pL]
    refine tkH 16 (some 37) rfl rfl ?_ hS ?_ ?_; rotate_left; · rintro W' ⟨_,_,_,_,_,_,_⟩; go_simp; try with_reducible rfl
    try simp only [pL]
    refine tkH 17 (some 38) rfl rfl ?_ hS ?_ ?_; rotate_left; · rintro W' ⟨_,_,_,_,_,_,_⟩; go_simp; try with_reducible rfl
    try simp only [pL]
    refine tkH 18 (some 39) rfl rfl ?_ hS ?_ ?_; rotate_left; · rintro W' ⟨_,_,_,_,_,_,_⟩; go_simp; try with_reducible rfl
    try simp only [pL]
    refine tkH 19 (some 40) rfl rfl ?_ hS ?_ ?_; rotate_left; · rintro W' ⟨_,_,_,_,_,_,_⟩; go_simp; try with_reducible rfl
    try simp only [pL]
    refine tkH 20 (some 41) rfl rfl ?_ hS ?_ ?_; rotate_left; · rintro W' ⟨_,_,_,_,_,_,_⟩; go_simp; try with_reducible rfl
    try simp only [pL]
    refine tkH 21 (some 42) rfl rfl ?_ hS ?_ ?_; rotate_left; · rintro W' ⟨_,_,_,_,_,_,_⟩; go_simp; try with_reducible rfl
    try simp only [pL]
    refine tkH 22 (some 43) rfl rfl ?_ hS ?_ ?_; rotate_left; · rintro W' ⟨_,_,_,_,_,_,_⟩; go_simp; try with_reducible rfl
    try simp only [pL]
    refine tkH 23 (some 44) rfl rfl ?_ hS ?_ ?_; rotate_left; · rintro W' ⟨_,_,_,_,_,_,_⟩; go_simp; try with_reducible rfl
    try simp only [pL]
    refine tkH 24 (some 45) rfl rfl ?_ hS ?_ ?_; rotate_left; · rintro W' ⟨_,_,_,_,_,_,_⟩; go_simp; try with_reducible rfl
    try simp only [pL]
    refine tkH 25 (some 46) rfl rfl ?_ hS ?_ ?_; rotate_left; · rintro W' ⟨_,_,_,_,_,_,_⟩; go_simp; try with_reducible rfl
    try simp only [pL]
    refine tkH 26 (some 47) rfl rfl ?_ hS ?_ ?_; rotate_left; · rintro W' ⟨_,_,_,_,_,_,_⟩; go_simp; try with_reducible rfl
    try simp only [pL]
    refine tkH 27 (some 48) rfl rfl ?_ hS ?_ ?_; rotate_left; · rintro W' ⟨_,_,_,_,_,_,_⟩; go_simp; try with_reducible rfl
    try simp only [pL]
    refine tkH 28 (some 49) rfl rfl ?_ hS ?_ ?_; rotate_left; · rintro W' ⟨_,_,_,_,_,_,_⟩; go_simp; try with_reducible rfl
    try simp only [pL]
    refine tkH 29 (some 50) rfl rfl ?_ hS ?_ ?_; rotate_left; · rintro W' ⟨_,_,_,_,_,_,_⟩; go_simp; try with_reducible rfl
    try simp only [pL]
    refine tkH 30 (some 51) rfl rfl ?_ hS ?_ ?_; rotate_left; · rintro W' ⟨_,_,_,_,_,_,_⟩; go_simp; try with_reducible rfl
    try simp only [pL]
    refine tkH 31 (some 52) rfl rfl ?_ hS ?_ ?_; rotate_left; · rintro W' ⟨_,_,_,_,_,_,_⟩; go_simp; try with_reducible rfl
    try simp only [pL]
    refine tkH 32 (some 53) rfl rfl ?_ hS ?_ ?_; rotate_left; · rintro W' ⟨_,_,_,_,_,_,_⟩; go_simp; try with_reducible rfl
    try simp only [pL]
    refine tkH 33 (some 54) rfl rfl ?_ hS ?_ ?_; rotate_left; · rintro W' ⟨_,_,_,_,_,_,_⟩; go_simp; try with_reducible rfl
    try simp only [pL]
    refine wpAnyH_ready (rs := [34]) (by kernel_rfl) (by simp) ?_
    refine AllReadyH.cons rfl (fun K hK => ?_) AllReadyH.nil
    go_simp
    go_wp2_with fail
    refine (r_check x.reply.val _).mono ?_
    rintro e w1' ⟨rfl, hE1⟩
    have hX := (⟨Mod.ext hS.1 hE1, hE1.cell hS.2.1 id, hE1.cell hS.2.2.1 id, hE1.cell hS.2.2.2.1 id, hE1.cell hS.2.2.2.2.1 id, hE1.cell hS.2.2.2.2.2.1 id, hE1.cell hS.2.2.2.2.2.2 id⟩ : Ext w1 w1' ∧ _ ∧ _ ∧ _ ∧ _ ∧ _ ∧ _)
    go_simp
    refine hK.out _ _ hX (fun hS => ?_)
    clear hK K
    refine tkH 35 (some 56) rfl rfl ?_ hS ?_ ?_; rotate_left; · rintro W' ⟨_,_,_,_,_,_,_⟩; go_simp; try with_reducible rfl
    try simp only [pL]
    refine tkH 36 (some 57) rfl rfl ?_ hS ?_ ?_; rotate_left; · rintro W' ⟨_,_,_,_,_,_,_⟩; go_simp; try with_reducible rfl
    try simp only [pL]
    refine tkH 37 (some 58) rfl rfl ?_ hS ?_ ?_; rotate_left; · rintro W' ⟨_,_,_,_,_,_,_⟩; go_simp; try with_reducible rfl
    try simp only [pL]
    refine tkH 38 (some 59) rfl rfl ?_ hS ?_ ?_; rotate_left; · rintro W' ⟨_,_,_,_,_,_,_⟩; go_simp; try with_reducible rfl
    try simp only [pL]
    refine tkH 39 (some 60) rfl rfl ?_ hS ?_ ?_; rotate_left; · rintro W' ⟨_,_,_,_,_,_,_⟩; go_simp; try with_reducible rfl
    try simp only [pL]
    refine tkH 40 (some 61) rfl rfl ?_ hS ?_ ?_; rotate_left; · rintro W' ⟨_,_,_,_,_,_,_⟩; go_simp; try with_reducible rfl
    try simp only [pL]
    refine tuH 41 (some 62) rfl rfl hS ?_
    try simp only [pL]
    refine tuH 42 (some 63) rfl rfl hS ?_
    try simp only [pL]
    refine tuH 43 (some 64) rfl rfl hS ?_
    try simp only [pL]
    refine tuH 44 (some 65) rfl rfl hS ?_
    try simp only [pL]
    refine tuH 45 (some 66) rfl rfl hS ?_
    try simp only [pL]
    refine tuH 46 (some 67) rfl rfl hS ?_
    try simp only [pL]
    refine tuH 47 (some 68) rfl rfl hS ?_
    try simp only [pL]
    refine tuH 48 (some 69) rfl rfl hS ?_
    try simp only [pL]
    refine tuH 49 (some 70) rfl rfl hS ?_
    try simp only [pL]
    refine tuH 50 (some 71) rfl rfl hS ?_
    try simp only [pL]
    refine tkH 51 (some 72) rfl rfl ?_ hS ?_ ?_; rotate_left; · rintro W' ⟨_,_,_,_,_,_,_⟩; go_simp; try with_reducible rfl
    try simp only [pL]
    refine tkH 52 (some 73) rfl rfl ?_ hS ?_ ?_; rotate_left; · rintro W' ⟨_,_,_,_,_,_,_⟩; go_simp; try with_reducible rfl
    try simp only [pL]
    refine wpAnyH_done (by kernel_rfl) ?_ _
    go_wp2
    exact ⟨⟨0 + 1, by omega, by go_num, hS.1, Hst.out⟩, by simp [intOf]; omega⟩
   ·
    obtain ⟨g', off', p', hA, _, hp, _, hcells⟩ := H2.out.at (i := k) (by omega)
    injection hA with hA; injection hA with hA1 hA2; subst hA1; subst hA2
    have p0 := hEW.cell (hcells 0 _ rfl) id
    rw [Nat.add_zero] at p0
    have z0 : decide ((0 : Int) < ((k + 1 : Nat) : Int)) = true := by simp
    have z1 : ((k + 1 : Nat) : Int) - 1 = (k : Int) := by omega
    have z2 : (0 : Int) ≤ (k : Int) := by omega
    have z3 : (k : Int) < (n : Int) := by omega
    have z4 : IntKind.i64.wrap (k : Int) = (k : Int) := IntWalk.i64_in _ (by omega)
    have Hp := Lib.hid hp
    have Hrel : Hid (k + 1 ≤ n ∧ k + 1 < n) := Lib.hid ⟨by omega, by omega⟩
    clear hcells hp
    by_cases hlt : x.client ≤ p'.client
    ·
     have Hf : Hid (machB ⟨p, l⟩ = false) := Lib.hid (machB_no (sess_bad2 Hp.out Hx.out hlt))
     have hbl : decide (x.client ≤ p'.client) = true := decide_eq_true hlt
     clear hlt
     refine wp_region_held_drew (S := (fun W' => Ext w1 W' ∧ W'.cell? ⟨wr.heap.size, 0, none⟩ = some (.int .i64 x.client) ∧ W'.cell? ⟨wr.heap.size, 1, none⟩ = some (.int .i64 x.seq) ∧ W'.cell? ⟨wr.heap.size, 2, none⟩ = some (.int .i64 x.reply.code) ∧ W'.cell? ⟨wr.heap.size, 3, none⟩ = some (.int .i64 x.reply.val.kind) ∧ W'.cell? ⟨wr.heap.size, 4, none⟩ = some (.float .f64 x.reply.val.num) ∧ W'.cell? ⟨wr.heap.size, 5, none⟩ = some (.string x.reply.val.text) ∧ W'.cell? ⟨w.heap.size, 1, none⟩ = some (.slice (some ⟨g, off, none⟩) n c) ∧ W'.cell? ⟨g, off + k * 6, none⟩ = some (.int .i64 p'.client))) (by kernel_rfl) ⟨hF.drew, b0, b1, b2, b3, b4, b5, hq, p0⟩ (fun hS => ?_)
     refine tkH 0 (some 21) rfl rfl ?_ hS ?_ ?_; rotate_left; · rintro W' ⟨_,_,_,_,_,_,_,_,_⟩; go_simp; try with_reducible rfl
     try simp only [pL]
     refine tkH 1 (some 22) rfl rfl ?_ hS ?_ ?_; rotate_left; · rintro W' ⟨_,_,_,_,_,_,_,_,_⟩; go_simp; try with_reducible rfl
     try simp only [pL]
     refine tkH 2 (some 23) rfl rfl ?_ hS ?_ ?_; rotate_left; · rintro W' ⟨_,_,_,_,_,_,_,_,_⟩; go_simp; try with_reducible rfl
     try simp only [pL]
     refine tkH 3 (some 24) rfl rfl ?_ hS ?_ ?_; rotate_left; · rintro W' ⟨_,_,_,_,_,_,_,_,_⟩; go_simp; try with_reducible rfl
     try simp only [pL]
     refine tkH 4 (some 25) rfl rfl ?_ hS ?_ ?_; rotate_left; · rintro W' ⟨_,_,_,_,_,_,_,_,_⟩; go_simp; try with_reducible rfl
     try simp only [pL]
     refine tkH 5 (some 26) rfl rfl ?_ hS ?_ ?_; rotate_left; · rintro W' ⟨_,_,_,_,_,_,_,_,_⟩; go_simp; try with_reducible rfl
     try simp only [pL]
     refine tkH 6 (some 27) rfl rfl ?_ hS ?_ ?_; rotate_left; · rintro W' ⟨_,_,_,_,_,_,_,_,_⟩; go_simp; try with_reducible rfl
     try simp only [pL]
     refine tkH 7 (some 28) rfl rfl ?_ hS ?_ ?_; rotate_left; · rintro W' ⟨_,_,_,_,_,_,_,_,_⟩; go_simp; try with_reducible rfl
     try simp only [pL]
     refine tkH 8 (some 29) rfl rfl ?_ hS ?_ ?_; rotate_left; · rintro W' ⟨_,_,_,_,_,_,_,_,_⟩; go_simp; try with_reducible rfl
     try simp only [pL]
     refine tkH 9 (some 30) rfl rfl ?_ hS ?_ ?_; rotate_left; · rintro W' ⟨_,_,_,_,_,_,_,_,_⟩; go_simp; try with_reducible rfl
     try simp only [pL]
     refine tkH 10 (some 31) rfl rfl ?_ hS ?_ ?_; rotate_left; · rintro W' ⟨_,_,_,_,_,_,_,_,_⟩; go_simp; try with_reducible rfl
     try simp only [pL]
     refine tkH 11 (some 32) rfl rfl ?_ hS ?_ ?_; rotate_left; · rintro W' ⟨_,_,_,_,_,_,_,_,_⟩; go_simp; try with_reducible rfl
     try simp only [pL]
     refine tkH 12 (some 33) rfl rfl ?_ hS ?_ ?_; rotate_left; · rintro W' ⟨_,_,_,_,_,_,_,_,_⟩; go_simp; try with_reducible rfl
     try simp only [pL]
     refine tkH 13 (some 34) rfl rfl ?_ hS ?_ ?_; rotate_left; · rintro W' ⟨_,_,_,_,_,_,_,_,_⟩; go_simp; try with_reducible rfl
     try simp only [pL]
     refine tkH 14 (some 35) rfl rfl ?_ hS ?_ ?_; rotate_left; · rintro W' ⟨_,_,_,_,_,_,_,_,_⟩; go_simp; try with_reducible rfl
     try simp only [pL]
     refine tkH 15 (some 36) rfl rfl ?_ hS ?_ ?_; rotate_left; · rintro W' ⟨_,_,_,_,_,_,_,_,_⟩; go_simp; try with_reducible rfl
     try simp only [pL]
     refine tkH 16 (some 37) rfl rfl ?_ hS ?_ ?_; rotate_left; · rintro W' ⟨_,_,_,_,_,_,_,_,_⟩; go_simp; try with_reducible rfl
     try simp only [pL]
     refine tkH 17 (some 38) rfl rfl ?_ hS ?_ ?_; rotate_left; · rintro W' ⟨_,_,_,_,_,_,_,_,_⟩; go_simp; try with_reducible rfl
     try simp only [pL]
     refine tkH 18 (some 39) rfl rfl ?_ hS ?_ ?_; rotate_left; · rintro W' ⟨_,_,_,_,_,_,_,_,_⟩; go_simp; try with_reducible rfl
     try simp only [pL]
     refine tkH 19 (some 40) rfl rfl ?_ hS ?_ ?_; rotate_left; · rintro W' ⟨_,_,_,_,_,_,_,_,_⟩; go_simp; try with_reducible rfl
     try simp only [pL]
     refine tkH 20 (some 41) rfl rfl ?_ hS ?_ ?_; rotate_left; · rintro W' ⟨_,_,_,_,_,_,_,_,_⟩; go_simp; try with_reducible rfl
     try simp only [pL]
     refine tkH 21 (some 42) rfl rfl ?_ hS ?_ ?_; rotate_left; · rintro W' ⟨_,_,_,_,_,_,_,_,_⟩; go_simp; try with_reducible rfl
     try simp only [pL]
     refine tkH 22 (some 43) rfl rfl ?_ hS ?_ ?_; rotate_left; · rintro W' ⟨_,_,_,_,_,_,_,_,_⟩; go_simp; try with_reducible rfl
     try simp only [pL]
     refine tkH 23 (some 44) rfl rfl ?_ hS ?_ ?_; rotate_left; · rintro W' ⟨_,_,_,_,_,_,_,_,_⟩; go_simp; try with_reducible rfl
     try simp only [pL]
     refine tkH 24 (some 45) rfl rfl ?_ hS ?_ ?_; rotate_left; · rintro W' ⟨_,_,_,_,_,_,_,_,_⟩; go_simp; try with_reducible rfl
     try simp only [pL]
     refine tkH 25 (some 46) rfl rfl ?_ hS ?_ ?_; rotate_left; · rintro W' ⟨_,_,_,_,_,_,_,_,_⟩; go_simp; try with_reducible rfl
     try simp only [pL]
     refine tkH 26 (some 47) rfl rfl ?_ hS ?_ ?_; rotate_left; · rintro W' ⟨_,_,_,_,_,_,_,_,_⟩; go_simp; try with_reducible rfl
     try simp only [pL]
     refine tkH 27 (some 48) rfl rfl ?_ hS ?_ ?_; rotate_left; · rintro W' ⟨_,_,_,_,_,_,_,_,_⟩; go_simp; try with_reducible rfl
     try simp only [pL]
     refine tkH 28 (some 49) rfl rfl ?_ hS ?_ ?_; rotate_left; · rintro W' ⟨_,_,_,_,_,_,_,_,_⟩; go_simp; try with_reducible rfl
     try simp only [pL]
     refine tkH 29 (some 50) rfl rfl ?_ hS ?_ ?_; rotate_left; · rintro W' ⟨_,_,_,_,_,_,_,_,_⟩; go_simp; try with_reducible rfl
     try simp only [pL]
     refine tkH 30 (some 51) rfl rfl ?_ hS ?_ ?_; rotate_left; · rintro W' ⟨_,_,_,_,_,_,_,_,_⟩; go_simp; try with_reducible rfl
     try simp only [pL]
     refine tkH 31 (some 52) rfl rfl ?_ hS ?_ ?_; rotate_left; · rintro W' ⟨_,_,_,_,_,_,_,_,_⟩; go_simp; try with_reducible rfl
     try simp only [pL]
     refine tkH 32 (some 53) rfl rfl ?_ hS ?_ ?_; rotate_left; · rintro W' ⟨_,_,_,_,_,_,_,_,_⟩; go_simp; try with_reducible rfl
     try simp only [pL]
     refine tkH 33 (some 54) rfl rfl ?_ hS ?_ ?_; rotate_left; · rintro W' ⟨_,_,_,_,_,_,_,_,_⟩; go_simp; try with_reducible rfl
     try simp only [pL]
     refine wpAnyH_ready (rs := [34]) (by kernel_rfl) (by simp) ?_
     refine AllReadyH.cons rfl (fun K hK => ?_) AllReadyH.nil
     go_simp
     go_wp2_with fail
     refine (r_check x.reply.val _).mono ?_
     rintro e w1' ⟨rfl, hE1⟩
     have hX := (⟨Mod.ext hS.1 hE1, hE1.cell hS.2.1 id, hE1.cell hS.2.2.1 id, hE1.cell hS.2.2.2.1 id, hE1.cell hS.2.2.2.2.1 id, hE1.cell hS.2.2.2.2.2.1 id, hE1.cell hS.2.2.2.2.2.2.1 id, hE1.cell hS.2.2.2.2.2.2.2.1 id, hE1.cell hS.2.2.2.2.2.2.2.2 id⟩ : Ext w1 w1' ∧ _ ∧ _ ∧ _ ∧ _ ∧ _ ∧ _ ∧ _ ∧ _)
     go_simp
     refine hK.out _ _ hX (fun hS => ?_)
     clear hK K
     refine tkH 35 (some 56) rfl rfl ?_ hS ?_ ?_; rotate_left; · rintro W' ⟨_,_,_,_,_,_,_,_,_⟩; go_simp; try with_reducible rfl
     try simp only [pL]
     refine tkH 36 (some 57) rfl rfl ?_ hS ?_ ?_; rotate_left; · rintro W' ⟨_,_,_,_,_,_,_,_,_⟩; go_simp; try with_reducible rfl
     try simp only [pL]
     refine tkH 37 (some 58) rfl rfl ?_ hS ?_ ?_; rotate_left; · rintro W' ⟨_,_,_,_,_,_,_,_,_⟩; go_simp; try with_reducible rfl
     try simp only [pL]
     refine tkH 38 (some 59) rfl rfl ?_ hS ?_ ?_; rotate_left; · rintro W' ⟨_,_,_,_,_,_,_,_,_⟩; go_simp; try with_reducible rfl
     try simp only [pL]
     refine tkH 39 (some 60) rfl rfl ?_ hS ?_ ?_; rotate_left; · rintro W' ⟨_,_,_,_,_,_,_,_,_⟩; go_simp; try with_reducible rfl
     try simp only [pL]
     refine tkH 40 (some 61) rfl rfl ?_ hS ?_ ?_; rotate_left; · rintro W' ⟨_,_,_,_,_,_,_,_,_⟩; go_simp; try with_reducible rfl
     try simp only [pL]
     refine tkH 41 (some 62) rfl rfl ?_ hS ?_ ?_; rotate_left; · rintro W' ⟨_,_,_,_,_,_,_,_,_⟩; go_simp; try with_reducible rfl
     try simp only [pL]
     refine tkH 42 (some 63) rfl rfl ?_ hS ?_ ?_; rotate_left; · rintro W' ⟨_,_,_,_,_,_,_,_,_⟩; go_simp; try with_reducible rfl
     try simp only [pL]
     refine tkH 43 (some 64) rfl rfl ?_ hS ?_ ?_; rotate_left; · rintro W' ⟨_,_,_,_,_,_,_,_,_⟩; go_simp; try with_reducible rfl
     try simp only [pL]
     refine tkH 44 (some 65) rfl rfl ?_ hS ?_ ?_; rotate_left; · rintro W' ⟨_,_,_,_,_,_,_,_,_⟩; go_simp; try with_reducible rfl
     try simp only [pL]
     refine tkH 45 (some 66) rfl rfl ?_ hS ?_ ?_; rotate_left; · rintro W' ⟨_,_,_,_,_,_,_,_,_⟩; go_simp; try with_reducible rfl
     try simp only [pL]
     refine tkH 46 (some 67) rfl rfl ?_ hS ?_ ?_; rotate_left; · rintro W' ⟨_,_,_,_,_,_,_,_,_⟩; go_simp; try with_reducible rfl
     try simp only [pL]
     refine tkH 47 (some 68) rfl rfl ?_ hS ?_ ?_; rotate_left; · rintro W' ⟨_,_,_,_,_,_,_,_,_⟩; go_simp; try with_reducible rfl
     try simp only [pL]
     refine tkH 48 (some 69) rfl rfl ?_ hS ?_ ?_; rotate_left; · rintro W' ⟨_,_,_,_,_,_,_,_,_⟩; go_simp; try with_reducible rfl
     try simp only [pL]
     refine tkH 49 (some 70) rfl rfl ?_ hS ?_ ?_; rotate_left; · rintro W' ⟨_,_,_,_,_,_,_,_,_⟩; go_simp; try with_reducible rfl
     try simp only [pL]
     refine tkH 50 (some 71) rfl rfl ?_ hS ?_ ?_; rotate_left; · rintro W' ⟨_,_,_,_,_,_,_,_,_⟩; go_simp; try with_reducible rfl
     try simp only [pL]
     refine tkH 51 (some 72) rfl rfl ?_ hS ?_ ?_; rotate_left; · rintro W' ⟨_,_,_,_,_,_,_,_,_⟩; go_simp; try with_reducible rfl
     try simp only [pL]
     refine tkH 52 (some 73) rfl rfl ?_ hS ?_ ?_; rotate_left; · rintro W' ⟨_,_,_,_,_,_,_,_,_⟩; go_simp; try with_reducible rfl
     try simp only [pL]
     refine wpAnyH_done (by kernel_rfl) ?_ _
     go_wp2
     go_ret
     exact ⟨ret_bool Hf.out.symm, Mod.ext hF1 hS.1⟩
    ·
     have Hst := Lib.hid (Hg.out.step Hx.out Hok.out (fun k' p'' e hp' => by
      obtain rfl : k = k' := by omega
      rw [Hp.out] at hp'; cases hp'; omega))
     have hbl : decide (x.client ≤ p'.client) = false := decide_eq_false hlt
     clear hlt
     refine wp_region_held_drew (S := (fun W' => Ext w1 W' ∧ W'.cell? ⟨wr.heap.size, 0, none⟩ = some (.int .i64 x.client) ∧ W'.cell? ⟨wr.heap.size, 1, none⟩ = some (.int .i64 x.seq) ∧ W'.cell? ⟨wr.heap.size, 2, none⟩ = some (.int .i64 x.reply.code) ∧ W'.cell? ⟨wr.heap.size, 3, none⟩ = some (.int .i64 x.reply.val.kind) ∧ W'.cell? ⟨wr.heap.size, 4, none⟩ = some (.float .f64 x.reply.val.num) ∧ W'.cell? ⟨wr.heap.size, 5, none⟩ = some (.string x.reply.val.text) ∧ W'.cell? ⟨w.heap.size, 1, none⟩ = some (.slice (some ⟨g, off, none⟩) n c) ∧ W'.cell? ⟨g, off + k * 6, none⟩ = some (.int .i64 p'.client))) (by kernel_rfl) ⟨hF.drew, b0, b1, b2, b3, b4, b5, hq, p0⟩ (fun hS => ?_)
     refine tkH 0 (some 21) rfl rfl ?_ hS ?_ ?_; rotate_left; · rintro W' ⟨_,_,_,_,_,_,_,_,_⟩; go_simp; try with_reducible rfl
     try simp only [pL]
     refine tkH 1 (some 22) rfl rfl ?_ hS ?_ ?_; rotate_left; · rintro W' ⟨_,_,_,_,_,_,_,_,_⟩; go_simp; try with_reducible rfl
     try simp only [pL]
     refine tkH 2 (some 23) rfl rfl ?_ hS ?_ ?_; rotate_left; · rintro W' ⟨_,_,_,_,_,_,_,_,_⟩; go_simp; try with_reducible rfl
     try simp only [pL]
     refine tkH 3 (some 24) rfl rfl ?_ hS ?_ ?_; rotate_left; · rintro W' ⟨_,_,_,_,_,_,_,_,_⟩; go_simp; try with_reducible rfl
     try simp only [pL]
     refine tkH 4 (some 25) rfl rfl ?_ hS ?_ ?_; rotate_left; · rintro W' ⟨_,_,_,_,_,_,_,_,_⟩; go_simp; try with_reducible rfl
     try simp only [pL]
     refine tkH 5 (some 26) rfl rfl ?_ hS ?_ ?_; rotate_left; · rintro W' ⟨_,_,_,_,_,_,_,_,_⟩; go_simp; try with_reducible rfl
     try simp only [pL]
     refine tkH 6 (some 27) rfl rfl ?_ hS ?_ ?_; rotate_left; · rintro W' ⟨_,_,_,_,_,_,_,_,_⟩; go_simp; try with_reducible rfl
     try simp only [pL]
     refine tkH 7 (some 28) rfl rfl ?_ hS ?_ ?_; rotate_left; · rintro W' ⟨_,_,_,_,_,_,_,_,_⟩; go_simp; try with_reducible rfl
     try simp only [pL]
     refine tkH 8 (some 29) rfl rfl ?_ hS ?_ ?_; rotate_left; · rintro W' ⟨_,_,_,_,_,_,_,_,_⟩; go_simp; try with_reducible rfl
     try simp only [pL]
     refine tkH 9 (some 30) rfl rfl ?_ hS ?_ ?_; rotate_left; · rintro W' ⟨_,_,_,_,_,_,_,_,_⟩; go_simp; try with_reducible rfl
     try simp only [pL]
     refine tkH 10 (some 31) rfl rfl ?_ hS ?_ ?_; rotate_left; · rintro W' ⟨_,_,_,_,_,_,_,_,_⟩; go_simp; try with_reducible rfl
     try simp only [pL]
     refine tkH 11 (some 32) rfl rfl ?_ hS ?_ ?_; rotate_left; · rintro W' ⟨_,_,_,_,_,_,_,_,_⟩; go_simp; try with_reducible rfl
     try simp only [pL]
     refine tkH 12 (some 33) rfl rfl ?_ hS ?_ ?_; rotate_left; · rintro W' ⟨_,_,_,_,_,_,_,_,_⟩; go_simp; try with_reducible rfl
     try simp only [pL]
     refine tkH 13 (some 34) rfl rfl ?_ hS ?_ ?_; rotate_left; · rintro W' ⟨_,_,_,_,_,_,_,_,_⟩; go_simp; try with_reducible rfl
     try simp only [pL]
     refine tkH 14 (some 35) rfl rfl ?_ hS ?_ ?_; rotate_left; · rintro W' ⟨_,_,_,_,_,_,_,_,_⟩; go_simp; try with_reducible rfl
     try simp only [pL]
     refine tkH 15 (some 36) rfl rfl ?_ hS ?_ ?_; rotate_left; · rintro W' ⟨_,_,_,_,_,_,_,_,_⟩; go_simp; try with_reducible rfl
     try simp only [pL]
     refine tkH 16 (some 37) rfl rfl ?_ hS ?_ ?_; rotate_left; · rintro W' ⟨_,_,_,_,_,_,_,_,_⟩; go_simp; try with_reducible rfl
     try simp only [pL]
     refine tkH 17 (some 38) rfl rfl ?_ hS ?_ ?_; rotate_left; · rintro W' ⟨_,_,_,_,_,_,_,_,_⟩; go_simp; try with_reducible rfl
     try simp only [pL]
     refine tkH 18 (some 39) rfl rfl ?_ hS ?_ ?_; rotate_left; · rintro W' ⟨_,_,_,_,_,_,_,_,_⟩; go_simp; try with_reducible rfl
     try simp only [pL]
     refine tkH 19 (some 40) rfl rfl ?_ hS ?_ ?_; rotate_left; · rintro W' ⟨_,_,_,_,_,_,_,_,_⟩; go_simp; try with_reducible rfl
     try simp only [pL]
     refine tkH 20 (some 41) rfl rfl ?_ hS ?_ ?_; rotate_left; · rintro W' ⟨_,_,_,_,_,_,_,_,_⟩; go_simp; try with_reducible rfl
     try simp only [pL]
     refine tkH 21 (some 42) rfl rfl ?_ hS ?_ ?_; rotate_left; · rintro W' ⟨_,_,_,_,_,_,_,_,_⟩; go_simp; try with_reducible rfl
     try simp only [pL]
     refine tkH 22 (some 43) rfl rfl ?_ hS ?_ ?_; rotate_left; · rintro W' ⟨_,_,_,_,_,_,_,_,_⟩; go_simp; try with_reducible rfl
     try simp only [pL]
     refine tkH 23 (some 44) rfl rfl ?_ hS ?_ ?_; rotate_left; · rintro W' ⟨_,_,_,_,_,_,_,_,_⟩; go_simp; try with_reducible rfl
     try simp only [pL]
     refine tkH 24 (some 45) rfl rfl ?_ hS ?_ ?_; rotate_left; · rintro W' ⟨_,_,_,_,_,_,_,_,_⟩; go_simp; try with_reducible rfl
     try simp only [pL]
     refine tkH 25 (some 46) rfl rfl ?_ hS ?_ ?_; rotate_left; · rintro W' ⟨_,_,_,_,_,_,_,_,_⟩; go_simp; try with_reducible rfl
     try simp only [pL]
     refine tkH 26 (some 47) rfl rfl ?_ hS ?_ ?_; rotate_left; · rintro W' ⟨_,_,_,_,_,_,_,_,_⟩; go_simp; try with_reducible rfl
     try simp only [pL]
     refine tkH 27 (some 48) rfl rfl ?_ hS ?_ ?_; rotate_left; · rintro W' ⟨_,_,_,_,_,_,_,_,_⟩; go_simp; try with_reducible rfl
     try simp only [pL]
     refine tkH 28 (some 49) rfl rfl ?_ hS ?_ ?_; rotate_left; · rintro W' ⟨_,_,_,_,_,_,_,_,_⟩; go_simp; try with_reducible rfl
     try simp only [pL]
     refine tkH 29 (some 50) rfl rfl ?_ hS ?_ ?_; rotate_left; · rintro W' ⟨_,_,_,_,_,_,_,_,_⟩; go_simp; try with_reducible rfl
     try simp only [pL]
     refine tkH 30 (some 51) rfl rfl ?_ hS ?_ ?_; rotate_left; · rintro W' ⟨_,_,_,_,_,_,_,_,_⟩; go_simp; try with_reducible rfl
     try simp only [pL]
     refine tkH 31 (some 52) rfl rfl ?_ hS ?_ ?_; rotate_left; · rintro W' ⟨_,_,_,_,_,_,_,_,_⟩; go_simp; try with_reducible rfl
     try simp only [pL]
     refine tkH 32 (some 53) rfl rfl ?_ hS ?_ ?_; rotate_left; · rintro W' ⟨_,_,_,_,_,_,_,_,_⟩; go_simp; try with_reducible rfl
     try simp only [pL]
     refine tkH 33 (some 54) rfl rfl ?_ hS ?_ ?_; rotate_left; · rintro W' ⟨_,_,_,_,_,_,_,_,_⟩; go_simp; try with_reducible rfl
     try simp only [pL]
     refine wpAnyH_ready (rs := [34]) (by kernel_rfl) (by simp) ?_
     refine AllReadyH.cons rfl (fun K hK => ?_) AllReadyH.nil
     go_simp
     go_wp2_with fail
     refine (r_check x.reply.val _).mono ?_
     rintro e w1' ⟨rfl, hE1⟩
     have hX := (⟨Mod.ext hS.1 hE1, hE1.cell hS.2.1 id, hE1.cell hS.2.2.1 id, hE1.cell hS.2.2.2.1 id, hE1.cell hS.2.2.2.2.1 id, hE1.cell hS.2.2.2.2.2.1 id, hE1.cell hS.2.2.2.2.2.2.1 id, hE1.cell hS.2.2.2.2.2.2.2.1 id, hE1.cell hS.2.2.2.2.2.2.2.2 id⟩ : Ext w1 w1' ∧ _ ∧ _ ∧ _ ∧ _ ∧ _ ∧ _ ∧ _ ∧ _)
     go_simp
     refine hK.out _ _ hX (fun hS => ?_)
     clear hK K
     refine tkH 35 (some 56) rfl rfl ?_ hS ?_ ?_; rotate_left; · rintro W' ⟨_,_,_,_,_,_,_,_,_⟩; go_simp; try with_reducible rfl
     try simp only [pL]
     refine tkH 36 (some 57) rfl rfl ?_ hS ?_ ?_; rotate_left; · rintro W' ⟨_,_,_,_,_,_,_,_,_⟩; go_simp; try with_reducible rfl
     try simp only [pL]
     refine tkH 37 (some 58) rfl rfl ?_ hS ?_ ?_; rotate_left; · rintro W' ⟨_,_,_,_,_,_,_,_,_⟩; go_simp; try with_reducible rfl
     try simp only [pL]
     refine tkH 38 (some 59) rfl rfl ?_ hS ?_ ?_; rotate_left; · rintro W' ⟨_,_,_,_,_,_,_,_,_⟩; go_simp; try with_reducible rfl
     try simp only [pL]
     refine tkH 39 (some 60) rfl rfl ?_ hS ?_ ?_; rotate_left; · rintro W' ⟨_,_,_,_,_,_,_,_,_⟩; go_simp; try with_reducible rfl
     try simp only [pL]
     refine tkH 40 (some 61) rfl rfl ?_ hS ?_ ?_; rotate_left; · rintro W' ⟨_,_,_,_,_,_,_,_,_⟩; go_simp; try with_reducible rfl
     try simp only [pL]
     refine tkH 41 (some 62) rfl rfl ?_ hS ?_ ?_; rotate_left; · rintro W' ⟨_,_,_,_,_,_,_,_,_⟩; go_simp; try with_reducible rfl
     try simp only [pL]
     refine tkH 42 (some 63) rfl rfl ?_ hS ?_ ?_; rotate_left; · rintro W' ⟨_,_,_,_,_,_,_,_,_⟩; go_simp; try with_reducible rfl
     try simp only [pL]
     refine tkH 43 (some 64) rfl rfl ?_ hS ?_ ?_; rotate_left; · rintro W' ⟨_,_,_,_,_,_,_,_,_⟩; go_simp; try with_reducible rfl
     try simp only [pL]
     refine tkH 44 (some 65) rfl rfl ?_ hS ?_ ?_; rotate_left; · rintro W' ⟨_,_,_,_,_,_,_,_,_⟩; go_simp; try with_reducible rfl
     try simp only [pL]
     refine tkH 45 (some 66) rfl rfl ?_ hS ?_ ?_; rotate_left; · rintro W' ⟨_,_,_,_,_,_,_,_,_⟩; go_simp; try with_reducible rfl
     try simp only [pL]
     refine tkH 46 (some 67) rfl rfl ?_ hS ?_ ?_; rotate_left; · rintro W' ⟨_,_,_,_,_,_,_,_,_⟩; go_simp; try with_reducible rfl
     try simp only [pL]
     refine tkH 47 (some 68) rfl rfl ?_ hS ?_ ?_; rotate_left; · rintro W' ⟨_,_,_,_,_,_,_,_,_⟩; go_simp; try with_reducible rfl
     try simp only [pL]
     refine tkH 48 (some 69) rfl rfl ?_ hS ?_ ?_; rotate_left; · rintro W' ⟨_,_,_,_,_,_,_,_,_⟩; go_simp; try with_reducible rfl
     try simp only [pL]
     refine tkH 49 (some 70) rfl rfl ?_ hS ?_ ?_; rotate_left; · rintro W' ⟨_,_,_,_,_,_,_,_,_⟩; go_simp; try with_reducible rfl
     try simp only [pL]
     refine tkH 50 (some 71) rfl rfl ?_ hS ?_ ?_; rotate_left; · rintro W' ⟨_,_,_,_,_,_,_,_,_⟩; go_simp; try with_reducible rfl
     try simp only [pL]
     refine tkH 51 (some 72) rfl rfl ?_ hS ?_ ?_; rotate_left; · rintro W' ⟨_,_,_,_,_,_,_,_,_⟩; go_simp; try with_reducible rfl
     try simp only [pL]
     refine tkH 52 (some 73) rfl rfl ?_ hS ?_ ?_; rotate_left; · rintro W' ⟨_,_,_,_,_,_,_,_,_⟩; go_simp; try with_reducible rfl
     try simp only [pL]
     refine wpAnyH_done (by kernel_rfl) ?_ _
     go_wp2
     clear z4
     exact ⟨⟨k + 1 + 1, by have := Hrel.out; omega, by go_num, hS.1, Hst.out⟩, by have := Hrel.out; simp [intOf]; omega⟩
  ·
   have Hf : Hid (machB ⟨p, l⟩ = true) := Lib.hid (machB_yes Hpp.out (sess_good (by rw [Hn.out, show n = i from by omega]; exact Hg.out)))
   go_wp2
   go_ret
   exact ⟨ret_bool Hf.out.symm, Mod.ext hF1 hE⟩
end Go.Proofs.YtbclnghbgoblcaaGreat

namespace Go.Proofs.YtbclnghbgoblcaaGreat
set_option linter.unusedSimpArgs false
open Go.RowKit

theorem callE_no {c : ACall} (h : numB c.client c.seq = false) : callE c = 1 := by unfold callE; rw [if_pos h]
theorem callE_yes {c : ACall} (h : numB c.client c.seq = true) : callE c = cmdE c.cmd := by unfold callE; rw [if_neg (by rw [h]; simp)]
set_option maxRecDepth 100000 in
set_option maxHeartbeats 1000000 in
theorem s_right (c : ACall) (w : World) : Calls Tryz.prog 24 #[.agg #[.int .i64 c.client, .int .i64 c.seq, .int .i64 c.cmd.kind, .string c.cmd.key, .int .i64 c.cmd.old.kind, .float .f64 c.cmd.old.num, .string c.cmd.old.text, .int .i64 c.cmd.val.kind, .float .f64 c.cmd.val.num, .string c.cmd.val.text]] w fun e w' => e = .returned (.int .i64 (callE c)) ∧ Ext w w' := by
 have hE : Ext w (w.alloc (.cells #[.int .i64 c.client, .int .i64 c.seq, .int .i64 c.cmd.kind, .string c.cmd.key, .int .i64 c.cmd.old.kind, .float .f64 c.cmd.old.num, .string c.cmd.old.text, .int .i64 c.cmd.val.kind, .float .f64 c.cmd.val.num, .string c.cmd.val.text] 44)) := (Mod.refl _ w).alloc _
 rcases hr : numB c.client c.seq with _ | _
 ·
  rw [callE_no hr]
  go_enter Tryz.func24, Tryz.ntmps24
  go_wp2_with fail
  refine (n_right c.client c.seq _).mono ?_
  rintro e w' ⟨rfl, rfl⟩
  rw [hr]
  go_wp2
  go_ret
  exact ⟨rfl, hE⟩
 ·
  rw [callE_yes hr]
  go_enter Tryz.func24, Tryz.ntmps24
  go_wp2_with fail
  refine (n_right c.client c.seq _).mono ?_
  rintro e w' ⟨rfl, rfl⟩
  rw [hr]
  go_wp2_with fail
  refine (kv_right c.cmd _).mono ?_
  rintro e w' ⟨rfl, hE1⟩
  have HE := Lib.hid (Mod.ext hE hE1)
  clear hE hE1
  go_wp2
  go_ret
  exact ⟨rfl, HE.out⟩
set_option maxRecDepth 100000 in
set_option maxHeartbeats 1000000 in
theorem r_call (c : ACall) (w : World) : Calls Tryz.prog 26 #[.agg #[.int .i64 c.client, .int .i64 c.seq, .int .i64 c.cmd.kind, .string c.cmd.key, .int .i64 c.cmd.old.kind, .float .f64 c.cmd.old.num, .string c.cmd.old.text, .int .i64 c.cmd.val.kind, .float .f64 c.cmd.val.num, .string c.cmd.val.text]] w fun e w' => e = .returned (.int .i64 (callE c)) ∧ Ext w w' := by
 have hE : Ext w (w.alloc (.cells #[.int .i64 c.client, .int .i64 c.seq, .int .i64 c.cmd.kind, .string c.cmd.key, .int .i64 c.cmd.old.kind, .float .f64 c.cmd.old.num, .string c.cmd.old.text, .int .i64 c.cmd.val.kind, .float .f64 c.cmd.val.num, .string c.cmd.val.text] 44)) := (Mod.refl _ w).alloc _
 by_cases h1 : c.client < 1
 ·
  rw [callE_no (by unfold numB; rw [decide_eq_false (show ¬ 1 ≤ c.client by omega)]; rfl)]
  have d1 : decide (c.client < 1) = true := decide_eq_true h1
  clear h1
  go_enter Tryz.func26, Tryz.ntmps26
  go_wp2
  go_ret
  exact ⟨rfl, hE⟩
 have d1 : decide (c.client < 1) = false := decide_eq_false h1
 by_cases h2 : 4 < c.client
 ·
  rw [callE_no (by unfold numB; rw [decide_eq_false (show ¬ c.client ≤ 4 by omega)]; simp)]
  have d2 : decide (4 < c.client) = true := decide_eq_true h2
  clear h1 h2
  go_enter Tryz.func26, Tryz.ntmps26
  go_wp2
  go_ret
  exact ⟨rfl, hE⟩
 have d2 : decide (4 < c.client) = false := decide_eq_false h2
 by_cases h3 : c.seq < 1
 ·
  rw [callE_no (by unfold numB; rw [decide_eq_false (show ¬ 1 ≤ c.seq by omega)]; simp)]
  have d3 : decide (c.seq < 1) = true := decide_eq_true h3
  clear h1 h2 h3
  go_enter Tryz.func26, Tryz.ntmps26
  go_wp2
  go_ret
  exact ⟨rfl, hE⟩
 have d3 : decide (c.seq < 1) = false := decide_eq_false h3
 by_cases h4 : 1099511627776 < c.seq
 ·
  rw [callE_no (by unfold numB; rw [decide_eq_false (show ¬ c.seq ≤ 1099511627776 by omega)]; simp)]
  have d4 : decide (1099511627776 < c.seq) = true := decide_eq_true h4
  clear h1 h2 h3 h4
  go_enter Tryz.func26, Tryz.ntmps26
  go_wp2
  go_ret
  exact ⟨rfl, hE⟩
 have d4 : decide (1099511627776 < c.seq) = false := decide_eq_false h4
 rw [callE_yes (by unfold numB; rw [decide_eq_true (show 1 ≤ c.client by omega), decide_eq_true (show c.client ≤ 4 by omega), decide_eq_true (show 1 ≤ c.seq by omega), decide_eq_true (show c.seq ≤ 1099511627776 by omega)]; rfl)]
 clear h1 h2 h3 h4
 go_enter Tryz.func26, Tryz.ntmps26
 go_wp2_with fail
 refine (r_cmd c.cmd _).mono ?_
 rintro e w' ⟨rfl, hE1⟩
 have HE := Lib.hid (Mod.ext hE hE1)
 clear hE hE1
 go_wp2
 go_ret
 exact ⟨rfl, HE.out⟩
end Go.Proofs.YtbclnghbgoblcaaGreat

namespace Go.Proofs.YtbclnghbgoblcaaGreat
set_option linter.unusedSimpArgs false
open Go.RowKit

set_option maxRecDepth 100000 in
set_option maxHeartbeats 400000 in
theorem sl_cloneS (w : World) (T : Nat → Prop) (v : Value) (l : List ASess) (h : Ses w T v l) (hl : l.length ≤ 1000000) :
  Calls Tryz.prog 73 #[v] w fun e w' => ∃ v', e = .returned v' ∧ NewS w w' v' l ∧ Ext w w' := by
 obtain ⟨i0, hi, hz0, hz1, hz2⟩ := info_parts info_sess
 obtain ⟨n, hn⟩ : ∃ n, l.length = n := ⟨_, rfl⟩
 obtain ⟨A, c, rfl⟩ := h.form
 obtain ⟨h1, h2⟩ := h
 rw [hn] at hl h1 ⊢
 have Hn := Lib.hid hn
 have H2 := Lib.hid h2
 clear hn h2
 have heq := fun (w : World) (a : Option Addr) (n c n' c' : Nat) => Lib.run_eql_slice_nil (P := Tryz.prog) w 31 72 a n c n' c' Tryz.underlying31
 rcases A with _ | A
 ·
  have hn0 : n = 0 := by
   rcases Nat.eq_zero_or_pos n with h0 | h0
   ·
    exact h0
   ·
    obtain ⟨_, A', c', e, _, _, hx⟩ := h1
    injection e with e1 _ _
    obtain ⟨g, off, hA, _⟩ := hx h0
    rw [← e1] at hA; cases hA
  have hl0 : l = [] := List.eq_nil_of_length_eq_zero (by rw [Hn.out]; exact hn0)
  subst hl0
  clear h1
  go_enter Tryz.func73, Tryz.ntmps73
  go_wp2
  go_ret
  exact ⟨_, rfl, ⟨World.ownsRow_nil _ _ _ _, by simp, by simp [Value.ownBlock]⟩, Mod.refl _ w⟩
 ·
  have hEa : Ext w (w.alloc (.cells #[] 72)) := (Mod.refl _ w).alloc _
  have h3 := h1.ext hEa
  have hown : (w.alloc (.cells #[] 72)).ownsRow 0 72 6 (.slice (some ⟨w.heap.size, 0, none⟩) 0 0) 0 [] := World.ownsRow_made w #[] 0 (Nat.zero_le _) (by simp [maxLen]) rfl
  go_enter Tryz.func73, Tryz.ntmps73
  go_wp2_with (at_builtin; refine wpList_app _ rfl _ _ 31 rfl 72 i0 _ 6 56 Tryz.underlying31 hi hz0 hz1 hz2 rfl (by omega) _ 0 [] rfl hown T _ n (l.flatMap ASess.cells) rfl h3 (ses_one l) (by simp only [maxLen]; omega) (by omega) ?_)
  intro v' w1 ho hgr hat
  have hM : Mod (Since w.heap.size) w w1 := (((Mod.refl (Since w.heap.size) w).alloc _).grown hgr (fun k hk => by
   simp [Value.ownBlock] at hk; subst hk; exact .inl (Nat.le_refl _)))
  have hN : NewS w w1 v' l := by
   refine ⟨by rw [Hn.out]; simpa using ho, H2.out, fun g hgg => ?_⟩
   rcases hat with e | e <;> rw [e] at hgg <;> simp [Value.ownBlock] at hgg <;> omega
  go_wp2
  go_ret
  exact ⟨v', rfl, hN, hM.toExt⟩

/-- A machine of one's own. -/
def NewM (w w' : World) (pv v : Value) (m : AMach) : Prop := NewP w w' pv m.pairs ∧ NewS w w' v m.sess ∧ ∀ g, pv.ownBlock = some g → v.ownBlock ≠ some g
theorem newS_mod {W w1 w2 : World} {S : Nat → Prop} {v : Value} {l : List ASess} (h : NewS W w1 v l) (hm : Mod S w1 w2) (hd : ∀ g, v.ownBlock = some g → ¬ S g) : NewS W w2 v l :=
 ⟨own_mod h.1 hm hd, h.2.1, h.2.2⟩
theorem newM_mod {W w1 w2 : World} {S : Nat → Prop} {pv v : Value} {m : AMach} (h : NewM W w1 pv v m) (hm : Mod S w1 w2) (hd : ∀ g, pv.ownBlock = some g → ¬ S g) (hd2 : ∀ g, v.ownBlock = some g → ¬ S g) : NewM W w2 pv v m :=
 ⟨newP_mod h.1 hm hd, newS_mod h.2.1 hm hd2, h.2.2⟩
set_option maxRecDepth 100000 in
set_option maxHeartbeats 2000000 in
theorem k_twinMachine (w : World) (T U : Nat → Prop) (pv v : Value) (p : List APair) (l : List ASess) (hP : Prs w U pv p) (h : Ses w T v l) (hp : p.length ≤ 1000000) (hl : l.length ≤ 1000000) :
  Calls Tryz.prog 54 #[.agg #[pv, v]] w fun e w' => ∃ pv' v', e = .returned (.agg #[pv', v']) ∧ NewM w w' pv' v' ⟨p, l⟩ ∧ Ext w w' := by
 obtain ⟨i0, hi, hz0, hz1, hz2⟩ := info_parts info_pair
 obtain ⟨i1, hi', hz0', hz1', hz2'⟩ := info_parts info_sess
 obtain ⟨n, hn⟩ : ∃ n, l.length = n := ⟨_, rfl⟩
 obtain ⟨A, c, rfl⟩ := h.form
 obtain ⟨m, hm⟩ : ∃ m, p.length = m := ⟨_, rfl⟩
 obtain ⟨A', c', rfl⟩ := hP.form
 obtain ⟨h1, h2⟩ := h
 obtain ⟨h1', h2'⟩ := hP
 rw [hn] at hl h1 ⊢
 rw [hm] at hp h1' ⊢
 have Hn := Lib.hid hn
 have H2 := Lib.hid h2
 have Hm := Lib.hid hm
 have H2' := Lib.hid h2'
 clear hn h2 hm h2'
 obtain ⟨b, hb⟩ : ∃ b, w.heap.size = b := ⟨_, rfl⟩
 obtain ⟨W, hW⟩ : ∃ W, W = ((w.alloc (.cells #[.slice A' m c', .slice A n c] 33)).alloc (.cells #[.slice none 0 0, .slice none 0 0] 33)).alloc (.cells #[.slice none 0 0, .slice none 0 0] 33) := ⟨_, rfl⟩
 have hE : Ext w W := by rw [hW]; exact (((Mod.refl _ w).alloc _).alloc _).alloc _
 obtain ⟨hA, hB, hsz2⟩ := two_new w (.cells #[.slice A' m c', .slice A n c] 33) (.cells #[.slice none 0 0, .slice none 0 0] 33)
 have hC := heap_alloc_new ((w.alloc (.cells #[.slice A' m c', .slice A n c] 33)).alloc (.cells #[.slice none 0 0, .slice none 0 0] 33)) (.cells #[.slice none 0 0, .slice none 0 0] 33)
 have hE2 : Ext ((w.alloc (.cells #[.slice A' m c', .slice A n c] 33)).alloc (.cells #[.slice none 0 0, .slice none 0 0] 33)) W := by rw [hW]; exact (Mod.refl _ _).alloc _
 rw [← hW, hsz2, hb] at hC
 have hC : W.heap[b + 1 + 1]? = some (.cells #[.slice none 0 0, .slice none 0 0] 33 (0, 0)) := hC
 have hA := hE2.blk hA id
 have hB := hE2.blk hB id
 rw [hb] at hA hB
 have hsz : W.heap.size = b + 3 := by rw [hW]; simp [hb]
 have a0 : W.cell? ⟨b, 0, none⟩ = some _ := blk_cell (cs := [.slice A' m c', .slice A n c]) hA rfl
 have b0 : W.cell? ⟨b + 1 + 1, 0, none⟩ = some _ := blk_cell (cs := [.slice none 0 0, .slice none 0 0]) hC rfl
 have hU := h1'.ext hE
 have Hb := Lib.hid hb
 have HW := Lib.hid hW
 have HA := Lib.hid hA
 have HB := Lib.hid hB
 have HC := Lib.hid hC
 have HE := Lib.hid hE
 clear hW hA hB hC hE hE2 hsz2 hb
 go_enter Tryz.func54, Tryz.ntmps54
 go_wp2_with (at_builtin; rw [← HW.out, Hb.out]; refine wpList_app _ rfl _ _ 30 rfl 94 i0 _ 4 48 Tryz.underlying30 hi hz0 hz1 hz2 rfl (by omega) _ 0 [] rfl (World.ownsRow_nil _ _ _ _) U _ m (p.flatMap APair.cells) rfl hU (pair_one p) (by simp only [maxLen]; omega) (by omega) ?_)
 intro v1 w1 ho hgr hat
 have hE1 : Ext W w1 := (Mod.refl _ W).grown hgr (by simp [Value.ownBlock])
 have hN1 : NewP W w1 v1 p := by
  refine ⟨by rw [Hm.out]; simpa using ho, H2'.out, fun g hgg => ?_⟩
  rcases hat with e | e <;> rw [e] at hgg <;> simp [Value.ownBlock] at hgg <;> omega
 clear ho hgr hat a0 b0 hU
 obtain ⟨A1, c1, rfl⟩ := own_form hN1.1
 have hA1 := hE1.blk HA.out id
 have hB1 := hE1.blk HB.out id
 have hC1 := hE1.blk HC.out id
 have hlo : ∀ g, (Value.slice A1 p.length c1).ownBlock = some g → b + 3 ≤ g ∧ g < w1.heap.size := fun g hg => ⟨by rw [← hsz]; exact hN1.2.2 g hg, (hN1.1.lt g hg).2⟩
 have hw1 : b + 3 ≤ w1.heap.size := by rw [← hsz]; exact hE1.size
 obtain ⟨W2, hW2⟩ : ∃ W2, W2 = w1.setCell ⟨b + 1 + 1, 0, none⟩ (Value.slice A1 p.length c1) := ⟨_, rfl⟩
 have hM2 : Mod (fun k => k = b + 1 + 1) w1 W2 := by rw [hW2]; exact mod_same (Mod.refl _ _) _ _
 have hC2 : W2.heap[b + 1 + 1]? = some (.cells #[(Value.slice A1 p.length c1), .slice none 0 0] 33 (0, 0)) := by rw [hW2]; simp [World.setCell, Array.getElem?_modify, hC1]
 have hA2 := hM2.blk hA1 (by omega)
 have hB2 := hM2.blk hB1 (by omega)
 have hN2 := newP_mod hN1 hM2 (fun g hg e => by have := (hlo g hg).1; omega)
 have hE2 : Ext w W2 := Mod.toExt ((Ext.mod (Mod.ext HE.out hE1) (Since w.heap.size)).trans hM2 (fun k _ e => by have := Hb.out; unfold Since; omega))
 have hs2 : W2.heap.size = w1.heap.size := by rw [hW2]; simp [World.setCell]
 have hT := h1.ext hE2
 have f0 : w1.frozen? ⟨b + 1 + 1, 0, none⟩ = false := blk_free 0 hC1
 have c0 : w1.cell? ⟨b + 1 + 1, 0, none⟩ = some _ := blk_cell (cs := [.slice none 0 0, .slice none 0 0]) hC1 rfl
 have a1 : w1.cell? ⟨b, 1, none⟩ = some _ := blk_cell (cs := [.slice A' m c', .slice A n c]) hA1 rfl
 have b1 : w1.cell? ⟨b + 1 + 1, 1, none⟩ = some _ := blk_cell (cs := [.slice none 0 0, .slice none 0 0]) hC1 rfl
 have HW2 := Lib.hid hW2
 have HA2 := Lib.hid hA2
 have HB2 := Lib.hid hB2
 have HC2 := Lib.hid hC2
 have HN2 := Lib.hid hN2
 have HE2 := Lib.hid hE2
 have Hlo := Lib.hid hlo
 clear hA1 hB1 hC1 hlo hM2 hC2 hA2 hB2 hN2 hE2 hE1 hN1 hW2
 go_wp2_with (at_builtin; rw [← HW2.out]; refine wpList_app _ rfl _ _ 31 rfl 72 i1 _ 6 56 Tryz.underlying31 hi' hz0' hz1' hz2' rfl (by omega) _ 0 [] rfl (World.ownsRow_nil _ _ _ _) T _ n (l.flatMap ASess.cells) rfl hT (ses_one l) (by simp only [maxLen]; omega) (by omega) ?_)
 intro v2 w3 ho hgr hat
 have hE3 : Ext W2 w3 := (Mod.refl _ W2).grown hgr (by simp [Value.ownBlock])
 have hN3 : NewS W2 w3 v2 l := by
  refine ⟨by rw [Hn.out]; simpa using ho, H2.out, fun g hgg => ?_⟩
  rcases hat with e | e <;> rw [e] at hgg <;> simp [Value.ownBlock] at hgg <;> omega
 clear ho hgr hat a1 b1 hT f0 c0
 obtain ⟨A2, c2, rfl⟩ := own_form hN3.1
 have hB3 := hE3.blk HB2.out id
 have hC3 := hE3.blk HC2.out id
 have f1 : w3.frozen? ⟨b + 1 + 1, 1, none⟩ = false := blk_free 1 hC3
 have k0 : w3.cell? ⟨b + 1 + 1, 0, none⟩ = some _ := blk_cell (cs := [(Value.slice A1 p.length c1), .slice none 0 0]) hC3 rfl
 have k1 : w3.cell? ⟨b + 1 + 1, 1, none⟩ = some _ := blk_cell (cs := [(Value.slice A1 p.length c1), .slice none 0 0]) hC3 rfl
 have g0 : w3.frozen? ⟨b + 1, 0, none⟩ = false := blk_free 0 hB3
 have g1 : w3.frozen? ⟨b + 1, 1, none⟩ = false := blk_free 1 hB3
 have d0 : w3.cell? ⟨b + 1, 0, none⟩ = some _ := blk_cell (cs := [.slice none 0 0, .slice none 0 0]) hB3 rfl
 have d1 : w3.cell? ⟨b + 1, 1, none⟩ = some _ := blk_cell (cs := [.slice none 0 0, .slice none 0 0]) hB3 rfl
 have hlo3 : ∀ g, (Value.slice A2 l.length c2).ownBlock = some g → w1.heap.size ≤ g := fun g hg => by rw [← hs2]; exact hN3.2.2 g hg
 have HM : Hid (NewM w w3 (Value.slice A1 p.length c1) (Value.slice A2 l.length c2) ⟨p, l⟩ ∧ Ext w w3) := Lib.hid ⟨⟨newP_up (newP_mod HN2.out hE3 (fun _ _ => id)) HE.out.size, ⟨hN3.1, hN3.2.1, fun g hg => by have := hlo3 g hg; have := Hb.out; omega⟩, fun g hg e => by have := (Hlo.out g hg).2; have := hlo3 g e; omega⟩, Mod.ext HE2.out hE3⟩
 have Hlo3 := Lib.hid hlo3
 clear hE3 hN3 hB3 hC3 hlo3
 go_wp2_with fail
 have hm : Mod (fun k => k = b + 1 ∨ k = b + 1 + 1) w3 (((w3.setCell ⟨b + 1 + 1, 1, none⟩ (Value.slice A2 l.length c2)).setCell ⟨b + 1, 0, none⟩ (Value.slice A1 p.length c1)).setCell ⟨b + 1, 1, none⟩ (Value.slice A2 l.length c2)) := by
  refine Mod.setCell (Mod.setCell (Mod.setCell (Mod.refl _ _) (.inr (.inr rfl)) _) (.inr (.inl rfl)) _) (.inr (.inl rfl)) _
 refine bodyPost_ret (v := .agg #[(Value.slice A1 p.length c1), (Value.slice A2 l.length c2)]) (by simp [results, Tryz.results54, go_sem, k0, k1, d0, d1]) rfl ⟨(Value.slice A1 p.length c1), (Value.slice A2 l.length c2), rfl, newM_mod HM.out.1 hm (fun g hg e => by have := (Hlo.out g hg).1; omega) (fun g hg e => by have := Hlo3.out g hg; omega), ?_⟩
 exact Mod.toExt ((Ext.mod HM.out.2 (Since w.heap.size)).trans hm (fun k _ e => by have := Hb.out; unfold Since; omega))
end Go.Proofs.YtbclnghbgoblcaaGreat
