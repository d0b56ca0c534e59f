/-
  What the laws of layer 7 share. Conditions: as each theorem names them.
-/
import Derived.Test.YtplpegjnmlabkaaSesDoN
import Derived.Test.YtplpegjnmlabkaaGSes3
namespace Go.Proofs.Ytplpegjnmlabkaa
set_option linter.unusedSimpArgs false
open Go.RowKit

/-- A list of calls. -/
def Cas (w : World) (T : Nat → Prop) (v : Value) (l : List ACall) : Prop := Sl w T 10 v l.length (l.flatMap ACall.cells) ∧ ∀ x ∈ l, x.ok
theorem Cas.ext {w w' : World} {T : Nat → Prop} {v : Value} {l : List ACall} (h : Cas w T v l) (hm : Ext w w') : Cas w' T v l := ⟨h.1.ext hm, h.2⟩
theorem Cas.form {w : World} {T : Nat → Prop} {v : Value} {l : List ACall} (h : Cas w T v l) : ∃ A c, v = .slice A l.length c := by
  obtain ⟨⟨_, A, c, e, _⟩, _⟩ := h
  exact ⟨A, c, e⟩
theorem Cas.at {w : World} {T : Nat → Prop} {A : Option Addr} {n c : Nat} {l : List ACall} (h : Cas w T (.slice A n c) l) {i : Nat} (hi : i < n) :
    ∃ g off x, A = some ⟨g, off, none⟩ ∧ T g ∧ l[i]? = some x ∧ x.ok ∧ ∀ j u, x.cells[j]? = some u → w.cell? ⟨g, off + i * 10 + j, none⟩ = some u := by
  obtain ⟨⟨hl, A', c', e, hn, hc, hx⟩, hf⟩ := h
  injection e with e1 e2 e3; subst e1; subst e2; subst e3
  obtain ⟨g, off, rfl, hT, hcell⟩ := hx (by omega)
  have hget : l[i]? = some l[i] := List.getElem?_eq_getElem hi
  refine ⟨g, off, l[i], rfl, hT, hget, hf _ (List.getElem_mem hi), fun j u hu => ?_⟩
  have hj : j < 10 := (List.getElem?_eq_some_iff.1 hu).1
  rw [Nat.add_assoc]
  exact hcell _ u (by rw [flat_get (k := 10) (fun _ => rfl) l i j _ hget hj]; exact hu)

/-- What a machine of one's own is. -/
theorem NewM.prs {w w' : World} {pv v : Value} {m : AMach} (h : NewM w w' pv v m) : Prs w' (fun g => pv.ownBlock = some g) pv m.pairs := h.1.prs
theorem NewM.ses {w w' : World} {pv v : Value} {m : AMach} (h : NewM w w' pv v m) : Ses w' (fun g => v.ownBlock = some g) v m.sess := h.2.1.ses
theorem newM_up {W w0 w1 : World} {pv v : Value} {m : AMach} (h : NewM w0 w1 pv v m) (hs : W.heap.size ≤ w0.heap.size) : NewM W w1 pv v m :=
  ⟨newP_up h.1 hs, ⟨h.2.1.1, h.2.1.2.1, fun g hg => Nat.le_trans hs (h.2.1.2.2 g hg)⟩, h.2.2⟩
theorem mach_small {m : AMach} (h : machB m = true) : m.pairs.length ≤ 1000000 ∧ m.sess.length ≤ 1000000 := by
  unfold machB at h
  rw [Bool.and_eq_true] at h
  exact ⟨by have := right_len h.1; omega, by have := (sess_nums h.2).2.2; omega⟩
def mach0 : AMach := ⟨[], []⟩
theorem mach0_right : machB mach0 = true := by simp [mach0, machB, right_nil, sessB, sortedS]
theorem s_do_at (w : World) (T U : Nat → Prop) (pv v : Value) (m : AMach) (c : ACall) (hP : Prs w U pv m.pairs) (h : Ses w T v m.sess) (hm : m.pairs.length ≤ 1000000 ∧ m.sess.length ≤ 1000000) (hcv : c.cmd.val.ok) {M : AMach} {r : AReply} (hr : onceP m c = (M, r)) :
    Calls Try.prog 20 #[.agg #[pv, v], .agg #[.int .i64 c.client, .int .i64 c.seq, .int .i64 c.cmd.kind, .string c.cmd.key, .int .i64 c.cmd.old.kind, .float .f64 c.cmd.old.num, .string c.cmd.old.text, .int .i64 c.cmd.val.kind, .float .f64 c.cmd.val.num, .string c.cmd.val.text]] w (OnceOut w M r) := by
  have := s_do w T U pv v m.pairs m.sess c hP h hm.1 hm.2 hcv
  rw [show (⟨m.pairs, m.sess⟩ : AMach) = m from rfl, hr] at this
  exact this
/-- A box of another type is none of a row's blocks. -/
theorem own_apart {w : World} {e t : TypeId} {k n b g : Nat} {v : Value} {xs : List Value} {cs : Array Value} {q : Nat × Nat} (h : w.ownsRow 0 e k v n xs) (hg : v.ownBlock = some g) (hb : w.heap[b]? = some (.cells cs t q)) (ht : e ≠ t) : g ≠ b := by
  rintro rfl
  rcases row_of_own h with ⟨rfl, _⟩ | ⟨g', cap, cur, rfl, hR, _⟩
  · simp [Value.ownBlock] at hg
  · simp [Value.ownBlock] at hg
    subst hg
    unfold Row at hR
    rw [hR] at hb
    injection hb with hb
    injection hb with _ hb
    exact ht hb
theorem newM_box {W w w' : World} {pv v : Value} {m : AMach} {b : Nat} {t : TypeId} {cs : Array Value} {q : Nat × Nat} (h : NewM W w pv v m) (hb : w.heap[b]? = some (.cells cs t q)) (hM : Mod (fun k => k = b) w w') (h1 : 87 ≠ t) (h2 : 72 ≠ t) : NewM W w' pv v m :=
  newM_mod h hM (fun _ hg => own_apart h.1.1 hg hb h1) (fun _ hg => own_apart h.2.1.1 hg hb h2)
/-- What wakes asks. -/
def wakesK : ACall := ⟨1, 1, wakesC⟩
def wakesR : AReply := ⟨0, ⟨1, 4611686018427387904, ⟨#[]⟩⟩⟩
def wakesM : AMach := ⟨[⟨⟨#[97]⟩, ⟨1, 4611686018427387904, ⟨#[]⟩⟩⟩], [⟨1, 1, ⟨0, ⟨1, 4611686018427387904, ⟨#[]⟩⟩⟩⟩]⟩
theorem wakes_cmd : cmdE wakesC = 0 := by
  by_cases h : cmdE wakesC = 0
  · exact h
  · exfalso
    have e := wakes_do
    unfold doP at e
    rw [if_pos h] at e
    injection e with e1 e2
    cases e1
theorem wakes_call : callE wakesK = 0 := by
  rw [callE_yes (by simp [wakesK, numB])]
  exact wakes_cmd
theorem wakes_once : onceP mach0 wakesK = (wakesM, wakesR) := by
  unfold onceP
  rw [if_neg (by rw [wakes_call]; simp), if_neg (by rw [mach0_right]; simp)]
  have hl : lastS mach0.sess wakesK.client = (0, AReply.zero) := rfl
  rw [hl, if_neg (by simp [wakesK]), if_neg (by simp [wakesK]), show doP mach0.pairs wakesK.cmd = _ from wakes_do]
  simp [wakesK, wakesM, wakesR, mach0, setS]
theorem wakes_right : machB wakesM = true := by
  have := once_right wakesK mach0_right
  rw [wakes_once] at this
  exact this
theorem wakes_twice : onceP wakesM wakesK = (wakesM, wakesR) :=
  once_again wakes_right wakes_call rfl
set_option maxRecDepth 100000 in
set_option maxHeartbeats 1000000 in
theorem l_wakes7 (w : World) : Calls Try.prog 24 #[] w fun e w' => e = .returned (.bool true) ∧ Ext w w' := by
  have hP0 : ∀ w : World, Prs w (fun _ => False) (.slice none 0 0) mach0.pairs := fun w => ⟨Sl.nil _ _ _, fun _ h => absurd h (by simp [mach0])⟩
  have hS0 : ∀ w : World, Ses w (fun _ => False) (.slice none 0 0) mach0.sess := fun w => ⟨Sl.nil _ _ _, fun _ h => absurd h (by simp [mach0])⟩
  have hok : wakesK.cmd.val.ok := ⟨⟨by decide, by decide⟩, by decide, Nat.zero_le _⟩
  have HX : Hid (Ext w w) := Lib.hid (Mod.refl _ w)
  go_enter Try.func24, Try.ntmps24
  go_wp2_with fail
  obtain ⟨w1, hw1⟩ : ∃ w1, w1 = w.alloc (.cells #[.int .i64 1, .int .i64 1, .int .i64 5, .string ⟨#[97]⟩, .int .i64 0, .float .f64 0, .string ⟨#[]⟩, .int .i64 1, .float .f64 4611686018427387904, .string ⟨#[]⟩] 32) := ⟨_, rfl⟩
  obtain ⟨bc, hbc⟩ : ∃ bc, bc = w.heap.size := ⟨_, rfl⟩
  have hzz : w.heap.size = bc := hbc.symm
  have hE : Ext w w1 := by rw [hw1]; exact (Mod.refl _ w).alloc _
  have hKn : w1.heap[bc]? = some (.cells #[.int .i64 1, .int .i64 1, .int .i64 5, .string ⟨#[97]⟩, .int .i64 0, .float .f64 0, .string ⟨#[]⟩, .int .i64 1, .float .f64 4611686018427387904, .string ⟨#[]⟩] 32 (0, 0)) := by rw [hw1, ← hzz]; exact heap_alloc_new w _
  have hzn : w1.heap.size = bc + 1 := by rw [hw1, ← hzz]; simp
  rw [← hw1, ← hbc]
  have HXo := HX
  replace HX := Lib.hid (HX.out.ext hE)
  have Kcw1 := Lib.hid hKn
  have hbz : w.heap.size ≤ bc := by have := HXo.out.size; omega
  clear hKn hE hw1 hbc HXo hzz
  have hbc := hbz
  clear hbz
  clear hzn
  have hso := HX.out.size
  refine (s_do_at w1 _ _ _ _ mach0 wakesK (hP0 _) (hS0 _) (by simp [mach0]) hok wakes_once).mono ?_
  rintro e w2 ⟨p1, v1, rfl, hN, hE⟩
  have Kcw2 := Lib.hid (hE.blk Kcw1.out id)
  replace HX := Lib.hid (HX.out.ext hE)
  clear Kcw1
  obtain ⟨A1, c1, rfl⟩ := own_form hN.1.1
  obtain ⟨B1, d1, rfl⟩ := own_form hN.2.1.1
  have HN1 := Lib.hid (newM_up hN hso)
  clear hN hso
  clear hE
  have c_0 : w2.cell? ⟨bc, 0, none⟩ = some _ := blk_cell Kcw2.out rfl
  have c_1 : w2.cell? ⟨bc, 1, none⟩ = some _ := blk_cell Kcw2.out rfl
  have c_2 : w2.cell? ⟨bc, 2, none⟩ = some _ := blk_cell Kcw2.out rfl
  have c_3 : w2.cell? ⟨bc, 3, none⟩ = some _ := blk_cell Kcw2.out rfl
  have c_4 : w2.cell? ⟨bc, 4, none⟩ = some _ := blk_cell Kcw2.out rfl
  have c_5 : w2.cell? ⟨bc, 5, none⟩ = some _ := blk_cell Kcw2.out rfl
  have c_6 : w2.cell? ⟨bc, 6, none⟩ = some _ := blk_cell Kcw2.out rfl
  have c_7 : w2.cell? ⟨bc, 7, none⟩ = some _ := blk_cell Kcw2.out rfl
  have c_8 : w2.cell? ⟨bc, 8, none⟩ = some _ := blk_cell Kcw2.out rfl
  have c_9 : w2.cell? ⟨bc, 9, none⟩ = some _ := blk_cell Kcw2.out rfl
  have c_l : bc < w2.heap.size := (Array.getElem?_eq_some_iff.1 Kcw2.out).1
  go_wp2_with fail
  obtain ⟨w3, hw3⟩ : ∃ w3, w3 = w2.alloc (.cells #[.slice A1 wakesM.pairs.length c1, .slice B1 wakesM.sess.length d1] 25) := ⟨_, rfl⟩
  obtain ⟨bm, hbm⟩ : ∃ bm, bm = w2.heap.size := ⟨_, rfl⟩
  have hzz : w2.heap.size = bm := hbm.symm
  have hE : Ext w2 w3 := by rw [hw3]; exact (Mod.refl _ w2).alloc _
  have hKn : w3.heap[bm]? = some (.cells #[.slice A1 wakesM.pairs.length c1, .slice B1 wakesM.sess.length d1] 25 (0, 0)) := by rw [hw3, ← hzz]; exact heap_alloc_new w2 _
  have hzn : w3.heap.size = bm + 1 := by rw [hw3, ← hzz]; simp
  rw [← hw3, ← hbm]
  have hltcm : bc < bm := by have := (Array.getElem?_eq_some_iff.1 Kcw2.out).1; omega
  clear c_0 c_1 c_2 c_3 c_4 c_5 c_6 c_7 c_8 c_9 c_l
  have HXo := HX
  have Kcw3 := Lib.hid (hE.blk Kcw2.out id)
  replace HN1 := Lib.hid (newM_mod HN1.out hE (fun _ _ => id) (fun _ _ => id))
  replace HX := Lib.hid (HX.out.ext hE)
  clear Kcw2
  have Kmw3 := Lib.hid hKn
  have hbz : w.heap.size ≤ bm := by have := HXo.out.size; omega
  clear hKn hE hw3 hbm HXo hzz
  have hbm := hbz
  clear hbz
  obtain ⟨w4, hw4⟩ : ∃ w4, w4 = w3.alloc (.cells #[.int .i64 wakesR.code, .int .i64 wakesR.val.kind, .float .f64 wakesR.val.num, .string wakesR.val.text] 38) := ⟨_, rfl⟩
  obtain ⟨br, hbr⟩ : ∃ br, br = bm + 1 := ⟨_, rfl⟩
  have hzz : w3.heap.size = br := hzn.trans hbr.symm
  clear hzn
  have hE : Ext w3 w4 := by rw [hw4]; exact (Mod.refl _ w3).alloc _
  have hKn : w4.heap[br]? = some (.cells #[.int .i64 wakesR.code, .int .i64 wakesR.val.kind, .float .f64 wakesR.val.num, .string wakesR.val.text] 38 (0, 0)) := by rw [hw4, ← hzz]; exact heap_alloc_new w3 _
  have hzn : w4.heap.size = br + 1 := by rw [hw4, ← hzz]; simp
  rw [← hw4, ← hbr]
  have hltcr : bc < br := by have := (Array.getElem?_eq_some_iff.1 Kcw3.out).1; omega
  have hltmr : bm < br := by have := (Array.getElem?_eq_some_iff.1 Kmw3.out).1; omega
  have HXo := HX
  have Kcw4 := Lib.hid (hE.blk Kcw3.out id)
  have Kmw4 := Lib.hid (hE.blk Kmw3.out id)
  replace HN1 := Lib.hid (newM_mod HN1.out hE (fun _ _ => id) (fun _ _ => id))
  replace HX := Lib.hid (HX.out.ext hE)
  clear Kcw3
  clear Kmw3
  have Krw4 := Lib.hid hKn
  have hbz : w.heap.size ≤ br := by have := HXo.out.size; omega
  clear hKn hE hw4 hbr HXo hzz
  have hbr := hbz
  clear hbz
  clear hzn
  have hso := HX.out.size
  refine (s_do_at w4 _ _ _ _ wakesM wakesK (HN1.out.prs) (HN1.out.ses) (mach_small wakes_right) hok wakes_twice).mono ?_
  rintro e w5 ⟨p2, v2, rfl, hN, hE⟩
  have Kcw5 := Lib.hid (hE.blk Kcw4.out id)
  have Kmw5 := Lib.hid (hE.blk Kmw4.out id)
  have Krw5 := Lib.hid (hE.blk Krw4.out id)
  replace HN1 := Lib.hid (newM_mod HN1.out hE (fun _ _ => id) (fun _ _ => id))
  replace HX := Lib.hid (HX.out.ext hE)
  clear Kcw4
  clear Kmw4
  clear Krw4
  obtain ⟨A2, c2, rfl⟩ := own_form hN.1.1
  obtain ⟨B2, d2, rfl⟩ := own_form hN.2.1.1
  have HN2 := Lib.hid (newM_up hN hso)
  clear hN hso
  clear hE
  have c_0 : w5.cell? ⟨bc, 0, none⟩ = some _ := blk_cell Kcw5.out rfl
  have c_1 : w5.cell? ⟨bc, 1, none⟩ = some _ := blk_cell Kcw5.out rfl
  have c_2 : w5.cell? ⟨bc, 2, none⟩ = some _ := blk_cell Kcw5.out rfl
  have c_3 : w5.cell? ⟨bc, 3, none⟩ = some _ := blk_cell Kcw5.out rfl
  have c_4 : w5.cell? ⟨bc, 4, none⟩ = some _ := blk_cell Kcw5.out rfl
  have c_5 : w5.cell? ⟨bc, 5, none⟩ = some _ := blk_cell Kcw5.out rfl
  have c_6 : w5.cell? ⟨bc, 6, none⟩ = some _ := blk_cell Kcw5.out rfl
  have c_7 : w5.cell? ⟨bc, 7, none⟩ = some _ := blk_cell Kcw5.out rfl
  have c_8 : w5.cell? ⟨bc, 8, none⟩ = some _ := blk_cell Kcw5.out rfl
  have c_9 : w5.cell? ⟨bc, 9, none⟩ = some _ := blk_cell Kcw5.out rfl
  have c_l : bc < w5.heap.size := (Array.getElem?_eq_some_iff.1 Kcw5.out).1
  have m_0 : w5.cell? ⟨bm, 0, none⟩ = some _ := blk_cell Kmw5.out rfl
  have m_1 : w5.cell? ⟨bm, 1, none⟩ = some _ := blk_cell Kmw5.out rfl
  have m_l : bm < w5.heap.size := (Array.getElem?_eq_some_iff.1 Kmw5.out).1
  have r_0 : w5.cell? ⟨br, 0, none⟩ = some _ := blk_cell Krw5.out rfl
  have r_1 : w5.cell? ⟨br, 1, none⟩ = some _ := blk_cell Krw5.out rfl
  have r_2 : w5.cell? ⟨br, 2, none⟩ = some _ := blk_cell Krw5.out rfl
  have r_3 : w5.cell? ⟨br, 3, none⟩ = some _ := blk_cell Krw5.out rfl
  have r_l : br < w5.heap.size := (Array.getElem?_eq_some_iff.1 Krw5.out).1
  obtain ⟨g, off, x, hA, hgT, hx, hxok, hcells⟩ := HN2.out.prs.at (i := 0) (by simp [wakesM])
  subst hA
  have ngb : ¬ g = bm := own_apart HN2.out.1.1 hgT Kmw5.out (by decide)
  simp [wakesM] at hx
  subst hx
  have x2 : w5.cell? ⟨g, off + 1 + 1, none⟩ = some (.float .f64 4611686018427387904) := by simpa using hcells 2 _ rfl
  have hg : g < w5.heap.size := World.block_lt_of_cell? _ _ x2
  have e1 : (wakesR.code == 0) = true := rfl
  have e2 : ((wakesM.pairs.length : Int) == 1) = true := rfl
  have e3 : (0 : Int) < (wakesM.pairs.length : Int) := by simp [wakesM]
  have fz0 := blk_free 0 Kmw5.out
  have fz1 := blk_free 1 Kmw5.out
  clear hcells hxok hgT
  go_wp2
  go_ret
  refine ⟨rfl, Mod.toExt ?_⟩
  repeat (first | exact Ext.mod HX.out _ | refine Mod.alloc ?_ _ | refine Mod.setCell ?_ (.inl hbm) _)
end Go.Proofs.Ytplpegjnmlabkaa
