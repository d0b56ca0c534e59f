/-
  The contract of the page's Do. Conditions: as each theorem names them.
-/
import Derived.Test.YthhjaneadbkccaaKvSet
import Derived.Test.YthhjaneadbkccaaKvSmall
import Derived.Test.YthhjaneadbkccaaKvChk2
import Derived.Test.YthhjaneadbkccaaKvGet
import Derived.Test.YthhjaneadbkccaaKvCmd4
import Derived.Deep.DeepCutAuto
import Derived.Deep.CutBlock
import Derived.Deep.RegionHeld3
import Derived.StillTailTactics
namespace Go.Proofs.Ythhjaneadbkccaa
set_option linter.unusedSimpArgs false
open Go.RowKit

/-- What a Do tells: pairs of its own, and a reply. -/
def DoOut (w : World) (l : List APair) (r : AReply) (e : Ending) (w' : World) : Prop :=
  ∃ v', e = .returned (.tuple #[v', .agg #[.int .i64 r.code, .int .i64 r.val.kind, .float .f64 r.val.num, .string r.val.text]]) ∧ NewP w w' v' l ∧ Ext w w'
theorem newP_mod {W w1 w2 : World} {S : Nat → Prop} {v : Value} {l : List APair} (h : NewP W w1 v l) (hm : Mod S w1 w2) (hd : ∀ g, v.ownBlock = some g → ¬ S g) : NewP W w2 v l :=
  ⟨own_mod h.1 hm hd, h.2.1, h.2.2⟩
theorem newP_up {W w0 w1 : World} {v : Value} {l : List APair} (h : NewP w0 w1 v l) (hs : W.heap.size ≤ w0.heap.size) : NewP W w1 v l :=
  ⟨h.1, h.2.1, fun g hg => Nat.le_trans hs (h.2.2 g hg)⟩
theorem blk_cell {w : World} {b j : Nat} {cs : List Value} {t : TypeId} {u : Value} (h : w.heap[b]? = some (.cells cs.toArray t (0, 0))) (hj : cs[j]? = some u) : w.cell? ⟨b, j, none⟩ = some u := by
  simp [World.cell?, h, hj]
theorem blk_free {w : World} {b : Nat} {cs : Array Value} {t : TypeId} (j : Nat) (h : w.heap[b]? = some (.cells cs t (0, 0))) : w.frozen? ⟨b, j, none⟩ = false := by
  simp [World.frozen?, h]
theorem doOut_of {w W0 w2 w' : World} {b : Nat} {v : Value} {l : List APair} {r : AReply} {e : Ending} (hN : NewP W0 w2 v l) (hE : Ext w w2) (hm : Mod (fun k => k = b + 1) w2 w') (hb : b + 1 < W0.heap.size) (hz : b ≥ w.heap.size)
    (he : e = .returned (.tuple #[v, .agg #[.int .i64 r.code, .int .i64 r.val.kind, .float .f64 r.val.num, .string r.val.text]])) : DoOut w l r e w' :=
  ⟨v, he, newP_up (newP_mod hN hm (fun g hg h => by have := hN.2.2 g hg; omega)) (by omega), Mod.toExt ((hE.mod (Since w.heap.size)).trans hm (fun k _ h => by unfold Since; omega))⟩
theorem mod_same {a w : World} {b : Nat} (h : Mod (fun k => k = b) a w) (j : Nat) (u : Value) : Mod (fun k => k = b) a (w.setCell ⟨b, j, none⟩ u) := h.setCell (p := ⟨b, j, none⟩) (.inr rfl) u
theorem two_new (w : World) (o p : Obj) : ((w.alloc o).alloc p).heap[w.heap.size]? = some o ∧ ((w.alloc o).alloc p).heap[w.heap.size + 1]? = some p ∧ ((w.alloc o).alloc p).heap.size = w.heap.size + 2 := by
  refine ⟨?_, ?_, by simp⟩
  · rw [Below.heap_alloc _ _ _ (by simp)]; exact heap_alloc_new w _
  · have := heap_alloc_new (w.alloc o) p; simpa using this

set_option maxRecDepth 100000 in
set_option maxHeartbeats 4000000 in
theorem r_do_bad (w : World) (T : Nat → Prop) (v : Value) (l : List APair) (c : ACmd) (h : Prs w T v l) (hl : l.length ≤ 1000000) (n : Int) (hn : n ≠ 0) (hc : cmdE c = n ∨ (cmdE c = 0 ∧ pairsB l = false ∧ n = 6)) :
    Calls Try.prog 30 #[v, .agg #[.int .i64 c.kind, .string c.key, .int .i64 c.old.kind, .float .f64 c.old.num, .string c.old.text, .int .i64 c.val.kind, .float .f64 c.val.num, .string c.val.text]] w (DoOut w l ⟨n, AVal.zero⟩) := by
  have dn : (n != 0) = true := by simpa using hn
  rcases hc with hc | ⟨hc, hp, rfl⟩
  · have dc : (n == 0) = false := by simpa using hn
    clear hn
    go_enter Try.func30, Try.ntmps30
    go_wp2_with fail
    obtain ⟨W0, hW0⟩ : ∃ W0, W0 = (w.alloc (.cells #[.int .i64 c.kind, .string c.key, .int .i64 c.old.kind, .float .f64 c.old.num, .string c.old.text, .int .i64 c.val.kind, .float .f64 c.val.num, .string c.val.text] 27)).alloc (.cells #[.int .i64 0, .int .i64 0, .float .f64 0, .string ⟨#[]⟩] 33) := ⟨_, rfl⟩
    obtain ⟨b3, hb3⟩ : ∃ b3, b3 = w.heap.size := ⟨_, rfl⟩
    obtain ⟨hB3, hB5, hZ0⟩ := two_new w (.cells #[.int .i64 c.kind, .string c.key, .int .i64 c.old.kind, .float .f64 c.old.num, .string c.old.text, .int .i64 c.val.kind, .float .f64 c.val.num, .string c.val.text] 27) (.cells #[.int .i64 0, .int .i64 0, .float .f64 0, .string ⟨#[]⟩] 33)
    have hE : Ext w W0 := by rw [hW0]; exact ((Mod.refl _ w).alloc _).alloc _
    rw [← hW0, ← hb3] at hB3 hB5 hZ0 ⊢
    have hZ : w.heap.size ≤ b3 := Nat.le_of_eq hb3.symm
    have Hb3 := Lib.hid hb3
    have HW0 := Lib.hid hW0
    have hw0 : b3 + 1 < W0.heap.size := by omega
    have hw0' : b3 < W0.heap.size := by omega
    clear hW0 hb3
    have k0 : W0.cell? ⟨b3, 0, none⟩ = some _ := blk_cell hB3 rfl
    have k1 : W0.cell? ⟨b3, 1, none⟩ = some _ := blk_cell hB3 rfl
    have k2 : W0.cell? ⟨b3, 2, none⟩ = some _ := blk_cell hB3 rfl
    have k3 : W0.cell? ⟨b3, 3, none⟩ = some _ := blk_cell hB3 rfl
    have k4 : W0.cell? ⟨b3, 4, none⟩ = some _ := blk_cell hB3 rfl
    have k5 : W0.cell? ⟨b3, 5, none⟩ = some _ := blk_cell hB3 rfl
    have k6 : W0.cell? ⟨b3, 6, none⟩ = some _ := blk_cell hB3 rfl
    have k7 : W0.cell? ⟨b3, 7, none⟩ = some _ := blk_cell hB3 rfl
    have g0 : W0.cell? ⟨b3 + 1, 0, none⟩ = some _ := blk_cell hB5 rfl
    have g1 : W0.cell? ⟨b3 + 1, 1, none⟩ = some _ := blk_cell hB5 rfl
    have g2 : W0.cell? ⟨b3 + 1, 2, none⟩ = some _ := blk_cell hB5 rfl
    have g3 : W0.cell? ⟨b3 + 1, 3, none⟩ = some _ := blk_cell hB5 rfl
    have f0 : W0.frozen? ⟨b3 + 1, 0, none⟩ = false := blk_free 0 hB5
    have f1 : W0.frozen? ⟨b3 + 1, 1, none⟩ = false := blk_free 1 hB5
    have f2 : W0.frozen? ⟨b3 + 1, 2, none⟩ = false := blk_free 2 hB5
    have f3 : W0.frozen? ⟨b3 + 1, 3, none⟩ = false := blk_free 3 hB5
    have HB3 := Lib.hid hB3
    have HB5 := Lib.hid hB5
    have h2 := h.ext hE
    clear hB3 hB5 hZ0
    refine (k_twinPairs _ T v l h2 hl).mono ?_
    rintro e w1 ⟨vs, rfl, hN, hE1⟩
    obtain ⟨hc1, hf1⟩ := bcell hE1
    have hz1 := hE1.size
    have p0 : b3 < w1.heap.size := by omega
    have p1 : b3 + 1 < w1.heap.size := by omega
    have HE1 := Lib.hid (hE.ext hE1)
    have HF1 := Lib.hid hE1
    have HN := Lib.hid hN
    have h3 := h2.ext hE1
    clear hN hE1
    go_wp2_with fail
    refine (r_cmd c _).mono ?_
    rintro e w2 ⟨rfl, hE2⟩
    obtain ⟨hc2, hf2⟩ := bcell hE2
    have hz2 := hE2.size
    have p2 : b3 < w2.heap.size := by omega
    have p3 : b3 + 1 < w2.heap.size := by omega
    have HE2 := Lib.hid (HE1.out.ext hE2)
    have HF2 := Lib.hid (HF1.out.ext hE2)
    have HN2 := Lib.hid (newP_mod HN.out hE2 (fun _ _ => id))
    have h4 := h3.ext hE2
    clear hE2
    rw [hc]
    clear hc
    go_wp2
    refine bodyPost_ret (v := .tuple #[vs, .agg #[.int .i64 n, .int .i64 0, .float .f64 0, .string ⟨#[]⟩]]) (by simp [results, Try.results30, go_sem, g0, g1, g2, g3, hc1, hc2, p0, p1, p2, p3, hw0]) rfl ?_
    refine doOut_of (r := ⟨n, AVal.zero⟩) HN2.out HE2.out ?_ hw0 hZ rfl
    repeat (first | refine mod_same ?_ _ _ | refine Mod.drew ?_)
    exact Mod.refl _ _
  · clear hn
    go_enter Try.func30, Try.ntmps30
    go_wp2_with fail
    obtain ⟨W0, hW0⟩ : ∃ W0, W0 = (w.alloc (.cells #[.int .i64 c.kind, .string c.key, .int .i64 c.old.kind, .float .f64 c.old.num, .string c.old.text, .int .i64 c.val.kind, .float .f64 c.val.num, .string c.val.text] 27)).alloc (.cells #[.int .i64 0, .int .i64 0, .float .f64 0, .string ⟨#[]⟩] 33) := ⟨_, rfl⟩
    obtain ⟨b3, hb3⟩ : ∃ b3, b3 = w.heap.size := ⟨_, rfl⟩
    obtain ⟨hB3, hB5, hZ0⟩ := two_new w (.cells #[.int .i64 c.kind, .string c.key, .int .i64 c.old.kind, .float .f64 c.old.num, .string c.old.text, .int .i64 c.val.kind, .float .f64 c.val.num, .string c.val.text] 27) (.cells #[.int .i64 0, .int .i64 0, .float .f64 0, .string ⟨#[]⟩] 33)
    have hE : Ext w W0 := by rw [hW0]; exact ((Mod.refl _ w).alloc _).alloc _
    rw [← hW0, ← hb3] at hB3 hB5 hZ0 ⊢
    have hZ : w.heap.size ≤ b3 := Nat.le_of_eq hb3.symm
    have Hb3 := Lib.hid hb3
    have HW0 := Lib.hid hW0
    have hw0 : b3 + 1 < W0.heap.size := by omega
    have hw0' : b3 < W0.heap.size := by omega
    clear hW0 hb3
    have k0 : W0.cell? ⟨b3, 0, none⟩ = some _ := blk_cell hB3 rfl
    have k1 : W0.cell? ⟨b3, 1, none⟩ = some _ := blk_cell hB3 rfl
    have k2 : W0.cell? ⟨b3, 2, none⟩ = some _ := blk_cell hB3 rfl
    have k3 : W0.cell? ⟨b3, 3, none⟩ = some _ := blk_cell hB3 rfl
    have k4 : W0.cell? ⟨b3, 4, none⟩ = some _ := blk_cell hB3 rfl
    have k5 : W0.cell? ⟨b3, 5, none⟩ = some _ := blk_cell hB3 rfl
    have k6 : W0.cell? ⟨b3, 6, none⟩ = some _ := blk_cell hB3 rfl
    have k7 : W0.cell? ⟨b3, 7, none⟩ = some _ := blk_cell hB3 rfl
    have g0 : W0.cell? ⟨b3 + 1, 0, none⟩ = some _ := blk_cell hB5 rfl
    have g1 : W0.cell? ⟨b3 + 1, 1, none⟩ = some _ := blk_cell hB5 rfl
    have g2 : W0.cell? ⟨b3 + 1, 2, none⟩ = some _ := blk_cell hB5 rfl
    have g3 : W0.cell? ⟨b3 + 1, 3, none⟩ = some _ := blk_cell hB5 rfl
    have f0 : W0.frozen? ⟨b3 + 1, 0, none⟩ = false := blk_free 0 hB5
    have f1 : W0.frozen? ⟨b3 + 1, 1, none⟩ = false := blk_free 1 hB5
    have f2 : W0.frozen? ⟨b3 + 1, 2, none⟩ = false := blk_free 2 hB5
    have f3 : W0.frozen? ⟨b3 + 1, 3, none⟩ = false := blk_free 3 hB5
    have HB3 := Lib.hid hB3
    have HB5 := Lib.hid hB5
    have h2 := h.ext hE
    clear hB3 hB5 hZ0
    refine (k_twinPairs _ T v l h2 hl).mono ?_
    rintro e w1 ⟨vs, rfl, hN, hE1⟩
    obtain ⟨hc1, hf1⟩ := bcell hE1
    have hz1 := hE1.size
    have p0 : b3 < w1.heap.size := by omega
    have p1 : b3 + 1 < w1.heap.size := by omega
    have HE1 := Lib.hid (hE.ext hE1)
    have HF1 := Lib.hid hE1
    have HN := Lib.hid hN
    have h3 := h2.ext hE1
    clear hN hE1
    go_wp2_with fail
    refine (r_cmd c _).mono ?_
    rintro e w2 ⟨rfl, hE2⟩
    obtain ⟨hc2, hf2⟩ := bcell hE2
    have hz2 := hE2.size
    have p2 : b3 < w2.heap.size := by omega
    have p3 : b3 + 1 < w2.heap.size := by omega
    have HE2 := Lib.hid (HE1.out.ext hE2)
    have HF2 := Lib.hid (HF1.out.ext hE2)
    have HN2 := Lib.hid (newP_mod HN.out hE2 (fun _ _ => id))
    have h4 := h3.ext hE2
    clear hE2
    rw [hc]
    clear hc
    go_wp2_with fail
    refine (r_pairs _ T v l h4).mono ?_
    rintro e w3 ⟨rfl, hE3⟩
    obtain ⟨hc3, hf3⟩ := bcell hE3
    have hz3 := hE3.size
    have p4 : b3 < w3.heap.size := by omega
    have p5 : b3 + 1 < w3.heap.size := by omega
    have HE3 := Lib.hid (HE2.out.ext hE3)
    have HF3 := Lib.hid (HF2.out.ext hE3)
    have HN3 := Lib.hid (newP_mod HN2.out hE3 (fun _ _ => id))
    have h5 := h4.ext hE3
    clear hE3
    rw [hp]
    clear hp
    go_wp2
    refine bodyPost_ret (v := .tuple #[vs, .agg #[.int .i64 6, .int .i64 0, .float .f64 0, .string ⟨#[]⟩]]) (by simp [results, Try.results30, go_sem, g0, g1, g2, g3, hc1, hc2, hc3, p0, p1, p2, p3, p4, p5, hw0]) rfl ?_
    refine doOut_of (r := ⟨6, AVal.zero⟩) HN3.out HE3.out ?_ hw0 hZ rfl
    repeat (first | refine mod_same ?_ _ _ | refine Mod.drew ?_)
    exact Mod.refl _ _
end Go.Proofs.Ythhjaneadbkccaa
