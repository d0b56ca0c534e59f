/-
 A wire.reader; the contract of its into. Conditions: as each theorem names them.
-/
import Derived.Test.YtfkacakbengboaaWireA
import Derived.Test.YtfkacakbengboaaWireRdP
namespace Go.Proofs.Ytfkacakbengboaa
set_option linter.unusedSimpArgs false
open Go.RowKit

/-- A wire.reader at the head of block c: its pack.Reader lies at the head of b, all whose blocks are in S. -/
def Rw (w : World) (S : Nat → Prop) (c b : Nat) (r : RS) : Prop :=
 Rd w S b r ∧ (∃ t, w.heap[c]? = some (.cells #[.pointer (some ⟨b, 0, none⟩)] t (0, 0))) ∧ ¬ S c ∧ ∀ k, S k → k < w.heap.size
theorem Rw.mod {w w' : World} {S T : Nat → Prop} {c b : Nat} {r : RS} (h : Rw w S c b r) (hm : Mod T w w') (hd : ∀ g, S g → ¬ T g) (hc : ¬ T c) : Rw w' S c b r := by
 obtain ⟨h1, ⟨t, h2⟩, h3, h4⟩ := h
 exact ⟨h1.mod hm hd, ⟨t, hm.blk h2 hc⟩, h3, fun k hk => Nat.lt_of_lt_of_le (h4 k hk) hm.size⟩
theorem Rw.ext {w w' : World} {S : Nat → Prop} {c b : Nat} {r : RS} (h : Rw w S c b r) (hm : Ext w w') : Rw w' S c b r := h.mod hm (fun _ _ => id) id
theorem Rw.step {w w' : World} {S : Nat → Prop} {c b : Nat} {r r' : RS} (h : Rw w S c b r) (hm : Mod S w w') (hR : Rd w' S b r') : Rw w' S c b r' := by
 obtain ⟨h1, ⟨t, h2⟩, h3, h4⟩ := h
 exact ⟨hR, ⟨t, hm.blk h2 h3⟩, h3, fun k hk => Nat.lt_of_lt_of_le (h4 k hk) hm.size⟩
theorem Rw.cell {w : World} {S : Nat → Prop} {c b : Nat} {r : RS} (h : Rw w S c b r) : w.cell? ⟨c, 0, none⟩ = some (.pointer (some ⟨b, 0, none⟩)) := by
 obtain ⟨h1, ⟨t, h2⟩, h3, h4⟩ := h
 simp [World.cell?, h2]
theorem Rw.lt {w : World} {S : Nat → Prop} {c b : Nat} {r : RS} (h : Rw w S c b r) : c < w.heap.size := World.block_lt_of_cell? _ _ h.cell

/-- So many numbers are read. -/
def RS.ints : Nat → RS → List Int × RS
 | 0, r => ([], r)
 | n + 1, r => (r.int.1 :: (RS.ints n r.int.2).1, (RS.ints n r.int.2).2)
theorem blk_set {w : World} {b : Nat} {cs : List Value} {t : TypeId} (h : w.heap[b]? = some (.cells cs.toArray t (0, 0))) (j : Nat) (u : Value) : (w.setCell ⟨b, j, none⟩ u).heap[b]? = some (.cells (cs.set j u).toArray t (0, 0)) := by
 simp [World.setCell, Array.getElem?_modify, h]
theorem set_mid {α : Type} (p : List α) (o : List α) (s : List α) (i : Nat) (u : α) (hp : p.length = i) (ho : i < i + o.length) : (p ++ o ++ s).set i u = p ++ [u] ++ o.drop 1 ++ s := by
 subst hp
 cases o with
 | nil => simp at ho
 | cons x o => simp

/-- A list of pointers to the first cells of a block. -/
def ptrs (q n : Nat) : List Value := (List.range n).map fun j => .pointer (some ⟨q, j, none⟩)
def IntoOk (w : World) (S : Nat → Prop) (c b q : Nat) (r : RS) (n : Nat) (rest : List Value) (t : TypeId) (e : Ending) (w' : World) : Prop :=
 e = .returned (.tuple #[]) ∧ Rw w' S c b (RS.ints n r).2 ∧ w'.heap[q]? = some (.cells ((RS.ints n r).1.map (Value.int .i64) ++ rest).toArray t (0, 0)) ∧ Mod (fun k => S k ∨ k = q) w w'
set_option maxRecDepth 100000 in
set_option maxHeartbeats 1000000 in
theorem wr_into (w : World) (S T : Nat → Prop) (c b q : Nat) (r : RS) (n : Nat) (olds rest : List Value) (t : TypeId) (v : Value) (h : Rw w S c b r) (hq : w.heap[q]? = some (.cells (olds ++ rest).toArray t (0, 0))) (hol : olds.length = n) (hn : n ≤ 100)
  (hs : Sl w T 1 v n (ptrs q n)) (hT : ∀ g, T g → ¬ (S g ∨ g = q)) (hqS : ¬ S q) (hqc : c ≠ q) :
  Calls Try.prog 77 #[.pointer (some ⟨c, 0, none⟩), v] w (IntoOk w S c b q r n rest t) := by
 obtain ⟨A, cp, rfl⟩ := hs.form
 have Hs := Lib.hid hs
 have Hq := Lib.hid hq
 have Hol := Lib.hid hol
 have HT := Lib.hid hT
 have H := Lib.hid h
 have HqS := Lib.hid hqS
 clear hs hq hol hT h hqS
 go_enter Try.func77, Try.ntmps77
 go_wp2
 go_loopw [8] (fun iv wr => ∃ (i : Nat) (pre : List Int) (r' : RS), iv = .int .i64 i ∧ i ≤ n ∧ pre.length = i ∧ Rw wr S c b r' ∧ wr.heap[q]? = some (.cells (pre.map (Value.int .i64) ++ olds.drop i ++ rest).toArray t (0, 0)) ∧
   RS.ints n r = (pre ++ (RS.ints (n - i) r').1, (RS.ints (n - i) r').2) ∧ Mod (fun k => S k ∨ k = q) w wr) (fun iv _ => n - (intOf iv).toNat)
 case atStart => exact ⟨0, [], r, rfl, by omega, rfl, H.out, by simpa using Hq.out, by simp, Mod.refl _ _⟩
 case round =>
  obtain ⟨i, pre, r', rfl, hin, hpre, hR, hQ, hps, hm⟩ := hrel
  have HR := Lib.hid hR
  have HQ := Lib.hid hQ
  have Hps := Lib.hid hps
  have Hm := Lib.hid hm
  have Hpre := Lib.hid hpre
  clear hR hQ hps hm hpre
  by_cases hi : i < n
  case neg =>
   obtain rfl : i = n := by omega
   have hd : decide (i < i) = false := by simp
   go_wp2
   go_end0
   have e1 := Hps.out
   rw [Nat.sub_self] at e1
   refine ⟨rfl, ?_, ?_, Hm.out⟩
   ·
    rw [e1]; exact HR.out
   ·
    rw [e1, HQ.out, List.drop_eq_nil_of_le (by rw [Hol.out]; omega)]
    simp [RS.ints]
  obtain ⟨g, off, hA, hTg, hcell⟩ : ∃ g off, A = some ⟨g, off, none⟩ ∧ T g ∧ wr.cell? ⟨g, off + i, none⟩ = some (.pointer (some ⟨q, i, none⟩)) := by
   obtain ⟨_, A', c', e, h1, h2, hx⟩ := Hs.out
   injection e with e1 _ e3; subst e1; subst e3
   obtain ⟨g, off, rfl, hT, hcell⟩ := hx (by omega)
   exact ⟨g, off, rfl, hT, Hm.out.cell (hcell i _ (by simp [ptrs, hi])) (HT.out g hT)⟩
  subst hA
  have hrc := HR.out.cell
  go_wp2_with fail
  refine (r_int wr S b r' HR.out.1).mono ?_
  rintro e w1 ⟨rfl, hR1, hm1⟩
  have hQ1 := hm1.blk HQ.out HqS.out
  have hlen : i < (pre.map (Value.int .i64) ++ olds.drop i ++ rest).length := by have := Hpre.out; have := Hol.out; simp; omega
  obtain ⟨u0, hu0⟩ : ∃ u0, (pre.map (Value.int .i64) ++ olds.drop i ++ rest)[i]? = some u0 := ⟨_, List.getElem?_eq_getElem hlen⟩
  have qc : w1.cell? ⟨q, i, none⟩ = some u0 := blk_cell hQ1 hu0
  have qf : w1.frozen? ⟨q, i, none⟩ = false := blk_free i hQ1
  obtain ⟨k, hk⟩ : ∃ k, r'.int.1 = k := ⟨_, rfl⟩
  rw [hk]
  have hQ2 := blk_set hQ1 i (.int .i64 k)
  rw [set_mid _ _ _ i _ (by simpa using Hpre.out) (by have := Hol.out; simp; omega), List.drop_drop] at hQ2
  have hm2 : Mod (fun k => k = q) w1 (w1.setCell ⟨q, i, none⟩ (.int .i64 k)) := mod_same (Mod.refl _ _) _ _
  have hR2 : Rw (w1.setCell ⟨q, i, none⟩ (.int .i64 k)) S c b r'.int.2 := (HR.out.step hm1 hR1).mod hm2 (fun g hg e => HqS.out (e ▸ hg)) hqc
  have hm3 : Mod (fun k => S k ∨ k = q) w (w1.setCell ⟨q, i, none⟩ (.int .i64 k)) := (Hm.out.trans hm1 (fun _ _ h => .inl h)).trans hm2 (fun _ _ h => .inr h)
  have HQ2 := Lib.hid hQ2
  have HR2 := Lib.hid hR2
  have HM3 := Lib.hid hm3
  have Hk := Lib.hid hk
  clear hQ1 hQ2 hR2 hm3 hm2 hR1 hm1 hk hlen hu0
  go_wp2
  refine ⟨⟨i + 1, pre ++ [k], r'.int.2, by go_num, by omega, by simp [Hpre.out], HR2.out, by simpa using HQ2.out, ?_, HM3.out⟩, by simp [intOf]; omega⟩
  rw [Hps.out, show n - i = n - (i + 1) + 1 by omega, RS.ints, Hk.out]
  simp
end Go.Proofs.Ytfkacakbengboaa
