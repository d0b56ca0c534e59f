/-
  A wire.reader; the contract of its into. Conditions: as each theorem names them.
-/
import Derived.Test.YtjhnlncgmejkcaaGreatS5
import Derived.Test.YtjhnlncgmejkcaaGreatS3
import Derived.Test.YtjhnlncgmejkcaaGreatPackR
import Derived.Test.YtjhnlncgmejkcaaGreatGSpec
import Derived.Lib.ConvBytes
import Derived.Laws.IdiomStrings
import Derived.Test.YtjhnlncgmejkcaaGreatS4
import Derived.Test.YtjhnlncgmejkcaaGreatS7
set_option maxRecDepth 100000
set_option maxHeartbeats 2000000
namespace Go.Proofs.YtjhnlncgmejkcaaGreat
set_option linter.unusedSimpArgs false
open Go.RowKit
def Rw (w : World) (S : Nat → Prop) (c b : Nat) (r : RS) : Prop :=
 Rd w S b r ∧ (∃ t, w.heap[c]? = some (.cells #[.pointer (some ⟨b, 0, none⟩)] t (0, 0))) ∧ ¬ S c ∧ ∀ k, S k → k < w.heap.size
theorem Rw.mod {w w' : World} {S T : Nat → Prop} {c b : Nat} {r : RS} (h : Rw w S c b r) (hm : Mod T w w') (hd : ∀ g, S g → ¬ T g) (hc : ¬ T c) : Rw w' S c b r := by
 obtain ⟨h1, ⟨t, h2⟩, h3, h4⟩ := h
 exact ⟨h1.mod hm hd, ⟨t, hm.blk h2 hc⟩, h3, fun k hk => Nat.lt_of_lt_of_le (h4 k hk) hm.size⟩
theorem Rw.ext {w w' : World} {S : Nat → Prop} {c b : Nat} {r : RS} (h : Rw w S c b r) (hm : Ext w w') : Rw w' S c b r := h.mod hm (fun _ _ => id) id
theorem Rw.step {w w' : World} {S : Nat → Prop} {c b : Nat} {r r' : RS} (h : Rw w S c b r) (hm : Mod S w w') (hR : Rd w' S b r') : Rw w' S c b r' := by
 obtain ⟨h1, ⟨t, h2⟩, h3, h4⟩ := h
 exact ⟨hR, ⟨t, hm.blk h2 h3⟩, h3, fun k hk => Nat.lt_of_lt_of_le (h4 k hk) hm.size⟩
theorem Rw.cell {w : World} {S : Nat → Prop} {c b : Nat} {r : RS} (h : Rw w S c b r) : w.cell? ⟨c, 0, none⟩ = some (.pointer (some ⟨b, 0, none⟩)) := by
 obtain ⟨h1, ⟨t, h2⟩, h3, h4⟩ := h
 simp [World.cell?, h2]
theorem Rw.lt {w : World} {S : Nat → Prop} {c b : Nat} {r : RS} (h : Rw w S c b r) : c < w.heap.size := World.block_lt_of_cell? _ _ h.cell
def RS.ints : Nat → RS → List Int × RS
 | 0, r => ([], r)
 | n + 1, r => (r.int.1 :: (RS.ints n r.int.2).1, (RS.ints n r.int.2).2)
theorem yC {w : World} {b : Nat} {cs : List Value} {t : TypeId} (h : w.heap[b]? = some (.cells cs.toArray t (0, 0))) (j : Nat) (u : Value) : (w.setCell ⟨b, j, none⟩ u).heap[b]? = some (.cells (cs.set j u).toArray t (0, 0)) := by
 simp [World.setCell, Array.getElem?_modify, h]
theorem set_mid {α : Type} (p : List α) (o : List α) (s : List α) (i : Nat) (u : α) (hp : p.length = i) (ho : i < i + o.length) : (p ++ o ++ s).set i u = p ++ [u] ++ o.drop 1 ++ s := by
 subst hp
 cases o with
 | nil => simp at ho
 | cons x o => simp
def ptrs (q n : Nat) : List Value := (List.range n).map fun j => .pointer (some ⟨q, j, none⟩)
def IntoOk (w : World) (S : Nat → Prop) (c b q : Nat) (r : RS) (n : Nat) (rest : List Value) (t : TypeId) (e : Ending) (w' : World) : Prop :=
 e = .returned (.tuple #[]) ∧ Rw w' S c b (RS.ints n r).2 ∧ w'.heap[q]? = some (.cells ((RS.ints n r).1.map (Value.int .i64) ++ rest).toArray t (0, 0)) ∧ Mod (fun k => S k ∨ k = q) w w'
theorem zh6 (w : World) (S T : Nat → Prop) (c b q : Nat) (r : RS) (n : Nat) (olds rest : List Value) (t : TypeId) (v : Value) (h : Rw w S c b r) (hq : w.heap[q]? = some (.cells (olds ++ rest).toArray t (0, 0))) (hol : olds.length = n) (hn : n ≤ 100)
  (hs : Sl w T 1 v n (ptrs q n)) (hT : ∀ g, T g → ¬ (S g ∨ g = q)) (hqS : ¬ S q) (hqc : c ≠ q) :
  Calls Tryz.prog 173 #[.pointer (some ⟨c, 0, none⟩), v] w (IntoOk w S c b q r n rest t) := by
 obtain ⟨A, cp, rfl⟩ := hs.form
 have Hs := hJ hs
 have Hq := hJ hq
 have Hol := hJ hol
 have HT := hJ hT
 have H := hJ h
 have HqS := hJ hqS
 clear hs hq hol hT h hqS
 go_enter Tryz.func173, Tryz.ntmps173
 go_wp2
 go_loopw [8] (fun iv wr => ∃ (i : Nat) (pre : List Int) (r' : RS), iv = .int .i64 i ∧ i ≤ n ∧ pre.length = i ∧ Rw wr S c b r' ∧ wr.heap[q]? = some (.cells (pre.map (Value.int .i64) ++ olds.drop i ++ rest).toArray t (0, 0)) ∧
   RS.ints n r = (pre ++ (RS.ints (n - i) r').1, (RS.ints (n - i) r').2) ∧ Mod (fun k => S k ∨ k = q) w wr) (fun iv _ => n - (intOf iv).toNat)
 case atStart => exact ⟨0, [], r, rfl, by omega, rfl, H.out, by simpa using Hq.out, by simp, Mod.refl _ _⟩
 obtain ⟨i, pre, r', rfl, hin, hpre, hR, hQ, hps, hm⟩ := hrel
 have HR := hJ hR
 have HQ := hJ hQ
 have Hps := hJ hps
 have Hm := hJ hm
 have Hpre := hJ hpre
 clear hR hQ hps hm hpre
 by_cases hi : i < n
 case neg =>
  obtain rfl : i = n := by omega
  have hd : decide (i < i) = false := by simp
  go_wp2
  go_end0
  have e1 := Hps.out
  rw [Nat.sub_self] at e1
  refine ⟨rfl, ?_, ?_, Hm.out⟩
  · rw [e1]; exact HR.out
  rw [e1, HQ.out, List.drop_eq_nil_of_le (by rw [Hol.out]; omega)]
  simp [RS.ints]
 obtain ⟨g, off, hA, hTg, hcell⟩ : ∃ g off, A = some ⟨g, off, none⟩ ∧ T g ∧ wr.cell? ⟨g, off + i, none⟩ = some (.pointer (some ⟨q, i, none⟩)) := by
  obtain ⟨_, A', c', e, h1, h2, hx⟩ := Hs.out
  injection e with e1 _ e3; subst e1; subst e3
  obtain ⟨g, off, rfl, hT, hcell⟩ := hx (by omega)
  exact ⟨g, off, rfl, hT, Hm.out.cell (hcell i _ (by simp [ptrs, hi])) (HT.out g hT)⟩
 subst hA
 have hrc := HR.out.cell
 go_wp2_with fail
 refine (zn7 wr S b r' HR.out.1).mono ?_
 rintro e w1 ⟨rfl, hR1, hm1⟩
 have hQ1 := hm1.blk HQ.out HqS.out
 have hlen : i < (pre.map (Value.int .i64) ++ olds.drop i ++ rest).length := by have := Hpre.out; have := Hol.out; simp; omega
 obtain ⟨u0, hu0⟩ : ∃ u0, (pre.map (Value.int .i64) ++ olds.drop i ++ rest)[i]? = some u0 := ⟨_, List.getElem?_eq_getElem hlen⟩
 have qc : w1.cell? ⟨q, i, none⟩ = some u0 := zB hQ1 hu0
 have qf : w1.frozen? ⟨q, i, none⟩ = false := zK i hQ1
 obtain ⟨k, hk⟩ : ∃ k, r'.int.1 = k := ⟨_, rfl⟩
 rw [hk]
 have hQ2 := yC hQ1 i (.int .i64 k)
 rw [set_mid _ _ _ i _ (by simpa using Hpre.out) (by have := Hol.out; simp; omega), List.drop_drop] at hQ2
 have hm2 : Mod (fun k => k = q) w1 (w1.setCell ⟨q, i, none⟩ (.int .i64 k)) := zO (Mod.refl _ _) _ _
 have hR2 : Rw (w1.setCell ⟨q, i, none⟩ (.int .i64 k)) S c b r'.int.2 := (HR.out.step hm1 hR1).mod hm2 (fun g hg e => HqS.out (e ▸ hg)) hqc
 have hm3 : Mod (fun k => S k ∨ k = q) w (w1.setCell ⟨q, i, none⟩ (.int .i64 k)) := (Hm.out.trans hm1 (fun _ _ h => .inl h)).trans hm2 (fun _ _ h => .inr h)
 have HQ2 := hJ hQ2
 have HR2 := hJ hR2
 have HM3 := hJ hm3
 have Hk := hJ hk
 clear hQ1 hQ2 hR2 hm3 hm2 hR1 hm1 hk hlen hu0
 go_wp2
 refine ⟨⟨i + 1, pre ++ [k], r'.int.2, by go_num, by omega, by simp [Hpre.out], HR2.out, by simpa using HQ2.out, ?_, HM3.out⟩, by simp [intOf]; omega⟩
 rw [Hps.out, show n - i = n - (i + 1) + 1 by omega, RS.ints, Hk.out]
 simp
theorem zaE (t : List UInt8) : (yH t).length ≤ 10 + t.length := by have := zV t.length; simp [yH]; omega
theorem zlY : ∀ k x, (hib k x).length = k := by
 intro k x
 induction k with
 | zero => rfl
 | succ k ih => simp [hib, ih]
theorem zc0 (v : jY) : (zcY v).length ≤ 30 + v.text.size := by
 have h1 := zV v.kind
 have h2 := zaE (zaF v.text)
 have h3 : (yT v.num).length = 8 := zlY 8 _
 have h4 : (zaF v.text).length = v.text.size := rfl
 unfold zcY
 rw [List.length_append]
 split
 · omega
 split
 · omega
 simp; omega
theorem zi7 {α : Type} {f : α → List UInt8} {l : List α} {i : Nat} {x : α} (h : l[i]? = some x) : (l.take (i + 1)).flatMap f = (l.take i).flatMap f ++ f x := by
 obtain ⟨hi, rfl⟩ := List.getElem?_eq_some_iff.1 h
 rw [List.take_succ_eq_append_getElem hi, List.flatMap_append]
 simp
theorem zi8 {α : Type} {f : α → List UInt8} {l : List α} {k : Nat} (h : ∀ x ∈ l, (f x).length ≤ k) : (l.flatMap f).length ≤ l.length * k := by
 induction l with
 | nil => simp
 | cons a l ih =>
  have h1 := h a (by simp)
  have h2 := ih (fun x hx => h x (by simp [hx]))
  rw [List.flatMap_cons, List.length_append, List.length_cons, Nat.succ_mul]
  omega
theorem take_len {α : Type} {f : α → List UInt8} {l : List α} {k : Nat} (i : Nat) (h : ∀ x ∈ l, (f x).length ≤ k) : ((l.take i).flatMap f).length ≤ l.length * k := by
 have h1 := zi8 (f := f) (l := l.take i) (k := k) (fun x hx => h x (List.mem_of_mem_take hx))
 have h2 : (l.take i).length ≤ l.length := by rw [List.length_take]; omega
 exact Nat.le_trans h1 (Nat.mul_le_mul_right _ h2)
theorem zpE (s : ByteArray) (w : World) : (convert 9 25 (.string s)).run Tryz.prog w = .ok (.slice (some ⟨w.heap.size, 0, none⟩) s.size (grownCap w s.size 0 5)) (Lib.bytesWorld w 5 s) :=
 Lib.run_convert_string_bytes w _ _ _ s Tryz.underlying9 Tryz.underlying25 Tryz.underlying5
theorem bw_ext (w : World) (e : TypeId) (s : ByteArray) : Ext w (Lib.bytesWorld w e s) :=
 ⟨rfl, rfl, rfl, by rw [Lib.bytesWorld_size]; omega, fun k hk _ => Lib.bytesWorld_at_old w e s k hk⟩
theorem bw_byt (w : World) (e : TypeId) (s : ByteArray) (hs : s.size ≤ maxLen) : Byt (Lib.bytesWorld w e s) (fun g => w.heap.size ≤ g) (.slice (some ⟨w.heap.size, 0, none⟩) s.size (grownCap w s.size 0 e)) (zaF s) := by
 have hl : (zaF s).length = s.size := rfl
 refine ⟨by simp, _, _, by rw [hl], by rw [hl]; exact grownCap_ge w _ _ _, grownCap_le_maxLen w _ _ _ hs, fun _ => ⟨_, 0, rfl, Nat.le_refl _, fun j u hu => ?_⟩⟩
 have hj : j < s.size := by have := (List.getElem?_eq_some_iff.1 hu).1; simpa using this
 rw [Nat.zero_add, Lib.bytesWorld_cell w e s j hj, ← hu]
 have hjl : j < s.data.toList.length := by simpa using hj
 rw [List.getElem?_map, List.getElem?_eq_getElem hjl, Option.map_some, List.getD, List.getElem?_eq_getElem hjl]
 rfl
theorem zeR {w : World} {T : Nat → Prop} {v : Value} {l : List UInt8} (h : Byt w T v l) : (convert 25 9 v).run Tryz.prog w = .ok (.string ⟨l.toArray⟩) w := by
 obtain ⟨_, A, c, rfl, hn, hc, hx⟩ := h
 rcases A with _ | a
 ·
  have hl : l = [] := by
   rcases l with _ | ⟨x, l⟩
   · rfl
   obtain ⟨g, off, e, _⟩ := hx (by simp)
   cases e
  subst hl
  rw [run_convert_bytes_string w _ _ _ none _ c Tryz.underlying25 Tryz.underlying5 Tryz.underlying9]
  simp [Conv.bytesToString]
  rfl
 refine run_convert_bytes_back w _ _ _ a c l Tryz.underlying25 Tryz.underlying5 Tryz.underlying9 (fun j hj => ?_)
 obtain ⟨g, off, e, _, hcell⟩ := hx (by omega)
 injection e with e
 subst e
 have h9 := hcell j (.int .u8 (l[j].toNat : Int)) (by simp [hj, B])
 simp only [Addr.add]
 split
 ·
  rename_i h0
  subst h0
  simpa using h9
 simpa using h9
theorem Rd.fin {w : World} {S : Nat → Prop} {b : Nat} {r : RS} (h : Rd w S b r) : Rd w (fun k => S k ∧ k < w.heap.size) b r := by
 obtain ⟨v, t, hb, ⟨hl, A, c, e, hn, hc, hx⟩, hS⟩ := h
 refine ⟨v, t, hb, ⟨hl, A, c, e, hn, hc, fun h0 => ?_⟩, hS, (Array.getElem?_eq_some_iff.1 hb).1⟩
 obtain ⟨g, off, hA, hT, hcell⟩ := hx h0
 refine ⟨g, off, hA, ⟨⟨hT.1, ?_⟩, hT.2⟩, hcell⟩
 obtain ⟨u, hu⟩ : ∃ u, (r.left.map B)[0]? = some u := by
  rw [List.getElem?_eq_getElem (by simpa using h0)]
  exact ⟨_, rfl⟩
 exact World.block_lt_of_cell? _ _ (hcell 0 u hu)
def ROut (w : World) (S : Nat → Prop) (c b : Nat) (bad : Bool) (v : Value) (r : RS) (e : Ending) (w' : World) : Prop :=
 Mod S w w' ∧ (bad = true → e = zdW 3) ∧ (bad = false → e = .returned v ∧ Rw w' S c b r)
theorem zbQ {w w' : World} {S : Nat → Prop} {c b : Nat} {bad : Bool} {v : Value} {r : RS} (hb : bad = true) (hm : Mod S w w') : ROut w S c b bad v r (zdW 3) w' :=
 ⟨hm, fun _ => rfl, fun h => by simp [hb] at h⟩
theorem zbY {w w' : World} {S : Nat → Prop} {c b : Nat} {bad : Bool} {v : Value} {r : RS} (hb : bad = false) (hm : Mod S w w') (hR : Rw w' S c b r) : ROut w S c b bad v r (.returned v) w' :=
 ⟨hm, fun h => by simp [hb] at h, fun _ => ⟨rfl, hR⟩⟩
theorem jZ {w w1 w2 : World} {S : Nat → Prop} {q : Nat} (h : Mod S w w1) (hm : Mod (fun k => k = q) w1 w2) (hq : w.heap.size ≤ q) : Mod S w w2 :=
 h.trans hm (fun i hi e => absurd hi (by omega))
theorem zlZ (w : World) (S : Nat → Prop) (c b : Nat) (r : RS) (h : Rw w S c b r) :
  Calls Tryz.prog 193 #[.pointer (some ⟨c, 0, none⟩)] w (ROut w S c b r.valT (.agg #[.int .i64 r.valP.1.kind, .float .f64 r.valP.1.num, .string r.valP.1.text]) r.valP.2) := by
 obtain ⟨q, hq⟩ : ∃ q, w.heap.size = q := ⟨_, rfl⟩
 obtain ⟨W, hW⟩ : ∃ W, W = w.alloc (.cells #[.int .i64 0, .float .f64 0, .string ⟨#[]⟩] 50) := ⟨_, rfl⟩
 have hE : Ext w W := by rw [hW]; exact (Mod.refl _ w).alloc _
 have hA : W.heap[q]? = some (.cells #[.int .i64 0, .float .f64 0, .string ⟨#[]⟩] 50 (0, 0)) := by rw [hW, ← hq]; exact heap_alloc_new w _
 have hnq : ¬ S q := fun e => by have := h.2.2.2 q e; omega
 have hcq : ¬ c = q := by have := h.lt; omega
 have hqc : ¬ q = c := by omega
 have hRW := h.ext hE
 have HW := hJ hW
 have Hq := hJ hq
 have HE := hJ hE
 have rc := h.cell
 have rl := h.lt
 clear hW hq hE h
 go_enter Tryz.func193, Tryz.ntmps193
 go_wp2_with fail
 rw [← HW.out, Hq.out]
 refine (zn7 W S b r hRW.1).mono ?_
 rintro e w1 ⟨rfl, hR1, hm1⟩
 obtain ⟨k, hk⟩ : ∃ k, r.int.1 = k := ⟨_, rfl⟩
 obtain ⟨r1, hr1⟩ : ∃ r1, r.int.2 = r1 := ⟨_, rfl⟩
 rw [hr1] at hR1
 rw [hk]
 have hA1 := hm1.blk hA hnq
 have HR1 := hJ (hRW.step hm1 hR1)
 have HM1 : Hid (Mod S w w1) := hJ ((HE.out.mod S).self hm1)
 obtain ⟨W2, hW2⟩ : ∃ W2, w1.setCell ⟨q, 0, none⟩ (.int .i64 k) = W2 := ⟨_, rfl⟩
 have hm2 : Mod (fun k => k = q) w1 W2 := by rw [← hW2]; exact zO (Mod.refl _ _) _ _
 have hA2 : W2.heap[q]? = some (.cells #[.int .i64 k, .float .f64 0, .string ⟨#[]⟩] 50 (0, 0)) := by rw [← hW2]; exact yC hA1 0 (.int .i64 k)
 have HR2 := hJ (HR1.out.mod hm2 (fun g hg e => hnq (e ▸ hg)) hcq)
 have HM2 : Hid (Mod S w W2) := hJ (jZ HM1.out hm2 (by have := Hq.out; omega))
 have HA2 := hJ hA2
 have Hk := hJ hk
 have Hr1 := hJ hr1
 have HW2 := hJ hW2
 have f0 : w1.frozen? ⟨q, 0, none⟩ = false := zK 0 hA1
 obtain ⟨a0, a1, a2⟩ := cq3 hA1
 have g1 : w1.frozen? ⟨q, 1, none⟩ = false := zK 1 hA1
 have g2 : w1.frozen? ⟨q, 2, none⟩ = false := zK 2 hA1
 have rc1 := HR1.out.cell
 have hqw : w.heap.size ≤ q := by have := Hq.out; omega
 have Hqw := hJ hqw
 clear hA1 hW2 hA2 hm1 hm2 hR1 hA hRW hk hr1 hqw
 by_cases e0 : k = 0
 ·
  have d0 : (k == 0) = true := by simp [e0]
  have Hv : Hid (r.valP = (⟨k, 0, ⟨#[]⟩⟩, r1)) := hJ (by
   unfold RS.valP RS.val
   rw [Hk.out, Hr1.out, if_pos (.inl e0), if_neg (by omega), if_neg (by omega)])
  have Hb : Hid (r.valT = false) := hJ (by unfold RS.valT; rw [Hk.out, d0]; rfl)
  clear e0
  go_wp2_with fail
  rw [HW2.out]
  refine bodyPost_ret (v := .agg #[.int .i64 k, .float .f64 0, .string ⟨#[]⟩]) (by have c0 : W2.cell? ⟨q, 0, none⟩ = some _ := zB HA2.out rfl; have c1 : W2.cell? ⟨q, 1, none⟩ = some _ := zB HA2.out rfl; have c2 : W2.cell? ⟨q, 2, none⟩ = some _ := zB HA2.out rfl; simp [results, Tryz.results193, go_sem, c0, c1, c2]) rfl ?_
  rw [Hv.out]
  refine zbY Hb.out (jZ HM2.out (q := q) ?_ Hqw.out) (HR2.out.mod (T := fun k => k = q) ?_ (fun g hg e => hnq (e ▸ hg)) hcq)
  all_goals repeat (with_reducible (first | exact Mod.refl _ _ | refine zO ?_ _ _))
 have d0 : (k == 0) = false := by simpa using e0
 by_cases e1 : k = 1
 ·
  have d1 : (k == 1) = true := by simp [e1]
  have He1 := hJ e1
  have Hv : Hid (r.valP = (⟨k, r1.float.1, ⟨#[]⟩⟩, r1.float.2)) := hJ (by unfold RS.valP RS.val; rw [Hk.out, if_pos (.inr (.inl He1.out)), if_pos He1.out, Hr1.out, He1.out])
  have Hb : Hid (r.valT = false) := hJ (by unfold RS.valT; rw [Hk.out, d1]; simp)
  clear e1 e0
  go_wp2_with fail
  rw [HW2.out]
  refine (r_float W2 S b r1 HR2.out.1).mono ?_
  rintro e w2 ⟨rfl, hR3, hm3⟩
  clear a0 a1 a2 f0 g1 g2
  have hA3 := hm3.blk HA2.out hnq
  have HR3 := hJ (HR2.out.step hm3 hR3)
  have HM3 := hJ (HM2.out.self hm3)
  obtain ⟨x, hx⟩ : ∃ x, r1.float.1 = x := ⟨_, rfl⟩
  have Hx := hJ hx
  rw [hx]
  obtain ⟨a0, a1, a2⟩ := cq3 hA3
  have f0 : w2.frozen? ⟨q, 0, none⟩ = false := zK 0 hA3
  have f1 : w2.frozen? ⟨q, 1, none⟩ = false := zK 1 hA3
  have f2 : w2.frozen? ⟨q, 2, none⟩ = false := zK 2 hA3
  obtain ⟨W4, hW4⟩ : ∃ W4, w2.setCell ⟨q, 1, none⟩ (.float .f64 x) = W4 := ⟨_, rfl⟩
  have hA4 : W4.heap[q]? = some (.cells #[.int .i64 k, .float .f64 x, .string ⟨#[]⟩] 50 (0, 0)) := by rw [← hW4]; exact yC hA3 1 (.float .f64 x)
  have hm4 : Mod (fun k => k = q) w2 W4 := by rw [← hW4]; exact zO (Mod.refl _ _) _ _
  have HA4 := hJ hA4
  have HW4 := hJ hW4
  have HR4 := hJ (HR3.out.mod hm4 (fun g hg e => hnq (e ▸ hg)) hcq)
  have HM4 := hJ (jZ HM3.out hm4 Hqw.out)
  clear hA3 hR3 hm3 hx hA4 hm4 hW4
  go_wp2
  rw [HW4.out]
  refine bodyPost_ret (v := .agg #[.int .i64 k, .float .f64 x, .string ⟨#[]⟩]) (by have c0 : W4.cell? ⟨q, 0, none⟩ = some _ := zB HA4.out rfl; have c1 : W4.cell? ⟨q, 1, none⟩ = some _ := zB HA4.out rfl; have c2 : W4.cell? ⟨q, 2, none⟩ = some _ := zB HA4.out rfl; simp [results, Tryz.results193, go_sem, c0, c1, c2]) rfl ?_
  rw [Hv.out, Hx.out]
  refine zbY Hb.out (jZ HM4.out (q := q) ?_ Hqw.out) (HR4.out.mod (T := fun k => k = q) ?_ (fun g hg e => hnq (e ▸ hg)) hcq)
  all_goals repeat (with_reducible (first | exact Mod.refl _ _ | refine zO ?_ _ _))
 have d1 : (k == 1) = false := by simpa using e1
 by_cases e2 : k = 2
 ·
  have d2 : (k == 2) = true := by simp [e2]
  have He1 := hJ e1
  have He2 := hJ e2
  have Hv : Hid (r.valP = (⟨k, 0, ⟨r1.text.1.toArray⟩⟩, r1.text.2)) := hJ (by unfold RS.valP RS.val; rw [Hk.out, if_pos (.inr (.inr He2.out)), if_neg He1.out, if_pos He2.out, Hr1.out, He2.out])
  have Hb : Hid (r.valT = false) := hJ (by unfold RS.valT; rw [Hk.out, d2]; simp)
  clear e0 e1 e2
  go_wp2_with fail
  rw [HW2.out]
  refine (zn9 W2 S b r1 HR2.out.1 HR2.out.2.2.2).mono ?_
  rintro e w2 ⟨vt, rfl, hNB, hR3, hm3⟩
  clear a0 a1 a2 f0 g1 g2
  obtain ⟨A5, c5, rfl⟩ := zN hNB.1
  have hcv := zeR hNB.sl
  have hA3 := hm3.blk HA2.out hnq
  have HR3 := hJ (HR2.out.step hm3 hR3)
  have HM3 := hJ (HM2.out.self hm3)
  obtain ⟨x, hx⟩ : ∃ x, r1.text.1 = x := ⟨_, rfl⟩
  have Hx := hJ hx
  rw [hx] at hcv ⊢
  clear hNB
  obtain ⟨a0, a1, a2⟩ := cq3 hA3
  have f0 : w2.frozen? ⟨q, 0, none⟩ = false := zK 0 hA3
  have f1 : w2.frozen? ⟨q, 1, none⟩ = false := zK 1 hA3
  have f2 : w2.frozen? ⟨q, 2, none⟩ = false := zK 2 hA3
  obtain ⟨W4, hW4⟩ : ∃ W4, w2.setCell ⟨q, 2, none⟩ (.string ⟨x.toArray⟩) = W4 := ⟨_, rfl⟩
  have hA4 : W4.heap[q]? = some (.cells #[.int .i64 k, .float .f64 0, .string ⟨x.toArray⟩] 50 (0, 0)) := by rw [← hW4]; exact yC hA3 2 (.string ⟨x.toArray⟩)
  have hm4 : Mod (fun k => k = q) w2 W4 := by rw [← hW4]; exact zO (Mod.refl _ _) _ _
  have HA4 := hJ hA4
  have HW4 := hJ hW4
  have HR4 := hJ (HR3.out.mod hm4 (fun g hg e => hnq (e ▸ hg)) hcq)
  have HM4 := hJ (jZ HM3.out hm4 Hqw.out)
  clear hA3 hR3 hm3 hx hA4 hm4 hW4
  go_wp2
  rw [HW4.out]
  refine bodyPost_ret (v := .agg #[.int .i64 k, .float .f64 0, .string ⟨x.toArray⟩]) (by have c0 : W4.cell? ⟨q, 0, none⟩ = some _ := zB HA4.out rfl; have c1 : W4.cell? ⟨q, 1, none⟩ = some _ := zB HA4.out rfl; have c2 : W4.cell? ⟨q, 2, none⟩ = some _ := zB HA4.out rfl; simp [results, Tryz.results193, go_sem, c0, c1, c2]) rfl ?_
  rw [Hv.out, Hx.out]
  refine zbY Hb.out (jZ HM4.out (q := q) ?_ Hqw.out) (HR4.out.mod (T := fun k => k = q) ?_ (fun g hg e => hnq (e ▸ hg)) hcq)
  all_goals repeat (with_reducible (first | exact Mod.refl _ _ | refine zO ?_ _ _))
 have d2 : (k == 2) = false := by simpa using e2
 have Hb : Hid (r.valT = true) := hJ (by unfold RS.valT; rw [Hk.out, d0, d1, d2]; rfl)
 clear e0 e1 e2
 go_wp2_with fail
 rw [HW2.out]
 refine (zaI _).mono ?_
 rintro e w' ⟨rfl, rfl⟩
 exact ⟨rfl, zbQ Hb.out HM2.out⟩
end Go.Proofs.YtjhnlncgmejkcaaGreat
