/-
  The contract of wire's writer for a message. Conditions: as each theorem names them.
-/
import Derived.Test.YtfkacakbengboaaWireM
namespace Go.Proofs.Ytfkacakbengboaa
open Go.RowKit

def wInner : List AHead → WO
  | [] => wRaw []
  | x :: l => (wMsg0 x).seq (wInner l)
def wMsg (h : AHead) (ins : List AHead) : WO := ((wHead h).seq (wMust (decide (ins.length ≤ 16)))).seq ((wRaw (encInt ins.length)).seq (wInner ins))
theorem wInner_append (a b : List AHead) : wInner (a ++ b) = (wInner a).seq (wInner b) := by
  induction a with
  | nil => simp [wInner, nil_seq]
  | cons x a ih => simp only [List.cons_append, wInner, ih, seq_assoc]
theorem wInner_snoc {l : List AHead} {i : Nat} {x : AHead} (h : l[i]? = some x) : wInner (l.take (i + 1)) = (wInner (l.take i)).seq (wMsg0 x) := by
  rw [take_at' h, wInner_append]; simp [wInner, seq_nil]
theorem wInner_throw {l : List AHead} {i : Nat} {x : AHead} (h : l[i]? = some x) (hn : wMsg0 x = none) : wInner l = none := by
  have e : l = l.take i ++ (x :: l.drop (i + 1)) := by rw [← drop_at' h, List.take_append_drop]
  rw [e, wInner_append, wInner, hn, seq_none]
  rcases wInner (l.take i) with _ | ⟨_, _⟩ <;> rfl
theorem wMsg0_len (h : AHead) : ∀ d m, wMsg0 h = some (d, m) → d.length ≤ 800000 := by
  intro d m hh
  have := seq_len (seq_len (wHead_len h) (wMust_len _)) (wRaw_len (encInt_len 0)) d m hh
  omega
theorem wInner_len (es : List AHead) : ∀ d l, wInner es = some (d, l) → d.length ≤ es.length * 800000 := by
  induction es with
  | nil => intro d l h; have := wRaw_len (n := 0) (by simp) d l h; omega
  | cons x es ih =>
    intro d l h
    have := seq_len (wMsg0_len x) ih d l h
    simp [Nat.succ_mul] at *; omega
set_option maxRecDepth 100000 in
set_option maxHeartbeats 4000000 in
theorem wi_msg (w : World) (S T : Nat → Prop) (b : Nat) (bs : List UInt8) (long : Bool) (h : AHead) (ins : List AHead) (hin : Sl w T 16 h.innV ins.length (ins.flatMap AHead.cells)) (hio : ∀ x ∈ ins, x.ok w T) (hil2 : h.inn = ins.length) (hs : St w S b bs long) (hv : h.ok w T) (hd : ∀ g, T g → ¬ S g) (hT : ∀ g, T g → g < w.heap.size) (hb : bs.length ≤ 600000000) :
    Calls Try.prog 28 #[.pointer (some ⟨b, 0, none⟩), .agg #[.int .i64 h.kind, .int .i64 h.src, .int .i64 h.dst, .int .i64 h.term, .int .i64 h.index, .int .i64 h.logTerm, .int .i64 h.commit, .int .i64 h.round, .bool h.yes, h.entV, .int .i64 h.conf.full, .int .i64 h.conf.wit, .int .i64 h.conf.learn, .int .i64 h.conf.learnWit, h.snapV, h.innV], .bool true] w (WOut w S b bs long (wMsg h ins)) := by
  obtain ⟨hints, hents, hconf, hsnap, ⟨Ai, ci, hinn⟩, hil⟩ := hv
  unfold maxLen at hil
  obtain ⟨wb, hwb⟩ : ∃ wb, wb = w.alloc (.cells #[.int .i64 h.kind, .int .i64 h.src, .int .i64 h.dst, .int .i64 h.term, .int .i64 h.index, .int .i64 h.logTerm, .int .i64 h.commit, .int .i64 h.round, .bool h.yes, h.entV, .int .i64 h.conf.full, .int .i64 h.conf.wit, .int .i64 h.conf.learn, .int .i64 h.conf.learnWit, h.snapV, h.innV] 28) := ⟨_, rfl⟩
  have hE : Ext w wb := by rw [hwb]; exact (Mod.refl _ w).alloc _
  have hSb := hs.of_ext hE
  have hnS : ¬ S w.heap.size := fun h1 => by have := hs.2 _ h1; omega
  have hcs : ∀ w1, Mod S wb w1 → ∀ j u, (#[.int .i64 h.kind, .int .i64 h.src, .int .i64 h.dst, .int .i64 h.term, .int .i64 h.index, .int .i64 h.logTerm, .int .i64 h.commit, .int .i64 h.round, .bool h.yes, h.entV, .int .i64 h.conf.full, .int .i64 h.conf.wit, .int .i64 h.conf.learn, .int .i64 h.conf.learnWit, h.snapV, h.innV] : Array Value)[j]? = some u → w1.cell? ⟨w.heap.size, j, none⟩ = some u := by
    intro w1 hm j u hu
    refine hm.cell ?_ hnS
    rw [hwb, cell_of_row _ _ _ _ _ _ (heap_alloc_new w _)]
    exact hu
  have hsz : wb.heap.size = w.heap.size + 1 := by rw [hwb]; simp
  have hdS : ∀ S1 : Nat → Prop, (∀ k, S1 k → S k ∨ wb.heap.size ≤ k) → ∀ g, T g → ¬ S1 g := fun S1 hg g hg1 hg2 => by
    rcases hg g hg2 with h | h
    · exact hd g hg1 h
    · have := hT g hg1; omega
  have Hwb := Lib.hid hwb
  have Hcs := Lib.hid hcs
  have Hsz := Lib.hid hsz
  have HdS := Lib.hid hdS
  have Hinn := Lib.hid hinn
  have Hints := Lib.hid hints
  have Hconf := Lib.hid hconf
  have hlI := encInts_len h.ints
  have Hs : Hid (wMsg h ins = ((((((((wRaw (encInts h.ints)).seq (wRaw (encMark h.yes))).seq (wMust (decide (h.ents.length ≤ 8)))).seq (wList h.ents)).seq (wConf h.conf)).seq (wText h.snap)).seq (wMust (decide (ins.length ≤ 16)))).seq ((wRaw (encInt ins.length)).seq (wInner ins)))) := Lib.hid rfl
  obtain ⟨I, hI⟩ : ∃ I, encInts h.ints = I := ⟨_, rfl⟩
  rw [hI] at Hs hlI
  have HI := Lib.hid hI
  clear hwb hcs hsz hdS hinn hints hconf hI
  simp only [List.length_cons, List.length_nil] at hlI
  go_enter Try.func28, Try.ntmps28
  go_wp2_with fail
  rw [← Hwb.out]
  have hE1 : Ext wb (wb.alloc (.cells #[.int .i64 h.kind, .int .i64 h.src, .int .i64 h.dst, .int .i64 h.term, .int .i64 h.index, .int .i64 h.logTerm, .int .i64 h.commit, .int .i64 h.round] 3)) := (Mod.refl _ wb).alloc _
  have hsl := sl_lits wb h.ints 3 #[.int .i64 h.kind, .int .i64 h.src, .int .i64 h.dst, .int .i64 h.term, .int .i64 h.index, .int .i64 h.logTerm, .int .i64 h.commit, .int .i64 h.round] rfl 8 rfl (by omega)
  rw [Hsz.out] at hsl
  refine (wi_ints _ S _ b bs long _ h.ints (hSb.of_ext hE1) hsl (fun g h1 h2 => by have := hSb.2 g h2; rw [Hsz.out] at this; omega) Hints.out (by simp) (by omega)).mono ?_
  rintro e w1 ⟨hm1, rfl, S1, hS1, hg1⟩
  rw [HI.out, Bool.or_false] at hS1
  have hm1 : Mod S wb w1 := (hE1.mod S).self hm1
  have Hg1 : Hid (∀ k, S1 k → S k ∨ wb.heap.size ≤ k) := Lib.hid (fun k hk => (hg1 k hk).imp id (fun h => Nat.le_trans hE1.size h))
  clear hg1 hE1 hsl
  have hnS1 : ¬ S1 w.heap.size := fun h1 => by
    rcases Hg1.out _ h1 with h2 | h2
    · exact hnS h2
    · rw [Hsz.out] at h2; omega
  have x8 := Hcs.out w1 hm1 8 _ rfl
  go_wp2_with fail
  go_region_held3 (fun W => W.cell? ⟨w.heap.size, 8, none⟩ = some (.bool h.yes)) (first | go_keep | exact hy)
    ((go_at_call 62
      refine (w_mark w1.drew S1 b (bs ++ I) long h.yes hS1.1 (by simp; omega)).mono ?_
      rintro e w2 ⟨rfl, hW2, hm2⟩
      have hy : w2.cell? ⟨w.heap.size, 8, none⟩ = some (.bool h.yes) := hm2.cell x8 hnS1))
  obtain ⟨S2, hS2, hg2⟩ := st_of hW2
  have hm2 := mod_gr hm1.drew hm2 Hg1.out
  have Hg2 := Lib.hid (gr_trans Hg1.out hg2 hm1.size)
  have hle := encMark_len h.yes
  clear hg2 x8
  have hS2 : St w2 S2 b (bs ++ (I ++ encMark h.yes)) long := by rw [← List.append_assoc]; exact hS2
  obtain ⟨ne, hne⟩ : ∃ n, h.ents.length = n := ⟨_, rfl⟩
  obtain ⟨Ae, ce, hev⟩ := hents.1.form
  rw [hne] at hev
  have Hne := Lib.hid hne
  have Hev := Lib.hid hev
  have y9 := Hcs.out w2 hm2 9 _ rfl
  rw [hev] at y9
  have hnl := hents.1.le
  unfold maxLen at hnl
  rw [hne] at hnl
  clear hne hev
  by_cases h8 : ne ≤ 8
  case neg =>
    have d8 : decide ((ne : Int) ≤ 8) = false := by simp; omega
    have Ho : Hid (wMsg h ins = none) := Lib.hid (by rw [Hs.out]; simp [Hne.out, h8, wMust, wRaw, seq_none, seq_some, seq_some_none])
    go_wp2_with fail
    refine (must_no _).mono ?_
    rintro e w' ⟨rfl, rfl⟩
    exact ⟨rfl, fin_none hE hm2 Ho.out⟩
  have d8 : decide ((ne : Int) ≤ 8) = true := by simp; omega
  go_wp2_with fail
  refine (must_yes _).mono ?_
  rintro e w' ⟨rfl, rfl⟩
  have hmw2 : Mod S w w2 := (hE.mod S).self hm2
  have hen2 := hents.mod hmw2 hd
  rw [Hev.out] at hen2
  go_wp2_with fail
  refine (wi_entries w2 S2 T b _ long _ h.ents hS2 hen2 (HdS.out S2 Hg2.out) (by rw [Hne.out]; omega) (by simp; omega)).mono ?_
  rintro e w3 ⟨hm3, h3⟩
  have hm3 := mod_gr hm2 hm3 Hg2.out
  rcases hL : wList h.ents with _ | ⟨D3, L3⟩
  · rw [hL] at h3
    subst h3
    exact ⟨rfl, fin_none hE hm3 (by rw [Hs.out, hL]; simp [Hne.out, h8, wMust, wRaw, seq_none, seq_some, seq_some_none])⟩
  rw [hL] at h3
  obtain ⟨rfl, S3, hS3, hg3⟩ := h3
  have hl3 := wList_len h.ents (by rw [Hne.out]; exact h8) _ _ hL
  have HL := Lib.hid hL
  have Hg3 := Lib.hid (gr_trans Hg2.out hg3 hm2.size)
  have z10 := Hcs.out w3 hm3 10 _ rfl
  have z11 := Hcs.out w3 hm3 11 _ rfl
  have z12 := Hcs.out w3 hm3 12 _ rfl
  have z13 := Hcs.out w3 hm3 13 _ rfl
  clear hg3 hL y9 hen2
  go_wp2_with fail
  refine (wi_conf w3 S3 b _ _ h.conf hS3 Hconf.out (by simp; omega)).mono ?_
  rintro e w4 ⟨hm4, rfl, S4, hS4, hg4⟩
  have hm4 := mod_gr hm3 hm4 Hg3.out
  have Hg4 := Lib.hid (gr_trans Hg3.out hg4 hm3.size)
  have hlc := encInts_len [h.conf.full, h.conf.wit, h.conf.learn, h.conf.learnWit]
  obtain ⟨C4, hC4⟩ : ∃ C, encInts [h.conf.full, h.conf.wit, h.conf.learn, h.conf.learnWit] = C := ⟨_, rfl⟩
  rw [hC4] at hS4 hlc
  have HC4 : Hid (wConf h.conf = some (C4, false)) := Lib.hid (by unfold wConf wRaw; rw [hC4])
  simp only [List.length_cons, List.length_nil] at hlc
  clear hg4 z10 z11 z12 z13 hC4
  have u14 := Hcs.out w4 hm4 14 _ rfl
  have hmw4 : Mod S w w4 := (hE.mod S).self hm4
  have hsn4 := hsnap.mod hmw4 hd
  have hnS4 : ¬ S4 w.heap.size := fun h1 => by
    rcases Hg4.out _ h1 with h2 | h2
    · exact hnS h2
    · rw [Hsz.out] at h2; omega
  go_wp2_with fail
  go_region_held3 (fun W => W.cell? ⟨w.heap.size, 14, none⟩ = some h.snapV) (first | go_keep | exact hy)
    ((go_at_call 66
      refine (w_text_any w4.drew S4 T b _ h.snap _ _ hS4.1 (by simp; omega) hsn4 (HdS.out S4 Hg4.out)).mono ?_
      rintro e w5 ⟨rfl, ⟨D, L, hTx, hW5⟩, hm5⟩
      have HT := Lib.hid hTx
      clear hTx
      have hy : w5.cell? ⟨w.heap.size, 14, none⟩ = some h.snapV := hm5.cell u14 hnS4))
  obtain ⟨S5, hS5, hg5⟩ := st_of hW5
  have hS5 : St w5 S5 b (bs ++ ((((I ++ encMark h.yes) ++ D3) ++ C4) ++ D)) (long || (L3 || L)) := by simpa [Bool.or_assoc] using hS5
  have hDl := wText_len _ _ _ HT.out
  have hm5 := mod_gr hm4.drew hm5 Hg4.out
  have Hg5 := Lib.hid (gr_trans Hg4.out hg5 hm4.size)
  have Hd : Hid (wMsg h ins = (WO.seq (some ((((I ++ encMark h.yes) ++ D3) ++ C4) ++ D, L3 || L)) (wMust (decide (ins.length ≤ 16)))).seq ((wRaw (encInt ins.length)).seq (wInner ins))) := Lib.hid (by rw [Hs.out, HL.out, HC4.out, HT.out]; simp [Hne.out, h8, wMust, wRaw, seq_some])
  have v15 := Hcs.out w5 hm5 15 _ rfl
  rw [Hinn.out] at v15
  clear hg5 u14 hsn4
  obtain ⟨ni, hni⟩ : ∃ n, ins.length = n := ⟨_, rfl⟩
  rw [hil2, hni] at v15
  have hin2 := hin
  rw [Hinn.out, hil2, hni] at hin2
  rw [hni] at Hd
  rw [hil2, hni] at hil
  have Hni := Lib.hid hni
  clear hni
  by_cases h16 : ni ≤ 16
  case neg =>
    have d16 : decide ((ni : Int) ≤ 16) = false := by simp; omega
    have Ho : Hid (wMsg h ins = none) := Lib.hid (by rw [Hd.out]; simp [h16, wMust, seq_none, seq_some_none])
    go_wp2_with fail
    refine (must_no _).mono ?_
    rintro e w' ⟨rfl, rfl⟩
    exact ⟨rfl, fin_none hE hm5 Ho.out⟩
  have d16 : decide ((ni : Int) ≤ 16) = true := by simp; omega
  obtain ⟨P, hP⟩ : ∃ P, (((I ++ encMark h.yes) ++ D3) ++ C4) ++ D = P := ⟨_, rfl⟩
  have hPl : P.length ≤ 700000 := by rw [← hP]; simp; omega
  rw [hP] at hS5 Hd
  have Hd : Hid (wMsg h ins = WO.seq (some (P ++ encInt ni, L3 || L)) (wInner ins)) := Lib.hid (by rw [Hd.out]; simp only [h16, decide_true, wMust, if_true, seq_some, wRaw, List.append_nil, Bool.or_false]; rw [← seq_assoc]; simp only [seq_some, Bool.or_false])
  have hlni := encInt_len ni
  clear hP
  go_wp2_with fail
  refine (must_yes _).mono ?_
  rintro e w' ⟨rfl, rfl⟩
  have hnS5 : ¬ S5 w.heap.size := fun h1 => by
    rcases Hg5.out _ h1 with h2 | h2
    · exact hnS h2
    · rw [Hsz.out] at h2; omega
  go_wp2_with fail
  go_region_held3 (fun W => W.cell? ⟨w.heap.size, 15, none⟩ = some (.slice Ai ni ci)) (first | go_keep | exact hy)
    ((go_at_call 67
      refine (w_int w5.drew S5 b _ _ ni hS5.1 (by simp; omega) (by omega) (by omega)).mono ?_
      rintro e w6 ⟨rfl, hW6, hm6⟩
      have hy : w6.cell? ⟨w.heap.size, 15, none⟩ = some (.slice Ai ni ci) := hm6.cell v15 hnS5))
  obtain ⟨S6, hS6, hg6⟩ := st_of hW6
  have hm6 := mod_gr hm5.drew hm6 Hg5.out
  have Hg6 := Lib.hid (gr_trans Hg5.out hg6 hm5.size)
  clear hg6
  have hS6 : St w6 S6 b (bs ++ ((P ++ encInt ni) ++ [])) (long || ((L3 || L) || false)) := by simpa using hS6
  go_wp2
  go_loopw [76] (fun iv wr => ∃ (i : Nat) (S7 : Nat → Prop) (d : List UInt8) (l2 : Bool), i ≤ ni ∧ iv = .int .i64 i ∧ wInner (ins.take i) = some (d, l2) ∧ St wr S7 b (bs ++ ((P ++ encInt ni) ++ d)) (long || ((L3 || L) || l2)) ∧ (∀ k, S7 k → S k ∨ wb.heap.size ≤ k) ∧ Mod S wb wr) (fun iv _ => ni - (intOf iv).toNat)
  case atStart => exact ⟨0, S6, [], false, by omega, rfl, rfl, hS6, Hg6.out, hm6⟩
  case round =>
    obtain ⟨i, S7, d, l2, hin7, rfl, hd7, hS7, hg7, hm7⟩ := hrel
    have hdl := wInner_len _ _ _ hd7
    rw [List.length_take] at hdl
    have Hd7 := Lib.hid hd7
    have Hg7 := Lib.hid hg7
    clear hd7 hg7
    have hmw7 : Mod S w wr := (hE.mod S).self hm7
    have hvr := hin2.mod hmw7 hd
    by_cases hi : i < ni
    · obtain ⟨g, off, x, rfl, hgT, hx, hcells⟩ := headAt hvr hi
      have hxok := (hio x (List.mem_of_getElem? hx)).mod hmw7 hd
      have x0 := hcells 0 _ rfl
      have x1 := hcells 1 _ rfl
      have x2 := hcells 2 _ rfl
      have x3 := hcells 3 _ rfl
      have x4 := hcells 4 _ rfl
      have x5 := hcells 5 _ rfl
      have x6 := hcells 6 _ rfl
      have x7 := hcells 7 _ rfl
      have x8 := hcells 8 _ rfl
      have x9 := hcells 9 _ rfl
      have x10 := hcells 10 _ rfl
      have x11 := hcells 11 _ rfl
      have x12 := hcells 12 _ rfl
      have x13 := hcells 13 _ rfl
      have x14 := hcells 14 _ rfl
      have x15 := hcells 15 _ rfl
      obtain ⟨Ax, cx, hxe⟩ := hxok.2.1.1.form
      obtain ⟨Ay, cy, hxs⟩ := hxok.2.2.2.1.form
      obtain ⟨Az, cz, hxi⟩ := hxok.2.2.2.2.1
      have Hx := Lib.hid hx
      have Hok := Lib.hid hxok
      have Hxe := Lib.hid hxe
      have Hxs := Lib.hid hxs
      have Hxi := Lib.hid hxi
      rw [hxe] at x9
      rw [hxs] at x14
      rw [hxi] at x15
      clear hcells hx hvr hxok hxe hxs hxi
      rw [Nat.add_zero] at x0
      go_wp2_with fail
      rw [← Hxe.out, ← Hxs.out, ← Hxi.out]
      have hEx : Ext wr (wr.alloc (.cells #[.int .i64 x.kind, .int .i64 x.src, .int .i64 x.dst, .int .i64 x.term, .int .i64 x.index, .int .i64 x.logTerm, .int .i64 x.commit, .int .i64 x.round, .bool x.yes, x.entV, .int .i64 x.conf.full, .int .i64 x.conf.wit, .int .i64 x.conf.learn, .int .i64 x.conf.learnWit, x.snapV, x.innV] 28)) := (Mod.refl _ wr).alloc _
      have hTr : ∀ g, T g → g < (wr.alloc (.cells #[.int .i64 x.kind, .int .i64 x.src, .int .i64 x.dst, .int .i64 x.term, .int .i64 x.index, .int .i64 x.logTerm, .int .i64 x.commit, .int .i64 x.round, .bool x.yes, x.entV, .int .i64 x.conf.full, .int .i64 x.conf.wit, .int .i64 x.conf.learn, .int .i64 x.conf.learnWit, x.snapV, x.innV] 28)).heap.size := fun g hg => by have := hT g hg; have := hmw7.size; simp; omega
      refine (wi_msg0 _ S7 T b _ _ x (hS7.of_ext hEx) (Hok.out.mod hEx (fun _ _ => id)) (HdS.out S7 Hg7.out) hTr (by simp; omega)).mono ?_
      rintro e w8 ⟨hm8, h8'⟩
      have hm8 : Mod S7 wr w8 := (hEx.mod S7).self hm8
      have hm9 := mod_gr hm7 hm8 Hg7.out
      have hsx := hEx.size
      clear x0 x1 x2 x3 x4 x5 x6 x7 x8 x9 x10 x11 x12 x13 x14 x15 hTr
      rcases hV : wMsg0 x with _ | ⟨D2, L2⟩
      · rw [hV] at h8'
        subst h8'
        exact ⟨rfl, fin_none hE hm9 (by
          have e1 := wInner_throw Hx.out hV
          rw [Hd.out, e1, seq_some_none])⟩
      · rw [hV] at h8'
        obtain ⟨rfl, S8, hS8, hg8⟩ := h8'
        have hg9 : ∀ k, S8 k → S k ∨ wb.heap.size ≤ k := gr_trans Hg7.out (fun k hk => (hg8 k hk).imp id (fun h => Nat.le_trans hsx h)) hm7.size
        have Hg9 := Lib.hid hg9
        have Hsn : Hid (wInner (ins.take (i + 1)) = some (d ++ D2, l2 || L2)) := Lib.hid (by rw [wInner_snoc Hx.out, Hd7.out, hV, seq_some])
        clear hg9 hg8 hV hEx
        go_wp2
        exact ⟨⟨i + 1, S8, d ++ D2, l2 || L2, by omega, by go_num, Hsn.out, by simpa [Bool.or_assoc] using hS8, Hg9.out, hm9⟩, by simp [intOf]; omega⟩
    · have Ho : Hid (wMsg h ins = some ((P ++ encInt ni) ++ d, (L3 || L) || l2)) := Lib.hid (by
        have := Hd7.out
        rw [List.take_of_length_le (by rw [Hni.out]; omega)] at this
        rw [Hd.out, this, seq_some])
      go_wp2
      go_end0
      exact fin_some (d := (P ++ encInt ni) ++ d) (l := (L3 || L) || l2) hE hm7 hS7 Hg7.out Ho.out
end Go.Proofs.Ytfkacakbengboaa
