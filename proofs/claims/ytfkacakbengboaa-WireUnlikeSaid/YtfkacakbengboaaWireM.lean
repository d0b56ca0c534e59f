/-
  A message: its plain form, what is written of it, and the contract of wire's writer for one that has none within. Conditions: as each theorem names them.
-/
import Derived.Test.YtfkacakbengboaaWireT
import Derived.Test.YtfkacakbengboaaHead
namespace Go.Proofs.Ytfkacakbengboaa
open Go.RowKit

def wHead (h : AHead) : WO :=
  (((((wRaw (encInts h.ints)).seq (wRaw (encMark h.yes))).seq (wMust (decide (h.ents.length ≤ 8)))).seq (wList h.ents)).seq (wConf h.conf)).seq (wText h.snap)
def wMsg0 (h : AHead) : WO := ((wHead h).seq (wMust (decide (h.inn = 0)))).seq (wRaw (encInt 0))

theorem encMark_len (x : Bool) : (encMark x).length = 1 := by cases x <;> rfl
theorem wList_len (l : List AEntry) (hl : l.length ≤ 8) : ∀ d m, wList l = some (d, m) → d.length ≤ 600000 := by
  intro d m h
  have := seq_len (wRaw_len (encInt_len l.length)) (wEntries_len l) d m h
  have : l.length * 70000 ≤ 8 * 70000 := Nat.mul_le_mul_right _ hl
  omega
theorem wHead_len (h : AHead) : ∀ d m, wHead h = some (d, m) → d.length ≤ 700000 := by
  intro d m hh
  by_cases h8 : h.ents.length ≤ 8
  · have := seq_len (seq_len (seq_len (seq_len (seq_len (wRaw_len (encInts_len h.ints)) (wRaw_len (n := 1) (by cases h.yes <;> simp [encMark]))) (wMust_len _)) (wList_len h.ents h8)) (wRaw_len (encInts_len _))) (wText_len _) d m hh
    simp at this; omega
  · exfalso
    unfold wHead at hh
    simp [h8, wMust, seq_none, wRaw, seq_some, seq_some_none] at hh

set_option maxRecDepth 100000 in
set_option maxHeartbeats 4000000 in
theorem wi_msg0 (w : World) (S T : Nat → Prop) (b : Nat) (bs : List UInt8) (long : Bool) (h : AHead) (hs : St w S b bs long) (hv : h.ok w T) (hd : ∀ g, T g → ¬ S g) (hT : ∀ g, T g → g < w.heap.size) (hb : bs.length ≤ 700000000) :
    Calls Try.prog 28 #[.pointer (some ⟨b, 0, none⟩), .agg #[.int .i64 h.kind, .int .i64 h.src, .int .i64 h.dst, .int .i64 h.term, .int .i64 h.index, .int .i64 h.logTerm, .int .i64 h.commit, .int .i64 h.round, .bool h.yes, h.entV, .int .i64 h.conf.full, .int .i64 h.conf.wit, .int .i64 h.conf.learn, .int .i64 h.conf.learnWit, h.snapV, h.innV], .bool false] w (WOut w S b bs long (wMsg0 h)) := by
  obtain ⟨hints, hents, hconf, hsnap, ⟨Ai, ci, hinn⟩, hil⟩ := hv
  unfold maxLen at hil
  obtain ⟨wb, hwb⟩ : ∃ wb, wb = w.alloc (.cells #[.int .i64 h.kind, .int .i64 h.src, .int .i64 h.dst, .int .i64 h.term, .int .i64 h.index, .int .i64 h.logTerm, .int .i64 h.commit, .int .i64 h.round, .bool h.yes, h.entV, .int .i64 h.conf.full, .int .i64 h.conf.wit, .int .i64 h.conf.learn, .int .i64 h.conf.learnWit, h.snapV, h.innV] 28) := ⟨_, rfl⟩
  have hE : Ext w wb := by rw [hwb]; exact (Mod.refl _ w).alloc _
  have hSb := hs.of_ext hE
  have hnS : ¬ S w.heap.size := fun h1 => by have := hs.2 _ h1; omega
  have hcs : ∀ w1, Mod S wb w1 → ∀ j u, (#[.int .i64 h.kind, .int .i64 h.src, .int .i64 h.dst, .int .i64 h.term, .int .i64 h.index, .int .i64 h.logTerm, .int .i64 h.commit, .int .i64 h.round, .bool h.yes, h.entV, .int .i64 h.conf.full, .int .i64 h.conf.wit, .int .i64 h.conf.learn, .int .i64 h.conf.learnWit, h.snapV, h.innV] : Array Value)[j]? = some u → w1.cell? ⟨w.heap.size, j, none⟩ = some u := by
    intro w1 hm j u hu
    refine hm.cell ?_ hnS
    rw [hwb, cell_of_row _ _ _ _ _ _ (heap_alloc_new w _)]
    exact hu
  have hsz : wb.heap.size = w.heap.size + 1 := by rw [hwb]; simp
  have hdS : ∀ S1 : Nat → Prop, (∀ k, S1 k → S k ∨ wb.heap.size ≤ k) → ∀ g, T g → ¬ S1 g := fun S1 hg g hg1 hg2 => by
    rcases hg g hg2 with h | h
    · exact hd g hg1 h
    · have := hT g hg1; omega
  have Hwb := Lib.hid hwb
  have Hcs := Lib.hid hcs
  have Hsz := Lib.hid hsz
  have HdS := Lib.hid hdS
  have Hinn := Lib.hid hinn
  have Hints := Lib.hid hints
  have Hconf := Lib.hid hconf
  have hlI := encInts_len h.ints
  have Hs : Hid (wMsg0 h = ((((((((wRaw (encInts h.ints)).seq (wRaw (encMark h.yes))).seq (wMust (decide (h.ents.length ≤ 8)))).seq (wList h.ents)).seq (wConf h.conf)).seq (wText h.snap)).seq (wMust (decide (h.inn = 0)))).seq (wRaw (encInt 0)))) := Lib.hid rfl
  obtain ⟨I, hI⟩ : ∃ I, encInts h.ints = I := ⟨_, rfl⟩
  rw [hI] at Hs hlI
  have HI := Lib.hid hI
  clear hwb hcs hsz hdS hinn hints hconf hI
  simp only [List.length_cons, List.length_nil] at hlI
  go_enter Try.func28, Try.ntmps28
  go_wp2_with fail
  rw [← Hwb.out]
  have hE1 : Ext wb (wb.alloc (.cells #[.int .i64 h.kind, .int .i64 h.src, .int .i64 h.dst, .int .i64 h.term, .int .i64 h.index, .int .i64 h.logTerm, .int .i64 h.commit, .int .i64 h.round] 3)) := (Mod.refl _ wb).alloc _
  have hsl := sl_lits wb h.ints 3 #[.int .i64 h.kind, .int .i64 h.src, .int .i64 h.dst, .int .i64 h.term, .int .i64 h.index, .int .i64 h.logTerm, .int .i64 h.commit, .int .i64 h.round] rfl 8 rfl (by omega)
  rw [Hsz.out] at hsl
  refine (wi_ints _ S _ b bs long _ h.ints (hSb.of_ext hE1) hsl (fun g h1 h2 => by have := hSb.2 g h2; rw [Hsz.out] at this; omega) Hints.out (by simp) (by omega)).mono ?_
  rintro e w1 ⟨hm1, rfl, S1, hS1, hg1⟩
  rw [HI.out, Bool.or_false] at hS1
  have hm1 : Mod S wb w1 := (hE1.mod S).self hm1
  have Hg1 : Hid (∀ k, S1 k → S k ∨ wb.heap.size ≤ k) := Lib.hid (fun k hk => (hg1 k hk).imp id (fun h => Nat.le_trans hE1.size h))
  clear hg1 hE1 hsl
  have hnS1 : ¬ S1 w.heap.size := fun h1 => by
    rcases Hg1.out _ h1 with h2 | h2
    · exact hnS h2
    · rw [Hsz.out] at h2; omega
  have x8 := Hcs.out w1 hm1 8 _ rfl
  go_wp2_with fail
  go_region_held3 (fun W => W.cell? ⟨w.heap.size, 8, none⟩ = some (.bool h.yes)) (first | go_keep | exact hy)
    ((go_at_call 62
      refine (w_mark w1.drew S1 b (bs ++ I) long h.yes hS1.1 (by simp; omega)).mono ?_
      rintro e w2 ⟨rfl, hW2, hm2⟩
      have hy : w2.cell? ⟨w.heap.size, 8, none⟩ = some (.bool h.yes) := hm2.cell x8 hnS1))
  obtain ⟨S2, hS2, hg2⟩ := st_of hW2
  have hm2 := mod_gr hm1.drew hm2 Hg1.out
  have Hg2 := Lib.hid (gr_trans Hg1.out hg2 hm1.size)
  have hle := encMark_len h.yes
  clear hg2 x8
  have hS2 : St w2 S2 b (bs ++ (I ++ encMark h.yes)) long := by rw [← List.append_assoc]; exact hS2
  obtain ⟨ne, hne⟩ : ∃ n, h.ents.length = n := ⟨_, rfl⟩
  obtain ⟨Ae, ce, hev⟩ := hents.1.form
  rw [hne] at hev
  have Hne := Lib.hid hne
  have Hev := Lib.hid hev
  have y9 := Hcs.out w2 hm2 9 _ rfl
  rw [hev] at y9
  have hnl := hents.1.le
  unfold maxLen at hnl
  rw [hne] at hnl
  clear hne hev
  by_cases h8 : ne ≤ 8
  case neg =>
    have d8 : decide ((ne : Int) ≤ 8) = false := by simp; omega
    have Ho : Hid (wMsg0 h = none) := Lib.hid (by rw [Hs.out]; simp [Hne.out, h8, wMust, wRaw, seq_none, seq_some, seq_some_none])
    go_wp2_with fail
    refine (must_no _).mono ?_
    rintro e w' ⟨rfl, rfl⟩
    exact ⟨rfl, fin_none hE hm2 Ho.out⟩
  have d8 : decide ((ne : Int) ≤ 8) = true := by simp; omega
  go_wp2_with fail
  refine (must_yes _).mono ?_
  rintro e w' ⟨rfl, rfl⟩
  have hmw2 : Mod S w w2 := (hE.mod S).self hm2
  have hen2 := hents.mod hmw2 hd
  rw [Hev.out] at hen2
  go_wp2_with fail
  refine (wi_entries w2 S2 T b _ long _ h.ents hS2 hen2 (HdS.out S2 Hg2.out) (by rw [Hne.out]; omega) (by simp; omega)).mono ?_
  rintro e w3 ⟨hm3, h3⟩
  have hm3 := mod_gr hm2 hm3 Hg2.out
  rcases hL : wList h.ents with _ | ⟨D3, L3⟩
  · rw [hL] at h3
    subst h3
    exact ⟨rfl, fin_none hE hm3 (by rw [Hs.out, hL]; simp [Hne.out, h8, wMust, wRaw, seq_none, seq_some, seq_some_none])⟩
  rw [hL] at h3
  obtain ⟨rfl, S3, hS3, hg3⟩ := h3
  have hl3 := wList_len h.ents (by rw [Hne.out]; exact h8) _ _ hL
  have HL := Lib.hid hL
  have Hg3 := Lib.hid (gr_trans Hg2.out hg3 hm2.size)
  have z10 := Hcs.out w3 hm3 10 _ rfl
  have z11 := Hcs.out w3 hm3 11 _ rfl
  have z12 := Hcs.out w3 hm3 12 _ rfl
  have z13 := Hcs.out w3 hm3 13 _ rfl
  clear hg3 hL y9 hen2
  go_wp2_with fail
  refine (wi_conf w3 S3 b _ _ h.conf hS3 Hconf.out (by simp; omega)).mono ?_
  rintro e w4 ⟨hm4, rfl, S4, hS4, hg4⟩
  have hm4 := mod_gr hm3 hm4 Hg3.out
  have Hg4 := Lib.hid (gr_trans Hg3.out hg4 hm3.size)
  have hlc := encInts_len [h.conf.full, h.conf.wit, h.conf.learn, h.conf.learnWit]
  obtain ⟨C4, hC4⟩ : ∃ C, encInts [h.conf.full, h.conf.wit, h.conf.learn, h.conf.learnWit] = C := ⟨_, rfl⟩
  rw [hC4] at hS4 hlc
  have HC4 : Hid (wConf h.conf = some (C4, false)) := Lib.hid (by unfold wConf wRaw; rw [hC4])
  simp only [List.length_cons, List.length_nil] at hlc
  clear hg4 z10 z11 z12 z13 hC4
  have u14 := Hcs.out w4 hm4 14 _ rfl
  have hmw4 : Mod S w w4 := (hE.mod S).self hm4
  have hsn4 := hsnap.mod hmw4 hd
  have hnS4 : ¬ S4 w.heap.size := fun h1 => by
    rcases Hg4.out _ h1 with h2 | h2
    · exact hnS h2
    · rw [Hsz.out] at h2; omega
  go_wp2_with fail
  go_region_held3 (fun W => W.cell? ⟨w.heap.size, 14, none⟩ = some h.snapV) (first | go_keep | exact hy)
    ((go_at_call 66
      refine (w_text_any w4.drew S4 T b _ h.snap _ _ hS4.1 (by simp; omega) hsn4 (HdS.out S4 Hg4.out)).mono ?_
      rintro e w5 ⟨rfl, ⟨D, L, hTx, hW5⟩, hm5⟩
      have HT := Lib.hid hTx
      clear hTx
      have hy : w5.cell? ⟨w.heap.size, 14, none⟩ = some h.snapV := hm5.cell u14 hnS4))
  obtain ⟨S5, hS5, hg5⟩ := st_of hW5
  have hS5 : St w5 S5 b (bs ++ ((((I ++ encMark h.yes) ++ D3) ++ C4) ++ D)) (long || (L3 || L)) := by simpa [Bool.or_assoc] using hS5
  have hDl := wText_len _ _ _ HT.out
  have hm5 := mod_gr hm4.drew hm5 Hg4.out
  have Hg5 := Lib.hid (gr_trans Hg4.out hg5 hm4.size)
  have Hd : Hid (wMsg0 h = (WO.seq (some ((((I ++ encMark h.yes) ++ D3) ++ C4) ++ D, L3 || L)) (wMust (decide (h.inn = 0)))).seq (wRaw (encInt 0))) := Lib.hid (by rw [Hs.out, HL.out, HC4.out, HT.out]; simp [Hne.out, h8, wMust, wRaw, seq_some])
  have v15 := Hcs.out w5 hm5 15 _ rfl
  rw [Hinn.out] at v15
  clear hg5 u14 hsn4
  have dinn : decide ((h.inn : Int) ≤ 16) = false ∨ decide ((h.inn : Int) ≤ 16) = true := by cases decide ((h.inn : Int) ≤ 16) <;> simp
  by_cases h0 : h.inn = 0
  · have dq : ((h.inn : Int) == 0) = true := by simp [h0]
    have dl : decide ((h.inn : Int) ≤ 16) = true := by simp; omega
    have Ho : Hid (wMsg0 h = some (((((I ++ encMark h.yes) ++ D3) ++ C4) ++ D) ++ encInt 0, L3 || L)) := Lib.hid (by rw [Hd.out]; simp [h0, wMust, wRaw, seq_some])
    have hi0 : (h.inn : Int) = 0 := by omega
    rw [h0] at v15
    clear dq dl
    go_wp2_with fail
    refine (must_yes _).mono ?_
    rintro e w' ⟨rfl, rfl⟩
    have hnS5 : ¬ S5 w.heap.size := fun h1 => by
      rcases Hg5.out _ h1 with h2 | h2
      · exact hnS h2
      · rw [Hsz.out] at h2; omega
    go_wp2_with fail
    go_region_held3 (fun W => W.cell? ⟨w.heap.size, 15, none⟩ = some (.slice Ai 0 ci)) (first | go_keep | exact hy)
      ((go_at_call 67
        refine (w_int w5.drew S5 b _ _ 0 hS5.1 (by simp; omega) (by omega) (by omega)).mono ?_
        rintro e w6 ⟨rfl, hW6, hm6⟩
        have hy : w6.cell? ⟨w.heap.size, 15, none⟩ = some (.slice Ai 0 ci) := hm6.cell v15 hnS5))
    obtain ⟨S6, hS6, hg6⟩ := st_of hW6
    have hm6 := mod_gr hm5.drew hm6 Hg5.out
    have Hg6 := Lib.hid (gr_trans Hg5.out hg6 hm5.size)
    have hF := fin_some (d := ((((I ++ encMark h.yes) ++ D3) ++ C4) ++ D) ++ encInt 0) (l := L3 || L) hE hm6 (by simpa [Bool.or_assoc] using hS6) Hg6.out Ho.out
    have HF := Lib.hid hF
    clear hg6 hF
    go_wp2
    go_loopw [76] (fun iv wr => iv = .int .i64 0 ∧ wr = w6) (fun _ _ => 0)
    case atStart => exact ⟨rfl, rfl⟩
    case round =>
      obtain ⟨rfl, rfl⟩ := hrel
      go_wp2
      go_end0
      exact HF.out
  · have dq : ((h.inn : Int) == 0) = false := by simp; omega
    have Ho : Hid (wMsg0 h = none) := Lib.hid (by rw [Hd.out]; simp [h0, wMust, seq_none, seq_some_none])
    rcases dinn with dl | dl
    · go_wp2_with fail
      refine (must_no _).mono ?_
      rintro e w' ⟨rfl, rfl⟩
      exact ⟨rfl, fin_none hE hm5 Ho.out⟩
    · go_wp2_with fail
      refine (must_no _).mono ?_
      rintro e w' ⟨rfl, rfl⟩
      exact ⟨rfl, fin_none hE hm5 Ho.out⟩
end Go.Proofs.Ytfkacakbengboaa
