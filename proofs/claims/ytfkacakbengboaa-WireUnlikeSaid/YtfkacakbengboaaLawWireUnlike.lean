/-
  WireUnlike, walked: unlike messages have unlike bytes. Conditions: as each theorem names them.
-/
import Derived.Test.YtfkacakbengboaaWireO
import Derived.Test.YtfkacakbengboaaWirePure
import Derived.Test.YtfkacakbengboaaHeavyMsg
import Derived.Test.YtfkacakbengboaaKeepMsg
import Derived.Deep.RegionHeld3
import Derived.Deep.MidRow
namespace Go.Proofs.Ytfkacakbengboaa
open Go.RowKit

theorem told_code (o : WO) : (told o).2 = 0 ∨ (told o).2 = 2 ∨ (told o).2 = 3 := by
  unfold told
  rcases o with _ | ⟨d, l⟩
  · exact .inr (.inr rfl)
  · simp only
    split
    · exact .inr (.inl rfl)
    · exact .inl rfl
theorem range_at {w : World} {b : Nat} {cs : List Value} (h : w.rangeAt b 0 cs) : ∀ j u, cs[j]? = some u → w.cell? ⟨b, j, none⟩ = some u := fun j u hu => by
  have := h j u hu
  rwa [Nat.zero_add] at this
theorem range_ext {W w1 : World} {b o : Nat} {cs : List Value} (h : W.rangeAt b o cs) (hE : Ext W w1) : w1.rangeAt b o cs := fun j v hv => hE.cell (h j v hv) id

set_option maxRecDepth 100000 in
set_option maxHeartbeats 8000000 in
theorem wireUnlike_walk (w : World) (a b : AHead) (la lb : List AHead) (ha : Msg3 w (fun g => g < w.heap.size) a la) (hb : Msg3 w (fun g => g < w.heap.size) b lb) :
    Calls Try.prog 3 #[.agg #[.int .i64 a.kind, .int .i64 a.src, .int .i64 a.dst, .int .i64 a.term, .int .i64 a.index, .int .i64 a.logTerm, .int .i64 a.commit, .int .i64 a.round, .bool a.yes, a.entV, .int .i64 a.conf.full, .int .i64 a.conf.wit, .int .i64 a.conf.learn, .int .i64 a.conf.learnWit, a.snapV, a.innV], .agg #[.int .i64 b.kind, .int .i64 b.src, .int .i64 b.dst, .int .i64 b.term, .int .i64 b.index, .int .i64 b.logTerm, .int .i64 b.commit, .int .i64 b.round, .bool b.yes, b.entV, .int .i64 b.conf.full, .int .i64 b.conf.wit, .int .i64 b.conf.learn, .int .i64 b.conf.learnWit, b.snapV, b.innV]] w fun e w' => e = .returned (.bool true) ∧ Below w.heap.size w w' := by
  obtain ⟨W, hW⟩ : ∃ W, W = ((w.alloc (.cells #[.int .i64 a.kind, .int .i64 a.src, .int .i64 a.dst, .int .i64 a.term, .int .i64 a.index, .int .i64 a.logTerm, .int .i64 a.commit, .int .i64 a.round, .bool a.yes, a.entV, .int .i64 a.conf.full, .int .i64 a.conf.wit, .int .i64 a.conf.learn, .int .i64 a.conf.learnWit, a.snapV, a.innV] 28)).alloc (.cells #[.int .i64 b.kind, .int .i64 b.src, .int .i64 b.dst, .int .i64 b.term, .int .i64 b.index, .int .i64 b.logTerm, .int .i64 b.commit, .int .i64 b.round, .bool b.yes, b.entV, .int .i64 b.conf.full, .int .i64 b.conf.wit, .int .i64 b.conf.learn, .int .i64 b.conf.learnWit, b.snapV, b.innV] 28)) := ⟨_, rfl⟩
  have hE : Ext w W := by rw [hW]; exact ((Mod.refl _ w).alloc _).alloc _
  have hca : W.rangeAt w.heap.size 0 [.int .i64 a.kind, .int .i64 a.src, .int .i64 a.dst, .int .i64 a.term, .int .i64 a.index, .int .i64 a.logTerm, .int .i64 a.commit, .int .i64 a.round, .bool a.yes, a.entV, .int .i64 a.conf.full, .int .i64 a.conf.wit, .int .i64 a.conf.learn, .int .i64 a.conf.learnWit, a.snapV, a.innV] := by
    intro j u hu
    rw [hW, World.cell?_alloc_lt _ _ _ (by simp), cell_of_row _ _ _ _ _ _ (heap_alloc_new w _), Nat.zero_add]
    simpa using hu
  have hcb : W.rangeAt (w.heap.size + 1) 0 [.int .i64 b.kind, .int .i64 b.src, .int .i64 b.dst, .int .i64 b.term, .int .i64 b.index, .int .i64 b.logTerm, .int .i64 b.commit, .int .i64 b.round, .bool b.yes, b.entV, .int .i64 b.conf.full, .int .i64 b.conf.wit, .int .i64 b.conf.learn, .int .i64 b.conf.learnWit, b.snapV, b.innV] := by
    intro j u hu
    have := heap_alloc_new (w.alloc (.cells #[.int .i64 a.kind, .int .i64 a.src, .int .i64 a.dst, .int .i64 a.term, .int .i64 a.index, .int .i64 a.logTerm, .int .i64 a.commit, .int .i64 a.round, .bool a.yes, a.entV, .int .i64 a.conf.full, .int .i64 a.conf.wit, .int .i64 a.conf.learn, .int .i64 a.conf.learnWit, a.snapV, a.innV] 28)) (.cells #[.int .i64 b.kind, .int .i64 b.src, .int .i64 b.dst, .int .i64 b.term, .int .i64 b.index, .int .i64 b.logTerm, .int .i64 b.commit, .int .i64 b.round, .bool b.yes, b.entV, .int .i64 b.conf.full, .int .i64 b.conf.wit, .int .i64 b.conf.learn, .int .i64 b.conf.learnWit, b.snapV, b.innV] 28)
    have hz : (w.alloc (.cells #[.int .i64 a.kind, .int .i64 a.src, .int .i64 a.dst, .int .i64 a.term, .int .i64 a.index, .int .i64 a.logTerm, .int .i64 a.commit, .int .i64 a.round, .bool a.yes, a.entV, .int .i64 a.conf.full, .int .i64 a.conf.wit, .int .i64 a.conf.learn, .int .i64 a.conf.learnWit, a.snapV, a.innV] 28)).heap.size = w.heap.size + 1 := by simp
    rw [hz] at this
    rw [hW, cell_of_row _ _ _ _ _ _ this, Nat.zero_add]
    simpa using hu
  have Hu : Hid _ := Lib.hid (unlike a b la lb ha.1.fit hb.1.fit ha.2.1 hb.2.1 (fun x hx => (ha.2.2.1.2 x hx).fit) (fun x hx => (hb.2.2.1.2 x hx).fit))
  obtain ⟨oa, hoa⟩ : ∃ o, told (wMsg a la) = o := ⟨_, rfl⟩
  obtain ⟨ob, hob⟩ : ∃ o, told (wMsg b lb) = o := ⟨_, rfl⟩
  rw [hoa, hob] at Hu
  have Hoa := Lib.hid hoa
  have Hob := Lib.hid hob
  have HW := Lib.hid hW
  have Ha := Lib.hid ha
  have Hb := Lib.hid hb
  clear hW ha hb hoa hob
  have hu28 := Try.underlying28
  have hi28a : (Try.prog.info? 28).map (·.size) = some ([.int .i64 a.kind, .int .i64 a.src, .int .i64 a.dst, .int .i64 a.term, .int .i64 a.index, .int .i64 a.logTerm, .int .i64 a.commit, .int .i64 a.round, .bool a.yes, a.entV, .int .i64 a.conf.full, .int .i64 a.conf.wit, .int .i64 a.conf.learn, .int .i64 a.conf.learnWit, a.snapV, a.innV] : List Value).length := by kernel_rfl
  have hi28b : (Try.prog.info? 28).map (·.size) = some ([.int .i64 b.kind, .int .i64 b.src, .int .i64 b.dst, .int .i64 b.term, .int .i64 b.index, .int .i64 b.logTerm, .int .i64 b.commit, .int .i64 b.round, .bool b.yes, b.entV, .int .i64 b.conf.full, .int .i64 b.conf.wit, .int .i64 b.conf.learn, .int .i64 b.conf.learnWit, b.snapV, b.innV] : List Value).length := by kernel_rfl
  go_enter Try.func3, Try.ntmps3
  go_wp2_with fail
  rw [← HW.out]
  refine (hv_msg a la _ _ (Ha.out.mod hE (fun _ _ => id))).mono ?_
  rintro e w1 ⟨r1, rfl, hE1⟩
  have hF1 : Ext w w1 := Mod.ext hE hE1
  have hca1 := range_ext hca hE1
  have hcb1 := range_ext hcb hE1
  clear hca hcb hE hE1
  rcases r1 with _ | _
  case true =>
    go_wp2
    go_ret
    exact ⟨rfl, hF1.below⟩
  have l1 := range_at hcb1
  have x0 := l1 0 _ rfl
  have x1 := l1 1 _ rfl
  have x2 := l1 2 _ rfl
  have x3 := l1 3 _ rfl
  have x4 := l1 4 _ rfl
  have x5 := l1 5 _ rfl
  have x6 := l1 6 _ rfl
  have x7 := l1 7 _ rfl
  have x8 := l1 8 _ rfl
  have x9 := l1 9 _ rfl
  have x10 := l1 10 _ rfl
  have x11 := l1 11 _ rfl
  have x12 := l1 12 _ rfl
  have x13 := l1 13 _ rfl
  have x14 := l1 14 _ rfl
  have x15 := l1 15 _ rfl
  clear l1
  go_wp2_with fail
  refine (hv_msg b lb _ _ (Hb.out.mod hF1 (fun _ _ => id))).mono ?_
  rintro e w2 ⟨r2, rfl, hE2⟩
  have hF2 : Ext w w2 := Mod.ext hF1 hE2
  have hca2 := range_ext hca1 hE2
  have hcb2 := range_ext hcb1 hE2
  clear hca1 hcb1 hE2 hF1 x0 x1 x2 x3 x4 x5 x6 x7 x8 x9 x10 x11 x12 x13 x14 x15
  rcases r2 with _ | _
  case true =>
    go_wp2
    go_ret
    exact ⟨rfl, hF2.below⟩
  have l2 := range_at hca2
  have x0 := l2 0 _ rfl
  have x1 := l2 1 _ rfl
  have x2 := l2 2 _ rfl
  have x3 := l2 3 _ rfl
  have x4 := l2 4 _ rfl
  have x5 := l2 5 _ rfl
  have x6 := l2 6 _ rfl
  have x7 := l2 7 _ rfl
  have x8 := l2 8 _ rfl
  have x9 := l2 9 _ rfl
  have x10 := l2 10 _ rfl
  have x11 := l2 11 _ rfl
  have x12 := l2 12 _ rfl
  have x13 := l2 13 _ rfl
  have x14 := l2 14 _ rfl
  have x15 := l2 15 _ rfl
  clear l2
  go_wp2_with fail
  refine (wo_msg w2 (fun g => g < w.heap.size) a la (Ha.out.mod hF2 (fun _ _ => id)) (fun g hg => Nat.lt_of_lt_of_le hg hF2.size)).mono ?_
  rintro e w3 ⟨v3, rfl, hN3, hE3⟩
  have hF3 : Ext w w3 := Mod.ext hF2 hE3
  have hca3 := range_ext hca2 hE3
  have hcb3 := range_ext hcb2 hE3
  rw [Hoa.out] at hN3 ⊢
  have HN3 := Lib.hid hN3
  clear hca2 hcb2 hE3 hF2 hN3 x0 x1 x2 x3 x4 x5 x6 x7 x8 x9 x10 x11 x12 x13 x14 x15
  obtain ⟨da, ea⟩ := oa
  have l3 := range_at hcb3
  have x0 := l3 0 _ rfl
  have x1 := l3 1 _ rfl
  have x2 := l3 2 _ rfl
  have x3 := l3 3 _ rfl
  have x4 := l3 4 _ rfl
  have x5 := l3 5 _ rfl
  have x6 := l3 6 _ rfl
  have x7 := l3 7 _ rfl
  have x8 := l3 8 _ rfl
  have x9 := l3 9 _ rfl
  have x10 := l3 10 _ rfl
  have x11 := l3 11 _ rfl
  have x12 := l3 12 _ rfl
  have x13 := l3 13 _ rfl
  have x14 := l3 14 _ rfl
  have x15 := l3 15 _ rfl
  clear l3
  go_wp2_with fail
  refine (wo_msg w3 (fun g => g < w.heap.size) b lb (Hb.out.mod hF3 (fun _ _ => id)) (fun g hg => Nat.lt_of_lt_of_le hg hF3.size)).mono ?_
  rintro e w4 ⟨v4, rfl, hN4, hE4⟩
  have hF4 : Ext w w4 := Mod.ext hF3 hE4
  have hca4 := range_ext hca3 hE4
  have hcb4 := range_ext hcb3 hE4
  rw [Hob.out] at hN4 ⊢
  have hB3 : Byt w4 (fun _ => True) v3 da := (Sl.of_own HN3.out.1 (fun _ _ => trivial)).ext hE4
  have hB4 : Byt w4 (fun _ => True) v4 ob.1 := Sl.of_own hN4.1 (fun _ _ => trivial)
  clear hca3 hcb3 hE4 hF3 hN4 x0 x1 x2 x3 x4 x5 x6 x7 x8 x9 x10 x11 x12 x13 x14 x15
  obtain ⟨db, eb⟩ := ob
  generalize Value.agg #[.int .i64 a.kind, .int .i64 a.src, .int .i64 a.dst, .int .i64 a.term, .int .i64 a.index, .int .i64 a.logTerm, .int .i64 a.commit, .int .i64 a.round, .bool a.yes, a.entV, .int .i64 a.conf.full, .int .i64 a.conf.wit, .int .i64 a.conf.learn, .int .i64 a.conf.learnWit, a.snapV, a.innV] = ga
  generalize Value.agg #[.int .i64 b.kind, .int .i64 b.src, .int .i64 b.dst, .int .i64 b.term, .int .i64 b.index, .int .i64 b.logTerm, .int .i64 b.commit, .int .i64 b.round, .bool b.yes, b.entV, .int .i64 b.conf.full, .int .i64 b.conf.wit, .int .i64 b.conf.learn, .int .i64 b.conf.learnWit, b.snapV, b.innV] = gb
  have hke := told_code (wMsg a la)
  have hkf := told_code (wMsg b lb)
  rw [Hoa.out] at hke
  rw [Hob.out] at hkf
  rcases hke with hke | hke | hke
  case inr.inl =>
    subst hke
    clear Hu hkf
    go_wp2_with fail
    refine wp_region_any (by kernel_rfl) ?_
    change wpAny _ _ _ _ _ _ _ w4.drew
    refine wpAny_take (i := 0) (v := .int .i64 2) rfl (by kernel_rfl) (by kernel_rfl) (by kernel_rfl) (fun _ _ _ h => h) (Or.inl ⟨by kernel_rfl, fun _ => by kernel_rfl⟩) ?_
    refine wpAny_take (i := 1) (v := .bool true) rfl (by kernel_rfl) (by kernel_rfl) (by kernel_rfl) (fun _ _ _ h => h) (Or.inl ⟨by kernel_rfl, fun _ => by kernel_rfl⟩) ?_
    refine wpAny_take (i := 2) (v := .bool true) rfl (by kernel_rfl) (by kernel_rfl) (by kernel_rfl) (fun _ _ _ h => h) (Or.inl ⟨by kernel_rfl, fun _ => by kernel_rfl⟩) ?_
    refine wpAny_take (i := 3) (v := undef) rfl (by kernel_rfl) (by kernel_rfl) (by kernel_rfl) (fun _ _ _ h => h) (Or.inr ⟨by kernel_rfl, rfl⟩) ?_
    refine wpAny_take (i := 4) (v := undef) rfl (by kernel_rfl) (by kernel_rfl) (by kernel_rfl) (fun _ _ _ h => h) (Or.inr ⟨by kernel_rfl, rfl⟩) ?_
    refine wpAny_take (i := 5) (v := .bool true) rfl (by kernel_rfl) (by kernel_rfl) (by kernel_rfl) (fun _ _ _ h => h) (Or.inl ⟨by kernel_rfl, fun _ => by kernel_rfl⟩) ?_
    refine wpAny_take (i := 6) (v := .bool true) rfl (by kernel_rfl) (by kernel_rfl) (by kernel_rfl) (fun _ _ _ h => h) (Or.inl ⟨by kernel_rfl, fun _ => by kernel_rfl⟩) ?_
    refine wpAny_take (i := 7) (v := undef) rfl (by kernel_rfl) (by kernel_rfl) (by kernel_rfl) (fun _ _ _ h => h) (Or.inr ⟨by kernel_rfl, rfl⟩) ?_
    refine wpAny_take (i := 8) (v := undef) rfl (by kernel_rfl) (by kernel_rfl) (by kernel_rfl) (fun _ _ _ h => h) (Or.inr ⟨by kernel_rfl, rfl⟩) ?_
    refine wpAny_take (i := 9) (v := undef) rfl (by kernel_rfl) (by kernel_rfl) (by kernel_rfl) (fun _ _ _ h => h) (Or.inr ⟨by kernel_rfl, rfl⟩) ?_
    refine wpAny_take (i := 10) (v := undef) rfl (by kernel_rfl) (by kernel_rfl) (by kernel_rfl) (fun _ _ _ h => h) (Or.inr ⟨by kernel_rfl, rfl⟩) ?_
    refine wpAny_take (i := 11) (v := undef) rfl (by kernel_rfl) (by kernel_rfl) (by kernel_rfl) (fun _ _ _ h => h) (Or.inr ⟨by kernel_rfl, rfl⟩) ?_
    refine wpAny_take (i := 12) (v := undef) rfl (by kernel_rfl) (by kernel_rfl) (by kernel_rfl) (fun _ _ _ h => h) (Or.inr ⟨by kernel_rfl, rfl⟩) ?_
    refine wpAny_take (i := 13) (v := undef) rfl (by kernel_rfl) (by kernel_rfl) (by kernel_rfl) (fun _ _ _ h => h) (Or.inr ⟨by kernel_rfl, rfl⟩) ?_
    refine wpAny_take (i := 14) (v := .bool true) rfl (by kernel_rfl) (by kernel_rfl) (by kernel_rfl) (fun _ _ _ h => h) (Or.inl ⟨by kernel_rfl, fun _ => by kernel_rfl⟩) ?_
    refine wpAny_take (i := 15) (v := .bool true) rfl (by kernel_rfl) (by kernel_rfl) (by kernel_rfl) (fun _ _ _ h => h) (Or.inl ⟨by kernel_rfl, fun _ => by kernel_rfl⟩) ?_
    refine wpAny_ready (rs := [16]) (by kernel_rfl) (by simp) ?_
    refine AllReady.cons rfl (fun K hK => ?_) AllReady.nil
    go_simp
    go_wp2_with fail
    refine (wo_wakes _).mono ?_
    rintro e w5 ⟨rfl, hE5⟩
    have hX : Ext w w5 := Mod.ext hF4.drew hE5
    clear hE5
    go_simp
    refine hK _ _ ?_
    clear hK K
    refine wpAny_take (i := 17) (v := .bool true) rfl (by kernel_rfl) (by kernel_rfl) (by kernel_rfl) (fun _ _ _ h => h) (Or.inl ⟨by kernel_rfl, fun _ => by kernel_rfl⟩) ?_
    refine wpAny_take (i := 18) (v := .bool true) rfl (by kernel_rfl) (by kernel_rfl) (by kernel_rfl) (fun _ _ _ h => h) (Or.inl ⟨by kernel_rfl, fun _ => by kernel_rfl⟩) ?_
    refine wpAny_done (by kernel_rfl) ?_ _
    go_wp2
    go_ret
    exact ⟨rfl, hX.below⟩
  case inr.inr =>
    subst hke
    clear Hu hkf
    go_wp2_with fail
    refine wp_region_any (by kernel_rfl) ?_
    change wpAny _ _ _ _ _ _ _ w4.drew
    refine wpAny_take (i := 0) (v := .int .i64 3) rfl (by kernel_rfl) (by kernel_rfl) (by kernel_rfl) (fun _ _ _ h => h) (Or.inl ⟨by kernel_rfl, fun _ => by kernel_rfl⟩) ?_
    refine wpAny_take (i := 1) (v := .bool true) rfl (by kernel_rfl) (by kernel_rfl) (by kernel_rfl) (fun _ _ _ h => h) (Or.inl ⟨by kernel_rfl, fun _ => by kernel_rfl⟩) ?_
    refine wpAny_take (i := 2) (v := .bool true) rfl (by kernel_rfl) (by kernel_rfl) (by kernel_rfl) (fun _ _ _ h => h) (Or.inl ⟨by kernel_rfl, fun _ => by kernel_rfl⟩) ?_
    refine wpAny_take (i := 3) (v := undef) rfl (by kernel_rfl) (by kernel_rfl) (by kernel_rfl) (fun _ _ _ h => h) (Or.inr ⟨by kernel_rfl, rfl⟩) ?_
    refine wpAny_take (i := 4) (v := undef) rfl (by kernel_rfl) (by kernel_rfl) (by kernel_rfl) (fun _ _ _ h => h) (Or.inr ⟨by kernel_rfl, rfl⟩) ?_
    refine wpAny_take (i := 5) (v := .bool true) rfl (by kernel_rfl) (by kernel_rfl) (by kernel_rfl) (fun _ _ _ h => h) (Or.inl ⟨by kernel_rfl, fun _ => by kernel_rfl⟩) ?_
    refine wpAny_take (i := 6) (v := .bool true) rfl (by kernel_rfl) (by kernel_rfl) (by kernel_rfl) (fun _ _ _ h => h) (Or.inl ⟨by kernel_rfl, fun _ => by kernel_rfl⟩) ?_
    refine wpAny_take (i := 7) (v := undef) rfl (by kernel_rfl) (by kernel_rfl) (by kernel_rfl) (fun _ _ _ h => h) (Or.inr ⟨by kernel_rfl, rfl⟩) ?_
    refine wpAny_take (i := 8) (v := undef) rfl (by kernel_rfl) (by kernel_rfl) (by kernel_rfl) (fun _ _ _ h => h) (Or.inr ⟨by kernel_rfl, rfl⟩) ?_
    refine wpAny_take (i := 9) (v := undef) rfl (by kernel_rfl) (by kernel_rfl) (by kernel_rfl) (fun _ _ _ h => h) (Or.inr ⟨by kernel_rfl, rfl⟩) ?_
    refine wpAny_take (i := 10) (v := undef) rfl (by kernel_rfl) (by kernel_rfl) (by kernel_rfl) (fun _ _ _ h => h) (Or.inr ⟨by kernel_rfl, rfl⟩) ?_
    refine wpAny_take (i := 11) (v := undef) rfl (by kernel_rfl) (by kernel_rfl) (by kernel_rfl) (fun _ _ _ h => h) (Or.inr ⟨by kernel_rfl, rfl⟩) ?_
    refine wpAny_take (i := 12) (v := undef) rfl (by kernel_rfl) (by kernel_rfl) (by kernel_rfl) (fun _ _ _ h => h) (Or.inr ⟨by kernel_rfl, rfl⟩) ?_
    refine wpAny_take (i := 13) (v := undef) rfl (by kernel_rfl) (by kernel_rfl) (by kernel_rfl) (fun _ _ _ h => h) (Or.inr ⟨by kernel_rfl, rfl⟩) ?_
    refine wpAny_take (i := 14) (v := .bool true) rfl (by kernel_rfl) (by kernel_rfl) (by kernel_rfl) (fun _ _ _ h => h) (Or.inl ⟨by kernel_rfl, fun _ => by kernel_rfl⟩) ?_
    refine wpAny_take (i := 15) (v := .bool true) rfl (by kernel_rfl) (by kernel_rfl) (by kernel_rfl) (fun _ _ _ h => h) (Or.inl ⟨by kernel_rfl, fun _ => by kernel_rfl⟩) ?_
    refine wpAny_ready (rs := [16]) (by kernel_rfl) (by simp) ?_
    refine AllReady.cons rfl (fun K hK => ?_) AllReady.nil
    go_simp
    go_wp2_with fail
    refine (wo_wakes _).mono ?_
    rintro e w5 ⟨rfl, hE5⟩
    have hX : Ext w w5 := Mod.ext hF4.drew hE5
    clear hE5
    go_simp
    refine hK _ _ ?_
    clear hK K
    refine wpAny_take (i := 17) (v := .bool true) rfl (by kernel_rfl) (by kernel_rfl) (by kernel_rfl) (fun _ _ _ h => h) (Or.inl ⟨by kernel_rfl, fun _ => by kernel_rfl⟩) ?_
    refine wpAny_take (i := 18) (v := .bool true) rfl (by kernel_rfl) (by kernel_rfl) (by kernel_rfl) (fun _ _ _ h => h) (Or.inl ⟨by kernel_rfl, fun _ => by kernel_rfl⟩) ?_
    refine wpAny_done (by kernel_rfl) ?_ _
    go_wp2
    go_ret
    exact ⟨rfl, hX.below⟩
  rcases hkf with hkf | hkf | hkf
  case inr.inl =>
    subst hke
    subst hkf
    clear Hu
    go_wp2_with fail
    refine wp_region_any (by kernel_rfl) ?_
    change wpAny _ _ _ _ _ _ _ w4.drew
    refine wpAny_take (i := 0) (v := .int .i64 0) rfl (by kernel_rfl) (by kernel_rfl) (by kernel_rfl) (fun _ _ _ h => h) (Or.inl ⟨by kernel_rfl, fun _ => by kernel_rfl⟩) ?_
    refine wpAny_take (i := 1) (v := .bool false) rfl (by kernel_rfl) (by kernel_rfl) (by kernel_rfl) (fun _ _ _ h => h) (Or.inl ⟨by kernel_rfl, fun _ => by kernel_rfl⟩) ?_
    refine wpAny_take (i := 2) (v := .bool false) rfl (by kernel_rfl) (by kernel_rfl) (by kernel_rfl) (fun _ _ _ h => h) (Or.inl ⟨by kernel_rfl, fun _ => by kernel_rfl⟩) ?_
    refine wpAny_take (i := 3) (v := .int .i64 2) rfl (by kernel_rfl) (by kernel_rfl) (by kernel_rfl) (fun _ _ _ h => h) (Or.inl ⟨by kernel_rfl, fun _ => by kernel_rfl⟩) ?_
    refine wpAny_take (i := 4) (v := .bool true) rfl (by kernel_rfl) (by kernel_rfl) (by kernel_rfl) (fun _ _ _ h => h) (Or.inl ⟨by kernel_rfl, fun _ => by kernel_rfl⟩) ?_
    refine wpAny_take (i := 5) (v := .bool true) rfl (by kernel_rfl) (by kernel_rfl) (by kernel_rfl) (fun _ _ _ h => h) (Or.inl ⟨by kernel_rfl, fun _ => by kernel_rfl⟩) ?_
    refine wpAny_take (i := 6) (v := .bool true) rfl (by kernel_rfl) (by kernel_rfl) (by kernel_rfl) (fun _ _ _ h => h) (Or.inl ⟨by kernel_rfl, fun _ => by kernel_rfl⟩) ?_
    refine wpAny_take (i := 7) (v := undef) rfl (by kernel_rfl) (by kernel_rfl) (by kernel_rfl) (fun _ _ _ h => h) (Or.inr ⟨by kernel_rfl, rfl⟩) ?_
    refine wpAny_take (i := 8) (v := undef) rfl (by kernel_rfl) (by kernel_rfl) (by kernel_rfl) (fun _ _ _ h => h) (Or.inr ⟨by kernel_rfl, rfl⟩) ?_
    refine wpAny_take (i := 9) (v := undef) rfl (by kernel_rfl) (by kernel_rfl) (by kernel_rfl) (fun _ _ _ h => h) (Or.inr ⟨by kernel_rfl, rfl⟩) ?_
    refine wpAny_take (i := 10) (v := undef) rfl (by kernel_rfl) (by kernel_rfl) (by kernel_rfl) (fun _ _ _ h => h) (Or.inr ⟨by kernel_rfl, rfl⟩) ?_
    refine wpAny_take (i := 11) (v := undef) rfl (by kernel_rfl) (by kernel_rfl) (by kernel_rfl) (fun _ _ _ h => h) (Or.inr ⟨by kernel_rfl, rfl⟩) ?_
    refine wpAny_take (i := 12) (v := undef) rfl (by kernel_rfl) (by kernel_rfl) (by kernel_rfl) (fun _ _ _ h => h) (Or.inr ⟨by kernel_rfl, rfl⟩) ?_
    refine wpAny_take (i := 13) (v := undef) rfl (by kernel_rfl) (by kernel_rfl) (by kernel_rfl) (fun _ _ _ h => h) (Or.inr ⟨by kernel_rfl, rfl⟩) ?_
    refine wpAny_take (i := 14) (v := .bool true) rfl (by kernel_rfl) (by kernel_rfl) (by kernel_rfl) (fun _ _ _ h => h) (Or.inl ⟨by kernel_rfl, fun _ => by kernel_rfl⟩) ?_
    refine wpAny_take (i := 15) (v := .bool true) rfl (by kernel_rfl) (by kernel_rfl) (by kernel_rfl) (fun _ _ _ h => h) (Or.inl ⟨by kernel_rfl, fun _ => by kernel_rfl⟩) ?_
    refine wpAny_ready (rs := [16]) (by kernel_rfl) (by simp) ?_
    refine AllReady.cons rfl (fun K hK => ?_) AllReady.nil
    go_simp
    go_wp2_with fail
    refine (wo_wakes _).mono ?_
    rintro e w5 ⟨rfl, hE5⟩
    have hX : Ext w w5 := Mod.ext hF4.drew hE5
    clear hE5
    go_simp
    refine hK _ _ ?_
    clear hK K
    refine wpAny_take (i := 17) (v := .bool true) rfl (by kernel_rfl) (by kernel_rfl) (by kernel_rfl) (fun _ _ _ h => h) (Or.inl ⟨by kernel_rfl, fun _ => by kernel_rfl⟩) ?_
    refine wpAny_take (i := 18) (v := .bool true) rfl (by kernel_rfl) (by kernel_rfl) (by kernel_rfl) (fun _ _ _ h => h) (Or.inl ⟨by kernel_rfl, fun _ => by kernel_rfl⟩) ?_
    refine wpAny_done (by kernel_rfl) ?_ _
    go_wp2
    go_ret
    exact ⟨rfl, hX.below⟩
  case inr.inr =>
    subst hke
    subst hkf
    clear Hu
    go_wp2_with fail
    refine wp_region_any (by kernel_rfl) ?_
    change wpAny _ _ _ _ _ _ _ w4.drew
    refine wpAny_take (i := 0) (v := .int .i64 0) rfl (by kernel_rfl) (by kernel_rfl) (by kernel_rfl) (fun _ _ _ h => h) (Or.inl ⟨by kernel_rfl, fun _ => by kernel_rfl⟩) ?_
    refine wpAny_take (i := 1) (v := .bool false) rfl (by kernel_rfl) (by kernel_rfl) (by kernel_rfl) (fun _ _ _ h => h) (Or.inl ⟨by kernel_rfl, fun _ => by kernel_rfl⟩) ?_
    refine wpAny_take (i := 2) (v := .bool false) rfl (by kernel_rfl) (by kernel_rfl) (by kernel_rfl) (fun _ _ _ h => h) (Or.inl ⟨by kernel_rfl, fun _ => by kernel_rfl⟩) ?_
    refine wpAny_take (i := 3) (v := .int .i64 3) rfl (by kernel_rfl) (by kernel_rfl) (by kernel_rfl) (fun _ _ _ h => h) (Or.inl ⟨by kernel_rfl, fun _ => by kernel_rfl⟩) ?_
    refine wpAny_take (i := 4) (v := .bool true) rfl (by kernel_rfl) (by kernel_rfl) (by kernel_rfl) (fun _ _ _ h => h) (Or.inl ⟨by kernel_rfl, fun _ => by kernel_rfl⟩) ?_
    refine wpAny_take (i := 5) (v := .bool true) rfl (by kernel_rfl) (by kernel_rfl) (by kernel_rfl) (fun _ _ _ h => h) (Or.inl ⟨by kernel_rfl, fun _ => by kernel_rfl⟩) ?_
    refine wpAny_take (i := 6) (v := .bool true) rfl (by kernel_rfl) (by kernel_rfl) (by kernel_rfl) (fun _ _ _ h => h) (Or.inl ⟨by kernel_rfl, fun _ => by kernel_rfl⟩) ?_
    refine wpAny_take (i := 7) (v := undef) rfl (by kernel_rfl) (by kernel_rfl) (by kernel_rfl) (fun _ _ _ h => h) (Or.inr ⟨by kernel_rfl, rfl⟩) ?_
    refine wpAny_take (i := 8) (v := undef) rfl (by kernel_rfl) (by kernel_rfl) (by kernel_rfl) (fun _ _ _ h => h) (Or.inr ⟨by kernel_rfl, rfl⟩) ?_
    refine wpAny_take (i := 9) (v := undef) rfl (by kernel_rfl) (by kernel_rfl) (by kernel_rfl) (fun _ _ _ h => h) (Or.inr ⟨by kernel_rfl, rfl⟩) ?_
    refine wpAny_take (i := 10) (v := undef) rfl (by kernel_rfl) (by kernel_rfl) (by kernel_rfl) (fun _ _ _ h => h) (Or.inr ⟨by kernel_rfl, rfl⟩) ?_
    refine wpAny_take (i := 11) (v := undef) rfl (by kernel_rfl) (by kernel_rfl) (by kernel_rfl) (fun _ _ _ h => h) (Or.inr ⟨by kernel_rfl, rfl⟩) ?_
    refine wpAny_take (i := 12) (v := undef) rfl (by kernel_rfl) (by kernel_rfl) (by kernel_rfl) (fun _ _ _ h => h) (Or.inr ⟨by kernel_rfl, rfl⟩) ?_
    refine wpAny_take (i := 13) (v := undef) rfl (by kernel_rfl) (by kernel_rfl) (by kernel_rfl) (fun _ _ _ h => h) (Or.inr ⟨by kernel_rfl, rfl⟩) ?_
    refine wpAny_take (i := 14) (v := .bool true) rfl (by kernel_rfl) (by kernel_rfl) (by kernel_rfl) (fun _ _ _ h => h) (Or.inl ⟨by kernel_rfl, fun _ => by kernel_rfl⟩) ?_
    refine wpAny_take (i := 15) (v := .bool true) rfl (by kernel_rfl) (by kernel_rfl) (by kernel_rfl) (fun _ _ _ h => h) (Or.inl ⟨by kernel_rfl, fun _ => by kernel_rfl⟩) ?_
    refine wpAny_ready (rs := [16]) (by kernel_rfl) (by simp) ?_
    refine AllReady.cons rfl (fun K hK => ?_) AllReady.nil
    go_simp
    go_wp2_with fail
    refine (wo_wakes _).mono ?_
    rintro e w5 ⟨rfl, hE5⟩
    have hX : Ext w w5 := Mod.ext hF4.drew hE5
    clear hE5
    go_simp
    refine hK _ _ ?_
    clear hK K
    refine wpAny_take (i := 17) (v := .bool true) rfl (by kernel_rfl) (by kernel_rfl) (by kernel_rfl) (fun _ _ _ h => h) (Or.inl ⟨by kernel_rfl, fun _ => by kernel_rfl⟩) ?_
    refine wpAny_take (i := 18) (v := .bool true) rfl (by kernel_rfl) (by kernel_rfl) (by kernel_rfl) (fun _ _ _ h => h) (Or.inl ⟨by kernel_rfl, fun _ => by kernel_rfl⟩) ?_
    refine wpAny_done (by kernel_rfl) ?_ _
    go_wp2
    go_ret
    exact ⟨rfl, hX.below⟩
  subst hke
  subst hkf
  have hu : (da == db) = eqMsg a b la lb := Hu.out rfl rfl
  clear Hu Hoa Hob
  rcases hq : (da == db) with _ | _
  all_goals
    rw [hq] at hu
    have Hq := Lib.hid hq
    have Hv := Lib.hid hu.symm
    clear hq hu
    go_wp2_with fail
    refine wp_region_held_drew (S := (fun W' => Ext w W' ∧ W'.rangeAt w.heap.size 0 [.int .i64 a.kind, .int .i64 a.src, .int .i64 a.dst, .int .i64 a.term, .int .i64 a.index, .int .i64 a.logTerm, .int .i64 a.commit, .int .i64 a.round, .bool a.yes, a.entV, .int .i64 a.conf.full, .int .i64 a.conf.wit, .int .i64 a.conf.learn, .int .i64 a.conf.learnWit, a.snapV, a.innV] ∧ W'.rangeAt (w.heap.size + 1) 0 [.int .i64 b.kind, .int .i64 b.src, .int .i64 b.dst, .int .i64 b.term, .int .i64 b.index, .int .i64 b.logTerm, .int .i64 b.commit, .int .i64 b.round, .bool b.yes, b.entV, .int .i64 b.conf.full, .int .i64 b.conf.wit, .int .i64 b.conf.learn, .int .i64 b.conf.learnWit, b.snapV, b.innV])) (by kernel_rfl) ⟨hF4.drew, hca4, hcb4⟩ (fun hS => ?_)
    refine wpAnyH_take (i := 0) (v := .int .i64 0) rfl (by kernel_rfl) (by kernel_rfl) (by kernel_rfl) (fun _ _ _ h => h) (Or.inl ⟨by kernel_rfl, fun _ _ => by kernel_rfl⟩) hS ?_
    refine wpAnyH_take (i := 1) (v := .bool false) rfl (by kernel_rfl) (by kernel_rfl) (by kernel_rfl) (fun _ _ _ h => h) (Or.inl ⟨by kernel_rfl, fun _ _ => by kernel_rfl⟩) hS ?_
    refine wpAnyH_take (i := 2) (v := .bool false) rfl (by kernel_rfl) (by kernel_rfl) (by kernel_rfl) (fun _ _ _ h => h) (Or.inl ⟨by kernel_rfl, fun _ _ => by kernel_rfl⟩) hS ?_
    refine wpAnyH_take (i := 3) (v := .int .i64 0) rfl (by kernel_rfl) (by kernel_rfl) (by kernel_rfl) (fun _ _ _ h => h) (Or.inl ⟨by kernel_rfl, fun _ _ => by kernel_rfl⟩) hS ?_
    refine wpAnyH_take (i := 4) (v := .bool false) rfl (by kernel_rfl) (by kernel_rfl) (by kernel_rfl) (fun _ _ _ h => h) (Or.inl ⟨by kernel_rfl, fun _ _ => by kernel_rfl⟩) hS ?_
    refine wpAnyH_take (i := 5) (v := .bool false) rfl (by kernel_rfl) (by kernel_rfl) (by kernel_rfl) (fun _ _ _ h => h) (Or.inl ⟨by kernel_rfl, fun _ _ => by kernel_rfl⟩) hS ?_
    refine wpAnyH_take (i := 6) (v := .bool false) rfl (by kernel_rfl) (by kernel_rfl) (by kernel_rfl) (fun _ _ _ h => h) (Or.inl ⟨by kernel_rfl, fun _ _ => by kernel_rfl⟩) hS ?_
    refine wpAnyH_take (i := 7) (v := v3) rfl (by kernel_rfl) (by kernel_rfl) (by kernel_rfl) (fun _ _ _ h => h) (Or.inl ⟨by kernel_rfl, fun _ _ => by kernel_rfl⟩) hS ?_
    refine wpAnyH_take (i := 8) (v := v4) rfl (by kernel_rfl) (by kernel_rfl) (by kernel_rfl) (fun _ _ _ h => h) (Or.inl ⟨by kernel_rfl, fun _ _ => by kernel_rfl⟩) hS ?_
    refine wpAnyH_take (i := 10) (v := .agg #[.int .i64 a.kind, .int .i64 a.src, .int .i64 a.dst, .int .i64 a.term, .int .i64 a.index, .int .i64 a.logTerm, .int .i64 a.commit, .int .i64 a.round, .bool a.yes, a.entV, .int .i64 a.conf.full, .int .i64 a.conf.wit, .int .i64 a.conf.learn, .int .i64 a.conf.learnWit, a.snapV, a.innV]) rfl (by kernel_rfl) (by kernel_rfl) (by kernel_rfl) (fun _ _ _ h => h) (yieldsIf_load_mid (by kernel_rfl) 28 _ rfl w.heap.size 0 (by kernel_rfl) [.int .i64 a.kind, .int .i64 a.src, .int .i64 a.dst, .int .i64 a.term, .int .i64 a.index, .int .i64 a.logTerm, .int .i64 a.commit, .int .i64 a.round, .bool a.yes, a.entV, .int .i64 a.conf.full, .int .i64 a.conf.wit, .int .i64 a.conf.learn, .int .i64 a.conf.learnWit, a.snapV, a.innV] _ (fun _ h => h.2.1) hu28 rfl hi28a) hS ?_
    refine wpAnyH_take (i := 11) (v := .agg #[.int .i64 b.kind, .int .i64 b.src, .int .i64 b.dst, .int .i64 b.term, .int .i64 b.index, .int .i64 b.logTerm, .int .i64 b.commit, .int .i64 b.round, .bool b.yes, b.entV, .int .i64 b.conf.full, .int .i64 b.conf.wit, .int .i64 b.conf.learn, .int .i64 b.conf.learnWit, b.snapV, b.innV]) rfl (by kernel_rfl) (by kernel_rfl) (by kernel_rfl) (fun _ _ _ h => h) (yieldsIf_load_mid (by kernel_rfl) 28 _ rfl (w.heap.size + 1) 0 (by kernel_rfl) [.int .i64 b.kind, .int .i64 b.src, .int .i64 b.dst, .int .i64 b.term, .int .i64 b.index, .int .i64 b.logTerm, .int .i64 b.commit, .int .i64 b.round, .bool b.yes, b.entV, .int .i64 b.conf.full, .int .i64 b.conf.wit, .int .i64 b.conf.learn, .int .i64 b.conf.learnWit, b.snapV, b.innV] _ (fun _ h => h.2.2) hu28 rfl hi28b) hS ?_
    refine wpAnyH_ready (rs := [9]) (by kernel_rfl) (by simp) ?_
    refine AllReadyH.cons rfl (fun K hK => ?_) AllReadyH.nil
    go_simp
    go_wp2_with fail
    refine (k_bytes w4.drew (fun _ => True) (fun _ => True) v3 v4 da db (Sl.drew hB3) (Sl.drew hB4)).mono ?_
    rintro e w5 ⟨rfl, hE5⟩
    rw [Hq.out]
    have hX : Ext w w5 ∧ w5.rangeAt w.heap.size 0 [.int .i64 a.kind, .int .i64 a.src, .int .i64 a.dst, .int .i64 a.term, .int .i64 a.index, .int .i64 a.logTerm, .int .i64 a.commit, .int .i64 a.round, .bool a.yes, a.entV, .int .i64 a.conf.full, .int .i64 a.conf.wit, .int .i64 a.conf.learn, .int .i64 a.conf.learnWit, a.snapV, a.innV] ∧ w5.rangeAt (w.heap.size + 1) 0 [.int .i64 b.kind, .int .i64 b.src, .int .i64 b.dst, .int .i64 b.term, .int .i64 b.index, .int .i64 b.logTerm, .int .i64 b.commit, .int .i64 b.round, .bool b.yes, b.entV, .int .i64 b.conf.full, .int .i64 b.conf.wit, .int .i64 b.conf.learn, .int .i64 b.conf.learnWit, b.snapV, b.innV] := ⟨Mod.ext hF4.drew hE5, range_ext (W := w4.drew) hca4 hE5, range_ext (W := w4.drew) hcb4 hE5⟩
    clear hE5
    go_simp
    refine hK.out _ _ hX (fun hS => ?_)
    clear hK K
    refine wpAnyH_ready (rs := [12]) (by kernel_rfl) (by simp) ?_
    refine AllReadyH.cons rfl (fun K hK => ?_) AllReadyH.nil
    go_simp
    go_wp2_with fail
    refine (k_msg a b la lb _ _ _ (Ha.out.mod hX.1 (fun _ _ => id)) (Hb.out.mod hX.1 (fun _ _ => id))).mono ?_
    rintro e w6 ⟨rfl, hE5⟩
    rw [Hv.out]
    have hX : Ext w w6 ∧ w6.rangeAt w.heap.size 0 [.int .i64 a.kind, .int .i64 a.src, .int .i64 a.dst, .int .i64 a.term, .int .i64 a.index, .int .i64 a.logTerm, .int .i64 a.commit, .int .i64 a.round, .bool a.yes, a.entV, .int .i64 a.conf.full, .int .i64 a.conf.wit, .int .i64 a.conf.learn, .int .i64 a.conf.learnWit, a.snapV, a.innV] ∧ w6.rangeAt (w.heap.size + 1) 0 [.int .i64 b.kind, .int .i64 b.src, .int .i64 b.dst, .int .i64 b.term, .int .i64 b.index, .int .i64 b.logTerm, .int .i64 b.commit, .int .i64 b.round, .bool b.yes, b.entV, .int .i64 b.conf.full, .int .i64 b.conf.wit, .int .i64 b.conf.learn, .int .i64 b.conf.learnWit, b.snapV, b.innV] := ⟨Mod.ext hX.1 hE5, range_ext hX.2.1 hE5, range_ext hX.2.2 hE5⟩
    clear hE5
    go_simp
    refine hK.out _ _ hX (fun hS => ?_)
    clear hK K
    refine wpAnyH_take (i := 13) (v := .bool true) rfl (by kernel_rfl) (by kernel_rfl) (by kernel_rfl) (fun _ _ _ h => h) (Or.inl ⟨by kernel_rfl, fun _ _ => by kernel_rfl⟩) hS ?_
    refine wpAnyH_take (i := 14) (v := .bool true) rfl (by kernel_rfl) (by kernel_rfl) (by kernel_rfl) (fun _ _ _ h => h) (Or.inl ⟨by kernel_rfl, fun _ _ => by kernel_rfl⟩) hS ?_
    refine wpAnyH_take (i := 15) (v := .bool true) rfl (by kernel_rfl) (by kernel_rfl) (by kernel_rfl) (fun _ _ _ h => h) (Or.inl ⟨by kernel_rfl, fun _ _ => by kernel_rfl⟩) hS ?_
    refine wpAnyH_ready (rs := [16]) (by kernel_rfl) (by simp) ?_
    refine AllReadyH.cons rfl (fun K hK => ?_) AllReadyH.nil
    go_simp
    go_wp2_with fail
    refine (wo_wakes _).mono ?_
    rintro e w7 ⟨rfl, hE5⟩
    have hX : Ext w w7 ∧ w7.rangeAt w.heap.size 0 [.int .i64 a.kind, .int .i64 a.src, .int .i64 a.dst, .int .i64 a.term, .int .i64 a.index, .int .i64 a.logTerm, .int .i64 a.commit, .int .i64 a.round, .bool a.yes, a.entV, .int .i64 a.conf.full, .int .i64 a.conf.wit, .int .i64 a.conf.learn, .int .i64 a.conf.learnWit, a.snapV, a.innV] ∧ w7.rangeAt (w.heap.size + 1) 0 [.int .i64 b.kind, .int .i64 b.src, .int .i64 b.dst, .int .i64 b.term, .int .i64 b.index, .int .i64 b.logTerm, .int .i64 b.commit, .int .i64 b.round, .bool b.yes, b.entV, .int .i64 b.conf.full, .int .i64 b.conf.wit, .int .i64 b.conf.learn, .int .i64 b.conf.learnWit, b.snapV, b.innV] := ⟨Mod.ext hX.1 hE5, range_ext hX.2.1 hE5, range_ext hX.2.2 hE5⟩
    clear hE5
    go_simp
    refine hK.out _ _ hX (fun hS => ?_)
    clear hK K
    refine wpAnyH_take (i := 17) (v := .bool true) rfl (by kernel_rfl) (by kernel_rfl) (by kernel_rfl) (fun _ _ _ h => h) (Or.inl ⟨by kernel_rfl, fun _ _ => by kernel_rfl⟩) hS ?_
    refine wpAnyH_take (i := 18) (v := .bool true) rfl (by kernel_rfl) (by kernel_rfl) (by kernel_rfl) (fun _ _ _ h => h) (Or.inl ⟨by kernel_rfl, fun _ _ => by kernel_rfl⟩) hS ?_
    refine wpAnyH_done (by kernel_rfl) ?_ _
    go_wp2
    go_ret
    exact ⟨rfl, hX.1.below⟩
end Go.Proofs.Ytfkacakbengboaa
