/-
 Contracts of wire.ReadHard. Conditions: as each theorem names them.
-/
import Derived.Test.YtfkacakbengboaaWireR3
import Derived.Test.YtfkacakbengboaaWireOfH
namespace Go.Proofs.Ytfkacakbengboaa
set_option linter.unusedSimpArgs false
open Go.RowKit

set_option maxRecDepth 100000 in
set_option maxHeartbeats 2000000 in
theorem wr_readH1 (w : World) (S : Nat → Prop) (c b : Nat) (r : RS) (h : Rw w S c b r) (hlen : r.left.length ≤ 100000) :
  Calls Try.prog 51 #[.pointer (some ⟨c, 0, none⟩)] w (HOut w S c b r.hardW) := by
 obtain ⟨q, hq⟩ : ∃ q, w.heap.size = q := ⟨_, rfl⟩
 obtain ⟨W, hW⟩ : ∃ W, W = w.alloc (.cells #[.int .i64 0, .int .i64 0, .int .i64 0, .int .i64 0, .int .i64 0, .int .i64 0, .int .i64 0, .int .i64 0, .slice none 0 0, .slice none 0 0] 54) := ⟨_, rfl⟩
 have hE : Ext w W := by rw [hW]; exact (Mod.refl _ w).alloc _
 have hA : W.heap[q]? = some (.cells #[.int .i64 0, .int .i64 0, .int .i64 0, .int .i64 0, .int .i64 0, .int .i64 0, .int .i64 0, .int .i64 0, .slice none 0 0, .slice none 0 0] 54 (0, 0)) := by rw [hW, ← hq]; exact heap_alloc_new w _
 have hsz : W.heap.size = q + 1 := by rw [hW, ← hq]; simp
 have hnq : ¬ S q := fun e => by have := h.2.2.2 q e; omega
 have hcq : ¬ c = q := by have := h.lt; omega
 have hqc : ¬ q = c := by omega
 have Hnq := Lib.hid hnq
 have HR : Hid (Rw W S c b r) := Lib.hid (h.ext hE)
 have HM : Hid (Mod S w W) := Lib.hid (hE.mod S)
 have HA := Lib.hid hA
 have HW := Lib.hid hW
 have Hq := Lib.hid hq
 have hqw : w.heap.size ≤ q := by omega
 have Hqw := Lib.hid hqw
 have Hsz := Lib.hid hsz
 have rl := h.lt
 clear hW hq hE h hA hsz hqw
 go_enter Try.func51, Try.ntmps51
 go_wp2_with fail
 rw [← HW.out, Hq.out]
 refine (wr_hard W S c b r HR.out hlen).mono ?_
 rintro e w1 ⟨hm2, hbad, hok⟩
 rcases hT : r.hardW with _ | ⟨y, r3⟩
 ·
  obtain rfl := hbad hT
  exact ⟨rfl, HM.out.self hm2, fun _ => rfl, fun y r' h => by cases h⟩
 obtain ⟨sv, lv, rfl, hNB, hNE, hR2⟩ := hok _ _ hT
 obtain ⟨A5, c5, rfl⟩ := own_form hNB.1
 obtain ⟨A6, c6, rfl⟩ := own_form hNE.1
 have hWq : q < W.heap.size := (Array.getElem?_eq_some_iff.1 HA.out).1
 have HNB := Lib.hid hNB
 have HNE := Lib.hid hNE
 replace HR := Lib.hid hR2
 replace HM := Lib.hid (HM.out.self hm2)
 replace HA := Lib.hid (hm2.blk HA.out hnq)
 have HHW := Lib.hid hT
 clear hbad hok hNB hNE hR2 hm2 hT Hsz
 go_wp2_with (refine wpList_stR rfl 54 _ _ rfl 10 q 0 [.int .i64 y.term, .int .i64 y.vote, .int .i64 y.base, .int .i64 y.baseTerm, .int .i64 y.conf.full, .int .i64 y.conf.wit, .int .i64 y.conf.learn, .int .i64 y.conf.learnWit, .slice A5 y.snap.length c5, .slice A6 y.log.length c6] rfl rfl str_hard _ _ [.int .i64 y.term, .int .i64 y.vote, .int .i64 y.base, .int .i64 y.baseTerm, .int .i64 y.conf.full, .int .i64 y.conf.wit, .int .i64 y.conf.learn, .int .i64 y.conf.learnWit, .slice A5 y.snap.length c5, .slice A6 y.log.length c6] HA.out rfl (by simp) (List.all_eq_true.1 rfl) rfl ?_)
 intro w2 hA4 hm4 _
 have HZ : Hid (w2.heap[q]? = some (.cells #[.int .i64 y.term, .int .i64 y.vote, .int .i64 y.base, .int .i64 y.baseTerm, .int .i64 y.conf.full, .int .i64 y.conf.wit, .int .i64 y.conf.learn, .int .i64 y.conf.learnWit, .slice A5 y.snap.length c5, .slice A6 y.log.length c6] 54 (0, 0))) := Lib.hid hA4
 replace HR := Lib.hid (HR.out.mod hm4 (fun g hg e => Hnq.out (e ▸ hg)) hcq)
 have hNB2 : NewB w w2 (.slice A5 y.snap.length c5) y.snap := ⟨own_mod HNB.out.1 hm4 (fun g h1 h2 => by have := HNB.out.2 g h1; omega), fun g hg => by have := HNB.out.2 g hg; have := Hqw.out; omega⟩
 have hNE2 : NewE w w2 (.slice A6 y.log.length c6) y.log := newE_up (newE_mod HNE.out hm4 (fun g h1 h2 => by have := HNE.out.2.2 g h1; omega)) (by have := Hqw.out; omega)
 replace HNB := Lib.hid hNB2
 replace HNE := Lib.hid hNE2
 replace HM := Lib.hid (mod_new HM.out hm4 Hqw.out)
 clear hA4 hm4 hNB2 hNE2
 go_wp2
 obtain ⟨c_0, c_1, c_2, c_3, c_4, c_5, c_6, c_7, c_8, c_9⟩ := cq10 HZ.out
 refine bodyPost_ret (v := .agg #[.int .i64 y.term, .int .i64 y.vote, .int .i64 y.base, .int .i64 y.baseTerm, .int .i64 y.conf.full, .int .i64 y.conf.wit, .int .i64 y.conf.learn, .int .i64 y.conf.learnWit, .slice A5 y.snap.length c5, .slice A6 y.log.length c6]) (by simp [results, Try.results51, go_sem, c_0, c_1, c_2, c_3, c_4, c_5, c_6, c_7, c_8, c_9]) rfl ⟨HM.out, (fun h => by rw [HHW.out] at h; cases h), fun y' r' h => ?_⟩
 rw [HHW.out] at h
 simp only [Option.some.injEq, Prod.mk.injEq] at h
 obtain ⟨rfl, rfl⟩ := h
 exact ⟨_, _, rfl, HNB.out, HNE.out, HR.out⟩
/-- What wire.of is told of a hard state. -/
def HG (bs : List UInt8) (W w' : World) (cs : List Value) : Prop := ∃ y r' A5 c5 A6 c6, RS.hardW ⟨bs, 0⟩ = some (y, r') ∧ cs = y.cells (.slice A5 y.snap.length c5) (.slice A6 y.log.length c6) ∧ NewB W w' (.slice A5 y.snap.length c5) y.snap ∧ NewE W w' (.slice A6 y.log.length c6) y.log
theorem of_readH {w w' : World} {bs : List UInt8} {e : Ending} (h : OfOutH w bs (RS.hardW ⟨bs, 0⟩).isNone ((RS.hardW ⟨bs, 0⟩).getD (AHard.zero, ⟨bs, 0⟩)).2 (HG bs) e w') : RdHard w (wReadHard bs) e w' := by
 obtain ⟨hE, h1, h2⟩ := h
 rcases ho : RS.hardW ⟨bs, 0⟩ with _ | ⟨y, r'⟩
 ·
  rw [ho] at h2
  obtain rfl := h2 (fun h => by cases h.1)
  have hy : wReadHard bs = none := by
   unfold wReadHard
   rw [ho]
   split <;> rfl
  exact ⟨AHard.zero, 3, .slice none 0 0, .slice none 0 0, by rw [hy]; rfl, by rw [hy]; rfl, rfl, ⟨World.ownsRow_nil _ _ _ _, by simp [Value.ownBlock]⟩, newE_nil _ _, hE⟩
 ·
  rw [ho] at h1 h2
  simp only [Option.isNone_some, Option.getD_some, true_and] at h1 h2
  by_cases hc : bs.length ≤ 16384 ∧ r'.done = 0
  ·
   obtain ⟨W, cs, hW, ⟨y2, r2, A5, c5, A6, c6, g1, rfl, g3, g4⟩, rfl⟩ := h1 hc
   rw [ho] at g1
   simp only [Option.some.injEq, Prod.mk.injEq] at g1
   obtain ⟨rfl, rfl⟩ := g1
   have hy : wReadHard bs = some y := by
    unfold wReadHard
    rw [if_neg (by omega), ho]
    simp only
    rw [if_neg (by simpa using hc.2)]
   exact ⟨y, 0, _, _, by rw [hy]; rfl, by rw [hy]; rfl, rfl, ⟨g3.1, fun g hg => Nat.le_trans hW.size (g3.2 g hg)⟩, newE_up g4 hW.size, hE⟩
  ·
   obtain rfl := h2 hc
   have hy : wReadHard bs = none := by
    unfold wReadHard
    by_cases g1 : 16384 < bs.length
    ·
     rw [if_pos g1]
    rw [if_neg g1, ho]
    simp only
    rw [if_pos (fun g3 => hc ⟨by omega, g3⟩)]
   exact ⟨AHard.zero, 3, .slice none 0 0, .slice none 0 0, by rw [hy]; rfl, by rw [hy]; rfl, rfl, ⟨World.ownsRow_nil _ _ _ _, by simp [Value.ownBlock]⟩, newE_nil _ _, hE⟩
theorem hG_mod {bs : List UInt8} {W w1 w2 : World} {cs : List Value} (h : HG bs W w1 cs) (hm : Mod (fun k => k < W.heap.size) w1 w2) : HG bs W w2 cs := by
 obtain ⟨y, r', A5, c5, A6, c6, h1, h2, h3, h4⟩ := h
 exact ⟨y, r', A5, c5, A6, c6, h1, h2, ⟨own_mod h3.1 hm (fun g g1 g2 => by have := h3.2 g g1; omega), h3.2⟩, newE_mod h4 hm (fun g g1 g2 => by have := h4.2.2 g g1; omega)⟩
set_option maxRecDepth 100000 in
set_option maxHeartbeats 2000000 in
theorem wo_readHard (w : World) (T : Nat → Prop) (v : Value) (bs : List UInt8) (h : Byt w T v bs) (hl : bs.length ≤ 100000) :
  Calls Try.prog 21 #[v] w (RdHard w (wReadHard bs)) := by
 obtain ⟨q, hq⟩ : ∃ q, w.heap.size = q := ⟨_, rfl⟩
 obtain ⟨W, hW⟩ : ∃ W, W = w.alloc (.cells #[.int .i64 0, .int .i64 0, .int .i64 0, .int .i64 0, .int .i64 0, .int .i64 0, .int .i64 0, .int .i64 0, .slice none 0 0, .slice none 0 0] 54) := ⟨_, rfl⟩
 have hE : Ext w W := by rw [hW]; exact (Mod.refl _ w).alloc _
 have hA : W.heap[q]? = some (.cells #[.int .i64 0, .int .i64 0, .int .i64 0, .int .i64 0, .int .i64 0, .int .i64 0, .int .i64 0, .int .i64 0, .slice none 0 0, .slice none 0 0] 54 (0, 0)) := by rw [hW, ← hq]; exact heap_alloc_new w _
 have hqW : q < W.heap.size := (Array.getElem?_eq_some_iff.1 hA).1
 have hb := h.ext hE
 have HW := Lib.hid hW
 have Hq := Lib.hid hq
 have HE := Lib.hid hE
 have HA := Lib.hid hA
 clear hW hq hE hA h
 go_enter Try.func21, Try.ntmps21
 go_wp2_with fail
 rw [← HW.out, Hq.out]
 refine (of_anyH 51 W T v bs hb (by omega) (RS.hardW ⟨bs, 0⟩).isNone ((RS.hardW ⟨bs, 0⟩).getD (AHard.zero, ⟨bs, 0⟩)).2 (HG bs) (fun _ _ => by kernel_rfl) (fun W S c b _ hR => (wr_readH1 W S c b _ hR hl).mono (fun e w' h => ⟨h.1, fun hb => h.2.1 (Option.isNone_iff_eq_none.1 hb), fun hb => ?_⟩)) (fun W w1 w2 cs h hm => hG_mod h hm)).mono ?_
 ·
  rcases ho : RS.hardW ⟨bs, 0⟩ with _ | ⟨y, r'⟩
  ·
   rw [ho] at hb
   cases hb
  ·
   obtain ⟨sv, lv, rfl, g1, g2, g3⟩ := h.2.2 _ _ ho
   obtain ⟨A5, c5, rfl⟩ := own_form g1.1
   obtain ⟨A6, c6, rfl⟩ := own_form g2.1
   exact ⟨y.cells _ _, rfl, rfl, rfl, g3, y, r', A5, c5, A6, c6, ho, rfl, g1, g2⟩
 intro e w1 hO
 obtain ⟨y, k, sv, lv, hy, hk, rfl, hNB, hNE, hE1⟩ := of_readH hO
 obtain ⟨A5, c5, rfl⟩ := own_form hNB.1
 obtain ⟨A6, c6, rfl⟩ := own_form hNE.1
 have HA1 := Lib.hid (hE1.blk HA.out id)
 have HE1 := Lib.hid (HE.out.ext hE1)
 have HNB := Lib.hid hNB
 have HNE := Lib.hid hNE
 have Hy := Lib.hid hy
 have Hk := Lib.hid hk
 clear hO hE1 hNB hNE hy hk hb
 go_wp2_with (refine wpList_stR rfl 54 _ _ rfl 10 q 0 [.int .i64 y.term, .int .i64 y.vote, .int .i64 y.base, .int .i64 y.baseTerm, .int .i64 y.conf.full, .int .i64 y.conf.wit, .int .i64 y.conf.learn, .int .i64 y.conf.learnWit, .slice A5 y.snap.length c5, .slice A6 y.log.length c6] rfl rfl str_hard _ _ [.int .i64 y.term, .int .i64 y.vote, .int .i64 y.base, .int .i64 y.baseTerm, .int .i64 y.conf.full, .int .i64 y.conf.wit, .int .i64 y.conf.learn, .int .i64 y.conf.learnWit, .slice A5 y.snap.length c5, .slice A6 y.log.length c6] HA1.out rfl (by simp) (List.all_eq_true.1 rfl) rfl ?_)
 intro w2 hA2 hm2 _
 have HZ : Hid (w2.heap[q]? = some (.cells #[.int .i64 y.term, .int .i64 y.vote, .int .i64 y.base, .int .i64 y.baseTerm, .int .i64 y.conf.full, .int .i64 y.conf.wit, .int .i64 y.conf.learn, .int .i64 y.conf.learnWit, .slice A5 y.snap.length c5, .slice A6 y.log.length c6] 54 (0, 0))) := Lib.hid hA2
 have HX : Hid (Ext w w2) := Lib.hid (Mod.toExt ((Ext.mod HE1.out (Since w.heap.size)).trans hm2 (fun k _ e => by unfold Since; have := Hq.out; omega)))
 have HNB2 : Hid (NewB w w2 (.slice A5 y.snap.length c5) y.snap) := Lib.hid ⟨own_mod HNB.out.1 hm2 (fun g h1 h2 => by have := HNB.out.2 g h1; omega), fun g hg => by have := HNB.out.2 g hg; have := Hq.out; omega⟩
 have HNE2 : Hid (NewE w w2 (.slice A6 y.log.length c6) y.log) := Lib.hid (newE_up (newE_mod HNE.out hm2 (fun g h1 h2 => by have := HNE.out.2.2 g h1; omega)) HE.out.size)
 clear hA2 hm2
 go_wp2
 obtain ⟨c_0, c_1, c_2, c_3, c_4, c_5, c_6, c_7, c_8, c_9⟩ := cq10 HZ.out
 refine bodyPost_ret (v := .tuple #[.agg #[.int .i64 y.term, .int .i64 y.vote, .int .i64 y.base, .int .i64 y.baseTerm, .int .i64 y.conf.full, .int .i64 y.conf.wit, .int .i64 y.conf.learn, .int .i64 y.conf.learnWit, .slice A5 y.snap.length c5, .slice A6 y.log.length c6], .int .i64 k]) (by simp [results, Try.results21, go_sem, c_0, c_1, c_2, c_3, c_4, c_5, c_6, c_7, c_8, c_9]) rfl ?_
 exact ⟨y, k, _, _, Hy.out, Hk.out, rfl, HNB2.out, HNE2.out, HX.out⟩
end Go.Proofs.Ytfkacakbengboaa
