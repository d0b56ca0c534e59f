/-
  Contracts of the verifier's comparisons of messages (skerrykeep.flat). Conditions: as each theorem names them.
-/
import Derived.Test.YtfkacakbengboaaKeepList
import Derived.Test.YtfkacakbengboaaHead
namespace Go.Proofs.Ytfkacakbengboaa
open Go.RowKit

def eqHead (a b : AHead) : Bool := a.kind == b.kind && a.src == b.src && a.dst == b.dst && a.term == b.term && a.index == b.index && a.logTerm == b.logTerm && a.commit == b.commit && a.round == b.round && a.yes == b.yes && eqEnts a.ents b.ents && eqConf a.conf b.conf && (a.snap == b.snap) && a.inn == b.inn

set_option maxRecDepth 100000 in
set_option maxHeartbeats 4000000 in
theorem k_flat_yes (a b : AHead) (w : World) (T U : Nat → Prop) (ha : a.ok w T) (hb : b.ok w U) (h0 : (a.kind == b.kind) = true) (h1 : (a.src == b.src) = true) (h2 : (a.dst == b.dst) = true) (h3 : (a.term == b.term) = true) (h4 : (a.index == b.index) = true) (h5 : (a.logTerm == b.logTerm) = true) (h6 : (a.commit == b.commit) = true) (h7 : (a.round == b.round) = true) (h8 : (a.yes == b.yes) = true) : Calls Try.prog 29 #[.agg #[.int .i64 a.kind, .int .i64 a.src, .int .i64 a.dst, .int .i64 a.term, .int .i64 a.index, .int .i64 a.logTerm, .int .i64 a.commit, .int .i64 a.round, .bool a.yes, a.entV, .int .i64 a.conf.full, .int .i64 a.conf.wit, .int .i64 a.conf.learn, .int .i64 a.conf.learnWit, a.snapV, a.innV], .agg #[.int .i64 b.kind, .int .i64 b.src, .int .i64 b.dst, .int .i64 b.term, .int .i64 b.index, .int .i64 b.logTerm, .int .i64 b.commit, .int .i64 b.round, .bool b.yes, b.entV, .int .i64 b.conf.full, .int .i64 b.conf.wit, .int .i64 b.conf.learn, .int .i64 b.conf.learnWit, b.snapV, b.innV]] w fun e w' => e = .returned (.bool (eqHead a b)) ∧ Ext w w' := by
  obtain ⟨_, hea, _, hsa, ⟨Aa, ca, hia⟩, hla⟩ := ha
  obtain ⟨_, heb, _, hsb, ⟨Ab, cb, hib⟩, hlb⟩ := hb
  obtain ⟨na, hna⟩ : ∃ n, a.inn = n := ⟨_, rfl⟩
  obtain ⟨nb, hnb⟩ : ∃ n, b.inn = n := ⟨_, rfl⟩
  rw [hna] at hia hla
  rw [hnb] at hib hlb
  have HA := Lib.hid hna
  have HB := Lib.hid hnb
  unfold maxLen at hla hlb
  obtain ⟨W, hW⟩ : ∃ W, W = ((w.alloc (.cells #[.int .i64 a.kind, .int .i64 a.src, .int .i64 a.dst, .int .i64 a.term, .int .i64 a.index, .int .i64 a.logTerm, .int .i64 a.commit, .int .i64 a.round, .bool a.yes, a.entV, .int .i64 a.conf.full, .int .i64 a.conf.wit, .int .i64 a.conf.learn, .int .i64 a.conf.learnWit, a.snapV, a.innV] 28)).alloc (.cells #[.int .i64 b.kind, .int .i64 b.src, .int .i64 b.dst, .int .i64 b.term, .int .i64 b.index, .int .i64 b.logTerm, .int .i64 b.commit, .int .i64 b.round, .bool b.yes, b.entV, .int .i64 b.conf.full, .int .i64 b.conf.wit, .int .i64 b.conf.learn, .int .i64 b.conf.learnWit, b.snapV, b.innV] 28)) := ⟨_, rfl⟩
  have hE : Ext w W := by rw [hW]; exact ((Mod.refl _ w).alloc _).alloc _
  have hca : ∀ j u, (#[.int .i64 a.kind, .int .i64 a.src, .int .i64 a.dst, .int .i64 a.term, .int .i64 a.index, .int .i64 a.logTerm, .int .i64 a.commit, .int .i64 a.round, .bool a.yes, a.entV, .int .i64 a.conf.full, .int .i64 a.conf.wit, .int .i64 a.conf.learn, .int .i64 a.conf.learnWit, a.snapV, a.innV] : Array Value)[j]? = some u → W.cell? ⟨w.heap.size, j, none⟩ = some u := by
    intro j u hu
    rw [hW, World.cell?_alloc_lt _ _ _ (by simp), cell_of_row _ _ _ _ _ _ (heap_alloc_new w _)]
    exact hu
  have hcb : ∀ j u, (#[.int .i64 b.kind, .int .i64 b.src, .int .i64 b.dst, .int .i64 b.term, .int .i64 b.index, .int .i64 b.logTerm, .int .i64 b.commit, .int .i64 b.round, .bool b.yes, b.entV, .int .i64 b.conf.full, .int .i64 b.conf.wit, .int .i64 b.conf.learn, .int .i64 b.conf.learnWit, b.snapV, b.innV] : Array Value)[j]? = some u → W.cell? ⟨w.heap.size + 1, j, none⟩ = some u := by
    intro j u hu
    have := heap_alloc_new (w.alloc (.cells #[.int .i64 a.kind, .int .i64 a.src, .int .i64 a.dst, .int .i64 a.term, .int .i64 a.index, .int .i64 a.logTerm, .int .i64 a.commit, .int .i64 a.round, .bool a.yes, a.entV, .int .i64 a.conf.full, .int .i64 a.conf.wit, .int .i64 a.conf.learn, .int .i64 a.conf.learnWit, a.snapV, a.innV] 28)) (.cells #[.int .i64 b.kind, .int .i64 b.src, .int .i64 b.dst, .int .i64 b.term, .int .i64 b.index, .int .i64 b.logTerm, .int .i64 b.commit, .int .i64 b.round, .bool b.yes, b.entV, .int .i64 b.conf.full, .int .i64 b.conf.wit, .int .i64 b.conf.learn, .int .i64 b.conf.learnWit, b.snapV, b.innV] 28)
    have hz : (w.alloc (.cells #[.int .i64 a.kind, .int .i64 a.src, .int .i64 a.dst, .int .i64 a.term, .int .i64 a.index, .int .i64 a.logTerm, .int .i64 a.commit, .int .i64 a.round, .bool a.yes, a.entV, .int .i64 a.conf.full, .int .i64 a.conf.wit, .int .i64 a.conf.learn, .int .i64 a.conf.learnWit, a.snapV, a.innV] 28)).heap.size = w.heap.size + 1 := by simp
    rw [hz] at this
    rw [hW, cell_of_row _ _ _ _ _ _ this]
    exact hu
  rw [hia, hib] at hW
  rw [hia, hib]
  have HW := Lib.hid hW
  have Hca := Lib.hid hca
  have Hcb := Lib.hid hcb
  have Hia := Lib.hid hia
  have Hib := Lib.hid hib
  clear hW hca hcb hia hib hna hnb
  go_enter Try.func29, Try.ntmps29
  go_wp2_with fail
  rw [← HW.out]
  refine (k_entries _ T U _ _ a.ents b.ents (hea.mod hE (fun _ _ => id)) (heb.mod hE (fun _ _ => id))).mono ?_
  rintro e w1 ⟨rfl, hE1⟩
  have hF1 : Ext w w1 := Mod.ext hE hE1
  have HF1 := Lib.hid hF1
  have HE1 := Lib.hid hE1
  have x10 := hE1.cell (Hca.out 10 _ rfl) id
  have x11 := hE1.cell (Hca.out 11 _ rfl) id
  have x12 := hE1.cell (Hca.out 12 _ rfl) id
  have x13 := hE1.cell (Hca.out 13 _ rfl) id
  have y10 := hE1.cell (Hcb.out 10 _ rfl) id
  have y11 := hE1.cell (Hcb.out 11 _ rfl) id
  have y12 := hE1.cell (Hcb.out 12 _ rfl) id
  have y13 := hE1.cell (Hcb.out 13 _ rfl) id
  clear hE1 hF1
  rcases g1 : eqEnts a.ents b.ents with _ | _
  · go_wp2
    go_ret
    exact ⟨ret_bool (by simp [eqHead, g1]), HF1.out⟩
  go_wp2_with fail
  refine (k_conf a.conf b.conf _).mono ?_
  rintro e w2 ⟨rfl, hE2⟩
  have hF2 : Ext w w2 := Mod.ext HF1.out hE2
  have hG2 : Ext W w2 := Mod.ext HE1.out hE2
  have HF2 := Lib.hid hF2
  have HG2 := Lib.hid hG2
  have x14 := hG2.cell (Hca.out 14 _ rfl) id
  have y14 := hG2.cell (Hcb.out 14 _ rfl) id
  clear hE2 hF2 hG2 x10 x11 x12 x13 y10 y11 y12 y13
  rcases g2 : eqConf a.conf b.conf with _ | _
  · go_wp2
    go_ret
    exact ⟨ret_bool (by simp [eqHead, g2]), HF2.out⟩
  go_wp2_with fail
  refine (k_bytes _ T U _ _ a.snap b.snap (hsa.mod HF2.out (fun _ _ => id)) (hsb.mod HF2.out (fun _ _ => id))).mono ?_
  rintro e w3 ⟨rfl, hE3⟩
  have hF3 : Ext w w3 := Mod.ext HF2.out hE3
  have hG3 : Ext W w3 := Mod.ext HG2.out hE3
  have HF3 := Lib.hid hF3
  have x15 := hG3.cell (Hca.out 15 _ rfl) id
  have y15 := hG3.cell (Hcb.out 15 _ rfl) id
  rw [Hia.out] at x15
  rw [Hib.out] at y15
  clear hE3 hF3 hG3 x14 y14
  have e4 : ((na : Int) == (nb : Int)) = (na == nb) := by rw [Bool.eq_iff_iff]; simp; omega
  rcases g3 : (a.snap == b.snap) with _ | _
  · go_wp2
    go_ret
    exact ⟨ret_bool (by simp only [eqHead, g3, Bool.and_false, Bool.false_and]), HF3.out⟩
  have Hr : Hid (eqHead a b = (na == nb)) := Lib.hid (by simp only [eqHead, h0, h1, h2, h3, h4, h5, h6, h7, h8, g1, g2, g3, HA.out, HB.out, Bool.true_and])
  go_wp2
  go_ret
  exact ⟨ret_bool Hr.out.symm, HF3.out⟩
end Go.Proofs.Ytfkacakbengboaa
