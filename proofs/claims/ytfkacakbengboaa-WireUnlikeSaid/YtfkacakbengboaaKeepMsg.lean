/-
  The contract of the verifier's comparison of messages (skerrykeep.flat, Msg). Conditions: as each theorem names them.
-/
import Derived.Test.YtfkacakbengboaaKeepMsgA
import Derived.Test.YtfkacakbengboaaKeepMsgB
import Derived.Test.YtfkacakbengboaaKeepMsgC
import Derived.Test.YtfkacakbengboaaKeepMsgD
namespace Go.Proofs.Ytfkacakbengboaa
open Go.RowKit

theorem k_flat (a b : AHead) (w : World) (T U : Nat → Prop) (ha : a.ok w T) (hb : b.ok w U) : Calls Try.prog 29 #[.agg #[.int .i64 a.kind, .int .i64 a.src, .int .i64 a.dst, .int .i64 a.term, .int .i64 a.index, .int .i64 a.logTerm, .int .i64 a.commit, .int .i64 a.round, .bool a.yes, a.entV, .int .i64 a.conf.full, .int .i64 a.conf.wit, .int .i64 a.conf.learn, .int .i64 a.conf.learnWit, a.snapV, a.innV], .agg #[.int .i64 b.kind, .int .i64 b.src, .int .i64 b.dst, .int .i64 b.term, .int .i64 b.index, .int .i64 b.logTerm, .int .i64 b.commit, .int .i64 b.round, .bool b.yes, b.entV, .int .i64 b.conf.full, .int .i64 b.conf.wit, .int .i64 b.conf.learn, .int .i64 b.conf.learnWit, b.snapV, b.innV]] w fun e w' => e = .returned (.bool (eqHead a b)) ∧ Ext w w' := by
  rcases h0 : (a.kind == b.kind) with _ | _
  · refine (k_flat_no0 a b w h0).mono ?_
    rintro e w' ⟨rfl, hE⟩
    exact ⟨ret_bool (by simp [eqHead, h0]), hE⟩
  rcases h1 : (a.src == b.src) with _ | _
  · refine (k_flat_no1 a b w h0 h1).mono ?_
    rintro e w' ⟨rfl, hE⟩
    exact ⟨ret_bool (by simp [eqHead, h1]), hE⟩
  rcases h2 : (a.dst == b.dst) with _ | _
  · refine (k_flat_no2 a b w h0 h1 h2).mono ?_
    rintro e w' ⟨rfl, hE⟩
    exact ⟨ret_bool (by simp [eqHead, h2]), hE⟩
  rcases h3 : (a.term == b.term) with _ | _
  · refine (k_flat_no3 a b w h0 h1 h2 h3).mono ?_
    rintro e w' ⟨rfl, hE⟩
    exact ⟨ret_bool (by simp [eqHead, h3]), hE⟩
  rcases h4 : (a.index == b.index) with _ | _
  · refine (k_flat_no4 a b w h0 h1 h2 h3 h4).mono ?_
    rintro e w' ⟨rfl, hE⟩
    exact ⟨ret_bool (by simp [eqHead, h4]), hE⟩
  rcases h5 : (a.logTerm == b.logTerm) with _ | _
  · refine (k_flat_no5 a b w h0 h1 h2 h3 h4 h5).mono ?_
    rintro e w' ⟨rfl, hE⟩
    exact ⟨ret_bool (by simp [eqHead, h5]), hE⟩
  rcases h6 : (a.commit == b.commit) with _ | _
  · refine (k_flat_no6 a b w h0 h1 h2 h3 h4 h5 h6).mono ?_
    rintro e w' ⟨rfl, hE⟩
    exact ⟨ret_bool (by simp [eqHead, h6]), hE⟩
  rcases h7 : (a.round == b.round) with _ | _
  · refine (k_flat_no7 a b w h0 h1 h2 h3 h4 h5 h6 h7).mono ?_
    rintro e w' ⟨rfl, hE⟩
    exact ⟨ret_bool (by simp [eqHead, h7]), hE⟩
  rcases h8 : (a.yes == b.yes) with _ | _
  · refine (k_flat_no8 a b w h0 h1 h2 h3 h4 h5 h6 h7 h8).mono ?_
    rintro e w' ⟨rfl, hE⟩
    exact ⟨ret_bool (by simp [eqHead, h8]), hE⟩
  exact k_flat_yes a b w T U ha hb h0 h1 h2 h3 h4 h5 h6 h7 h8

def eqMsg (a b : AHead) (la lb : List AHead) : Bool := eqHead a b && eqL eqHead la lb


set_option maxRecDepth 100000 in
set_option maxHeartbeats 4000000 in
theorem k_msg (a b : AHead) (la lb : List AHead) (w : World) (T U : Nat → Prop) (ha : Msg3 w T a la) (hb : Msg3 w U b lb) : Calls Try.prog 9 #[.agg #[.int .i64 a.kind, .int .i64 a.src, .int .i64 a.dst, .int .i64 a.term, .int .i64 a.index, .int .i64 a.logTerm, .int .i64 a.commit, .int .i64 a.round, .bool a.yes, a.entV, .int .i64 a.conf.full, .int .i64 a.conf.wit, .int .i64 a.conf.learn, .int .i64 a.conf.learnWit, a.snapV, a.innV], .agg #[.int .i64 b.kind, .int .i64 b.src, .int .i64 b.dst, .int .i64 b.term, .int .i64 b.index, .int .i64 b.logTerm, .int .i64 b.commit, .int .i64 b.round, .bool b.yes, b.entV, .int .i64 b.conf.full, .int .i64 b.conf.wit, .int .i64 b.conf.learn, .int .i64 b.conf.learnWit, b.snapV, b.innV]] w fun e w' => e = .returned (.bool (eqMsg a b la lb)) ∧ Ext w w' := by
  obtain ⟨hoka, hna, hha, _⟩ := ha
  obtain ⟨hokb, hnb, hhb, _⟩ := hb
  obtain ⟨Aa, ca, hia⟩ := hoka.2.2.2.2.1
  obtain ⟨Ab, cb, hib⟩ := hokb.2.2.2.2.1
  have hla := hoka.2.2.2.2.2
  have hlb := hokb.2.2.2.2.2
  obtain ⟨na, hna'⟩ : ∃ n, a.inn = n := ⟨_, rfl⟩
  obtain ⟨nb, hnb'⟩ : ∃ n, b.inn = n := ⟨_, rfl⟩
  rw [hna'] at hia hla hna
  rw [hnb'] at hib hlb hnb
  rw [hia] at hha
  rw [hib] at hhb
  have HA := Lib.hid hna
  have HB := Lib.hid hnb
  have HA' := Lib.hid hna'
  have HB' := Lib.hid hnb'
  unfold maxLen at hla hlb
  obtain ⟨W, hW⟩ : ∃ W, W = ((w.alloc (.cells #[.int .i64 a.kind, .int .i64 a.src, .int .i64 a.dst, .int .i64 a.term, .int .i64 a.index, .int .i64 a.logTerm, .int .i64 a.commit, .int .i64 a.round, .bool a.yes, a.entV, .int .i64 a.conf.full, .int .i64 a.conf.wit, .int .i64 a.conf.learn, .int .i64 a.conf.learnWit, a.snapV, a.innV] 28)).alloc (.cells #[.int .i64 b.kind, .int .i64 b.src, .int .i64 b.dst, .int .i64 b.term, .int .i64 b.index, .int .i64 b.logTerm, .int .i64 b.commit, .int .i64 b.round, .bool b.yes, b.entV, .int .i64 b.conf.full, .int .i64 b.conf.wit, .int .i64 b.conf.learn, .int .i64 b.conf.learnWit, b.snapV, b.innV] 28)) := ⟨_, rfl⟩
  have hE : Ext w W := by rw [hW]; exact ((Mod.refl _ w).alloc _).alloc _
  have hca : W.cell? ⟨w.heap.size, 15, none⟩ = some (.slice Aa na ca) := by
    rw [hW, World.cell?_alloc_lt _ _ _ (by simp), cell_of_row _ _ _ _ _ _ (heap_alloc_new w _), ← hia]
    rfl
  have hcb : W.cell? ⟨w.heap.size + 1, 15, none⟩ = some (.slice Ab nb cb) := by
    have := heap_alloc_new (w.alloc (.cells #[.int .i64 a.kind, .int .i64 a.src, .int .i64 a.dst, .int .i64 a.term, .int .i64 a.index, .int .i64 a.logTerm, .int .i64 a.commit, .int .i64 a.round, .bool a.yes, a.entV, .int .i64 a.conf.full, .int .i64 a.conf.wit, .int .i64 a.conf.learn, .int .i64 a.conf.learnWit, a.snapV, a.innV] 28)) (.cells #[.int .i64 b.kind, .int .i64 b.src, .int .i64 b.dst, .int .i64 b.term, .int .i64 b.index, .int .i64 b.logTerm, .int .i64 b.commit, .int .i64 b.round, .bool b.yes, b.entV, .int .i64 b.conf.full, .int .i64 b.conf.wit, .int .i64 b.conf.learn, .int .i64 b.conf.learnWit, b.snapV, b.innV] 28)
    have hz : (w.alloc (.cells #[.int .i64 a.kind, .int .i64 a.src, .int .i64 a.dst, .int .i64 a.term, .int .i64 a.index, .int .i64 a.logTerm, .int .i64 a.commit, .int .i64 a.round, .bool a.yes, a.entV, .int .i64 a.conf.full, .int .i64 a.conf.wit, .int .i64 a.conf.learn, .int .i64 a.conf.learnWit, a.snapV, a.innV] 28)).heap.size = w.heap.size + 1 := by simp
    rw [hz] at this
    rw [hW, cell_of_row _ _ _ _ _ _ this, ← hib]
    rfl
  have HW := Lib.hid hW
  have Hoa := Lib.hid hoka
  have Hob := Lib.hid hokb
  clear hW hia hib hna hnb hna' hnb' hoka hokb
  go_enter Try.func9, Try.ntmps9
  go_wp2_with fail
  rw [← HW.out]
  refine (k_flat a b _ T U (Hoa.out.mod hE (fun _ _ => id)) (Hob.out.mod hE (fun _ _ => id))).mono ?_
  rintro e w1 ⟨rfl, hE1⟩
  have hF1 : Ext w w1 := Mod.ext hE hE1
  have HF1 := Lib.hid hF1
  have hc1 := hE1.cell hca id
  have hc2 := hE1.cell hcb id
  clear hE1 hF1 hca hcb
  rcases g1 : eqHead a b with _ | _
  · have Hf : Hid (eqMsg a b la lb = false) := Lib.hid (by simp [eqMsg, g1])
    clear g1
    go_wp2
    go_ret
    exact ⟨ret_bool Hf.out.symm, HF1.out⟩
  obtain rfl : na = nb := by
    have h := g1
    unfold eqHead at h
    simp only [Bool.and_eq_true, beq_iff_eq] at h
    have := h.2
    rw [HA'.out, HB'.out] at this
    exact this
  have Hg1 := Lib.hid g1
  clear g1
  go_wp2
  go_loopw [5] (fun iv wr => ∃ i : Nat, i ≤ na ∧ iv = .int .i64 i ∧ Ext w wr ∧ Ext w1 wr ∧ ∀ j < i, ∀ x y, la[j]? = some x → lb[j]? = some y → eqHead x y = true) (fun iv _ => na - (intOf iv).toNat)
  case atStart => exact ⟨0, by omega, rfl, HF1.out, Mod.refl _ _, fun j hj => by omega⟩
  case round =>
    obtain ⟨i, hin, rfl, hX, hX1, hs⟩ := hrel
    have Hs := Lib.hid hs
    have ha2 := hha.mod hX (fun _ _ => id)
    have hb2 := hhb.mod hX (fun _ _ => id)
    have c1 := hX1.cell hc1 id
    have c2 := hX1.cell hc2 id
    clear hs
    by_cases hi : i < na
    · obtain ⟨g, off, x, rfl, hgT, hx, hxok, hcells⟩ := ha2.at hi
      obtain ⟨g', off', y, rfl, hgT', hy, hyok, hcells'⟩ := hb2.at hi
      have hi0 : (0 : Int) ≤ (i : Int) := by omega
      have hi1 : (i : Int) < (na : Int) := by omega
      have x0 := hcells 0 _ rfl
      have x1 := hcells 1 _ rfl
      have x2 := hcells 2 _ rfl
      have x3 := hcells 3 _ rfl
      have x4 := hcells 4 _ rfl
      have x5 := hcells 5 _ rfl
      have x6 := hcells 6 _ rfl
      have x7 := hcells 7 _ rfl
      have x8 := hcells 8 _ rfl
      have x9 := hcells 9 _ rfl
      have x10 := hcells 10 _ rfl
      have x11 := hcells 11 _ rfl
      have x12 := hcells 12 _ rfl
      have x13 := hcells 13 _ rfl
      have x14 := hcells 14 _ rfl
      have x15 := hcells 15 _ rfl
      have y0 := hcells' 0 _ rfl
      have y1 := hcells' 1 _ rfl
      have y2 := hcells' 2 _ rfl
      have y3 := hcells' 3 _ rfl
      have y4 := hcells' 4 _ rfl
      have y5 := hcells' 5 _ rfl
      have y6 := hcells' 6 _ rfl
      have y7 := hcells' 7 _ rfl
      have y8 := hcells' 8 _ rfl
      have y9 := hcells' 9 _ rfl
      have y10 := hcells' 10 _ rfl
      have y11 := hcells' 11 _ rfl
      have y12 := hcells' 12 _ rfl
      have y13 := hcells' 13 _ rfl
      have y14 := hcells' 14 _ rfl
      have y15 := hcells' 15 _ rfl
      obtain ⟨A1, k1, hx9⟩ := hxok.2.1.1.form
      obtain ⟨A2, k2, hx14⟩ := hxok.2.2.2.1.form
      obtain ⟨A3, k3, hx15⟩ := hxok.2.2.2.2.1
      obtain ⟨B1, l1, hy9⟩ := hyok.2.1.1.form
      obtain ⟨B2, l2, hy14⟩ := hyok.2.2.2.1.form
      obtain ⟨B3, l3, hy15⟩ := hyok.2.2.2.2.1
      have Hxo := Lib.hid hxok
      have Hyo := Lib.hid hyok
      have H1 := Lib.hid hx9
      have H2 := Lib.hid hx14
      have H3 := Lib.hid hx15
      have H4 := Lib.hid hy9
      have H5 := Lib.hid hy14
      have H6 := Lib.hid hy15
      rw [hx9] at x9
      rw [hx14] at x14
      rw [hx15] at x15
      rw [hy9] at y9
      rw [hy14] at y14
      rw [hy15] at y15
      rw [Nat.add_zero] at x0 y0
      have Hx := Lib.hid hx
      have Hy := Lib.hid hy
      clear hcells hcells' hx hy ha2 hb2 hxok hyok hx9 hx14 hx15 hy9 hy14 hy15
      go_wp2_with fail
      go_still_tail 10, (by kernel_rfl)
      change wpList _ _ _ _ _ wr.drew
      go_wp2_with fail
      rw [← H1.out, ← H2.out, ← H3.out, ← H4.out, ← H5.out, ← H6.out]
      refine (k_flat x y _ T U (Hxo.out.mod (Mod.refl (fun _ => False) wr).drew (fun _ _ => id)) (Hyo.out.mod (Mod.refl (fun _ => False) wr).drew (fun _ _ => id))).mono ?_
      rintro e w2 ⟨rfl, hE2⟩
      have hX2 := Mod.ext hX.drew hE2
      have hX12 := Mod.ext hX1.drew hE2
      have HX2 := Lib.hid hX2
      have HX12 := Lib.hid hX12
      clear hX2 hX12 hE2 x0 x1 x2 x3 x4 x5 x6 x7 x8 x9 x10 x11 x12 x13 x14 x15 y0 y1 y2 y3 y4 y5 y6 y7 y8 y9 y10 y11 y12 y13 y14 y15
      rcases hq : eqHead x y with _ | _
      · have Hf : Hid (eqMsg a b la lb = false) := Lib.hid (by unfold eqMsg; rw [eqL_no Hx.out Hy.out hq, Bool.and_false])
        go_wp2
        go_ret
        exact ⟨ret_bool Hf.out.symm, HX2.out⟩
      · have Hq := Lib.hid hq
        clear hq
        go_wp2
        exact ⟨⟨i + 1, by omega, by go_num, HX2.out, HX12.out, eqL_step Hs.out Hx.out Hy.out Hq.out⟩, by simp [intOf]; omega⟩
    · have Hf : Hid (eqMsg a b la lb = true) := Lib.hid (by unfold eqMsg; rw [Hg1.out, eqL_yes (n := na) (fun j hj => Hs.out j (by omega)) HA.out.symm HB.out.symm]; rfl)
      go_wp2
      go_ret
      exact ⟨ret_bool Hf.out.symm, hX⟩
end Go.Proofs.Ytfkacakbengboaa
