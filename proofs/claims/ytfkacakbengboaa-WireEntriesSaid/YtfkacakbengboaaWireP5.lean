/-
 Contracts of wire.ReadEntry and of the page's ReadEntry. Conditions: as each theorem names them.
-/
import Derived.Test.YtfkacakbengboaaWireP4
import Derived.Test.YtfkacakbengboaaWireOfE
namespace Go.Proofs.Ytfkacakbengboaa
set_option linter.unusedSimpArgs false
open Go.RowKit

def AEntry.zero : AEntry := ⟨0, 0, ACall.zero, AConf.zero⟩
/-- An entry is told, and a code. -/
def RdEnt (w : World) (Y : Option AEntry) (e : Ending) (w' : World) : Prop := ∃ y c, y = Y.getD AEntry.zero ∧ c = (if Y.isSome then (0 : Int) else 3) ∧ e = .returned (.tuple #[.agg #[.int .i64 y.term, .int .i64 y.kind, .int .i64 y.call.client, .int .i64 y.call.seq, .int .i64 y.call.cmd.kind, .string y.call.cmd.key, .int .i64 y.call.cmd.old.kind, .float .f64 y.call.cmd.old.num, .string y.call.cmd.old.text, .int .i64 y.call.cmd.val.kind, .float .f64 y.call.cmd.val.num, .string y.call.cmd.val.text, .int .i64 y.conf.full, .int .i64 y.conf.wit, .int .i64 y.conf.learn, .int .i64 y.conf.learnWit], .int .i64 c]) ∧ Ext w w'
def RdEntP (w : World) (Y : Option AEntry) (e : Ending) (w' : World) : Prop := ∃ y c, y = Y.getD AEntry.zero ∧ c = Y.isSome ∧ e = .returned (.tuple #[.agg #[.int .i64 y.term, .int .i64 y.kind, .int .i64 y.call.client, .int .i64 y.call.seq, .int .i64 y.call.cmd.kind, .string y.call.cmd.key, .int .i64 y.call.cmd.old.kind, .float .f64 y.call.cmd.old.num, .string y.call.cmd.old.text, .int .i64 y.call.cmd.val.kind, .float .f64 y.call.cmd.val.num, .string y.call.cmd.val.text, .int .i64 y.conf.full, .int .i64 y.conf.wit, .int .i64 y.conf.learn, .int .i64 y.conf.learnWit], .bool c]) ∧ Ext w w'
set_option maxRecDepth 100000 in
set_option maxHeartbeats 2000000 in
theorem wr_read1 (w : World) (S : Nat → Prop) (c b : Nat) (r : RS) (h : Rw w S c b r) :
  Calls Try.prog 37 #[.pointer (some ⟨c, 0, none⟩)] w (ROut w S c b r.entT (.agg #[.int .i64 r.entP.1.term, .int .i64 r.entP.1.kind, .int .i64 r.entP.1.call.client, .int .i64 r.entP.1.call.seq, .int .i64 r.entP.1.call.cmd.kind, .string r.entP.1.call.cmd.key, .int .i64 r.entP.1.call.cmd.old.kind, .float .f64 r.entP.1.call.cmd.old.num, .string r.entP.1.call.cmd.old.text, .int .i64 r.entP.1.call.cmd.val.kind, .float .f64 r.entP.1.call.cmd.val.num, .string r.entP.1.call.cmd.val.text, .int .i64 r.entP.1.conf.full, .int .i64 r.entP.1.conf.wit, .int .i64 r.entP.1.conf.learn, .int .i64 r.entP.1.conf.learnWit]) r.entP.2) := by
 obtain ⟨q, hq⟩ : ∃ q, w.heap.size = q := ⟨_, rfl⟩
 obtain ⟨W, hW⟩ : ∃ W, W = w.alloc (.cells #[.int .i64 0, .int .i64 0, .int .i64 0, .int .i64 0, .int .i64 0, .string ⟨#[]⟩, .int .i64 0, .float .f64 0, .string ⟨#[]⟩, .int .i64 0, .float .f64 0, .string ⟨#[]⟩, .int .i64 0, .int .i64 0, .int .i64 0, .int .i64 0] 44) := ⟨_, rfl⟩
 have hE : Ext w W := by rw [hW]; exact (Mod.refl _ w).alloc _
 have hA : W.heap[q]? = some (.cells #[.int .i64 0, .int .i64 0, .int .i64 0, .int .i64 0, .int .i64 0, .string ⟨#[]⟩, .int .i64 0, .float .f64 0, .string ⟨#[]⟩, .int .i64 0, .float .f64 0, .string ⟨#[]⟩, .int .i64 0, .int .i64 0, .int .i64 0, .int .i64 0] 44 (0, 0)) := by rw [hW, ← hq]; exact heap_alloc_new w _
 have hsz : W.heap.size = q + 1 := by rw [hW, ← hq]; simp
 have hnq : ¬ S q := fun e => by have := h.2.2.2 q e; omega
 have hcq : ¬ c = q := by have := h.lt; omega
 have hqc : ¬ q = c := by omega
 have Hnq := Lib.hid hnq
 have HR : Hid (Rw W S c b r) := Lib.hid (h.ext hE)
 have HM : Hid (Mod S w W) := Lib.hid (hE.mod S)
 have HA := Lib.hid hA
 have HW := Lib.hid hW
 have Hq := Lib.hid hq
 have hqw : w.heap.size ≤ q := by omega
 have Hqw := Lib.hid hqw
 have Hsz := Lib.hid hsz
 have rl := h.lt
 clear hW hq hE h hA hsz hqw
 go_enter Try.func37, Try.ntmps37
 go_wp2_with fail
 rw [← HW.out, Hq.out]
 refine (wr_entry W S c b r HR.out).mono ?_
 rintro e w1 ⟨hm2, hbad, hok⟩
 rcases hT : r.entT with _ | _
 rotate_left
 ·
  obtain rfl := hbad hT
  exact ⟨rfl, rout_bad (rfl) (HM.out.self hm2)⟩
 obtain ⟨rfl, hR2⟩ := hok hT
 replace HR := Lib.hid hR2
 replace HM := Lib.hid (HM.out.self hm2)
 replace HA := Lib.hid (hm2.blk HA.out hnq)
 have Hb1 := Lib.hid hT
 clear hbad hok hR2 hm2 hT
 go_wp2_with (refine wpList_stR rfl 44 _ _ rfl 16 q 0 [.int .i64 r.entP.1.term, .int .i64 r.entP.1.kind, .int .i64 r.entP.1.call.client, .int .i64 r.entP.1.call.seq, .int .i64 r.entP.1.call.cmd.kind, .string r.entP.1.call.cmd.key, .int .i64 r.entP.1.call.cmd.old.kind, .float .f64 r.entP.1.call.cmd.old.num, .string r.entP.1.call.cmd.old.text, .int .i64 r.entP.1.call.cmd.val.kind, .float .f64 r.entP.1.call.cmd.val.num, .string r.entP.1.call.cmd.val.text, .int .i64 r.entP.1.conf.full, .int .i64 r.entP.1.conf.wit, .int .i64 r.entP.1.conf.learn, .int .i64 r.entP.1.conf.learnWit] rfl rfl str_entry _ _ [.int .i64 r.entP.1.term, .int .i64 r.entP.1.kind, .int .i64 r.entP.1.call.client, .int .i64 r.entP.1.call.seq, .int .i64 r.entP.1.call.cmd.kind, .string r.entP.1.call.cmd.key, .int .i64 r.entP.1.call.cmd.old.kind, .float .f64 r.entP.1.call.cmd.old.num, .string r.entP.1.call.cmd.old.text, .int .i64 r.entP.1.call.cmd.val.kind, .float .f64 r.entP.1.call.cmd.val.num, .string r.entP.1.call.cmd.val.text, .int .i64 r.entP.1.conf.full, .int .i64 r.entP.1.conf.wit, .int .i64 r.entP.1.conf.learn, .int .i64 r.entP.1.conf.learnWit] HA.out rfl (by simp) (List.all_eq_true.1 rfl) rfl ?_)
 intro w2 hA4 hm4 hs4
 replace HA : Hid (w2.heap[q]? = some (.cells #[.int .i64 r.entP.1.term, .int .i64 r.entP.1.kind, .int .i64 r.entP.1.call.client, .int .i64 r.entP.1.call.seq, .int .i64 r.entP.1.call.cmd.kind, .string r.entP.1.call.cmd.key, .int .i64 r.entP.1.call.cmd.old.kind, .float .f64 r.entP.1.call.cmd.old.num, .string r.entP.1.call.cmd.old.text, .int .i64 r.entP.1.call.cmd.val.kind, .float .f64 r.entP.1.call.cmd.val.num, .string r.entP.1.call.cmd.val.text, .int .i64 r.entP.1.conf.full, .int .i64 r.entP.1.conf.wit, .int .i64 r.entP.1.conf.learn, .int .i64 r.entP.1.conf.learnWit] 44 (0, 0))) := Lib.hid hA4
 replace HR := Lib.hid (HR.out.mod hm4 (fun g hg e => Hnq.out (e ▸ hg)) hcq)
 replace HM := Lib.hid (mod_new HM.out hm4 Hqw.out)
 clear hA4 hm4 hs4
 go_wp2
 obtain ⟨c0, c1, c2, c3, c4, c5, c6, c7, c8, c9, c10, c11, c12, c13, c14, c15⟩ := cq16 HA.out
 refine bodyPost_ret (v := .agg #[.int .i64 r.entP.1.term, .int .i64 r.entP.1.kind, .int .i64 r.entP.1.call.client, .int .i64 r.entP.1.call.seq, .int .i64 r.entP.1.call.cmd.kind, .string r.entP.1.call.cmd.key, .int .i64 r.entP.1.call.cmd.old.kind, .float .f64 r.entP.1.call.cmd.old.num, .string r.entP.1.call.cmd.old.text, .int .i64 r.entP.1.call.cmd.val.kind, .float .f64 r.entP.1.call.cmd.val.num, .string r.entP.1.call.cmd.val.text, .int .i64 r.entP.1.conf.full, .int .i64 r.entP.1.conf.wit, .int .i64 r.entP.1.conf.learn, .int .i64 r.entP.1.conf.learnWit]) (by simp [results, Try.results37, go_sem, c0, c1, c2, c3, c4, c5, c6, c7, c8, c9, c10, c11, c12, c13, c14, c15]) rfl ?_
 exact rout_ok Hb1.out HM.out HR.out
theorem of_read {w w' : World} {bs : List UInt8} {e : Ending} (h : OfOutE w bs (RS.entT ⟨bs, 0⟩) (RS.entP ⟨bs, 0⟩).2 (fun _ _ cs => cs = (RS.entP ⟨bs, 0⟩).1.cells) e w') :
  ∃ y c, y = (wReadEnt bs).getD AEntry.zero ∧ c = (if (wReadEnt bs).isSome then (0 : Int) else 3) ∧ e = .returned (.tuple #[.agg #[.int .i64 y.term, .int .i64 y.kind, .int .i64 y.call.client, .int .i64 y.call.seq, .int .i64 y.call.cmd.kind, .string y.call.cmd.key, .int .i64 y.call.cmd.old.kind, .float .f64 y.call.cmd.old.num, .string y.call.cmd.old.text, .int .i64 y.call.cmd.val.kind, .float .f64 y.call.cmd.val.num, .string y.call.cmd.val.text, .int .i64 y.conf.full, .int .i64 y.conf.wit, .int .i64 y.conf.learn, .int .i64 y.conf.learnWit], .int .i64 c]) ∧ Ext w w' := by
 obtain ⟨hE, h1, h2⟩ := h
 refine ⟨_, _, rfl, rfl, ?_, hE⟩
 by_cases hc : RS.entT ⟨bs, 0⟩ = false ∧ bs.length ≤ 16384 ∧ (RS.entP ⟨bs, 0⟩).2.done = 0
 ·
  obtain ⟨W, cs, _, rfl, rfl⟩ := h1 hc
  have hy : wReadEnt bs = some (RS.entP ⟨bs, 0⟩).1 := by
   unfold wReadEnt
   rw [if_neg (by omega), hc.1, if_neg (by simp), if_neg (by simpa using hc.2.2)]
  rw [hy]
  rfl
 ·
  obtain rfl := h2 hc
  have hy : wReadEnt bs = none := by
   unfold wReadEnt
   by_cases g1 : 16384 < bs.length
   ·
    rw [if_pos g1]
   rw [if_neg g1]
   rcases g2 : RS.entT ⟨bs, 0⟩ with _ | _
   ·
    rw [if_neg (by simp), if_pos (fun g3 => hc ⟨g2, by omega, g3⟩)]
   ·
    rw [if_pos rfl]
  rw [hy]
  rfl
set_option maxRecDepth 100000 in
set_option maxHeartbeats 2000000 in
theorem wo_readEnt (w : World) (T : Nat → Prop) (v : Value) (bs : List UInt8) (h : Byt w T v bs) (hl : bs.length ≤ 1000000) :
  Calls Try.prog 14 #[v] w (RdEnt w (wReadEnt bs)) := by
 obtain ⟨q, hq⟩ : ∃ q, w.heap.size = q := ⟨_, rfl⟩
 obtain ⟨W, hW⟩ : ∃ W, W = w.alloc (.cells #[.int .i64 0, .int .i64 0, .int .i64 0, .int .i64 0, .int .i64 0, .string ⟨#[]⟩, .int .i64 0, .float .f64 0, .string ⟨#[]⟩, .int .i64 0, .float .f64 0, .string ⟨#[]⟩, .int .i64 0, .int .i64 0, .int .i64 0, .int .i64 0] 44) := ⟨_, rfl⟩
 have hE : Ext w W := by rw [hW]; exact (Mod.refl _ w).alloc _
 have hA : W.heap[q]? = some (.cells #[.int .i64 0, .int .i64 0, .int .i64 0, .int .i64 0, .int .i64 0, .string ⟨#[]⟩, .int .i64 0, .float .f64 0, .string ⟨#[]⟩, .int .i64 0, .float .f64 0, .string ⟨#[]⟩, .int .i64 0, .int .i64 0, .int .i64 0, .int .i64 0] 44 (0, 0)) := by rw [hW, ← hq]; exact heap_alloc_new w _
 have hb := h.ext hE
 have HW := Lib.hid hW
 have Hq := Lib.hid hq
 have HE := Lib.hid hE
 have HA := Lib.hid hA
 clear hW hq hE hA h
 go_enter Try.func14, Try.ntmps14
 go_wp2_with fail
 rw [← HW.out, Hq.out]
 refine (of_anyE 37 W T v bs hb hl (RS.entT ⟨bs, 0⟩) (RS.entP ⟨bs, 0⟩).2 (fun _ _ cs => cs = (RS.entP ⟨bs, 0⟩).1.cells) (fun _ _ => by kernel_rfl) (fun W S c b _ hR => (wr_read1 W S c b _ hR).mono (fun e w' h => ⟨h.1, h.2.1, fun hb => ⟨(RS.entP ⟨bs, 0⟩).1.cells, rfl, rfl, (h.2.2 hb).1, (h.2.2 hb).2, rfl⟩⟩)) (fun _ _ _ _ h _ => h)).mono ?_
 intro e w1 hO
 obtain ⟨y, c, hy, hc, rfl, hE1⟩ := of_read hO
 have HA1 := Lib.hid (hE1.blk HA.out id)
 have HE1 := Lib.hid (HE.out.ext hE1)
 have Hy := Lib.hid hy
 have Hc := Lib.hid hc
 clear hO hE1 hy hc hb
 go_wp2_with (refine wpList_stR rfl 44 _ _ rfl 16 q 0 [.int .i64 y.term, .int .i64 y.kind, .int .i64 y.call.client, .int .i64 y.call.seq, .int .i64 y.call.cmd.kind, .string y.call.cmd.key, .int .i64 y.call.cmd.old.kind, .float .f64 y.call.cmd.old.num, .string y.call.cmd.old.text, .int .i64 y.call.cmd.val.kind, .float .f64 y.call.cmd.val.num, .string y.call.cmd.val.text, .int .i64 y.conf.full, .int .i64 y.conf.wit, .int .i64 y.conf.learn, .int .i64 y.conf.learnWit] rfl rfl str_entry _ _ [.int .i64 y.term, .int .i64 y.kind, .int .i64 y.call.client, .int .i64 y.call.seq, .int .i64 y.call.cmd.kind, .string y.call.cmd.key, .int .i64 y.call.cmd.old.kind, .float .f64 y.call.cmd.old.num, .string y.call.cmd.old.text, .int .i64 y.call.cmd.val.kind, .float .f64 y.call.cmd.val.num, .string y.call.cmd.val.text, .int .i64 y.conf.full, .int .i64 y.conf.wit, .int .i64 y.conf.learn, .int .i64 y.conf.learnWit] HA1.out rfl (by simp) (List.all_eq_true.1 rfl) rfl ?_)
 intro w2 hA2 hm2 _
 have HA2 : Hid (w2.heap[q]? = some (.cells #[.int .i64 y.term, .int .i64 y.kind, .int .i64 y.call.client, .int .i64 y.call.seq, .int .i64 y.call.cmd.kind, .string y.call.cmd.key, .int .i64 y.call.cmd.old.kind, .float .f64 y.call.cmd.old.num, .string y.call.cmd.old.text, .int .i64 y.call.cmd.val.kind, .float .f64 y.call.cmd.val.num, .string y.call.cmd.val.text, .int .i64 y.conf.full, .int .i64 y.conf.wit, .int .i64 y.conf.learn, .int .i64 y.conf.learnWit] 44 (0, 0))) := Lib.hid hA2
 have HX : Hid (Ext w w2) := Lib.hid (Mod.toExt ((Ext.mod HE1.out (Since w.heap.size)).trans hm2 (fun k _ e => by unfold Since; have := Hq.out; omega)))
 clear hA2 hm2
 go_wp2
 obtain ⟨c0, c1, c2, c3, c4, c5, c6, c7, c8, c9, c10, c11, c12, c13, c14, c15⟩ := cq16 HA2.out
 refine bodyPost_ret (v := .tuple #[.agg #[.int .i64 y.term, .int .i64 y.kind, .int .i64 y.call.client, .int .i64 y.call.seq, .int .i64 y.call.cmd.kind, .string y.call.cmd.key, .int .i64 y.call.cmd.old.kind, .float .f64 y.call.cmd.old.num, .string y.call.cmd.old.text, .int .i64 y.call.cmd.val.kind, .float .f64 y.call.cmd.val.num, .string y.call.cmd.val.text, .int .i64 y.conf.full, .int .i64 y.conf.wit, .int .i64 y.conf.learn, .int .i64 y.conf.learnWit], .int .i64 c]) (by simp [results, Try.results14, go_sem, c0, c1, c2, c3, c4, c5, c6, c7, c8, c9, c10, c11, c12, c13, c14, c15]) rfl ?_
 exact ⟨y, c, Hy.out, Hc.out, rfl, HX.out⟩

set_option maxRecDepth 100000 in
set_option maxHeartbeats 2000000 in
theorem p_ReadEntry (w : World) (T : Nat → Prop) (v : Value) (bs : List UInt8) (h : Byt w T v bs) (hT : ∀ g, T g → g < w.heap.size) (hl : bs.length ≤ 1000000) :
  Calls Try.prog 15 #[v] w (RdEntP w (readEntP bs)) := by
 obtain ⟨A, cp, rfl⟩ := h.form
 obtain ⟨n, hn⟩ : ∃ n, bs.length = n := ⟨_, rfl⟩
 obtain ⟨q, hq⟩ : ∃ q, w.heap.size = q := ⟨_, rfl⟩
 obtain ⟨W, hW⟩ : ∃ W, W = (w.alloc (.cells #[.int .i64 0, .int .i64 0, .int .i64 0, .int .i64 0, .int .i64 0, .string ⟨#[]⟩, .int .i64 0, .float .f64 0, .string ⟨#[]⟩, .int .i64 0, .float .f64 0, .string ⟨#[]⟩, .int .i64 0, .int .i64 0, .int .i64 0, .int .i64 0] 44)).alloc (.cells #[.slice A n cp, .int .i64 0, .int .i64 0] 80) := ⟨_, rfl⟩
 have hE : Ext w W := by rw [hW]; exact ((Mod.refl _ w).alloc _).alloc _
 have hA : W.heap[q]? = some (.cells #[.int .i64 0, .int .i64 0, .int .i64 0, .int .i64 0, .int .i64 0, .string ⟨#[]⟩, .int .i64 0, .float .f64 0, .string ⟨#[]⟩, .int .i64 0, .float .f64 0, .string ⟨#[]⟩, .int .i64 0, .int .i64 0, .int .i64 0, .int .i64 0] 44 (0, 0)) := by rw [hW, ← hq, Below.heap_alloc _ _ _ (by simp)]; exact heap_alloc_new w _
 have hB : W.heap[q + 1]? = some (.cells #[.slice A n cp, .int .i64 ((0 : Nat) : Int), .int .i64 0] 80 (0, 0)) := by
  rw [hW, ← hq]
  have := heap_alloc_new (w.alloc (.cells #[.int .i64 0, .int .i64 0, .int .i64 0, .int .i64 0, .int .i64 0, .string ⟨#[]⟩, .int .i64 0, .float .f64 0, .string ⟨#[]⟩, .int .i64 0, .float .f64 0, .string ⟨#[]⟩, .int .i64 0, .int .i64 0, .int .i64 0, .int .i64 0] 44)) (.cells #[.slice A n cp, .int .i64 0, .int .i64 0] 80)
  simpa using this
 have hsz : W.heap.size = q + 2 := by rw [hW, ← hq]; simp
 have hR : RpX W T (q + 1) bs ⟨bs, 0⟩ := ⟨0, .slice A n cp, hB, by rw [← hn]; exact h.ext hE, fun e => by have := hT _ e; omega, Nat.zero_le _, rfl⟩
 have HT : Hid (∀ g, T g → g < q) := Lib.hid (fun g hg => by have := hT g hg; omega)
 have HW := Lib.hid hW
 have Hq := Lib.hid hq
 have HE := Lib.hid hE
 have HA := Lib.hid hA
 have Hsz := Lib.hid hsz
 have Hn := Lib.hid hn
 have hn1 : n ≤ 1000000 := by omega
 rw [hn]
 clear hW hq hE hA hB h hT hl hsz hn
 go_enter Try.func15, Try.ntmps15
 go_wp2_with fail
 rw [← HW.out, Hq.out]
 refine (p_rentry W T (q + 1) bs ⟨bs, 0⟩ hR (fun g hg => by have := HT.out g hg; have := Hsz.out; omega) (by have := Hsz.out; omega)).mono ?_
 rintro e w1 ⟨rfl, hR1, hm1⟩
 obtain ⟨y, hy⟩ : ∃ y, (RS.entP ⟨bs, 0⟩).1 = y := ⟨_, rfl⟩
 obtain ⟨r, hr⟩ : ∃ r, (RS.entP ⟨bs, 0⟩).2 = r := ⟨_, rfl⟩
 rw [hy]
 rw [hr] at hR1
 have hX1 : Ext w w1 := Mod.toExt ((Ext.mod HE.out (Since w.heap.size)).trans hm1 (fun k _ e => by unfold Since; have := Hq.out; omega))
 have hA1 := hm1.blk HA.out (by omega)
 obtain ⟨p, hp⟩ : ∃ p, w1.heap.size = p := ⟨_, rfl⟩
 obtain ⟨W3, hW3⟩ : ∃ W3, W3 = w1.alloc (.cells #[.int .i64 y.term, .int .i64 y.kind, .int .i64 y.call.client, .int .i64 y.call.seq, .int .i64 y.call.cmd.kind, .string y.call.cmd.key, .int .i64 y.call.cmd.old.kind, .float .f64 y.call.cmd.old.num, .string y.call.cmd.old.text, .int .i64 y.call.cmd.val.kind, .float .f64 y.call.cmd.val.num, .string y.call.cmd.val.text, .int .i64 y.conf.full, .int .i64 y.conf.wit, .int .i64 y.conf.learn, .int .i64 y.conf.learnWit] 44) := ⟨_, rfl⟩
 have hE3 : Ext w1 W3 := by rw [hW3]; exact (Mod.refl _ _).alloc _
 have hP3 : W3.heap[p]? = some (.cells #[.int .i64 y.term, .int .i64 y.kind, .int .i64 y.call.client, .int .i64 y.call.seq, .int .i64 y.call.cmd.kind, .string y.call.cmd.key, .int .i64 y.call.cmd.old.kind, .float .f64 y.call.cmd.old.num, .string y.call.cmd.old.text, .int .i64 y.call.cmd.val.kind, .float .f64 y.call.cmd.val.num, .string y.call.cmd.val.text, .int .i64 y.conf.full, .int .i64 y.conf.wit, .int .i64 y.conf.learn, .int .i64 y.conf.learnWit] 44 (0, 0)) := by rw [hW3, ← hp]; exact heap_alloc_new w1 _
 have HA3 := Lib.hid (hE3.blk hA1 id)
 have HP3 := Lib.hid hP3
 have HX3 := Lib.hid (hX1.ext hE3)
 have HR3 : Hid (RpX W3 T (q + 1) bs r) := Lib.hid (hR1.mod hE3 id (fun _ _ => id))
 have HW3 := Lib.hid hW3
 have Hp := Lib.hid hp
 have Hy := Lib.hid hy
 have Hr := Lib.hid hr
 clear hW3 hE3 hP3 hA1 hX1 hm1 hR1 hR hy hr hp
 go_wp2_with fail
 rw [← HW3.out]
 refine (p_over W3 T (q + 1) bs r HR3.out A n cp hn1).mono ?_
 rintro e w4 ⟨rfl, hE4⟩
 have HX4 := Lib.hid (HX3.out.ext hE4)
 have HA4 := Lib.hid (hE4.blk HA3.out id)
 have HP4 := Lib.hid (hE4.blk HP3.out id)
 clear hE4
 rw [Hp.out]
 obtain ⟨ok, hok⟩ : ∃ ok, (r.done == 0 && decide (n ≤ 16384)) = ok := ⟨_, rfl⟩
 rw [hok]
 have Hok := Lib.hid hok
 clear hok
 have hrd : ok = true → readEntP bs = some y := fun h => by
  have h1 := Hok.out
  rw [h, Bool.and_eq_true, beq_iff_eq, decide_eq_true_iff] at h1
  unfold readEntP
  rw [Hr.out, Hy.out, if_pos ⟨h1.1, by rw [Hn.out]; exact h1.2⟩]
 have hrn : ok = false → readEntP bs = none := fun h => by
  unfold readEntP
  rw [Hr.out, if_neg]
  rintro ⟨g1, g2⟩
  have h1 := Hok.out
  rw [g1, decide_eq_true (by rw [← Hn.out]; exact g2), h] at h1
  cases h1
 have Hrd := Lib.hid hrd
 have Hrn := Lib.hid hrn
 clear hrd hrn
 rcases ok with _ | _
 ·
  go_wp2_with (refine wpList_stR rfl 44 _ _ rfl 16 q 0 [.int .i64 0, .int .i64 0, .int .i64 0, .int .i64 0, .int .i64 0, .string ⟨#[]⟩, .int .i64 0, .float .f64 0, .string ⟨#[]⟩, .int .i64 0, .float .f64 0, .string ⟨#[]⟩, .int .i64 0, .int .i64 0, .int .i64 0, .int .i64 0] rfl rfl str_entry _ _ [.int .i64 0, .int .i64 0, .int .i64 0, .int .i64 0, .int .i64 0, .string ⟨#[]⟩, .int .i64 0, .float .f64 0, .string ⟨#[]⟩, .int .i64 0, .float .f64 0, .string ⟨#[]⟩, .int .i64 0, .int .i64 0, .int .i64 0, .int .i64 0] HA4.out rfl (by simp) (List.all_eq_true.1 rfl) rfl ?_)
  intro w5 hA5 hm5 _
  have HA5 : Hid (w5.heap[q]? = some (.cells #[.int .i64 0, .int .i64 0, .int .i64 0, .int .i64 0, .int .i64 0, .string ⟨#[]⟩, .int .i64 0, .float .f64 0, .string ⟨#[]⟩, .int .i64 0, .float .f64 0, .string ⟨#[]⟩, .int .i64 0, .int .i64 0, .int .i64 0, .int .i64 0] 44 (0, 0))) := Lib.hid hA5
  have HX : Hid (Ext w w5) := Lib.hid (Mod.toExt ((Ext.mod HX4.out (Since w.heap.size)).trans hm5 (fun k _ e => by unfold Since; have := Hq.out; omega)))
  clear hA5 hm5
  go_wp2
  obtain ⟨c0, c1, c2, c3, c4, c5, c6, c7, c8, c9, c10, c11, c12, c13, c14, c15⟩ := cq16 HA5.out
  refine bodyPost_ret (v := .tuple #[.agg #[.int .i64 0, .int .i64 0, .int .i64 0, .int .i64 0, .int .i64 0, .string ⟨#[]⟩, .int .i64 0, .float .f64 0, .string ⟨#[]⟩, .int .i64 0, .float .f64 0, .string ⟨#[]⟩, .int .i64 0, .int .i64 0, .int .i64 0, .int .i64 0], .bool false]) (by simp [results, Try.results15, go_sem, c0, c1, c2, c3, c4, c5, c6, c7, c8, c9, c10, c11, c12, c13, c14, c15]) rfl ?_
  have hN := Hrn.out trivial
  exact ⟨AEntry.zero, false, by rw [hN]; rfl, by rw [hN]; rfl, rfl, HX.out⟩
 ·
  have hld := load_row (P := Try.prog) (o := 0) (cs := [.int .i64 y.term, .int .i64 y.kind, .int .i64 y.call.client, .int .i64 y.call.seq, .int .i64 y.call.cmd.kind, .string y.call.cmd.key, .int .i64 y.call.cmd.old.kind, .float .f64 y.call.cmd.old.num, .string y.call.cmd.old.text, .int .i64 y.call.cmd.val.kind, .float .f64 y.call.cmd.val.num, .string y.call.cmd.val.text, .int .i64 y.conf.full, .int .i64 y.conf.wit, .int .i64 y.conf.learn, .int .i64 y.conf.learnWit]) str_entry HP4.out rfl (fun j u hu => by rw [Nat.zero_add]; exact hu)
  go_wp2_with (first | (refine wpList_ld rfl 44 _ rfl _ _ rfl hld ?_) | (refine wpList_stR rfl 44 _ _ rfl 16 q 0 [.int .i64 y.term, .int .i64 y.kind, .int .i64 y.call.client, .int .i64 y.call.seq, .int .i64 y.call.cmd.kind, .string y.call.cmd.key, .int .i64 y.call.cmd.old.kind, .float .f64 y.call.cmd.old.num, .string y.call.cmd.old.text, .int .i64 y.call.cmd.val.kind, .float .f64 y.call.cmd.val.num, .string y.call.cmd.val.text, .int .i64 y.conf.full, .int .i64 y.conf.wit, .int .i64 y.conf.learn, .int .i64 y.conf.learnWit] rfl rfl str_entry _ _ [.int .i64 y.term, .int .i64 y.kind, .int .i64 y.call.client, .int .i64 y.call.seq, .int .i64 y.call.cmd.kind, .string y.call.cmd.key, .int .i64 y.call.cmd.old.kind, .float .f64 y.call.cmd.old.num, .string y.call.cmd.old.text, .int .i64 y.call.cmd.val.kind, .float .f64 y.call.cmd.val.num, .string y.call.cmd.val.text, .int .i64 y.conf.full, .int .i64 y.conf.wit, .int .i64 y.conf.learn, .int .i64 y.conf.learnWit] HA4.out rfl (by simp) (List.all_eq_true.1 rfl) rfl ?_))
  intro w5 hA5 hm5 _
  have HA5 : Hid (w5.heap[q]? = some (.cells #[.int .i64 y.term, .int .i64 y.kind, .int .i64 y.call.client, .int .i64 y.call.seq, .int .i64 y.call.cmd.kind, .string y.call.cmd.key, .int .i64 y.call.cmd.old.kind, .float .f64 y.call.cmd.old.num, .string y.call.cmd.old.text, .int .i64 y.call.cmd.val.kind, .float .f64 y.call.cmd.val.num, .string y.call.cmd.val.text, .int .i64 y.conf.full, .int .i64 y.conf.wit, .int .i64 y.conf.learn, .int .i64 y.conf.learnWit] 44 (0, 0))) := Lib.hid hA5
  have HX : Hid (Ext w w5) := Lib.hid (Mod.toExt ((Ext.mod HX4.out (Since w.heap.size)).trans hm5 (fun k _ e => by unfold Since; have := Hq.out; omega)))
  clear hA5 hm5 hld
  go_wp2
  obtain ⟨c0, c1, c2, c3, c4, c5, c6, c7, c8, c9, c10, c11, c12, c13, c14, c15⟩ := cq16 HA5.out
  refine bodyPost_ret (v := .tuple #[.agg #[.int .i64 y.term, .int .i64 y.kind, .int .i64 y.call.client, .int .i64 y.call.seq, .int .i64 y.call.cmd.kind, .string y.call.cmd.key, .int .i64 y.call.cmd.old.kind, .float .f64 y.call.cmd.old.num, .string y.call.cmd.old.text, .int .i64 y.call.cmd.val.kind, .float .f64 y.call.cmd.val.num, .string y.call.cmd.val.text, .int .i64 y.conf.full, .int .i64 y.conf.wit, .int .i64 y.conf.learn, .int .i64 y.conf.learnWit], .bool true]) (by simp [results, Try.results15, go_sem, c0, c1, c2, c3, c4, c5, c6, c7, c8, c9, c10, c11, c12, c13, c14, c15]) rfl ?_
  have hN := Hrd.out trivial
  exact ⟨y, true, by rw [hN]; rfl, by rw [hN]; rfl, rfl, HX.out⟩
end Go.Proofs.Ytfkacakbengboaa
