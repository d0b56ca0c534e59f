/-
 Contracts of the page's Entry, readConf, readEntry, over, ReadEntry (layer 10). Conditions: as each theorem names them.
-/
import Derived.Test.YtfkacakbengboaaWireP2
import Derived.Test.YtfkacakbengboaaRefVal
import Derived.Test.YtfkacakbengboaaWireRe
namespace Go.Proofs.Ytfkacakbengboaa
set_option linter.unusedSimpArgs false
open Go.RowKit

theorem mod_newb {w w1 w2 : World} {S : Nat → Prop} {p : Nat} (h : Mod S w w1) (hm : Mod (fun k => k = p) w1 w2) (hq : w.heap.size ≤ p) : Mod S w w2 :=
 h.trans hm (fun i hi e => absurd hi (by omega))
set_option maxRecDepth 100000 in
set_option maxHeartbeats 2000000 in
theorem p_Entry (x : AEntry) (hx : x.ok) (hs : x.small) (w : World) : Calls Try.prog 13 #[.agg #[.int .i64 x.term, .int .i64 x.kind, .int .i64 x.call.client, .int .i64 x.call.seq, .int .i64 x.call.cmd.kind, .string x.call.cmd.key, .int .i64 x.call.cmd.old.kind, .float .f64 x.call.cmd.old.num, .string x.call.cmd.old.text, .int .i64 x.call.cmd.val.kind, .float .f64 x.call.cmd.val.num, .string x.call.cmd.val.text, .int .i64 x.conf.full, .int .i64 x.conf.wit, .int .i64 x.conf.learn, .int .i64 x.conf.learnWit]] w fun e w' => ∃ v, e = .returned (.tuple #[v, .int .i64 (entryP x).2]) ∧ NewB w w' v (entryP x).1 ∧ Ext w w' := by
 obtain ⟨q, hq⟩ : ∃ q, w.heap.size = q := ⟨_, rfl⟩
 obtain ⟨W, hW⟩ : ∃ W, W = w.alloc (.cells #[.int .i64 x.term, .int .i64 x.kind, .int .i64 x.call.client, .int .i64 x.call.seq, .int .i64 x.call.cmd.kind, .string x.call.cmd.key, .int .i64 x.call.cmd.old.kind, .float .f64 x.call.cmd.old.num, .string x.call.cmd.old.text, .int .i64 x.call.cmd.val.kind, .float .f64 x.call.cmd.val.num, .string x.call.cmd.val.text, .int .i64 x.conf.full, .int .i64 x.conf.wit, .int .i64 x.conf.learn, .int .i64 x.conf.learnWit] 44) := ⟨_, rfl⟩
 have hE : Ext w W := by rw [hW]; exact (Mod.refl _ w).alloc _
 have hA : W.heap[q]? = some (.cells #[.int .i64 x.term, .int .i64 x.kind, .int .i64 x.call.client, .int .i64 x.call.seq, .int .i64 x.call.cmd.kind, .string x.call.cmd.key, .int .i64 x.call.cmd.old.kind, .float .f64 x.call.cmd.old.num, .string x.call.cmd.old.text, .int .i64 x.call.cmd.val.kind, .float .f64 x.call.cmd.val.num, .string x.call.cmd.val.text, .int .i64 x.conf.full, .int .i64 x.conf.wit, .int .i64 x.conf.learn, .int .i64 x.conf.learnWit] 44 (0, 0)) := by rw [hW, ← hq]; exact heap_alloc_new w _
 have HW := Lib.hid hW
 have Hq := Lib.hid hq
 have HE := Lib.hid hE
 have HA := Lib.hid hA
 have Hx := Lib.hid hx
 have Hs := Lib.hid hs
 clear hW hq hE hA hx hs
 go_enter Try.func13, Try.ntmps13
 go_wp2_with fail
 rw [← HW.out, Hq.out]
 refine (p_entB x W).mono ?_
 rintro e w1 ⟨rfl, hE1⟩
 have HE1 := Lib.hid hE1
 have HA1 := Lib.hid (hE1.blk HA.out id)
 clear hE1
 rcases hb : entB x with _ | _
 ·
  have He : Hid (entryP x = ([], 3)) := Lib.hid (by unfold entryP; rw [hb]; rfl)
  clear hb
  go_wp2
  go_ret2
  rw [He.out]
  exact ⟨_, rfl, ⟨World.ownsRow_nil _ _ _ _, by simp [Value.ownBlock]⟩, HE.out.ext HE1.out⟩
 ·
  have He : Hid (entryP x = sizedP (encE x)) := Lib.hid (by unfold entryP; rw [hb]; rfl)
  clear hb
  have hld := load_row (P := Try.prog) (o := 0) (cs := x.cells) str_entry HA1.out rfl (fun j u hu => by rw [Nat.zero_add]; exact hu)
  go_wp2_with (refine wpList_ld rfl 44 _ rfl _ _ rfl hld ?_)
  clear hld
  refine (p_bytes x Hx.out Hs.out w1).mono ?_
  rintro e w2 ⟨v2, rfl, hN2, hE2⟩
  have HN2 := Lib.hid (hN2.up (HE.out.ext HE1.out))
  have HE2 := Lib.hid ((HE.out.ext HE1.out).ext hE2)
  obtain ⟨A, c, rfl⟩ := own_form hN2.1
  have hle := hN2.sl.le
  obtain ⟨n, hn⟩ : ∃ n, (encE x).length = n := ⟨_, rfl⟩
  rw [hn] at hle HN2 ⊢
  have Hn := Lib.hid hn
  clear hN2 hE2 hn
  have hn9 : n ≤ 1000000000 := by
   rw [← Hn.out]
   have h1 := Hs.out
   have h2 := encInts_le [x.term, x.kind]
   have h3 := encInts_le [x.call.client, x.call.seq, x.call.cmd.kind]
   have h4 := encText_len' (bsOf x.call.cmd.key)
   have h5 := encV_len x.call.cmd.old
   have h6 := encV_len x.call.cmd.val
   have h7 : (encF x.conf).length ≤ 40 := encInts_le _
   have h8 : (bsOf x.call.cmd.key).length = x.call.cmd.key.size := rfl
   obtain ⟨s1, s2, s3⟩ := h1
   unfold encE encC
   split
   ·
    simp only [List.length_append, List.length_cons, List.length_nil] at *; omega
   ·
    split
    ·
     simp only [List.length_append, List.length_cons, List.length_nil] at *; omega
    ·
     simp only [List.length_append, List.length_cons, List.length_nil] at *; omega
  go_wp2_with fail
  refine (p_sized A n c w2 hn9).mono ?_
  rintro e w3 ⟨rfl, h3⟩
  rcases h3 with ⟨h3, rfl⟩ | ⟨h3, rfl⟩
  ·
   have H3 := Lib.hid h3
   clear h3
   go_wp2
   go_ret2
   rw [He.out]
   have hz : sizedP (encE x) = ([], 2) := by unfold sizedP; rw [if_pos (by rw [Hn.out]; exact H3.out)]
   rw [hz]
   exact ⟨_, rfl, ⟨World.ownsRow_nil _ _ _ _, by simp [Value.ownBlock]⟩, HE2.out⟩
  ·
   have H3 := Lib.hid h3
   clear h3
   go_wp2
   go_ret2
   rw [He.out]
   have hz : sizedP (encE x) = (encE x, 0) := by unfold sizedP; rw [if_neg (by rw [Hn.out]; have := H3.out; omega)]
   rw [hz]
   have hN := HN2.out
   exact ⟨_, rfl, hN, HE2.out⟩
set_option maxRecDepth 100000 in
set_option maxHeartbeats 2000000 in
theorem p_rconf (w : World) (T : Nat → Prop) (b : Nat) (bs : List UInt8) (r : RS) (h : RpX w T b bs r) (hT : ∀ k, T k → k < w.heap.size) (hb : b < w.heap.size) :
  Calls Try.prog 54 #[.pointer (some ⟨b, 0, none⟩)] w (fun e w' => e = .returned (.agg #[.int .i64 r.confP.1.full, .int .i64 r.confP.1.wit, .int .i64 r.confP.1.learn, .int .i64 r.confP.1.learnWit]) ∧ RpX w' T b bs r.confP.2 ∧ Mod (fun k => k = b) w w') := by
 obtain ⟨q, hq⟩ : ∃ q, w.heap.size = q := ⟨_, rfl⟩
 obtain ⟨W, hW⟩ : ∃ W, W = w.alloc (.cells #[.int .i64 0, .int .i64 0, .int .i64 0, .int .i64 0] 24) := ⟨_, rfl⟩
 have hE : Ext w W := by rw [hW]; exact (Mod.refl _ w).alloc _
 have hA : W.heap[q]? = some (.cells #[.int .i64 0, .int .i64 0, .int .i64 0, .int .i64 0] 24 (0, 0)) := by rw [hW, ← hq]; exact heap_alloc_new w _
 have hnq : ¬ q = b := by omega
 have hnb : ¬ b = q := by omega
 have HTq : Hid (∀ g, T g → g < q) := Lib.hid (fun g hg => by have := hT g hg; omega)
 have hbq : b < q := by omega
 have Hbq := Lib.hid hbq
 have HR : Hid (RpX W T b bs r) := Lib.hid (h.mod hE id (fun _ _ => id))
 have HM : Hid (Mod (fun k => k = b) w W) := Lib.hid (hE.mod _)
 have HQ := Lib.hid hA
 have HW := Lib.hid hW
 have Hq := Lib.hid hq
 clear hW hq hE hA hT hb h hbq
 go_enter Try.func54, Try.ntmps54
 go_wp2_with fail
 rw [← HW.out, Hq.out]
 clear HW
 refine (p_int W T b bs r HR.out).mono ?_
 rintro e w1 ⟨rfl, hR2, hm2⟩
 obtain ⟨k0, hk0⟩ : ∃ k, r.int.1 = k := ⟨_, rfl⟩
 obtain ⟨r1, hr1⟩ : ∃ s, r.int.2 = s := ⟨_, rfl⟩
 rw [hk0]
 rw [hr1] at hR2
 have Hk0 := Lib.hid hk0
 have Hr1 := Lib.hid hr1
 clear hk0 hr1
 replace HR := Lib.hid hR2
 replace HM := Lib.hid (HM.out.self hm2)
 replace HQ := Lib.hid (hm2.blk HQ.out hnq)
 clear hR2 hm2
 go_wp2_with fail
 refine (p_int w1 T b bs r1 HR.out).mono ?_
 rintro e w2 ⟨rfl, hR2, hm2⟩
 obtain ⟨k1, hk1⟩ : ∃ k, r1.int.1 = k := ⟨_, rfl⟩
 obtain ⟨r2, hr2⟩ : ∃ s, r1.int.2 = s := ⟨_, rfl⟩
 rw [hk1]
 rw [hr2] at hR2
 have Hk1 := Lib.hid hk1
 have Hr2 := Lib.hid hr2
 clear hk1 hr2
 replace HR := Lib.hid hR2
 replace HM := Lib.hid (HM.out.self hm2)
 replace HQ := Lib.hid (hm2.blk HQ.out hnq)
 clear hR2 hm2
 go_wp2_with fail
 refine (p_int w2 T b bs r2 HR.out).mono ?_
 rintro e w3 ⟨rfl, hR2, hm2⟩
 obtain ⟨k2, hk2⟩ : ∃ k, r2.int.1 = k := ⟨_, rfl⟩
 obtain ⟨r3, hr3⟩ : ∃ s, r2.int.2 = s := ⟨_, rfl⟩
 rw [hk2]
 rw [hr3] at hR2
 have Hk2 := Lib.hid hk2
 have Hr3 := Lib.hid hr3
 clear hk2 hr3
 replace HR := Lib.hid hR2
 replace HM := Lib.hid (HM.out.self hm2)
 replace HQ := Lib.hid (hm2.blk HQ.out hnq)
 clear hR2 hm2
 go_wp2_with fail
 refine (p_int w3 T b bs r3 HR.out).mono ?_
 rintro e w4 ⟨rfl, hR2, hm2⟩
 obtain ⟨k3, hk3⟩ : ∃ k, r3.int.1 = k := ⟨_, rfl⟩
 obtain ⟨r4, hr4⟩ : ∃ s, r3.int.2 = s := ⟨_, rfl⟩
 rw [hk3]
 rw [hr4] at hR2
 have Hk3 := Lib.hid hk3
 have Hr4 := Lib.hid hr4
 clear hk3 hr4
 replace HR := Lib.hid hR2
 replace HM := Lib.hid (HM.out.self hm2)
 replace HQ := Lib.hid (hm2.blk HQ.out hnq)
 clear hR2 hm2
 go_wp2_with (refine wpList_stR rfl 24 _ _ rfl 4 q 0 [.int .i64 k0, .int .i64 k1, .int .i64 k2, .int .i64 k3] rfl rfl str_conf _ _ [.int .i64 k0, .int .i64 k1, .int .i64 k2, .int .i64 k3] HQ.out rfl (by simp) (List.all_eq_true.1 rfl) rfl ?_)
 intro w5 hA4 hm4 _
 have HZ : Hid (w5.heap[q]? = some (.cells #[.int .i64 k0, .int .i64 k1, .int .i64 k2, .int .i64 k3] 24 (0, 0))) := Lib.hid hA4
 replace HR := Lib.hid (HR.out.mod hm4 hnb (fun g hg e => by have := HTq.out g hg; omega))
 replace HM := Lib.hid (mod_newb HM.out hm4 (by have := Hq.out; omega))
 clear hA4 hm4
 go_wp2
 obtain ⟨c0, c1, c2, c3⟩ := cq4 HZ.out
 refine bodyPost_ret (v := .agg #[.int .i64 k0, .int .i64 k1, .int .i64 k2, .int .i64 k3]) (by simp [results, Try.results54, go_sem, c0, c1, c2, c3]) rfl ?_
 have he : r.confP = (⟨k0, k1, k2, k3⟩, r4) := by unfold RS.confP; simp only [Hk0.out, Hr1.out, Hk1.out, Hr2.out, Hk2.out, Hr3.out, Hk3.out, Hr4.out]
 rw [he]
 exact ⟨rfl, HR.out, HM.out⟩
set_option maxRecDepth 100000 in
set_option maxHeartbeats 2000000 in
theorem p_over (w : World) (T : Nat → Prop) (b : Nat) (bs : List UInt8) (r : RS) (h : RpX w T b bs r) (A : Option Addr) (n c : Nat) (_ : n ≤ 1000000) :
  Calls Try.prog 40 #[.pointer (some ⟨b, 0, none⟩), .slice A n c] w fun e w' => e = .returned (.bool (r.done == 0 && decide (n ≤ 16384))) ∧ Ext w w' := by
 have H := Lib.hid h
 clear h
 go_enter Try.func40, Try.ntmps40
 go_wp2_with fail
 refine (p_done w T b bs r H.out).mono ?_
 rintro e w1 ⟨rfl, hE⟩
 have HE := Lib.hid hE
 clear hE
 obtain ⟨d, hd⟩ : ∃ d, r.done = d := ⟨_, rfl⟩
 rw [hd]
 have Hd := Lib.hid hd
 clear hd
 by_cases h0 : d = 0
 ·
  subst h0
  by_cases hn : n ≤ 16384
  ·
   have dn : decide ((n : Int) ≤ 16384) = true := by simp; omega
   have Hb : Hid ((r.done == 0 && decide (n ≤ 16384)) = true) := Lib.hid (by rw [Hd.out]; simp [hn])
   go_wp2
   go_ret
   exact ⟨ret_bool Hb.out.symm, HE.out⟩
  ·
   have dn : decide ((n : Int) ≤ 16384) = false := by simp; omega
   have Hb : Hid ((r.done == 0 && decide (n ≤ 16384)) = false) := Lib.hid (by rw [Hd.out]; simp; omega)
   go_wp2
   go_ret
   exact ⟨ret_bool Hb.out.symm, HE.out⟩
 ·
  have d0 : (d == 0) = false := by simp [h0]
  have Hb : Hid ((r.done == 0 && decide (n ≤ 16384)) = false) := Lib.hid (by rw [Hd.out]; simp [d0])
  clear h0
  go_wp2
  go_ret
  exact ⟨ret_bool Hb.out.symm, HE.out⟩
end Go.Proofs.Ytfkacakbengboaa
