/-
 Contracts of package wire's writer: configurations and entries. Conditions: as each theorem names them.
-/
import Derived.Test.YtfkacakbengboaaWireW
namespace Go.Proofs.Ytfkacakbengboaa
open Go.RowKit

/-- Numbers in a new row. -/
theorem sl_lits (w : World) (l : List Int) (e : TypeId) (cs : Array Value) (hc : cs = (l.map (Value.int .i64)).toArray) (n : Nat) (hn : n = l.length) (hl : n ≤ 100) :
  Sl (w.alloc (.cells cs e)) (fun g => w.heap.size ≤ g) 1 (.slice (some ⟨w.heap.size, 0, none⟩) n n) l.length (l.map (Value.int .i64)) := by
 subst hn
 subst hc
 have h := World.ownsRow_lit (base := 0) (e := e) (size := 1) w (l.map (Value.int .i64)).toArray l.length (Nat.zero_le _) (by simp only [maxLen]; omega) (by simp)
 exact Sl.of_own (base := 0) (e := e) (by simpa using h) (fun g hg => by simp [Value.ownBlock] at hg; omega)

set_option maxRecDepth 100000 in
set_option maxHeartbeats 1000000 in
theorem wi_conf (w : World) (S : Nat → Prop) (b : Nat) (bs : List UInt8) (long : Bool) (c : AConf) (h : St w S b bs long) (hv : c.ok) (hb : bs.length ≤ 899000000) :
  Calls Try.prog 65 #[.pointer (some ⟨b, 0, none⟩), .agg #[.int .i64 c.full, .int .i64 c.wit, .int .i64 c.learn, .int .i64 c.learnWit]] w (WOut w S b bs long (wConf c)) := by
 obtain ⟨hc1, hc2, hc3, hc4⟩ := hv
 obtain ⟨wb, hwb⟩ : ∃ wb, wb = w.alloc (.cells #[.int .i64 c.full, .int .i64 c.wit, .int .i64 c.learn, .int .i64 c.learnWit] 24) := ⟨_, rfl⟩
 have hE : Ext w wb := by rw [hwb]; exact (Mod.refl _ w).alloc _
 have hSb := h.of_ext hE
 have hsz : wb.heap.size = w.heap.size + 1 := by rw [hwb]; simp
 have Hwb := Lib.hid hwb
 have Hsz := Lib.hid hsz
 have Hr : Hid (∀ n ∈ [c.full, c.wit, c.learn, c.learnWit], I64 n) := Lib.hid (by simp; exact ⟨hc1, hc2, hc3, hc4⟩)
 clear hwb hsz hc1 hc2 hc3 hc4
 go_enter Try.func65, Try.ntmps65
 go_wp2_with fail
 rw [← Hwb.out]
 have hE1 : Ext wb (wb.alloc (.cells #[.int .i64 c.full, .int .i64 c.wit, .int .i64 c.learn, .int .i64 c.learnWit] 3)) := (Mod.refl _ wb).alloc _
 have hsl := sl_lits wb [c.full, c.wit, c.learn, c.learnWit] 3 #[.int .i64 c.full, .int .i64 c.wit, .int .i64 c.learn, .int .i64 c.learnWit] rfl 4 rfl (by omega)
 rw [Hsz.out] at hsl
 refine (wi_ints _ S _ b bs long _ [c.full, c.wit, c.learn, c.learnWit] (hSb.of_ext hE1) hsl (fun g h1 h2 => by have := hSb.2 g h2; rw [Hsz.out] at this; omega) Hr.out (by simp) (by omega)).mono ?_
 rintro e w1 ⟨hm1, rfl, S1, hS1, hg1⟩
 have hm1 : Mod S wb w1 := (hE1.mod S).self hm1
 have Hg1 : Hid (∀ k, S1 k → S k ∨ wb.heap.size ≤ k) := Lib.hid (fun k hk => (hg1 k hk).imp id (fun h => Nat.le_trans hE1.size h))
 clear hg1
 go_wp2
 go_end0
 exact fin_some (d := encInts [c.full, c.wit, c.learn, c.learnWit]) (l := false) hE hm1 hS1 Hg1.out rfl

theorem conf_eql (a b c d : Int) (w : World) : (binOp .eql 24 (.agg #[.int .i64 a, .int .i64 b, .int .i64 c, .int .i64 d]) (.agg #[.int .i64 0, .int .i64 0, .int .i64 0, .int .i64 0])).run Try.prog w = .ok (.bool (confB ⟨a, b, c, d⟩)) w := by
 by_cases h1 : a = 0 <;> by_cases h2 : b = 0 <;> by_cases h3 : c = 0 <;> by_cases h4 : d = 0 <;> go_simp <;> simp [confB, h1, h2, h3, h4]
attribute [local go_sem high] conf_eql

set_option maxRecDepth 100000 in
set_option maxHeartbeats 2000000 in
theorem wi_entry (w : World) (S : Nat → Prop) (b : Nat) (bs : List UInt8) (long : Bool) (x : AEntry) (h : St w S b bs long) (hv : x.ok) (hb : bs.length ≤ 897000000) :
  Calls Try.prog 32 #[.pointer (some ⟨b, 0, none⟩), .agg #[.int .i64 x.term, .int .i64 x.kind, .int .i64 x.call.client, .int .i64 x.call.seq, .int .i64 x.call.cmd.kind, .string x.call.cmd.key, .int .i64 x.call.cmd.old.kind, .float .f64 x.call.cmd.old.num, .string x.call.cmd.old.text, .int .i64 x.call.cmd.val.kind, .float .f64 x.call.cmd.val.num, .string x.call.cmd.val.text, .int .i64 x.conf.full, .int .i64 x.conf.wit, .int .i64 x.conf.learn, .int .i64 x.conf.learnWit]] w (WOut w S b bs long (wEntry x)) := by
 obtain ⟨hc1, hc2, hcall, hconf⟩ := hv
 obtain ⟨wb, hwb⟩ : ∃ wb, wb = w.alloc (.cells #[.int .i64 x.term, .int .i64 x.kind, .int .i64 x.call.client, .int .i64 x.call.seq, .int .i64 x.call.cmd.kind, .string x.call.cmd.key, .int .i64 x.call.cmd.old.kind, .float .f64 x.call.cmd.old.num, .string x.call.cmd.old.text, .int .i64 x.call.cmd.val.kind, .float .f64 x.call.cmd.val.num, .string x.call.cmd.val.text, .int .i64 x.conf.full, .int .i64 x.conf.wit, .int .i64 x.conf.learn, .int .i64 x.conf.learnWit] 44) := ⟨_, rfl⟩
 have hE : Ext w wb := by rw [hwb]; exact (Mod.refl _ w).alloc _
 have hSb := h.of_ext hE
 have hnS : ¬ S w.heap.size := fun hs => by have := h.2 _ hs; omega
 have hcs : ∀ w1, Mod S wb w1 → ∀ j u, (#[.int .i64 x.term, .int .i64 x.kind, .int .i64 x.call.client, .int .i64 x.call.seq, .int .i64 x.call.cmd.kind, .string x.call.cmd.key, .int .i64 x.call.cmd.old.kind, .float .f64 x.call.cmd.old.num, .string x.call.cmd.old.text, .int .i64 x.call.cmd.val.kind, .float .f64 x.call.cmd.val.num, .string x.call.cmd.val.text, .int .i64 x.conf.full, .int .i64 x.conf.wit, .int .i64 x.conf.learn, .int .i64 x.conf.learnWit] : Array Value)[j]? = some u → w1.cell? ⟨w.heap.size, j, none⟩ = some u := by
  intro w1 hm j u hu
  refine hm.cell ?_ hnS
  rw [hwb, cell_of_row _ _ _ _ _ _ (heap_alloc_new w _)]
  exact hu
 have hsz : wb.heap.size = w.heap.size + 1 := by rw [hwb]; simp
 have Hwb := Lib.hid hwb
 have Hcs := Lib.hid hcs
 have Hsz := Lib.hid hsz
 have Hr : Hid (∀ n ∈ [x.term, x.kind], I64 n) := Lib.hid (by simp; exact ⟨hc1, hc2⟩)
 have Hc := Lib.hid (And.intro hcall hconf)
 have hlI := encInts_len [x.term, x.kind]
 have Hs : Hid (wEntry x = ((((wRaw (encInts [x.term, x.kind])).seq (wMust (decide (0 ≤ x.kind ∧ x.kind ≤ 2)))).seq (wMust (x.kind == 1 || noCallB x.call))).seq (wMust (x.kind == 2 || confB x.conf))).seq
  (if x.kind = 1 then wCall x.call else if x.kind = 2 then wConf x.conf else wRaw [])) := Lib.hid rfl
 obtain ⟨I, hI⟩ : ∃ I, encInts [x.term, x.kind] = I := ⟨_, rfl⟩
 rw [hI] at Hs hlI
 have HI := Lib.hid hI
 clear hwb hcs hsz hc1 hc2 hcall hconf hI
 simp only [List.length_cons, List.length_nil] at hlI
 go_enter Try.func32, Try.ntmps32
 go_wp2_with fail
 rw [← Hwb.out]
 have hE1 : Ext wb (wb.alloc (.cells #[.int .i64 x.term, .int .i64 x.kind] 3)) := (Mod.refl _ wb).alloc _
 have hsl := sl_lits wb [x.term, x.kind] 3 #[.int .i64 x.term, .int .i64 x.kind] rfl 2 rfl (by omega)
 rw [Hsz.out] at hsl
 refine (wi_ints _ S _ b bs long _ [x.term, x.kind] (hSb.of_ext hE1) hsl (fun g h1 h2 => by have := hSb.2 g h2; rw [Hsz.out] at this; omega) Hr.out (by simp) (by omega)).mono ?_
 rintro e w1 ⟨hm1, rfl, S1, hS1, hg1⟩
 rw [HI.out, Bool.or_false] at hS1
 have hm1 : Mod S wb w1 := (hE1.mod S).self hm1
 have Hg1 : Hid (∀ k, S1 k → S k ∨ wb.heap.size ≤ k) := Lib.hid (fun k hk => (hg1 k hk).imp id (fun h => Nat.le_trans hE1.size h))
 clear hg1 hE1 hsl
 have x1 := Hcs.out w1 hm1 1 _ rfl
 by_cases hk : 0 ≤ x.kind ∧ x.kind ≤ 2
 case neg =>
  have Ho : Hid (wEntry x = none) := Lib.hid (by rw [Hs.out]; simp [hk, wMust, wRaw, seq_none, seq_some_none])
  by_cases h0 : 0 ≤ x.kind
  ·
   have h2 : ¬ x.kind ≤ 2 := fun h => hk ⟨h0, h⟩
   have d2 : decide (x.kind ≤ 2) = false := by simpa using h2
   go_wp2_with fail
   refine (must_no _).mono ?_
   rintro e w' ⟨rfl, rfl⟩
   exact ⟨rfl, fin_none hE hm1 Ho.out⟩
  ·
   go_wp2_with fail
   refine (must_no _).mono ?_
   rintro e w' ⟨rfl, rfl⟩
   exact ⟨rfl, fin_none hE hm1 Ho.out⟩
 obtain ⟨k0, k2⟩ := hk
 have d0 : decide (0 ≤ x.kind) = true := by simpa using k0
 have d2 : decide (x.kind ≤ 2) = true := by simpa using k2
 have x2 := Hcs.out w1 hm1 2 _ rfl
 have x3 := Hcs.out w1 hm1 3 _ rfl
 have x4 := Hcs.out w1 hm1 4 _ rfl
 have x5 := Hcs.out w1 hm1 5 _ rfl
 have x6 := Hcs.out w1 hm1 6 _ rfl
 have x7 := Hcs.out w1 hm1 7 _ rfl
 have x8 := Hcs.out w1 hm1 8 _ rfl
 have x9 := Hcs.out w1 hm1 9 _ rfl
 have x10 := Hcs.out w1 hm1 10 _ rfl
 have x11 := Hcs.out w1 hm1 11 _ rfl
 have x12 := Hcs.out w1 hm1 12 _ rfl
 have x13 := Hcs.out w1 hm1 13 _ rfl
 have x14 := Hcs.out w1 hm1 14 _ rfl
 have x15 := Hcs.out w1 hm1 15 _ rfl
 go_wp2_with fail
 refine (must_yes _).mono ?_
 rintro e w' ⟨rfl, rfl⟩
 have hk3 : x.kind = 0 ∨ x.kind = 1 ∨ x.kind = 2 := by omega
 rcases hk3 with hk3 | hk3 | hk3
 ·
  have e1 : (x.kind == 1) = false := by simp [hk3]
  have e2 : (x.kind == 2) = false := by simp [hk3]
  have Ho : Hid (wEntry x = (WO.seq (WO.seq (some (I, false)) (wMust (noCallB x.call))) (wMust (confB x.conf))).seq (some ([], false))) := Lib.hid (by rw [Hs.out]; simp [hk3, wMust, wRaw, seq_some])
  clear hk3
  go_wp2_with fail
  refine (noCall_any x.call _).mono ?_
  rintro e w2 ⟨rfl, hE2⟩
  rcases hn : noCallB x.call with _ | _
  ·
   go_wp2_with fail
   refine (must_no _).mono ?_
   rintro e w' ⟨rfl, rfl⟩
   exact ⟨rfl, fin_none hE (hm1.ext hE2) (by rw [Ho.out, hn]; rfl)⟩
  ·
   have hm2 := hm1.ext hE2
   have hS2 := hS1.of_ext hE2
   have y1 := Hcs.out w2 hm2 1 _ rfl
   have y12 := Hcs.out w2 hm2 12 _ rfl
   have y13 := Hcs.out w2 hm2 13 _ rfl
   have y14 := Hcs.out w2 hm2 14 _ rfl
   have y15 := Hcs.out w2 hm2 15 _ rfl
   clear x1 x2 x3 x4 x5 x6 x7 x8 x9 x10 x11 x12 x13 x14 x15 hE2
   go_wp2_with fail
   refine (must_yes _).mono ?_
   rintro e w' ⟨rfl, rfl⟩
   rcases hc : confB x.conf with _ | _
   ·
    go_wp2_with fail
    refine (must_no _).mono ?_
    rintro e w' ⟨rfl, rfl⟩
    exact ⟨rfl, fin_none hE hm2 (by rw [Ho.out, hn, hc]; rfl)⟩
   ·
    go_wp2_with fail
    refine (must_yes _).mono ?_
    rintro e w' ⟨rfl, rfl⟩
    go_wp2
    go_end0
    exact fin_some (d := I) (l := false) hE hm2 (by simpa using hS2) Hg1.out (by rw [Ho.out, hn, hc]; simp [wMust, seq_some])
 ·
  have e1 : (x.kind == 1) = true := by simp [hk3]
  have e2 : (x.kind == 2) = false := by simp [hk3]
  have Ho : Hid (wEntry x = (WO.seq (some (I, false)) (wMust (confB x.conf))).seq (wCall x.call)) := Lib.hid (by rw [Hs.out]; simp [hk3, wMust, wRaw, seq_some])
  clear hk3
  go_wp2_with fail
  refine (must_yes _).mono ?_
  rintro e w' ⟨rfl, rfl⟩
  rcases hc : confB x.conf with _ | _
  ·
   go_wp2_with fail
   refine (must_no _).mono ?_
   rintro e w' ⟨rfl, rfl⟩
   exact ⟨rfl, fin_none hE hm1 (by rw [Ho.out, hc]; rfl)⟩
  ·
   go_wp2_with fail
   refine (must_yes _).mono ?_
   rintro e w' ⟨rfl, rfl⟩
   go_wp2_with fail
   refine (wi_call w1 S1 b _ _ x.call hS1 Hc.out.1 (by simp; omega)).mono ?_
   rintro e w3 ⟨hm4, h4⟩
   have hm5 := mod_gr hm1 hm4 Hg1.out
   rcases hV : wCall x.call with _ | ⟨D2, L2⟩
   ·
    rw [hV] at h4
    subst h4
    exact ⟨rfl, fin_none hE hm5 (by rw [Ho.out, hV, hc]; rfl)⟩
   ·
    rw [hV] at h4
    obtain ⟨rfl, S3, hS3, hg3⟩ := h4
    have HV := Lib.hid hV
    have hg5 := gr_trans Hg1.out hg3 hm1.size
    have Hg5 := Lib.hid hg5
    clear hg5 hg3 hV
    go_wp2
    go_end0
    exact fin_some (d := I ++ D2) (l := L2) hE hm5 (by simpa using hS3) Hg5.out (by rw [Ho.out, HV.out, hc]; simp [wMust, seq_some])
 ·
  have e1 : (x.kind == 1) = false := by simp [hk3]
  have e2 : (x.kind == 2) = true := by simp [hk3]
  have Ho : Hid (wEntry x = (WO.seq (some (I, false)) (wMust (noCallB x.call))).seq (wConf x.conf)) := Lib.hid (by rw [Hs.out]; simp [hk3, wMust, wRaw, seq_some]; cases noCallB x.call <;> simp [seq_some, seq_some_none, seq_none])
  clear hk3
  go_wp2_with fail
  refine (noCall_any x.call _).mono ?_
  rintro e w2 ⟨rfl, hE2⟩
  rcases hn : noCallB x.call with _ | _
  ·
   go_wp2_with fail
   refine (must_no _).mono ?_
   rintro e w' ⟨rfl, rfl⟩
   exact ⟨rfl, fin_none hE (hm1.ext hE2) (by rw [Ho.out, hn]; rfl)⟩
  ·
   have hm2 := hm1.ext hE2
   have hS2 := hS1.of_ext hE2
   have y1 := Hcs.out w2 hm2 1 _ rfl
   have y12 := Hcs.out w2 hm2 12 _ rfl
   have y13 := Hcs.out w2 hm2 13 _ rfl
   have y14 := Hcs.out w2 hm2 14 _ rfl
   have y15 := Hcs.out w2 hm2 15 _ rfl
   clear x1 x2 x3 x4 x5 x6 x7 x8 x9 x10 x11 x12 x13 x14 x15 hE2
   go_wp2_with fail
   refine (must_yes _).mono ?_
   rintro e w' ⟨rfl, rfl⟩
   go_wp2_with fail
   refine (must_yes _).mono ?_
   rintro e w' ⟨rfl, rfl⟩
   go_wp2_with fail
   refine (wi_conf w2 S1 b _ _ x.conf hS2 Hc.out.2 (by simp; omega)).mono ?_
   rintro e w3 ⟨hm4, rfl, S3, hS3, hg3⟩
   have hm5 := mod_gr hm2 hm4 Hg1.out
   have hg5 := gr_trans Hg1.out hg3 hm2.size
   have Hg5 := Lib.hid hg5
   clear hg5 hg3
   go_wp2
   go_end0
   exact fin_some (d := I ++ encInts [x.conf.full, x.conf.wit, x.conf.learn, x.conf.learnWit]) (l := false) hE hm5 (by simpa using hS3) Hg5.out (by rw [Ho.out, hn]; simp [wMust, wConf, wRaw, seq_some])
end Go.Proofs.Ytfkacakbengboaa
