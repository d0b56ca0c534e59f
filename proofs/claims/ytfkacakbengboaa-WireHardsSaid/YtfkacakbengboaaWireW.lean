/-
 Contracts of package wire's writer: calls, configurations, entries. Conditions: as each theorem names them.
-/
import Derived.Test.YtfkacakbengboaaWireV
namespace Go.Proofs.Ytfkacakbengboaa
open Go.RowKit
attribute [local go_sem] call_frombits call_bits
attribute [local go_sem high] conv_sb

theorem wText_len (t : List UInt8) : ∀ d l, wText t = some (d, l) → d.length ≤ 16400 := by
 intro d l h
 have := encInt_len t.length
 unfold wText at h
 split at h <;> simp at h <;> obtain ⟨rfl, _⟩ := h
 ·
  simp
 ·
  simp [encText]; omega
theorem seq_len {a b : WO} {m n : Nat} (ha : ∀ d l, a = some (d, l) → d.length ≤ m) (hb : ∀ d l, b = some (d, l) → d.length ≤ n) : ∀ d l, a.seq b = some (d, l) → d.length ≤ m + n := by
 intro d l h
 rcases a with _ | ⟨x, p⟩
 ·
  rw [seq_none] at h; cases h
 ·
  rcases b with _ | ⟨y, q⟩
  ·
   rw [seq_some_none] at h; cases h
  ·
   rw [seq_some] at h
   simp at h
   have := ha x p rfl
   have := hb y q rfl
   rw [← h.1]; simp; omega
theorem wRaw_len {x : List UInt8} {n : Nat} (h : x.length ≤ n) : ∀ d l, wRaw x = some (d, l) → d.length ≤ n := by
 intro d l e; simp [wRaw] at e; rw [← e.1]; exact h
theorem wMust_len (b : Bool) : ∀ d l, wMust b = some (d, l) → d.length ≤ 0 := by
 intro d l e; unfold wMust at e; split at e <;> simp at e; obtain ⟨rfl, _⟩ := e; simp
theorem wValue_len (v : AVal) : ∀ d l, wValue v = some (d, l) → d.length ≤ 20000 := by
 intro d l h
 have h0 : ∀ x, (wRaw (encInt v.kind)).seq x = wValue v → (∀ d l, x = some (d, l) → d.length ≤ 19000) → d.length ≤ 20000 := by
  intro x hx hl
  have := seq_len (wRaw_len (encInt_len v.kind)) hl d l (hx.trans h)
  omega
 refine h0 _ rfl ?_
 intro d l h
 split at h
 ·
  have := wMust_len _ d l h; omega
 ·
  split at h
  ·
   have := seq_len (wMust_len _) (wRaw_len (n := 8) (by simp [encFloat, hib])) d l h; omega
  ·
   split at h
   ·
    have := seq_len (wMust_len _) (wText_len _) d l h; omega
   ·
    cases h

set_option maxRecDepth 100000 in
set_option maxHeartbeats 2000000 in
theorem wi_call (w : World) (S : Nat → Prop) (b : Nat) (bs : List UInt8) (long : Bool) (c : ACall) (h : St w S b bs long) (hv : c.ok) (hb : bs.length ≤ 898000000) :
  Calls Try.prog 69 #[.pointer (some ⟨b, 0, none⟩), .agg #[.int .i64 c.client, .int .i64 c.seq, .int .i64 c.cmd.kind, .string c.cmd.key, .int .i64 c.cmd.old.kind, .float .f64 c.cmd.old.num, .string c.cmd.old.text, .int .i64 c.cmd.val.kind, .float .f64 c.cmd.val.num, .string c.cmd.val.text]] w (WOut w S b bs long (wCall c)) := by
 obtain ⟨hc1, hc2, hc3, hkey, hold, hval⟩ := hv
 obtain ⟨wb, hwb⟩ : ∃ wb, wb = w.alloc (.cells #[.int .i64 c.client, .int .i64 c.seq, .int .i64 c.cmd.kind, .string c.cmd.key, .int .i64 c.cmd.old.kind, .float .f64 c.cmd.old.num, .string c.cmd.old.text, .int .i64 c.cmd.val.kind, .float .f64 c.cmd.val.num, .string c.cmd.val.text] 42) := ⟨_, rfl⟩
 have hE : Ext w wb := by rw [hwb]; exact (Mod.refl _ w).alloc _
 have hSb := h.of_ext hE
 have hnS : ¬ S w.heap.size := fun hs => by have := h.2 _ hs; omega
 have hcs : ∀ w1, Mod S wb w1 → ∀ j u, (#[.int .i64 c.client, .int .i64 c.seq, .int .i64 c.cmd.kind, .string c.cmd.key, .int .i64 c.cmd.old.kind, .float .f64 c.cmd.old.num, .string c.cmd.old.text, .int .i64 c.cmd.val.kind, .float .f64 c.cmd.val.num, .string c.cmd.val.text] : Array Value)[j]? = some u → w1.cell? ⟨w.heap.size, j, none⟩ = some u := by
  intro w1 hm j u hu
  refine hm.cell ?_ hnS
  rw [hwb, cell_of_row _ _ _ _ _ _ (heap_alloc_new w _)]
  exact hu
 have hsz : wb.heap.size = w.heap.size + 1 := by rw [hwb]; simp
 have Hwb := Lib.hid hwb
 have Hcs := Lib.hid hcs
 have Hsz := Lib.hid hsz
 have Hc := Lib.hid (And.intro hc1 (And.intro hc2 (And.intro hc3 (And.intro hkey (And.intro hold hval)))))
 have hlI := encInts_len [c.client, c.seq, c.cmd.kind]
 have Hs : Hid (wCall c = (((wRaw (encInts [c.client, c.seq, c.cmd.kind])).seq (wText (bsOf c.cmd.key))).seq (wValue c.cmd.old)).seq (wValue c.cmd.val)) := Lib.hid rfl
 obtain ⟨I, hI⟩ : ∃ I, encInts [c.client, c.seq, c.cmd.kind] = I := ⟨_, rfl⟩
 rw [hI] at Hs hlI
 have HI := Lib.hid hI
 clear hwb hcs hsz hc1 hc2 hc3 hkey hold hval hI
 simp only [List.length_cons, List.length_nil] at hlI
 go_enter Try.func69, Try.ntmps69
 go_wp2_with fail
 rw [← Hwb.out]
 have hE1 : Ext wb (wb.alloc (.cells #[.int .i64 c.client, .int .i64 c.seq, .int .i64 c.cmd.kind] 3)) := (Mod.refl _ wb).alloc _
 have hsl : Sl (wb.alloc (.cells #[.int .i64 c.client, .int .i64 c.seq, .int .i64 c.cmd.kind] 3)) (fun g => wb.heap.size ≤ g) 1 (.slice (some ⟨wb.heap.size, 0, none⟩) 3 3) 3 ([c.client, c.seq, c.cmd.kind].map (Value.int .i64)) :=
  Sl.of_own (base := 0) (e := 3) (World.ownsRow_lit wb _ 3 (Nat.zero_le _) (by simp [maxLen]) rfl) (fun g hg => by simp [Value.ownBlock] at hg; omega)
 rw [Hsz.out] at hsl
 refine (wi_ints _ S _ b bs long _ [c.client, c.seq, c.cmd.kind] (hSb.of_ext hE1) hsl (fun g h1 h2 => by have := hSb.2 g h2; rw [Hsz.out] at this; omega) (by have := Hc.out; simp; exact ⟨this.1, this.2.1, this.2.2.1⟩) (by simp) (by omega)).mono ?_
 rintro e w1 ⟨hm1, rfl, S1, hS1, hg1⟩
 rw [HI.out, Bool.or_false] at hS1
 have hm1 : Mod S wb w1 := (hE1.mod S).self hm1
 have Hg1 : Hid (∀ k, S1 k → S k ∨ wb.heap.size ≤ k) := Lib.hid (fun k hk => (hg1 k hk).imp id (fun h => Nat.le_trans hE1.size h))
 clear hg1 hE1 hsl
 have x3 := Hcs.out w1 hm1 3 _ rfl
 have hbe := bw_ext w1.drew 5 c.cmd.key
 have hbb := bw_byt w1.drew 5 c.cmd.key Hc.out.2.2.2.1
 have hSt : St (Lib.bytesWorld w1.drew 5 c.cmd.key) S1 b (bs ++ I) long := St.of_ext (w := w1.drew) hS1 hbe
 have hm1b : Mod S wb (Lib.bytesWorld w1.drew 5 c.cmd.key) := hm1.drew.ext hbe
 have hsb := hm1b.size
 have hln : (bsOf c.cmd.key).length = c.cmd.key.size := rfl
 have hdis : ∀ g, w1.drew.heap.size ≤ g → ¬ S1 g := fun g h1 h2 => by have h3 := hS1.2 g h2; have h4 : w1.heap.size ≤ g := h1; omega
 have h5 : (16384 < c.cmd.key.size ∧ wText (bsOf c.cmd.key) = some ([], true)) ∨ (¬ 16384 < c.cmd.key.size ∧ wText (bsOf c.cmd.key) = some (encText (bsOf c.cmd.key), false)) := by
  by_cases h : 16384 < c.cmd.key.size
  ·
   exact .inl ⟨h, by simp [wText, hln, h]⟩
  ·
   exact .inr ⟨h, by simp [wText, hln, h]⟩
 rcases h5 with ⟨h5, hT⟩ | ⟨h5, hT⟩
 case' inl =>
  have HT := Lib.hid hT
  clear hT
  go_wp2_with fail
  go_region_with
   ((go_at_call 66
     refine (w_text_long _ S1 _ b (bs ++ I) (bsOf c.cmd.key) long _ hSt.1 hbb (by rw [hln]; exact h5)).mono ?_
     rintro e w2 ⟨rfl, hW2, hm2⟩))
  obtain ⟨S2, hS2, hg2⟩ := st_of hW2
  obtain ⟨D, hD⟩ : ∃ D : List UInt8, D = [] := ⟨_, rfl⟩
  obtain ⟨L, hL⟩ : ∃ L : Bool, L = true := ⟨_, rfl⟩
  have hS2 : St w2 S2 b (bs ++ (I ++ D)) (long || L) := by rw [hD, hL]; simpa using hS2
  have HT : Hid (wText (bsOf c.cmd.key) = some (D, L)) := Lib.hid (by rw [HT.out, hD, hL])
 case' inr =>
  have HT := Lib.hid hT
  clear hT
  go_wp2_with fail
  go_region_with
   ((go_at_call 66
     refine (w_text _ S1 _ b (bs ++ I) (bsOf c.cmd.key) long _ hSt.1 (by simp; omega) hbb hdis (by rw [hln]; omega)).mono ?_
     rintro e w2 ⟨rfl, hW2, hm2⟩))
  obtain ⟨S2, hS2, hg2⟩ := st_of hW2
  obtain ⟨D, hD⟩ : ∃ D : List UInt8, D = encText (bsOf c.cmd.key) := ⟨_, rfl⟩
  obtain ⟨L, hL⟩ : ∃ L : Bool, L = false := ⟨_, rfl⟩
  have hS2 : St w2 S2 b (bs ++ (I ++ D)) (long || L) := by rw [hD, hL]; simpa using hS2
  have HT : Hid (wText (bsOf c.cmd.key) = some (D, L)) := Lib.hid (by rw [HT.out, hD, hL])
 all_goals
  have hDl := wText_len _ _ _ HT.out
  have hm3 := mod_gr hm1b hm2 Hg1.out
  have hg3 := gr_trans Hg1.out hg2 hsb
  have Hg3 := Lib.hid hg3
  have y4 := Hcs.out w2 hm3 4 _ rfl
  have y5 := Hcs.out w2 hm3 5 _ rfl
  have y6 := Hcs.out w2 hm3 6 _ rfl
  clear hg3 hg2 hD hL x3 hW2 hm2 hm1b hSt hbb hbe hdis
  go_wp2_with fail
  refine (wi_value w2 S2 b _ _ c.cmd.old hS2 Hc.out.2.2.2.2.1 (by simp; omega)).mono ?_
  rintro e w3 ⟨hm4, h4⟩
  have hm5 := mod_gr hm3 hm4 Hg3.out
  rcases hV : wValue c.cmd.old with _ | ⟨D2, L2⟩
  ·
   rw [hV] at h4
   subst h4
   exact ⟨rfl, fin_none hE hm5 (by rw [Hs.out, hV]; simp [wRaw, HT.out, seq_some, seq_none, seq_some_none])⟩
  ·
   rw [hV] at h4
   obtain ⟨rfl, S3, hS3, hg3⟩ := h4
   have hV2 := wValue_len _ _ _ hV
   have HV := Lib.hid hV
   have hg5 := gr_trans Hg3.out hg3 hm3.size
   have Hg5 := Lib.hid hg5
   have z7 := Hcs.out w3 hm5 7 _ rfl
   have z8 := Hcs.out w3 hm5 8 _ rfl
   have z9 := Hcs.out w3 hm5 9 _ rfl
   clear hg5 hg3 hV
   go_wp2_with fail
   refine (wi_value w3 S3 b _ _ c.cmd.val hS3 Hc.out.2.2.2.2.2 (by simp; omega)).mono ?_
   rintro e w4 ⟨hm6, h6⟩
   have hm7 := mod_gr hm5 hm6 Hg5.out
   rcases hU : wValue c.cmd.val with _ | ⟨D3, L3⟩
   ·
    rw [hU] at h6
    subst h6
    exact ⟨rfl, fin_none hE hm7 (by rw [Hs.out, hU, HV.out]; simp [wRaw, HT.out, seq_some, seq_some_none])⟩
   ·
    rw [hU] at h6
    obtain ⟨rfl, S4, hS4, hg4⟩ := h6
    have hg6 := gr_trans Hg5.out hg4 hm5.size
    have Hg6 := Lib.hid hg6
    have HU := Lib.hid hU
    clear hg6 hg4 hU
    go_wp2
    go_end0
    exact fin_some (d := ((I ++ D) ++ D2) ++ D3) (l := (L || L2) || L3) hE hm7 (by simpa [Bool.or_assoc] using hS4) Hg6.out (by rw [Hs.out, HU.out, HV.out]; simp [wRaw, HT.out, seq_some])
end Go.Proofs.Ytfkacakbengboaa
