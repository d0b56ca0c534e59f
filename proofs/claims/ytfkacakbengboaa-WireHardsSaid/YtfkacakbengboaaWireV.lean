/-
 Contracts of package wire's writer. Conditions: as each theorem names them.
-/
import Derived.Test.YtfkacakbengboaaWireA
import Derived.Lib.ConvBytes
namespace Go.Proofs.Ytfkacakbengboaa
open Go.RowKit
attribute [local go_sem] call_frombits call_bits

/-- The writer's own boxes and arguments are kept. -/
theorem St.of_ext {w w' : World} {S : Nat → Prop} {b : Nat} {bs : List UInt8} {long : Bool} (h : St w S b bs long) (hE : Ext w w') : St w' S b bs long :=
 ⟨h.1.mod hE (fun _ _ => id), fun k hk => Nat.lt_of_lt_of_le (h.2 k hk) hE.size⟩
/-- From a plain contract of pack.Writer. -/
theorem st_of {w w' : World} {S : Nat → Prop} {b : Nat} {bs : List UInt8} {long : Bool} (h : Wr w' (Nw S w) b bs long) : ∃ S1, St w' S1 b bs long ∧ ∀ k, S1 k → S k ∨ w.heap.size ≤ k :=
 ⟨fun k => Nw S w k ∧ k < w'.heap.size, ⟨h.mono (fun _ hk hS => ⟨hS, hk⟩), fun _ hk => hk.2⟩, fun _ hk => hk.1⟩
/-- Two steps. -/
theorem gr_trans {S S1 S2 : Nat → Prop} {w w1 : World} (h1 : ∀ k, S1 k → S k ∨ w.heap.size ≤ k) (h2 : ∀ k, S2 k → S1 k ∨ w1.heap.size ≤ k) (hs : w.heap.size ≤ w1.heap.size) : ∀ k, S2 k → S k ∨ w.heap.size ≤ k := fun k hk => by
 rcases h2 k hk with h | h
 ·
  exact h1 k h
 ·
  exact .inr (by omega)
theorem mod_gr {S S1 : Nat → Prop} {w w1 w2 : World} (h : Mod S w w1) (h' : Mod S1 w1 w2) (hg : ∀ k, S1 k → S k ∨ w.heap.size ≤ k) : Mod S w w2 :=
 h.trans h' (fun k hk hS => by
  rcases hg k hS with h | h
  ·
   exact h
  ·
   omega)

theorem encInts_snoc {l : List Int} {i : Nat} {x : Int} (h : l[i]? = some x) : encInts (l.take (i + 1)) = encInts (l.take i) ++ encInt x := by
 obtain ⟨hi, rfl⟩ := List.getElem?_eq_some_iff.1 h
 unfold encInts
 rw [List.take_succ_eq_append_getElem hi, List.flatMap_append]
 simp only [List.flatMap_cons, List.flatMap_nil, List.append_nil]
theorem encInts_len (l : List Int) : (encInts l).length ≤ 10 * l.length := by
 induction l with
 | nil => simp [encInts]
 | cons a l ih => have := encInt_len a; simp [encInts] at ih ⊢; omega
theorem intAt {w : World} {T : Nat → Prop} {A : Option Addr} {n c : Nat} {l : List Int} (hs : Sl w T 1 (.slice A n c) n (l.map (Value.int .i64))) {i : Nat} (hi : i < n) :
  ∃ g off x, A = some ⟨g, off, none⟩ ∧ l[i]? = some x ∧ w.cell? ⟨g, off + i, none⟩ = some (.int .i64 x) := by
 obtain ⟨hl, A', c', e, hn, hc, hx⟩ := hs
 injection e with e1 _ e3; subst e1; subst e3
 obtain ⟨g, off, rfl, hT, hcell⟩ := hx (by omega)
 have hli : i < l.length := by simp at hl; omega
 exact ⟨g, off, l[i], rfl, List.getElem?_eq_getElem hli, hcell i _ (by simp [List.getElem?_eq_getElem hli])⟩

set_option maxRecDepth 100000 in
set_option maxHeartbeats 400000 in
theorem wi_ints (w : World) (S T : Nat → Prop) (b : Nat) (bs : List UInt8) (long : Bool) (v : Value) (l : List Int) (h : St w S b bs long) (hv : Sl w T 1 v l.length (l.map (Value.int .i64))) (hd : ∀ g, T g → ¬ S g)
  (hr : ∀ n ∈ l, I64 n) (hl : l.length ≤ 16) (hb : bs.length ≤ 899999000) :
  Calls Try.prog 61 #[.pointer (some ⟨b, 0, none⟩), v] w (WOut w S b bs long (some (encInts l, false))) := by
 obtain ⟨n, hn⟩ : ∃ n, l.length = n := ⟨_, rfl⟩
 have hv := hv.cap (by omega)
 rw [hn] at hv hl
 obtain ⟨A, c, rfl⟩ := hv.form
 have Hn := Lib.hid hn
 have Hr := Lib.hid hr
 clear hn hr
 go_enter Try.func61, Try.ntmps61
 go_wp2
 go_loopw [8] (fun iv wr => ∃ (i : Nat) (S1 : Nat → Prop), i ≤ n ∧ iv = .int .i64 i ∧ St wr S1 b (bs ++ encInts (l.take i)) long ∧ (∀ k, S1 k → S k ∨ w.heap.size ≤ k) ∧ Mod S w wr) (fun iv _ => n - (intOf iv).toNat)
 case atStart => exact ⟨0, S, by omega, rfl, by simpa [encInts] using h, fun k hk => .inl hk, Mod.refl _ _⟩
 case round =>
  obtain ⟨i, S1, hin, rfl, hS, hg, hm⟩ := hrel
  have hvr := hv.mod hm (fun g hg => hd g hg.1)
  by_cases hi : i < n
  ·
   obtain ⟨g, off, x, rfl, hx, hcell⟩ := intAt hvr hi
   have hxr := Hr.out x (List.mem_of_getElem? hx)
   have hsn := encInts_snoc hx
   have hln : (bs ++ encInts (l.take i)).length ≤ 900000000 := by have := encInts_len (l.take i); rw [List.length_take] at this; simp; omega
   have Hsn := Lib.hid hsn
   clear hsn hx hvr
   go_wp2_with fail
   refine (w_int wr S1 b _ long x hS.1 (by omega) hxr.1 hxr.2).mono ?_
   rintro e w1 ⟨rfl, hW1, hm1⟩
   obtain ⟨S2, hS2, hg2⟩ := st_of hW1
   rw [List.append_assoc, ← Hsn.out] at hS2
   have hg3 := gr_trans hg hg2 hm.size
   have hm2 := mod_gr hm hm1 hg
   have Hg3 := Lib.hid hg3
   have Hg := Lib.hid hg
   clear hg3 hg2 hg
   go_wp2
   exact ⟨⟨i + 1, S2, by omega, by go_num, hS2, Hg3.out, hm2⟩, by simp [intOf]; omega⟩
  ·
   rw [List.take_of_length_le (by rw [Hn.out]; omega)] at hS
   have Hg := Lib.hid hg
   clear hg
   go_wp2
   go_end0
   exact ⟨hm, rfl, S1, by simpa using hS, Hg.out⟩

theorem conv_sb (s : ByteArray) (w : World) : (convert 9 25 (.string s)).run Try.prog w = .ok (.slice (some ⟨w.heap.size, 0, none⟩) s.size (grownCap w s.size 0 5)) (Lib.bytesWorld w 5 s) :=
 Lib.run_convert_string_bytes w _ _ _ s Try.underlying9 Try.underlying25 Try.underlying5
theorem bw_ext (w : World) (e : TypeId) (s : ByteArray) : Ext w (Lib.bytesWorld w e s) :=
 ⟨rfl, rfl, rfl, by rw [Lib.bytesWorld_size]; omega, fun k hk _ => Lib.bytesWorld_at_old w e s k hk⟩
theorem bw_byt (w : World) (e : TypeId) (s : ByteArray) (hs : s.size ≤ maxLen) : Byt (Lib.bytesWorld w e s) (fun g => w.heap.size ≤ g) (.slice (some ⟨w.heap.size, 0, none⟩) s.size (grownCap w s.size 0 e)) (bsOf s) := by
 have hl : (bsOf s).length = s.size := rfl
 refine ⟨by simp, _, _, by rw [hl], by rw [hl]; exact grownCap_ge w _ _ _, grownCap_le_maxLen w _ _ _ hs, fun _ => ⟨_, 0, rfl, Nat.le_refl _, fun j u hu => ?_⟩⟩
 have hj : j < s.size := by have := (List.getElem?_eq_some_iff.1 hu).1; simpa using this
 rw [Nat.zero_add, Lib.bytesWorld_cell w e s j hj, ← hu]
 have hjl : j < s.data.toList.length := by simpa using hj
 rw [List.getElem?_map, List.getElem?_eq_getElem hjl, Option.map_some, List.getD, List.getElem?_eq_getElem hjl]
 rfl
attribute [local go_sem high] conv_sb

theorem seq_none (b : WO) : WO.seq none b = none := by cases b <;> rfl
theorem seq_some_none (x : List UInt8) (l : Bool) : WO.seq (some (x, l)) none = none := rfl
theorem seq_some (x y : List UInt8) (l m : Bool) : WO.seq (some (x, l)) (some (y, m)) = some (x ++ y, l || m) := rfl

theorem fin_some {w wb w1 : World} {S S1 : Nat → Prop} {b : Nat} {bs d : List UInt8} {long l : Bool} {o : WO} (hE : Ext w wb) (hm : Mod S wb w1) (hS : St w1 S1 b (bs ++ d) (long || l)) (hg : ∀ k, S1 k → S k ∨ wb.heap.size ≤ k) (ho : o = some (d, l)) :
  WOut w S b bs long o (.returned (.tuple #[])) w1 := by
 subst ho
 exact ⟨(hE.mod S).self hm, rfl, S1, hS, fun k hk => (hg k hk).imp id (fun h => Nat.le_trans hE.size h)⟩
theorem fin_none {w wb w1 : World} {S : Nat → Prop} {b : Nat} {bs : List UInt8} {long : Bool} {o : WO} (hE : Ext w wb) (hm : Mod S wb w1) (ho : o = none) : WOut w S b bs long o (thrown 3) w1 := by
 subst ho
 exact ⟨(hE.mod S).self hm, rfl⟩

set_option maxRecDepth 100000 in
set_option maxHeartbeats 1000000 in
theorem wi_value (w : World) (S : Nat → Prop) (b : Nat) (bs : List UInt8) (long : Bool) (v : AVal) (h : St w S b bs long) (hv : v.ok) (hb : bs.length ≤ 899000000) :
  Calls Try.prog 91 #[.pointer (some ⟨b, 0, none⟩), .agg #[.int .i64 v.kind, .float .f64 v.num, .string v.text]] w (WOut w S b bs long (wValue v)) := by
 obtain ⟨⟨k0, k1⟩, hx, ht⟩ := hv
 have hT : v.text.toList.isEmpty = isEmptyT v.text := rfl
 obtain ⟨wb, hwb⟩ : ∃ wb, wb = (w.alloc (.cells #[.int .i64 v.kind, .float .f64 v.num, .string v.text] 38)).drew := ⟨_, rfl⟩
 have hE : Ext w wb := by rw [hwb]; exact ((Mod.refl _ w).alloc _).drew
 have hSb := h.of_ext hE
 have hnS : ¬ S w.heap.size := fun hs => by have := h.2 _ hs; omega
 have hcs : ∀ w1, Mod S wb w1 → w1.cell? ⟨w.heap.size, 0, none⟩ = some (.int .i64 v.kind) ∧ w1.cell? ⟨w.heap.size, 1, none⟩ = some (.float .f64 v.num) ∧ w1.cell? ⟨w.heap.size, 2, none⟩ = some (.string v.text) := by
  intro w1 hm
  refine ⟨hm.cell ?_ hnS, hm.cell ?_ hnS, hm.cell ?_ hnS⟩ <;> rw [hwb] <;> simp
 have hcl := encInt_len v.kind
 have Hwb := Lib.hid hwb
 have Hcs := Lib.hid hcs
 have Hx := Lib.hid hx
 have Ht := Lib.hid ht
 clear hwb hcs hx ht
 go_enter Try.func91, Try.ntmps91
 go_wp2_with fail
 go_region_held3 (fun W => W.cell? ⟨w.heap.size, 0, none⟩ = some (.int .i64 v.kind)) (first | go_keep | exact hx0)
  ((go_at_call 67
    rw [← Hwb.out]
    refine (w_int wb S b bs long v.kind hSb.1 (by omega) k0 k1).mono ?_
    rintro e w1 ⟨rfl, hW1, hm1⟩
    obtain ⟨hx0, hx1, hx2⟩ := Hcs.out w1 hm1))
 obtain ⟨S1, hS1, hg1⟩ := st_of hW1
 have hs1 := hm1.size
 have hsE := hE.size
 have hn1 : ¬ S1 w.heap.size := fun hs => by
  rcases hg1 _ hs with h | h
  ·
   exact hnS h
  ·
   rw [Hwb.out] at h; simp at h; omega
 have Hg1 := Lib.hid hg1
 clear hg1
 by_cases e0 : v.kind = 0
 ·
  have d0 : (v.kind == 0) = true := by simp [e0]
  have Hs : Hid (wValue v = WO.seq (some (encInt v.kind, false)) (wMust (sameNum v.num 0 && isEmptyT v.text))) := Lib.hid (by simp [wValue, e0, wRaw])
  clear e0
  go_wp2_with fail
  refine (same_any _ _ _).mono ?_
  rintro e w' ⟨rfl, rfl⟩
  rcases hq : (sameNum v.num 0 && isEmptyT v.text) with _ | _
  ·
   rcases h1 : sameNum v.num 0 with _ | _
   ·
    go_wp2_with fail
    refine (must_no _).mono ?_
    rintro e w' ⟨rfl, rfl⟩
    exact ⟨rfl, fin_none hE hm1 (by rw [Hs.out, hq]; rfl)⟩
   ·
    have h2 : isEmptyT v.text = false := by simpa [h1] using hq
    go_wp2_with fail
    refine (must_no _).mono ?_
    rintro e w' ⟨rfl, rfl⟩
    exact ⟨rfl, fin_none hE hm1 (by rw [Hs.out, hq]; rfl)⟩
  ·
   have h1 : sameNum v.num 0 = true := by simp at hq; exact hq.1
   have h2 : isEmptyT v.text = true := by simp at hq; exact hq.2
   go_wp2_with fail
   refine (must_yes _).mono ?_
   rintro e w' ⟨rfl, rfl⟩
   go_wp2
   go_end0
   exact fin_some (d := encInt v.kind) (l := false) hE hm1 (by simpa using hS1) Hg1.out (by rw [Hs.out, hq]; simp [wMust, seq_some])
 ·
  have d0 : (v.kind == 0) = false := by simp [e0]
  by_cases e1 : v.kind = 1
  ·
   have d1 : (v.kind == 1) = true := by simp [e1]
   have Hs : Hid (wValue v = WO.seq (some (encInt v.kind, false)) ((wMust (canonB v.num && isEmptyT v.text)).seq (some (encFloat v.num, false)))) := Lib.hid (by simp [wValue, e1, wRaw])
   clear e0 e1
   go_wp2_with fail
   refine (wcanon_any _ _).mono ?_
   rintro e w' ⟨rfl, rfl⟩
   rcases hq : (canonB v.num && isEmptyT v.text) with _ | _
   ·
    rcases h1 : canonB v.num with _ | _
    ·
     go_wp2_with fail
     refine (must_no _).mono ?_
     rintro e w' ⟨rfl, rfl⟩
     exact ⟨rfl, fin_none hE hm1 (by rw [Hs.out, hq]; rfl)⟩
    ·
     have h2 : isEmptyT v.text = false := by simpa [h1] using hq
     go_wp2_with fail
     refine (must_no _).mono ?_
     rintro e w' ⟨rfl, rfl⟩
     exact ⟨rfl, fin_none hE hm1 (by rw [Hs.out, hq]; rfl)⟩
   ·
    have h1 : canonB v.num = true := by simp at hq; exact hq.1
    have h2 : isEmptyT v.text = true := by simp at hq; exact hq.2
    go_wp2_with fail
    refine (must_yes _).mono ?_
    rintro e w' ⟨rfl, rfl⟩
    go_wp2_with fail
    go_region_held3 (fun W => W.cell? ⟨w.heap.size, 1, none⟩ = some (.float .f64 v.num)) (first | go_keep | exact hy)
     ((go_at_call 103
       refine (w_float w1.drew S1 b (bs ++ encInt v.kind) long v.num hS1.1 (by simp; omega)).mono ?_
       rintro e w2 ⟨rfl, hW2, hm2⟩
       have hy : w2.cell? ⟨w.heap.size, 1, none⟩ = some (.float .f64 v.num) := hm2.cell hx1 hn1))
    obtain ⟨S2, hS2, hg2⟩ := st_of hW2
    have hm3 := mod_gr hm1.drew hm2 Hg1.out
    have hg3 := gr_trans Hg1.out hg2 hs1
    have Hg3 := Lib.hid hg3
    clear hg3 hg2
    go_wp2
    go_end0
    exact fin_some (d := encInt v.kind ++ encFloat v.num) (l := false) hE hm3 (by simpa using hS2) Hg3.out (by rw [Hs.out, hq]; simp [wMust, seq_some])
  ·
   have d1 : (v.kind == 1) = false := by simp [e1]
   by_cases e2 : v.kind = 2
   ·
    have d2 : (v.kind == 2) = true := by simp [e2]
    have Hs : Hid (wValue v = WO.seq (some (encInt v.kind, false)) ((wMust (sameNum v.num 0)).seq (wText (bsOf v.text)))) := Lib.hid (by simp [wValue, e2, wRaw])
    clear e0 e1 e2
    go_wp2_with fail
    refine (same_any _ _ _).mono ?_
    rintro e w' ⟨rfl, rfl⟩
    rcases hq : sameNum v.num 0 with _ | _
    ·
     go_wp2_with fail
     refine (must_no _).mono ?_
     rintro e w' ⟨rfl, rfl⟩
     exact ⟨rfl, fin_none hE hm1 (by rw [Hs.out, hq]; rfl)⟩
    ·
     go_wp2_with fail
     refine (must_yes _).mono ?_
     rintro e w' ⟨rfl, rfl⟩
     have hbe := bw_ext w1.drew 5 v.text
     have hbb := bw_byt w1.drew 5 v.text Ht.out
     have hSt : St (Lib.bytesWorld w1.drew 5 v.text) S1 b (bs ++ encInt v.kind) long := St.of_ext (w := w1.drew) hS1 hbe
     have hcb : (Lib.bytesWorld w1.drew 5 v.text).cell? ⟨w.heap.size, 2, none⟩ = some (.string v.text) := hbe.cell (show w1.drew.cell? _ = _ from hx2) id
     have hm1b : Mod S wb (Lib.bytesWorld w1.drew 5 v.text) := hm1.drew.ext hbe
     have hsb := hm1b.size
     have hln : (bsOf v.text).length = v.text.size := rfl
     have hdis : ∀ g, w1.drew.heap.size ≤ g → ¬ S1 g := fun g h1 h2 => by have h3 := hS1.2 g h2; have h4 : w1.heap.size ≤ g := h1; omega
     by_cases h5 : 16384 < v.text.size
     ·
      have Ho : Hid (wValue v = some (encInt v.kind, true)) := Lib.hid (by rw [Hs.out, hq]; simp [wMust, seq_some, wText, hln, h5])
      go_wp2_with fail
      go_region_with
       ((go_at_call 66
         refine (w_text_long _ S1 _ b (bs ++ encInt v.kind) (bsOf v.text) long _ hSt.1 hbb (by rw [hln]; exact h5)).mono ?_
         rintro e w2 ⟨rfl, hW2, hm2⟩))
      obtain ⟨S2, hS2, hg2⟩ := st_of hW2
      have hm3 := mod_gr hm1b hm2 Hg1.out
      have hg3 := gr_trans Hg1.out hg2 hsb
      have Hg3 := Lib.hid hg3
      clear hg3 hg2
      go_wp2
      go_end0
      exact fin_some (d := encInt v.kind) (l := true) hE hm3 (by simpa using hS2) Hg3.out Ho.out
     ·
      have Ho : Hid (wValue v = some (encInt v.kind ++ encText (bsOf v.text), false)) := Lib.hid (by rw [Hs.out, hq]; simp [wMust, seq_some, wText, hln, h5])
      go_wp2_with fail
      go_region_with
       ((go_at_call 66
         refine (w_text _ S1 _ b (bs ++ encInt v.kind) (bsOf v.text) long _ hSt.1 (by simp; omega) hbb hdis (by rw [hln]; omega)).mono ?_
         rintro e w2 ⟨rfl, hW2, hm2⟩))
      obtain ⟨S2, hS2, hg2⟩ := st_of hW2
      have hm3 := mod_gr hm1b hm2 Hg1.out
      have hg3 := gr_trans Hg1.out hg2 hsb
      have Hg3 := Lib.hid hg3
      clear hg3 hg2
      go_wp2
      go_end0
      exact fin_some (d := encInt v.kind ++ encText (bsOf v.text)) (l := false) hE hm3 (by simpa using hS2) Hg3.out Ho.out
   ·
    have d2 : (v.kind == 2) = false := by simp [e2]
    have Hs : Hid (wValue v = none) := Lib.hid (by simp [wValue, e0, e1, e2, wRaw, seq_some_none])
    go_wp2_with fail
    refine (must_no _).mono ?_
    rintro e w' ⟨rfl, rfl⟩
    exact ⟨rfl, fin_none hE hm1 Hs.out⟩

/-- A text, long or not. -/
theorem w_text_any (w : World) (S T : Nat → Prop) (b : Nat) (bs t : List UInt8) (long : Bool) (v : Value) (h : Wr w S b bs long) (hl : bs.length ≤ 900000000) (ht : Byt w T v t) (hd : ∀ g, T g → ¬ S g) :
  Calls Try.prog 66 #[.pointer (some ⟨b, 0, none⟩), v] w fun e w' =>
   e = .returned (.tuple #[]) ∧ (∃ D L, wText t = some (D, L) ∧ Wr w' (Nw S w) b (bs ++ D) (long || L)) ∧ Mod S w w' := by
 by_cases h5 : 16384 < t.length
 ·
  refine (w_text_long w S T b bs t long v h ht h5).mono ?_
  rintro e w' ⟨rfl, h1, h2⟩
  exact ⟨rfl, ⟨[], true, by simp [wText, h5], by simpa using h1⟩, h2⟩
 ·
  refine (w_text w S T b bs t long v h hl ht hd (by omega)).mono ?_
  rintro e w' ⟨rfl, h1, h2⟩
  exact ⟨rfl, ⟨encText t, false, by simp [wText, h5], by simpa using h1⟩, h2⟩
end Go.Proofs.Ytfkacakbengboaa
