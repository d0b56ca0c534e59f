/-
  Contracts of package wire's writer. Conditions: as each theorem names them.
-/
import Derived.Test.YtjhnlncgmejkcaaGreatS5
import Derived.Lib.ConvBytes
import Derived.Test.YtjhnlncgmejkcaaGreatMem
import Derived.ProofKit
import Derived.OpenShut
import Derived.ShutString
import Derived.ChangeOld
import Derived.Deep.Slices
import Derived.Deep.Fields
set_option maxRecDepth 100000
set_option maxHeartbeats 2000000
namespace Go.Proofs.YtjhnlncgmejkcaaGreat
open Go.RowKit
attribute [local go_sem] yP jA
theorem St.of_ext {w w' : World} {S : Nat → Prop} {b : Nat} {bs : List UInt8} {long : Bool} (h : St w S b bs long) (hE : Ext w w') : St w' S b bs long :=
 ⟨h.1.mod hE (fun _ _ => id), fun k hk => Nat.lt_of_lt_of_le (h.2 k hk) hE.size⟩
theorem zh1 {w w' : World} {S : Nat → Prop} {b : Nat} {bs : List UInt8} {long : Bool} (h : Wr w' (Nw S w) b bs long) : ∃ S1, St w' S1 b bs long ∧ ∀ k, S1 k → S k ∨ w.heap.size ≤ k :=
 ⟨fun k => Nw S w k ∧ k < w'.heap.size, ⟨h.mono (fun _ hk hS => ⟨hS, hk⟩), fun _ hk => hk.2⟩, fun _ hk => hk.1⟩
theorem jW {S S1 S2 : Nat → Prop} {w w1 : World} (h1 : ∀ k, S1 k → S k ∨ w.heap.size ≤ k) (h2 : ∀ k, S2 k → S1 k ∨ w1.heap.size ≤ k) (hs : w.heap.size ≤ w1.heap.size) : ∀ k, S2 k → S k ∨ w.heap.size ≤ k := fun k hk => by
 rcases h2 k hk with h | h
 · exact h1 k h
 exact .inr (by omega)
theorem zb6 {S S1 : Nat → Prop} {w w1 w2 : World} (h : Mod S w w1) (h' : Mod S1 w1 w2) (hg : ∀ k, S1 k → S k ∨ w.heap.size ≤ k) : Mod S w w2 :=
 h.trans h' (fun k hk hS => by
  rcases hg k hS with h | h
  · exact h
  omega)
theorem zi2 {l : List Int} {i : Nat} {x : Int} (h : l[i]? = some x) : zQ (l.take (i + 1)) = zQ (l.take i) ++ zS x := by
 obtain ⟨hi, rfl⟩ := List.getElem?_eq_some_iff.1 h
 unfold zQ
 rw [List.take_succ_eq_append_getElem hi, List.flatMap_append]
 simp only [List.flatMap_cons, List.flatMap_nil, List.append_nil]
theorem yM (l : List Int) : (zQ l).length ≤ 10 * l.length := by
 induction l with
 | nil => simp [zQ]
 | cons a l ih => have := zV a; simp [zQ] at ih ⊢; omega
theorem intAtV {w : World} {T : Nat → Prop} {A : Option Addr} {n c : Nat} {l : List Int} (hs : Sl w T 1 (.slice A n c) n (l.map (Value.int .i64))) {i : Nat} (hi : i < n) :
  ∃ g off x, A = some ⟨g, off, none⟩ ∧ l[i]? = some x ∧ w.cell? ⟨g, off + i, none⟩ = some (.int .i64 x) := by
 obtain ⟨hl, A', c', e, hn, hc, hx⟩ := hs
 injection e with e1 _ e3; subst e1; subst e3
 obtain ⟨g, off, rfl, hT, hcell⟩ := hx (by omega)
 have hli : i < l.length := by simp at hl; omega
 exact ⟨g, off, l[i], rfl, List.getElem?_eq_getElem hli, hcell i _ (by simp [List.getElem?_eq_getElem hli])⟩
theorem zh2 (w : World) (S T : Nat → Prop) (b : Nat) (bs : List UInt8) (long : Bool) (v : Value) (l : List Int) (h : St w S b bs long) (hv : Sl w T 1 v l.length (l.map (Value.int .i64))) (hd : ∀ g, T g → ¬ S g)
  (hr : ∀ n ∈ l, I64 n) (hl : l.length ≤ 16) (hb : bs.length ≤ 899999000) :
  Calls Tryz.prog 166 #[.pointer (some ⟨b, 0, none⟩), v] w (znQ w S b bs long (some (zQ l, false))) := by
 obtain ⟨n, hn⟩ : ∃ n, l.length = n := ⟨_, rfl⟩
 have hv := hv.cap (by omega)
 rw [hn] at hv hl
 obtain ⟨A, c, rfl⟩ := hv.form
 have Hn := hJ hn
 have Hr := hJ hr
 clear hn hr
 go_enter Tryz.func166, Tryz.ntmps166
 go_wp2
 go_loopw [8] (fun iv wr => ∃ (i : Nat) (S1 : Nat → Prop), i ≤ n ∧ iv = .int .i64 i ∧ St wr S1 b (bs ++ zQ (l.take i)) long ∧ (∀ k, S1 k → S k ∨ w.heap.size ≤ k) ∧ Mod S w wr) (fun iv _ => n - (intOf iv).toNat)
 case atStart => exact ⟨0, S, by omega, rfl, by simpa [zQ] using h, fun k hk => .inl hk, Mod.refl _ _⟩
 obtain ⟨i, S1, hin, rfl, hS, hg, hm⟩ := hrel
 have hvr := hv.mod hm (fun g hg => hd g hg.1)
 by_cases hi : i < n
 ·
  obtain ⟨g, off, x, rfl, hx, hcell⟩ := intAtV hvr hi
  have hxr := Hr.out x (List.mem_of_getElem? hx)
  have hsn := zi2 hx
  have hln : (bs ++ zQ (l.take i)).length ≤ 900000000 := by have := yM (l.take i); rw [List.length_take] at this; simp; omega
  have Hsn := hJ hsn
  clear hsn hx hvr
  go_wp2_with fail
  refine (zn0 wr S1 b _ long x hS.1 (by omega) hxr.1 hxr.2).mono ?_
  rintro e w1 ⟨rfl, hW1, hm1⟩
  obtain ⟨S2, hS2, hg2⟩ := zh1 hW1
  rw [List.append_assoc, ← Hsn.out] at hS2
  have hg3 := jW hg hg2 hm.size
  have hm2 := zb6 hm hm1 hg
  have Hg3 := hJ hg3
  have Hg := hJ hg
  clear hg3 hg2 hg
  go_wp2
  exact ⟨⟨i + 1, S2, by omega, by go_num, hS2, Hg3.out, hm2⟩, by simp [intOf]; omega⟩
 rw [List.take_of_length_le (by rw [Hn.out]; omega)] at hS
 have Hg := hJ hg
 clear hg
 go_wp2
 go_end0
 exact ⟨hm, rfl, S1, by simpa using hS, Hg.out⟩
theorem zlN (s : ByteArray) (w : World) : (convert 9 25 (.string s)).run Tryz.prog w = .ok (.slice (some ⟨w.heap.size, 0, none⟩) s.size (grownCap w s.size 0 5)) (Lib.bytesWorld w 5 s) :=
 Lib.run_convert_string_bytes w _ _ _ s Tryz.underlying9 Tryz.underlying25 Tryz.underlying5
theorem zoW (w : World) (e : TypeId) (s : ByteArray) : Ext w (Lib.bytesWorld w e s) :=
 ⟨rfl, rfl, rfl, by rw [Lib.bytesWorld_size]; omega, fun k hk _ => Lib.bytesWorld_at_old w e s k hk⟩
theorem zoX (w : World) (e : TypeId) (s : ByteArray) (hs : s.size ≤ maxLen) : Byt (Lib.bytesWorld w e s) (fun g => w.heap.size ≤ g) (.slice (some ⟨w.heap.size, 0, none⟩) s.size (grownCap w s.size 0 e)) (zaF s) := by
 have hl : (zaF s).length = s.size := rfl
 refine ⟨by simp, _, _, by rw [hl], by rw [hl]; exact grownCap_ge w _ _ _, grownCap_le_maxLen w _ _ _ hs, fun _ => ⟨_, 0, rfl, Nat.le_refl _, fun j u hu => ?_⟩⟩
 have hj : j < s.size := by have := (List.getElem?_eq_some_iff.1 hu).1; simpa using this
 rw [Nat.zero_add, Lib.bytesWorld_cell w e s j hj, ← hu]
 have hjl : j < s.data.toList.length := by simpa using hj
 rw [List.getElem?_map, List.getElem?_eq_getElem hjl, Option.map_some, List.getD, List.getElem?_eq_getElem hjl]
 rfl
attribute [local go_sem high] zlN
theorem zcD (b : WO) : WO.seq none b = none := by cases b <;> rfl
theorem xN (x : List UInt8) (l : Bool) : WO.seq (some (x, l)) none = none := rfl
theorem xA (x y : List UInt8) (l m : Bool) : WO.seq (some (x, l)) (some (y, m)) = some (x ++ y, l || m) := rfl
theorem jX {w wb w1 : World} {S S1 : Nat → Prop} {b : Nat} {bs d : List UInt8} {long l : Bool} {o : WO} (hE : Ext w wb) (hm : Mod S wb w1) (hS : St w1 S1 b (bs ++ d) (long || l)) (hg : ∀ k, S1 k → S k ∨ wb.heap.size ≤ k) (ho : o = some (d, l)) :
  znQ w S b bs long o (.returned (.tuple #[])) w1 := by
 subst ho
 exact ⟨(hE.mod S).self hm, rfl, S1, hS, fun k hk => (hg k hk).imp id (fun h => Nat.le_trans hE.size h)⟩
theorem xV {w wb w1 : World} {S : Nat → Prop} {b : Nat} {bs : List UInt8} {long : Bool} {o : WO} (hE : Ext w wb) (hm : Mod S wb w1) (ho : o = none) : znQ w S b bs long o (zdW 3) w1 := by
 subst ho
 exact ⟨(hE.mod S).self hm, rfl⟩
theorem zlO (w : World) (S : Nat → Prop) (b : Nat) (bs : List UInt8) (long : Bool) (v : jY) (h : St w S b bs long) (hv : v.ok) (hb : bs.length ≤ 899000000) :
  Calls Tryz.prog 195 #[.pointer (some ⟨b, 0, none⟩), .agg #[.int .i64 v.kind, .float .f64 v.num, .string v.text]] w (znQ w S b bs long (qB v)) := by
 obtain ⟨⟨k0, k1⟩, hx, ht⟩ := hv
 have hT : v.text.toList.isEmpty = zX v.text := rfl
 obtain ⟨wb, hwb⟩ : ∃ wb, wb = (w.alloc (.cells #[.int .i64 v.kind, .float .f64 v.num, .string v.text] 50)).drew := ⟨_, rfl⟩
 have hE : Ext w wb := by rw [hwb]; exact ((Mod.refl _ w).alloc _).drew
 have hSb := h.of_ext hE
 have hnS : ¬ S w.heap.size := fun hs => by have := h.2 _ hs; omega
 have hcs : ∀ w1, Mod S wb w1 → w1.cell? ⟨w.heap.size, 0, none⟩ = some (.int .i64 v.kind) ∧ w1.cell? ⟨w.heap.size, 1, none⟩ = some (.float .f64 v.num) ∧ w1.cell? ⟨w.heap.size, 2, none⟩ = some (.string v.text) := by
  intro w1 hm
  refine ⟨hm.cell ?_ hnS, hm.cell ?_ hnS, hm.cell ?_ hnS⟩ <;> rw [hwb] <;> simp
 have hcl := zV v.kind
 have Hwb := hJ hwb
 have Hcs := hJ hcs
 have Hx := hJ hx
 have Ht := hJ ht
 clear hwb hcs hx ht
 go_enter Tryz.func195, Tryz.ntmps195
 go_wp2_with fail
 go_region_held3 (fun W => W.cell? ⟨w.heap.size, 0, none⟩ = some (.int .i64 v.kind)) (first | go_keep | exact hx0)
  ((go_at_call 140
    rw [← Hwb.out]
    refine (zn0 wb S b bs long v.kind hSb.1 (by omega) k0 k1).mono ?_
    rintro e w1 ⟨rfl, hW1, hm1⟩
    obtain ⟨hx0, hx1, hx2⟩ := Hcs.out w1 hm1))
 obtain ⟨S1, hS1, hg1⟩ := zh1 hW1
 have hs1 := hm1.size
 have hsE := hE.size
 have hn1 : ¬ S1 w.heap.size := fun hs => by
  rcases hg1 _ hs with h | h
  · exact hnS h
  rw [Hwb.out] at h; simp at h; omega
 have Hg1 := hJ hg1
 clear hg1
 by_cases e0 : v.kind = 0
 ·
  have d0 : (v.kind == 0) = true := by simp [e0]
  have Hs : Hid (qB v = WO.seq (some (zS v.kind, false)) (qF (xC v.num 0 && zX v.text))) := hJ (by simp [qB, e0, zcH])
  clear e0
  go_wp2_with fail
  refine (zh0 _ _ _).mono ?_
  rintro e w' ⟨rfl, rfl⟩
  rcases hq : (xC v.num 0 && zX v.text) with _ | _
  ·
   rcases h1 : xC v.num 0 with _ | _
   focus
    go_wp2_with fail
   rotate_left
   focus
    have h2 : zX v.text = false := by simpa [h1] using hq
    go_wp2_with fail
   all_goals
    refine (zaI _).mono ?_
    rintro e w' ⟨rfl, rfl⟩
    exact ⟨rfl, xV hE hm1 (by rw [Hs.out, hq]; rfl)⟩
  have h1 : xC v.num 0 = true := by simp at hq; exact hq.1
  have h2 : zX v.text = true := by simp at hq; exact hq.2
  go_wp2_with fail
  refine (zaH _).mono ?_
  rintro e w' ⟨rfl, rfl⟩
  go_wp2
  go_end0
  exact jX (d := zS v.kind) (l := false) hE hm1 (by simpa using hS1) Hg1.out (by rw [Hs.out, hq]; simp [qF, xA])
 have d0 : (v.kind == 0) = false := by simp [e0]
 by_cases e1 : v.kind = 1
 ·
  have d1 : (v.kind == 1) = true := by simp [e1]
  have Hs : Hid (qB v = WO.seq (some (zS v.kind, false)) ((qF (za4 v.num && zX v.text)).seq (some (yT v.num, false)))) := hJ (by simp [qB, e1, zcH])
  clear e0 e1
  go_wp2_with fail
  refine (zm0 _ _).mono ?_
  rintro e w' ⟨rfl, rfl⟩
  rcases hq : (za4 v.num && zX v.text) with _ | _
  ·
   rcases h1 : za4 v.num with _ | _
   focus
    go_wp2_with fail
   rotate_left
   focus
    have h2 : zX v.text = false := by simpa [h1] using hq
    go_wp2_with fail
   all_goals
    refine (zaI _).mono ?_
    rintro e w' ⟨rfl, rfl⟩
    exact ⟨rfl, xV hE hm1 (by rw [Hs.out, hq]; rfl)⟩
  have h1 : za4 v.num = true := by simp at hq; exact hq.1
  have h2 : zX v.text = true := by simp at hq; exact hq.2
  go_wp2_with fail
  refine (zaH _).mono ?_
  rintro e w' ⟨rfl, rfl⟩
  go_wp2_with fail
  go_region_held3 (fun W => W.cell? ⟨w.heap.size, 1, none⟩ = some (.float .f64 v.num)) (first | go_keep | exact hy)
   ((go_at_call 203
     refine (w_float w1.drew S1 b (bs ++ zS v.kind) long v.num hS1.1 (by simp; omega)).mono ?_
     rintro e w2 ⟨rfl, hW2, hm2⟩
     have hy : w2.cell? ⟨w.heap.size, 1, none⟩ = some (.float .f64 v.num) := hm2.cell hx1 hn1))
  obtain ⟨S2, hS2, hg2⟩ := zh1 hW2
  have hm3 := zb6 hm1.drew hm2 Hg1.out
  have hg3 := jW Hg1.out hg2 hs1
  have Hg3 := hJ hg3
  clear hg3 hg2
  go_wp2
  go_end0
  exact jX (d := zS v.kind ++ yT v.num) (l := false) hE hm3 (by simpa using hS2) Hg3.out (by rw [Hs.out, hq]; simp [qF, xA])
 have d1 : (v.kind == 1) = false := by simp [e1]
 by_cases e2 : v.kind = 2
 ·
  have d2 : (v.kind == 2) = true := by simp [e2]
  have Hs : Hid (qB v = WO.seq (some (zS v.kind, false)) ((qF (xC v.num 0)).seq (zbT (zaF v.text)))) := hJ (by simp [qB, e2, zcH])
  clear e0 e1 e2
  go_wp2_with fail
  refine (zh0 _ _ _).mono ?_
  rintro e w' ⟨rfl, rfl⟩
  rcases hq : xC v.num 0 with _ | _
  ·
   go_wp2_with fail
   refine (zaI _).mono ?_
   rintro e w' ⟨rfl, rfl⟩
   exact ⟨rfl, xV hE hm1 (by rw [Hs.out, hq]; rfl)⟩
  go_wp2_with fail
  refine (zaH _).mono ?_
  rintro e w' ⟨rfl, rfl⟩
  have hbe := zoW w1.drew 5 v.text
  have hbb := zoX w1.drew 5 v.text Ht.out
  have hSt : St (Lib.bytesWorld w1.drew 5 v.text) S1 b (bs ++ zS v.kind) long := St.of_ext (w := w1.drew) hS1 hbe
  have hcb : (Lib.bytesWorld w1.drew 5 v.text).cell? ⟨w.heap.size, 2, none⟩ = some (.string v.text) := hbe.cell (show w1.drew.cell? _ = _ from hx2) id
  have hm1b : Mod S wb (Lib.bytesWorld w1.drew 5 v.text) := hm1.drew.ext hbe
  have hsb := hm1b.size
  have hln : (zaF v.text).length = v.text.size := rfl
  have hdis : ∀ g, w1.drew.heap.size ≤ g → ¬ S1 g := fun g h1 h2 => by have h3 := hS1.2 g h2; have h4 : w1.heap.size ≤ g := h1; omega
  by_cases h5 : 16384 < v.text.size
  ·
   have Ho : Hid (qB v = some (zS v.kind, true)) := hJ (by rw [Hs.out, hq]; simp [qF, xA, zbT, hln, h5])
   go_wp2_with fail
   go_region_with
    ((go_at_call 168
      refine (zdD _ S1 _ b (bs ++ zS v.kind) (zaF v.text) long _ hSt.1 hbb (by rw [hln]; exact h5)).mono ?_
      rintro e w2 ⟨rfl, hW2, hm2⟩))
   obtain ⟨S2, hS2, hg2⟩ := zh1 hW2
   have hm3 := zb6 hm1b hm2 Hg1.out
   have hg3 := jW Hg1.out hg2 hsb
   have Hg3 := hJ hg3
   clear hg3 hg2
   go_wp2
   go_end0
   exact jX (d := zS v.kind) (l := true) hE hm3 (by simpa using hS2) Hg3.out Ho.out
  have Ho : Hid (qB v = some (zS v.kind ++ yH (zaF v.text), false)) := hJ (by rw [Hs.out, hq]; simp [qF, xA, zbT, hln, h5])
  go_wp2_with fail
  go_region_with
   ((go_at_call 168
     refine (zn1 _ S1 _ b (bs ++ zS v.kind) (zaF v.text) long _ hSt.1 (by simp; omega) hbb hdis (by rw [hln]; omega)).mono ?_
     rintro e w2 ⟨rfl, hW2, hm2⟩))
  obtain ⟨S2, hS2, hg2⟩ := zh1 hW2
  have hm3 := zb6 hm1b hm2 Hg1.out
  have hg3 := jW Hg1.out hg2 hsb
  have Hg3 := hJ hg3
  clear hg3 hg2
  go_wp2
  go_end0
  exact jX (d := zS v.kind ++ yH (zaF v.text)) (l := false) hE hm3 (by simpa using hS2) Hg3.out Ho.out
 have d2 : (v.kind == 2) = false := by simp [e2]
 have Hs : Hid (qB v = none) := hJ (by simp [qB, e0, e1, e2, zcH, xN])
 go_wp2_with fail
 refine (zaI _).mono ?_
 rintro e w' ⟨rfl, rfl⟩
 exact ⟨rfl, xV hE hm1 Hs.out⟩
theorem zm1 (w : World) (S T : Nat → Prop) (b : Nat) (bs t : List UInt8) (long : Bool) (v : Value) (h : Wr w S b bs long) (hl : bs.length ≤ 900000000) (ht : Byt w T v t) (hd : ∀ g, T g → ¬ S g) :
  Calls Tryz.prog 168 #[.pointer (some ⟨b, 0, none⟩), v] w fun e w' =>
   e = .returned (.tuple #[]) ∧ (∃ D L, zbT t = some (D, L) ∧ Wr w' (Nw S w) b (bs ++ D) (long || L)) ∧ Mod S w w' := by
 by_cases h5 : 16384 < t.length
 ·
  refine (zdD w S T b bs t long v h ht h5).mono ?_
  rintro e w' ⟨rfl, h1, h2⟩
  exact ⟨rfl, ⟨[], true, by simp [zbT, h5], by simpa using h1⟩, h2⟩
 refine (zn1 w S T b bs t long v h hl ht hd (by omega)).mono ?_
 rintro e w' ⟨rfl, h1, h2⟩
 exact ⟨rfl, ⟨yH t, false, by simp [zbT, h5], by simpa using h1⟩, h2⟩
end Go.Proofs.YtjhnlncgmejkcaaGreat
namespace Go.Proofs.YtjhnlncgmejkcaaGreat
open Go.RowKit
attribute [local go_sem] yP jA
attribute [local go_sem high] zlN
theorem zcM (t : List UInt8) : ∀ d l, zbT t = some (d, l) → d.length ≤ 16400 := by
 intro d l h
 have := zV t.length
 unfold zbT at h
 split at h <;> simp at h <;> obtain ⟨rfl, _⟩ := h
 · simp
 simp [yH]; omega
theorem zaA {a b : WO} {m n : Nat} (ha : ∀ d l, a = some (d, l) → d.length ≤ m) (hb : ∀ d l, b = some (d, l) → d.length ≤ n) : ∀ d l, a.seq b = some (d, l) → d.length ≤ m + n := by
 intro d l h
 rcases a with _ | ⟨x, p⟩
 · rw [zcD] at h; cases h
 rcases b with _ | ⟨y, q⟩
 · rw [xN] at h; cases h
 rw [xA] at h
 simp at h
 have := ha x p rfl
 have := hb y q rfl
 rw [← h.1]; simp; omega
theorem zaW {x : List UInt8} {n : Nat} (h : x.length ≤ n) : ∀ d l, zcH x = some (d, l) → d.length ≤ n := by
 intro d l e; simp [zcH] at e; rw [← e.1]; exact h
theorem zb7 (b : Bool) : ∀ d l, qF b = some (d, l) → d.length ≤ 0 := by
 intro d l e; unfold qF at e; split at e <;> simp at e; obtain ⟨rfl, _⟩ := e; simp
theorem zeN (v : jY) : ∀ d l, qB v = some (d, l) → d.length ≤ 20000 := by
 intro d l h
 have h0 : ∀ x, (zcH (zS v.kind)).seq x = qB v → (∀ d l, x = some (d, l) → d.length ≤ 19000) → d.length ≤ 20000 := by
  intro x hx hl
  have := zaA (zaW (zV v.kind)) hl d l (hx.trans h)
  omega
 refine h0 _ rfl ?_
 intro d l h
 split at h
 · have := zb7 _ d l h; omega
 split at h
 · have := zaA (zb7 _) (zaW (n := 8) (by simp [yT, hib])) d l h; omega
 split at h
 · have := zaA (zb7 _) (zcM _) d l h; omega
 cases h
theorem wi_call (w : World) (S : Nat → Prop) (b : Nat) (bs : List UInt8) (long : Bool) (c : yK) (h : St w S b bs long) (hv : c.ok) (hb : bs.length ≤ 898000000) :
  Calls Tryz.prog 183 #[.pointer (some ⟨b, 0, none⟩), .agg #[.int .i64 c.client, .int .i64 c.seq, .int .i64 c.cmd.kind, .string c.cmd.key, .int .i64 c.cmd.old.kind, .float .f64 c.cmd.old.num, .string c.cmd.old.text, .int .i64 c.cmd.val.kind, .float .f64 c.cmd.val.num, .string c.cmd.val.text]] w (znQ w S b bs long (zhM c)) := by
 obtain ⟨hc1, hc2, hc3, hkey, hold, hval⟩ := hv
 obtain ⟨wb, hwb⟩ : ∃ wb, wb = w.alloc (.cells #[.int .i64 c.client, .int .i64 c.seq, .int .i64 c.cmd.kind, .string c.cmd.key, .int .i64 c.cmd.old.kind, .float .f64 c.cmd.old.num, .string c.cmd.old.text, .int .i64 c.cmd.val.kind, .float .f64 c.cmd.val.num, .string c.cmd.val.text] 54) := ⟨_, rfl⟩
 have hE : Ext w wb := by rw [hwb]; exact (Mod.refl _ w).alloc _
 have hSb := h.of_ext hE
 have hnS : ¬ S w.heap.size := fun hs => by have := h.2 _ hs; omega
 have hcs : ∀ w1, Mod S wb w1 → ∀ j u, (#[.int .i64 c.client, .int .i64 c.seq, .int .i64 c.cmd.kind, .string c.cmd.key, .int .i64 c.cmd.old.kind, .float .f64 c.cmd.old.num, .string c.cmd.old.text, .int .i64 c.cmd.val.kind, .float .f64 c.cmd.val.num, .string c.cmd.val.text] : Array Value)[j]? = some u → w1.cell? ⟨w.heap.size, j, none⟩ = some u := by
  intro w1 hm j u hu
  refine hm.cell ?_ hnS
  rw [hwb, cell_of_row _ _ _ _ _ _ (heap_alloc_new w _)]
  exact hu
 have hsz : wb.heap.size = w.heap.size + 1 := by rw [hwb]; simp
 have Hwb := hJ hwb
 have Hcs := hJ hcs
 have Hsz := hJ hsz
 have Hc := hJ (And.intro hc1 (And.intro hc2 (And.intro hc3 (And.intro hkey (And.intro hold hval)))))
 have hlI := yM [c.client, c.seq, c.cmd.kind]
 have Hs : Hid (zhM c = (((zcH (zQ [c.client, c.seq, c.cmd.kind])).seq (zbT (zaF c.cmd.key))).seq (qB c.cmd.old)).seq (qB c.cmd.val)) := hJ rfl
 obtain ⟨I, hI⟩ : ∃ I, zQ [c.client, c.seq, c.cmd.kind] = I := ⟨_, rfl⟩
 rw [hI] at Hs hlI
 have HI := hJ hI
 clear hwb hcs hsz hc1 hc2 hc3 hkey hold hval hI
 simp only [List.length_cons, List.length_nil] at hlI
 go_enter Tryz.func183, Tryz.ntmps183
 go_wp2_with fail
 rw [← Hwb.out]
 have hE1 : Ext wb (wb.alloc (.cells #[.int .i64 c.client, .int .i64 c.seq, .int .i64 c.cmd.kind] 3)) := (Mod.refl _ wb).alloc _
 have hsl : Sl (wb.alloc (.cells #[.int .i64 c.client, .int .i64 c.seq, .int .i64 c.cmd.kind] 3)) (fun g => wb.heap.size ≤ g) 1 (.slice (some ⟨wb.heap.size, 0, none⟩) 3 3) 3 ([c.client, c.seq, c.cmd.kind].map (Value.int .i64)) :=
  Sl.of_own (base := 0) (e := 3) (World.ownsRow_lit wb _ 3 (Nat.zero_le _) (by simp [maxLen]) rfl) (fun g hg => by simp [Value.ownBlock] at hg; omega)
 rw [Hsz.out] at hsl
 refine (zh2 _ S _ b bs long _ [c.client, c.seq, c.cmd.kind] (hSb.of_ext hE1) hsl (fun g h1 h2 => by have := hSb.2 g h2; rw [Hsz.out] at this; omega) (by have := Hc.out; simp; exact ⟨this.1, this.2.1, this.2.2.1⟩) (by simp) (by omega)).mono ?_
 rintro e w1 ⟨hm1, rfl, S1, hS1, hg1⟩
 rw [HI.out, Bool.or_false] at hS1
 have hm1 : Mod S wb w1 := (hE1.mod S).self hm1
 have Hg1 : Hid (∀ k, S1 k → S k ∨ wb.heap.size ≤ k) := hJ (fun k hk => (hg1 k hk).imp id (fun h => Nat.le_trans hE1.size h))
 clear hg1 hE1 hsl
 have x3 := Hcs.out w1 hm1 3 _ rfl
 have hbe := zoW w1.drew 5 c.cmd.key
 have hbb := zoX w1.drew 5 c.cmd.key Hc.out.2.2.2.1
 have hSt : St (Lib.bytesWorld w1.drew 5 c.cmd.key) S1 b (bs ++ I) long := St.of_ext (w := w1.drew) hS1 hbe
 have hm1b : Mod S wb (Lib.bytesWorld w1.drew 5 c.cmd.key) := hm1.drew.ext hbe
 have hsb := hm1b.size
 have hln : (zaF c.cmd.key).length = c.cmd.key.size := rfl
 have hdis : ∀ g, w1.drew.heap.size ≤ g → ¬ S1 g := fun g h1 h2 => by have h3 := hS1.2 g h2; have h4 : w1.heap.size ≤ g := h1; omega
 have h5 : (16384 < c.cmd.key.size ∧ zbT (zaF c.cmd.key) = some ([], true)) ∨ (¬ 16384 < c.cmd.key.size ∧ zbT (zaF c.cmd.key) = some (yH (zaF c.cmd.key), false)) := by
  by_cases h : 16384 < c.cmd.key.size
  · exact .inl ⟨h, by simp [zbT, hln, h]⟩
  exact .inr ⟨h, by simp [zbT, hln, h]⟩
 rcases h5 with ⟨h5, hT⟩ | ⟨h5, hT⟩
 case' inl =>
  have HT := hJ hT
  clear hT
  go_wp2_with fail
  go_region_with
   ((go_at_call 168
     refine (zdD _ S1 _ b (bs ++ I) (zaF c.cmd.key) long _ hSt.1 hbb (by rw [hln]; exact h5)).mono ?_
     rintro e w2 ⟨rfl, hW2, hm2⟩))
  obtain ⟨S2, hS2, hg2⟩ := zh1 hW2
  obtain ⟨D, hD⟩ : ∃ D : List UInt8, D = [] := ⟨_, rfl⟩
  obtain ⟨L, hL⟩ : ∃ L : Bool, L = true := ⟨_, rfl⟩
  have hS2 : St w2 S2 b (bs ++ (I ++ D)) (long || L) := by rw [hD, hL]; simpa using hS2
  have HT : Hid (zbT (zaF c.cmd.key) = some (D, L)) := hJ (by rw [HT.out, hD, hL])
 case' inr =>
  have HT := hJ hT
  clear hT
  go_wp2_with fail
  go_region_with
   ((go_at_call 168
     refine (zn1 _ S1 _ b (bs ++ I) (zaF c.cmd.key) long _ hSt.1 (by simp; omega) hbb hdis (by rw [hln]; omega)).mono ?_
     rintro e w2 ⟨rfl, hW2, hm2⟩))
  obtain ⟨S2, hS2, hg2⟩ := zh1 hW2
  obtain ⟨D, hD⟩ : ∃ D : List UInt8, D = yH (zaF c.cmd.key) := ⟨_, rfl⟩
  obtain ⟨L, hL⟩ : ∃ L : Bool, L = false := ⟨_, rfl⟩
  have hS2 : St w2 S2 b (bs ++ (I ++ D)) (long || L) := by rw [hD, hL]; simpa using hS2
  have HT : Hid (zbT (zaF c.cmd.key) = some (D, L)) := hJ (by rw [HT.out, hD, hL])
 all_goals
  have hDl := zcM _ _ _ HT.out
  have hm3 := zb6 hm1b hm2 Hg1.out
  have hg3 := jW Hg1.out hg2 hsb
  have Hg3 := hJ hg3
  have y4 := Hcs.out w2 hm3 4 _ rfl
  have y5 := Hcs.out w2 hm3 5 _ rfl
  have y6 := Hcs.out w2 hm3 6 _ rfl
  clear hg3 hg2 hD hL x3 hW2 hm2 hm1b hSt hbb hbe hdis
  go_wp2_with fail
  refine (zlO w2 S2 b _ _ c.cmd.old hS2 Hc.out.2.2.2.2.1 (by simp; omega)).mono ?_
  rintro e w3 ⟨hm4, h4⟩
  have hm5 := zb6 hm3 hm4 Hg3.out
  rcases hV : qB c.cmd.old with _ | ⟨D2, L2⟩
  · rw [hV] at h4
    subst h4
    exact ⟨rfl, xV hE hm5 (by rw [Hs.out, hV]; simp [zcH, HT.out, xA, zcD, xN])⟩
  rw [hV] at h4
  obtain ⟨rfl, S3, hS3, hg3⟩ := h4
  have hV2 := zeN _ _ _ hV
  have HV := hJ hV
  have hg5 := jW Hg3.out hg3 hm3.size
  have Hg5 := hJ hg5
  have z7 := Hcs.out w3 hm5 7 _ rfl
  have z8 := Hcs.out w3 hm5 8 _ rfl
  have z9 := Hcs.out w3 hm5 9 _ rfl
  clear hg5 hg3 hV
  go_wp2_with fail
  refine (zlO w3 S3 b _ _ c.cmd.val hS3 Hc.out.2.2.2.2.2 (by simp; omega)).mono ?_
  rintro e w4 ⟨hm6, h6⟩
  have hm7 := zb6 hm5 hm6 Hg5.out
  rcases hU : qB c.cmd.val with _ | ⟨D3, L3⟩
  · rw [hU] at h6
    subst h6
    exact ⟨rfl, xV hE hm7 (by rw [Hs.out, hU, HV.out]; simp [zcH, HT.out, xA, xN])⟩
  rw [hU] at h6
  obtain ⟨rfl, S4, hS4, hg4⟩ := h6
  have hg6 := jW Hg5.out hg4 hm5.size
  have Hg6 := hJ hg6
  have HU := hJ hU
  clear hg6 hg4 hU
  go_wp2
  go_end0
  exact jX (d := ((I ++ D) ++ D2) ++ D3) (l := (L || L2) || L3) hE hm7 (by simpa [Bool.or_assoc] using hS4) Hg6.out (by rw [Hs.out, HU.out, HV.out]; simp [zcH, HT.out, xA])
end Go.Proofs.YtjhnlncgmejkcaaGreat
namespace Go.Proofs.YtjhnlncgmejkcaaGreat
open Go.RowKit
theorem zbU (w : World) (l : List Int) (e : TypeId) (cs : Array Value) (hc : cs = (l.map (Value.int .i64)).toArray) (n : Nat) (hn : n = l.length) (hl : n ≤ 100) :
  Sl (w.alloc (.cells cs e)) (fun g => w.heap.size ≤ g) 1 (.slice (some ⟨w.heap.size, 0, none⟩) n n) l.length (l.map (Value.int .i64)) := by
 subst hn
 subst hc
 have h := World.ownsRow_lit (base := 0) (e := e) (size := 1) w (l.map (Value.int .i64)).toArray l.length (Nat.zero_le _) (by simp only [maxLen]; omega) (by simp)
 exact Sl.of_own (base := 0) (e := e) (by simpa using h) (fun g hg => by simp [Value.ownBlock] at hg; omega)
theorem zoY (w : World) (S : Nat → Prop) (b : Nat) (bs : List UInt8) (long : Bool) (c : yF) (h : St w S b bs long) (hv : c.ok) (hb : bs.length ≤ 899000000) :
  Calls Tryz.prog 167 #[.pointer (some ⟨b, 0, none⟩), .agg #[.int .i64 c.full, .int .i64 c.wit, .int .i64 c.learn, .int .i64 c.learnWit]] w (znQ w S b bs long (zgU c)) := by
 obtain ⟨hc1, hc2, hc3, hc4⟩ := hv
 obtain ⟨wb, hwb⟩ : ∃ wb, wb = w.alloc (.cells #[.int .i64 c.full, .int .i64 c.wit, .int .i64 c.learn, .int .i64 c.learnWit] 23) := ⟨_, rfl⟩
 have hE : Ext w wb := by rw [hwb]; exact (Mod.refl _ w).alloc _
 have hSb := h.of_ext hE
 have hsz : wb.heap.size = w.heap.size + 1 := by rw [hwb]; simp
 have Hwb := hJ hwb
 have Hsz := hJ hsz
 have Hr : Hid (∀ n ∈ [c.full, c.wit, c.learn, c.learnWit], I64 n) := hJ (by simp; exact ⟨hc1, hc2, hc3, hc4⟩)
 clear hwb hsz hc1 hc2 hc3 hc4
 go_enter Tryz.func167, Tryz.ntmps167
 go_wp2_with fail
 rw [← Hwb.out]
 have hE1 : Ext wb (wb.alloc (.cells #[.int .i64 c.full, .int .i64 c.wit, .int .i64 c.learn, .int .i64 c.learnWit] 3)) := (Mod.refl _ wb).alloc _
 have hsl := zbU wb [c.full, c.wit, c.learn, c.learnWit] 3 #[.int .i64 c.full, .int .i64 c.wit, .int .i64 c.learn, .int .i64 c.learnWit] rfl 4 rfl (by omega)
 rw [Hsz.out] at hsl
 refine (zh2 _ S _ b bs long _ [c.full, c.wit, c.learn, c.learnWit] (hSb.of_ext hE1) hsl (fun g h1 h2 => by have := hSb.2 g h2; rw [Hsz.out] at this; omega) Hr.out (by simp) (by omega)).mono ?_
 rintro e w1 ⟨hm1, rfl, S1, hS1, hg1⟩
 have hm1 : Mod S wb w1 := (hE1.mod S).self hm1
 have Hg1 : Hid (∀ k, S1 k → S k ∨ wb.heap.size ≤ k) := hJ (fun k hk => (hg1 k hk).imp id (fun h => Nat.le_trans hE1.size h))
 clear hg1
 go_wp2
 go_end0
 exact jX (d := zQ [c.full, c.wit, c.learn, c.learnWit]) (l := false) hE hm1 hS1 Hg1.out rfl
theorem zlP (a b c d : Int) (w : World) : (binOp .eql 23 (.agg #[.int .i64 a, .int .i64 b, .int .i64 c, .int .i64 d]) (.agg #[.int .i64 0, .int .i64 0, .int .i64 0, .int .i64 0])).run Tryz.prog w = .ok (.bool (zcI ⟨a, b, c, d⟩)) w := by
 by_cases h1 : a = 0 <;> by_cases h2 : b = 0 <;> by_cases h3 : c = 0 <;> by_cases h4 : d = 0 <;> go_simp <;> simp [zcI, h1, h2, h3, h4]
attribute [local go_sem high] zlP
theorem zlQ (w : World) (S : Nat → Prop) (b : Nat) (bs : List UInt8) (long : Bool) (x : zI) (h : St w S b bs long) (hv : x.ok) (hb : bs.length ≤ 897000000) :
  Calls Tryz.prog 143 #[.pointer (some ⟨b, 0, none⟩), .agg #[.int .i64 x.term, .int .i64 x.kind, .int .i64 x.call.client, .int .i64 x.call.seq, .int .i64 x.call.cmd.kind, .string x.call.cmd.key, .int .i64 x.call.cmd.old.kind, .float .f64 x.call.cmd.old.num, .string x.call.cmd.old.text, .int .i64 x.call.cmd.val.kind, .float .f64 x.call.cmd.val.num, .string x.call.cmd.val.text, .int .i64 x.conf.full, .int .i64 x.conf.wit, .int .i64 x.conf.learn, .int .i64 x.conf.learnWit]] w (znQ w S b bs long (jR x)) := by
 obtain ⟨hc1, hc2, hcall, hconf⟩ := hv
 obtain ⟨wb, hwb⟩ : ∃ wb, wb = w.alloc (.cells #[.int .i64 x.term, .int .i64 x.kind, .int .i64 x.call.client, .int .i64 x.call.seq, .int .i64 x.call.cmd.kind, .string x.call.cmd.key, .int .i64 x.call.cmd.old.kind, .float .f64 x.call.cmd.old.num, .string x.call.cmd.old.text, .int .i64 x.call.cmd.val.kind, .float .f64 x.call.cmd.val.num, .string x.call.cmd.val.text, .int .i64 x.conf.full, .int .i64 x.conf.wit, .int .i64 x.conf.learn, .int .i64 x.conf.learnWit] 56) := ⟨_, rfl⟩
 have hE : Ext w wb := by rw [hwb]; exact (Mod.refl _ w).alloc _
 have hSb := h.of_ext hE
 have hnS : ¬ S w.heap.size := fun hs => by have := h.2 _ hs; omega
 have hcs : ∀ w1, Mod S wb w1 → ∀ j u, (#[.int .i64 x.term, .int .i64 x.kind, .int .i64 x.call.client, .int .i64 x.call.seq, .int .i64 x.call.cmd.kind, .string x.call.cmd.key, .int .i64 x.call.cmd.old.kind, .float .f64 x.call.cmd.old.num, .string x.call.cmd.old.text, .int .i64 x.call.cmd.val.kind, .float .f64 x.call.cmd.val.num, .string x.call.cmd.val.text, .int .i64 x.conf.full, .int .i64 x.conf.wit, .int .i64 x.conf.learn, .int .i64 x.conf.learnWit] : Array Value)[j]? = some u → w1.cell? ⟨w.heap.size, j, none⟩ = some u := by
  intro w1 hm j u hu
  refine hm.cell ?_ hnS
  rw [hwb, cell_of_row _ _ _ _ _ _ (heap_alloc_new w _)]
  exact hu
 have hsz : wb.heap.size = w.heap.size + 1 := by rw [hwb]; simp
 have Hwb := hJ hwb
 have Hcs := hJ hcs
 have Hsz := hJ hsz
 have Hr : Hid (∀ n ∈ [x.term, x.kind], I64 n) := hJ (by simp; exact ⟨hc1, hc2⟩)
 have Hc := hJ (And.intro hcall hconf)
 have hlI := yM [x.term, x.kind]
 have Hs : Hid (jR x = ((((zcH (zQ [x.term, x.kind])).seq (qF (decide (0 ≤ x.kind ∧ x.kind ≤ 2)))).seq (qF (x.kind == 1 || yV x.call))).seq (qF (x.kind == 2 || zcI x.conf))).seq
  (if x.kind = 1 then zhM x.call else if x.kind = 2 then zgU x.conf else zcH [])) := hJ rfl
 obtain ⟨I, hI⟩ : ∃ I, zQ [x.term, x.kind] = I := ⟨_, rfl⟩
 rw [hI] at Hs hlI
 have HI := hJ hI
 clear hwb hcs hsz hc1 hc2 hcall hconf hI
 simp only [List.length_cons, List.length_nil] at hlI
 go_enter Tryz.func143, Tryz.ntmps143
 go_wp2_with fail
 rw [← Hwb.out]
 have hE1 : Ext wb (wb.alloc (.cells #[.int .i64 x.term, .int .i64 x.kind] 3)) := (Mod.refl _ wb).alloc _
 have hsl := zbU wb [x.term, x.kind] 3 #[.int .i64 x.term, .int .i64 x.kind] rfl 2 rfl (by omega)
 rw [Hsz.out] at hsl
 refine (zh2 _ S _ b bs long _ [x.term, x.kind] (hSb.of_ext hE1) hsl (fun g h1 h2 => by have := hSb.2 g h2; rw [Hsz.out] at this; omega) Hr.out (by simp) (by omega)).mono ?_
 rintro e w1 ⟨hm1, rfl, S1, hS1, hg1⟩
 rw [HI.out, Bool.or_false] at hS1
 have hm1 : Mod S wb w1 := (hE1.mod S).self hm1
 have Hg1 : Hid (∀ k, S1 k → S k ∨ wb.heap.size ≤ k) := hJ (fun k hk => (hg1 k hk).imp id (fun h => Nat.le_trans hE1.size h))
 clear hg1 hE1 hsl
 have x1 := Hcs.out w1 hm1 1 _ rfl
 by_cases hk : 0 ≤ x.kind ∧ x.kind ≤ 2
 case neg =>
  have Ho : Hid (jR x = none) := hJ (by rw [Hs.out]; simp [hk, qF, zcH, zcD, xN])
  by_cases h0 : 0 ≤ x.kind
  ·
   have h2 : ¬ x.kind ≤ 2 := fun h => hk ⟨h0, h⟩
   have d2 : decide (x.kind ≤ 2) = false := by simpa using h2
   go_wp2_with fail
   refine (zaI _).mono ?_
   rintro e w' ⟨rfl, rfl⟩
   exact ⟨rfl, xV hE hm1 Ho.out⟩
  go_wp2_with fail
  refine (zaI _).mono ?_
  rintro e w' ⟨rfl, rfl⟩
  exact ⟨rfl, xV hE hm1 Ho.out⟩
 obtain ⟨k0, k2⟩ := hk
 have d0 : decide (0 ≤ x.kind) = true := by simpa using k0
 have d2 : decide (x.kind ≤ 2) = true := by simpa using k2
 have x2 := Hcs.out w1 hm1 2 _ rfl
 have x3 := Hcs.out w1 hm1 3 _ rfl
 have x4 := Hcs.out w1 hm1 4 _ rfl
 have x5 := Hcs.out w1 hm1 5 _ rfl
 have x6 := Hcs.out w1 hm1 6 _ rfl
 have x7 := Hcs.out w1 hm1 7 _ rfl
 have x8 := Hcs.out w1 hm1 8 _ rfl
 have x9 := Hcs.out w1 hm1 9 _ rfl
 have x10 := Hcs.out w1 hm1 10 _ rfl
 have x11 := Hcs.out w1 hm1 11 _ rfl
 have x12 := Hcs.out w1 hm1 12 _ rfl
 have x13 := Hcs.out w1 hm1 13 _ rfl
 have x14 := Hcs.out w1 hm1 14 _ rfl
 have x15 := Hcs.out w1 hm1 15 _ rfl
 go_wp2_with fail
 refine (zaH _).mono ?_
 rintro e w' ⟨rfl, rfl⟩
 have hk3 : x.kind = 0 ∨ x.kind = 1 ∨ x.kind = 2 := by omega
 rcases hk3 with hk3 | hk3 | hk3
 ·
  have e1 : (x.kind == 1) = false := by simp [hk3]
  have e2 : (x.kind == 2) = false := by simp [hk3]
  have Ho : Hid (jR x = (WO.seq (WO.seq (some (I, false)) (qF (yV x.call))) (qF (zcI x.conf))).seq (some ([], false))) := hJ (by rw [Hs.out]; simp [hk3, qF, zcH, xA])
  clear hk3
  go_wp2_with fail
  refine (zg7 x.call _).mono ?_
  rintro e w2 ⟨rfl, hE2⟩
  rcases hn : yV x.call with _ | _
  ·
   go_wp2_with fail
   refine (zaI _).mono ?_
   rintro e w' ⟨rfl, rfl⟩
   exact ⟨rfl, xV hE (hm1.ext hE2) (by rw [Ho.out, hn]; rfl)⟩
  have hm2 := hm1.ext hE2
  have hS2 := hS1.of_ext hE2
  have y1 := Hcs.out w2 hm2 1 _ rfl
  have y12 := Hcs.out w2 hm2 12 _ rfl
  have y13 := Hcs.out w2 hm2 13 _ rfl
  have y14 := Hcs.out w2 hm2 14 _ rfl
  have y15 := Hcs.out w2 hm2 15 _ rfl
  clear x1 x2 x3 x4 x5 x6 x7 x8 x9 x10 x11 x12 x13 x14 x15 hE2
  go_wp2_with fail
  refine (zaH _).mono ?_
  rintro e w' ⟨rfl, rfl⟩
  rcases hc : zcI x.conf with _ | _
  ·
   go_wp2_with fail
   refine (zaI _).mono ?_
   rintro e w' ⟨rfl, rfl⟩
   exact ⟨rfl, xV hE hm2 (by rw [Ho.out, hn, hc]; rfl)⟩
  go_wp2_with fail
  refine (zaH _).mono ?_
  rintro e w' ⟨rfl, rfl⟩
  go_wp2
  go_end0
  exact jX (d := I) (l := false) hE hm2 (by simpa using hS2) Hg1.out (by rw [Ho.out, hn, hc]; simp [qF, xA])
 ·
  have e1 : (x.kind == 1) = true := by simp [hk3]
  have e2 : (x.kind == 2) = false := by simp [hk3]
  have Ho : Hid (jR x = (WO.seq (some (I, false)) (qF (zcI x.conf))).seq (zhM x.call)) := hJ (by rw [Hs.out]; simp [hk3, qF, zcH, xA])
  clear hk3
  go_wp2_with fail
  refine (zaH _).mono ?_
  rintro e w' ⟨rfl, rfl⟩
  rcases hc : zcI x.conf with _ | _
  ·
   go_wp2_with fail
   refine (zaI _).mono ?_
   rintro e w' ⟨rfl, rfl⟩
   exact ⟨rfl, xV hE hm1 (by rw [Ho.out, hc]; rfl)⟩
  go_wp2_with fail
  refine (zaH _).mono ?_
  rintro e w' ⟨rfl, rfl⟩
  go_wp2_with fail
  refine (wi_call w1 S1 b _ _ x.call hS1 Hc.out.1 (by simp; omega)).mono ?_
  rintro e w3 ⟨hm4, h4⟩
  have hm5 := zb6 hm1 hm4 Hg1.out
  rcases hV : zhM x.call with _ | ⟨D2, L2⟩
  · rw [hV] at h4
    subst h4
    exact ⟨rfl, xV hE hm5 (by rw [Ho.out, hV, hc]; rfl)⟩
  rw [hV] at h4
  obtain ⟨rfl, S3, hS3, hg3⟩ := h4
  have HV := hJ hV
  have hg5 := jW Hg1.out hg3 hm1.size
  have Hg5 := hJ hg5
  clear hg5 hg3 hV
  go_wp2
  go_end0
  exact jX (d := I ++ D2) (l := L2) hE hm5 (by simpa using hS3) Hg5.out (by rw [Ho.out, HV.out, hc]; simp [qF, xA])
 have e1 : (x.kind == 1) = false := by simp [hk3]
 have e2 : (x.kind == 2) = true := by simp [hk3]
 have Ho : Hid (jR x = (WO.seq (some (I, false)) (qF (yV x.call))).seq (zgU x.conf)) := hJ (by rw [Hs.out]; simp [hk3, qF, zcH, xA]; cases yV x.call <;> simp [xA, xN, zcD])
 clear hk3
 go_wp2_with fail
 refine (zg7 x.call _).mono ?_
 rintro e w2 ⟨rfl, hE2⟩
 rcases hn : yV x.call with _ | _
 ·
  go_wp2_with fail
  refine (zaI _).mono ?_
  rintro e w' ⟨rfl, rfl⟩
  exact ⟨rfl, xV hE (hm1.ext hE2) (by rw [Ho.out, hn]; rfl)⟩
 have hm2 := hm1.ext hE2
 have hS2 := hS1.of_ext hE2
 have y1 := Hcs.out w2 hm2 1 _ rfl
 have y12 := Hcs.out w2 hm2 12 _ rfl
 have y13 := Hcs.out w2 hm2 13 _ rfl
 have y14 := Hcs.out w2 hm2 14 _ rfl
 have y15 := Hcs.out w2 hm2 15 _ rfl
 clear x1 x2 x3 x4 x5 x6 x7 x8 x9 x10 x11 x12 x13 x14 x15 hE2
 go_wp2_with fail
 refine (zaH _).mono ?_
 rintro e w' ⟨rfl, rfl⟩
 go_wp2_with fail
 refine (zaH _).mono ?_
 rintro e w' ⟨rfl, rfl⟩
 go_wp2_with fail
 refine (zoY w2 S1 b _ _ x.conf hS2 Hc.out.2 (by simp; omega)).mono ?_
 rintro e w3 ⟨hm4, rfl, S3, hS3, hg3⟩
 have hm5 := zb6 hm2 hm4 Hg1.out
 have hg5 := jW Hg1.out hg3 hm2.size
 have Hg5 := hJ hg5
 clear hg5 hg3
 go_wp2
 go_end0
 exact jX (d := I ++ zQ [x.conf.full, x.conf.wit, x.conf.learn, x.conf.learnWit]) (l := false) hE hm5 (by simpa using hS3) Hg5.out (by rw [Ho.out, hn]; simp [qF, zgU, zcH, xA])
end Go.Proofs.YtjhnlncgmejkcaaGreat
namespace Go.Proofs.YtjhnlncgmejkcaaGreat
open Go.RowKit Go.ChangeShapes Go.WideShapes Go.Deep
section
variable {H : Type} {enc : TypeId × Value → H} {P : Program} {w : World} {base : Nat} {spare : Nat → Bool} {held : Bool} {fuel : Nat} {t : TypeId} {cs : List Value} {x : DataW H × List MemPlace}
theorem zm2 {k : FloatKind} (ht : P.underlying t = some (.float k)) (h : DataW.trod enc P w base spare held fuel t cs = some x) : ∃ b, cs = [.float k b] ∧ (Lit.float k b).wf = true := by
 cases fuel with
 | zero => simp [DataW.trod] at h
 | succ n =>
  unfold DataW.trod at h
  rw [ht] at h
  split at h <;> simp_all
theorem xW (ht : P.underlying t = some (.int .i64)) (h : DataW.trod enc P w base spare held fuel t cs = some x) :
  ∃ n : Int, cs = [.int .i64 n] ∧ -9223372036854775808 ≤ n ∧ n ≤ 9223372036854775807 := by
 obtain ⟨n, hc, _, hw⟩ := DataW.trod_int ht h
 have : _ := bounds_i64 hw
 exact ⟨n, hc, this⟩
theorem trod_u8 (ht : P.underlying t = some (.int .u8)) (h : DataW.trod enc P w base spare held fuel t cs = some x) : ∃ n : UInt8, cs = [B n] := by
 obtain ⟨n, hc, _, hw⟩ := DataW.trod_int ht h
 have : _ := bounds_u8 hw
 refine ⟨UInt8.ofNat n.toNat, ?_⟩
 rw [hc]
 unfold B
 simp
 omega
theorem trod_f64 (ht : P.underlying t = some (.float .f64)) (h : DataW.trod enc P w base spare held fuel t cs = some x) : ∃ b : Nat, cs = [.float .f64 b] ∧ b < 18446744073709551616 := by
 obtain ⟨b, hc, hw⟩ := zm2 ht h
 refine ⟨b, hc, ?_⟩
 simpa [Lit.wf] using hw
theorem zh3 {α : Type} {c : α → List Value} {k : Nat} (hc : ∀ a, (c a).length = k) : ∀ l : List α, (l.flatMap c).length = l.length * k
 | [] => by simp
 | a :: l => by rw [List.flatMap_cons, List.length_append, hc, zh3 hc l, List.length_cons, Nat.succ_mul, Nat.add_comm]
theorem zfC {α : Type} {c : α → List Value} {k : Nat} (hc : ∀ a, (c a).length = k) : ∀ (l : List α) (i j : Nat) (a : α), l[i]? = some a → j < k → (l.flatMap c)[i * k + j]? = (c a)[j]?
 | [], i, j, a, h, _ => by simp at h
 | b :: l, 0, j, a, h, hj => by
  simp at h; subst h
  rw [List.flatMap_cons, Nat.zero_mul, Nat.zero_add, List.getElem?_append_left (by rw [hc]; exact hj)]
 | b :: l, i + 1, j, a, h, hj => by
  have e : (i + 1) * k + j = k + (i * k + j) := by rw [Nat.succ_mul]; omega
  rw [List.flatMap_cons, List.getElem?_append_right (by rw [hc]; omega), hc, e, Nat.add_sub_cancel_left]
  exact zfC hc l i j a (by simpa using h) hj
theorem zkH {α : Type} (c : α → List Value) (ok : α → Prop) (k : Nat) (hck : ∀ a, (c a).length = k) (hk : 0 < k) {e : TypeId} (ht : P.underlying t = some (.slice e)) (hC : P.cellsOf e = k)
  (hel : ∀ n cs' y, DataW.trod enc P w base spare held n e cs' = some y → ∃ a, cs' = c a ∧ ok a)
  (h : DataW.trod enc P w base spare held fuel t cs = some x) :
  ∃ (v : Value) (l : List α), cs = [v] ∧ Sl w (fun g => g < w.heap.size) k v l.length (l.flatMap c) ∧ ∀ a ∈ l, ok a := by
 rcases open_slice ht h with ⟨h0, _⟩ | ⟨a, len, cap, m, n, D, Pl, hcs, hb, hl, hm, hmm, hx, hi⟩
 · exact ⟨_, [], h0, Sl.nil _ _ _, by simp⟩
 rw [hC] at hi
 have hlm : len ≤ m := by rw [hmm]; split <;> omega
 have hch : ∀ i : Fin len, ∃ b : α, ok b ∧ w.cells? base (a.add (i.1 * k)) k = some (c b) := by
  intro i
  obtain ⟨cs', h1, h2⟩ := hi i.1 (by omega)
  obtain ⟨b, rfl, hb⟩ := hel _ _ _ h2
  exact ⟨b, hb, h1⟩
 refine ⟨_, List.ofFn fun i : Fin len => Classical.choose (hch i), hcs, ⟨zh3 hck _, some a, cap, by rw [List.length_ofFn], by rw [List.length_ofFn]; exact hl, hm, fun h0 => ?_⟩, ?_⟩
 ·
  rw [List.length_ofFn] at h0
  have hcell : ∀ i (hi : i < len) j, j < k → w.cell? (a.add (i * k + j)) = (c (Classical.choose (hch ⟨i, hi⟩)))[j]? := by
   intro i hi j hj
   have := (World.cells?_some (Classical.choose_spec (hch ⟨i, hi⟩)).2).2.2 j hj
   rw [Go.Deep.add_add] at this
   exact this
  obtain ⟨u, hu⟩ : ∃ u, w.cell? (a.add (0 * k + 0)) = some u := ⟨_, (hcell 0 h0 0 hk).trans (List.getElem?_eq_getElem (by rw [hck]; exact hk))⟩
  have ha : a.add (0 * k + 0) = a := by simp [Addr.add]
  rw [ha] at hu
  have hspot : a.spot = none := by
   rcases hs : a.spot with _ | q
   · rfl
   exfalso
   simp only [World.cell?, hs, Option.isSome_some, if_true] at hu
   split at hu <;> simp at hu
  obtain ⟨g, off, sp⟩ := a
  simp only at hspot
  subst hspot
  refine ⟨g, off, rfl, World.block_lt_of_cell? w _ hu, fun j u hj => ?_⟩
  have hjl : j < len * k := by
   have := (List.getElem?_eq_some_iff.1 hj).1
   rw [zh3 hck, List.length_ofFn] at this
   exact this
  have hq : j / k < len := Nat.div_lt_of_lt_mul (by rw [Nat.mul_comm]; exact hjl)
  have hr : j % k < k := Nat.mod_lt _ hk
  have hjj : j = j / k * k + j % k := by rw [Nat.mul_comm]; exact (Nat.div_add_mod j k).symm
  have h1 := hcell (j / k) hq (j % k) hr
  rw [← hjj, znS] at h1
  rw [h1, ← hj]
  conv => rhs; rw [hjj]
  rw [zfC hck _ (j / k) (j % k) (Classical.choose (hch ⟨j / k, hq⟩)) (by rw [List.getElem?_ofFn, dif_pos hq]) hr]
 intro b hb
 rw [List.mem_ofFn] at hb
 obtain ⟨i, rfl⟩ := hb
 exact (Classical.choose_spec (hch i)).1
theorem zgV {α β : Type} (f : α → β) (l : List α) : (l.flatMap fun a => [f a]) = l.map f := by
 induction l with
 | nil => rfl
 | cons a l ih => simp [ih]
theorem zg8 {e : TypeId} (ht : P.underlying t = some (.slice e)) (he : P.underlying e = some (.int .u8)) (hC : P.cellsOf e = 1) (h : DataW.trod enc P w base spare held fuel t cs = some x) :
  ∃ (v : Value) (l : List UInt8), cs = [v] ∧ Byt w (fun g => g < w.heap.size) v l := by
 obtain ⟨v, l, h1, h2, _⟩ := zkH (fun b : UInt8 => [B b]) (fun _ => True) 1 (fun _ => rfl) (by omega) ht hC (fun n cs' y hy => by
  obtain ⟨b, hb⟩ := trod_u8 he hy
  exact ⟨b, hb, trivial⟩) h
 exact ⟨v, l, h1, by rw [zgV] at h2; exact h2⟩
end
theorem val_of {H : Type} {enc : TypeId × Value → H} {P : Program} {w : World} {base b0 : Nat} {spare : Nat → Bool} {held : Bool} {r : Reach} {t e : TypeId} {v : Value} {d : DataW H} {p : List MemPlace} (ht : P.underlying t = some (.slice e))
  (hv : Value.okWide P w r b0 t v) (h : DataW.Trod enc P w base spare held t v d p) : ∃ fuel, DataW.trod enc P w base spare held fuel t [v] = some (d, p) := by
 obtain ⟨a, len, cap, rfl⟩ := okWide_slice ht hv
 obtain ⟨fuel, hf⟩ := h
 exact ⟨fuel, by simpa [Value.cells] using hf⟩
end Go.Proofs.YtjhnlncgmejkcaaGreat
