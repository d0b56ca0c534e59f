/-
  Contracts of sess.writeValue and sess.Encode. Conditions: as each theorem names them.
-/
import Derived.Test.YtplpegjnmlabkaaSesLib
import Derived.Test.YtplpegjnmlabkaaPackW
import Derived.Lib.ConvBytes
namespace Go.Proofs.Ytplpegjnmlabkaa
set_option linter.unusedSimpArgs false
open Go.RowKit

/-- A value's bytes, a pair's, a session's, a machine's. -/
def encV (v : AVal) : List UInt8 := encInt v.kind ++ (if v.kind = 1 then encFloat v.num else if v.kind = 2 then encText (bsOf v.text) else [])
def encP (p : APair) : List UInt8 := encText (bsOf p.key) ++ encV p.val
def encS (s : ASess) : List UInt8 := encInt s.client ++ (encInt s.seq ++ (encInt s.reply.code ++ encV s.reply.val))
def encM (m : AMach) : List UInt8 := encInt m.pairs.length ++ (m.pairs.flatMap encP ++ (encInt m.sess.length ++ m.sess.flatMap encS))
theorem encText_len' (t : List UInt8) : (encText t).length ≤ 10 + t.length := by have := encInt_len t.length; simp [encText]; omega
theorem hib_len' : ∀ k x, (hib k x).length = k := by
  intro k x
  induction k with
  | zero => rfl
  | succ k ih => simp [hib, ih]
theorem encV_len (v : AVal) : (encV v).length ≤ 30 + v.text.size := by
  have h1 := encInt_len v.kind
  have h2 := encText_len' (bsOf v.text)
  have h3 : (encFloat v.num).length = 8 := hib_len' 8 _
  have h4 : (bsOf v.text).length = v.text.size := rfl
  unfold encV
  rw [List.length_append]
  split
  · omega
  · split
    · omega
    · simp; omega

/-- The writer's own blocks, all of them there. -/
def St (w : World) (S : Nat → Prop) (b : Nat) (bs : List UInt8) : Prop := Wr w S b bs false ∧ ∀ k, S k → k < w.heap.size
theorem wr_mod {w w' : World} {S T : Nat → Prop} {b : Nat} {bs : List UInt8} {long : Bool} (h : Wr w S b bs long) (hm : Mod T w w') (hd : ∀ g, S g → ¬ T g) : Wr w' S b bs long := by
  obtain ⟨v, t, hb, ho, hS, hg⟩ := h
  exact ⟨v, t, hm.blk hb (hd _ hS), own_mod ho hm (fun g hgg => hd _ (hg g hgg).1), hS, hg⟩
theorem St.of_ext {w w' : World} {S : Nat → Prop} {b : Nat} {bs : List UInt8} (h : St w S b bs) (hE : Ext w w') : St w' S b bs :=
  ⟨wr_mod h.1 hE (fun _ _ => id), fun k hk => Nat.lt_of_lt_of_le (h.2 k hk) hE.size⟩
theorem st_of {w w' : World} {S : Nat → Prop} {b : Nat} {bs : List UInt8} (h : Wr w' (Nw S w) b bs false) : ∃ S1, St w' S1 b bs ∧ ∀ k, S1 k → S k ∨ w.heap.size ≤ k :=
  ⟨fun k => Nw S w k ∧ k < w'.heap.size, ⟨h.mono (fun _ hk hS => ⟨hS, hk⟩), fun _ hk => hk.2⟩, fun _ hk => hk.1⟩
theorem gr_trans {S S1 S2 : Nat → Prop} {w w1 : World} (h1 : ∀ k, S1 k → S k ∨ w.heap.size ≤ k) (h2 : ∀ k, S2 k → S1 k ∨ w1.heap.size ≤ k) (hs : w.heap.size ≤ w1.heap.size) : ∀ k, S2 k → S k ∨ w.heap.size ≤ k := fun k hk => by
  rcases h2 k hk with h | h
  · exact h1 k h
  · exact .inr (by omega)
theorem mod_gr {S S1 : Nat → Prop} {w w1 w2 : World} (h : Mod S w w1) (h' : Mod S1 w1 w2) (hg : ∀ k, S1 k → S k ∨ w.heap.size ≤ k) : Mod S w w2 :=
  h.trans h' (fun k hk hS => by
    rcases hg k hS with h | h
    · exact h
    · omega)
theorem conv_sb (s : ByteArray) (w : World) : (convert 9 55 (.string s)).run Try.prog w = .ok (.slice (some ⟨w.heap.size, 0, none⟩) s.size (grownCap w s.size 0 5)) (Lib.bytesWorld w 5 s) :=
  Lib.run_convert_string_bytes w _ _ _ s Try.underlying9 Try.underlying55 Try.underlying5
theorem bw_ext (w : World) (e : TypeId) (s : ByteArray) : Ext w (Lib.bytesWorld w e s) :=
  ⟨rfl, rfl, rfl, by rw [Lib.bytesWorld_size]; omega, fun k hk _ => Lib.bytesWorld_at_old w e s k hk⟩
theorem bw_byt (w : World) (e : TypeId) (s : ByteArray) (hs : s.size ≤ maxLen) : Byt (Lib.bytesWorld w e s) (fun g => w.heap.size ≤ g) (.slice (some ⟨w.heap.size, 0, none⟩) s.size (grownCap w s.size 0 e)) (bsOf s) := by
  have hl : (bsOf s).length = s.size := rfl
  refine ⟨by simp, _, _, by rw [hl], by rw [hl]; exact grownCap_ge w _ _ _, grownCap_le_maxLen w _ _ _ hs, fun _ => ⟨_, 0, rfl, Nat.le_refl _, fun j u hu => ?_⟩⟩
  have hj : j < s.size := by have := (List.getElem?_eq_some_iff.1 hu).1; simpa using this
  rw [Nat.zero_add, Lib.bytesWorld_cell w e s j hj, ← hu]
  have hjl : j < s.data.toList.length := by simpa using hj
  rw [List.getElem?_map, List.getElem?_eq_getElem hjl, Option.map_some, List.getD, List.getElem?_eq_getElem hjl]
  rfl
attribute [local go_sem high] conv_sb

/-- What a write leaves. -/
def WO1 (w : World) (S : Nat → Prop) (b : Nat) (bs : List UInt8) (e : Ending) (w' : World) : Prop :=
  e = .returned (.tuple #[]) ∧ Mod S w w' ∧ ∃ S1, St w' S1 b bs ∧ ∀ k, S1 k → S k ∨ w.heap.size ≤ k
theorem w_int1 (w : World) (S : Nat → Prop) (b : Nat) (bs : List UInt8) (n : Int) (h : St w S b bs) (hl : bs.length ≤ 1000000000) (hn : I64 n) :
    Calls Try.prog 50 #[.pointer (some ⟨b, 0, none⟩), .int .i64 n] w (WO1 w S b (bs ++ encInt n)) :=
  (w_int w S b bs false n h.1 hl hn.1 (by have := hn.2; omega)).mono fun _ _ ⟨h1, h2, h3⟩ => ⟨h1, h3, st_of h2⟩
theorem w_text1 (w : World) (S T : Nat → Prop) (b : Nat) (bs t : List UInt8) (v : Value) (h : St w S b bs) (hl : bs.length ≤ 900000000) (ht : Byt w T v t) (hd : ∀ g, T g → ¬ S g) (hs : t.length ≤ 16384) :
    Calls Try.prog 51 #[.pointer (some ⟨b, 0, none⟩), v] w (WO1 w S b (bs ++ encText t)) :=
  (w_text w S T b bs t false v h.1 hl ht hd hs).mono fun _ _ ⟨h1, h2, h3⟩ => ⟨h1, h3, st_of h2⟩
theorem w_float1 (w : World) (S : Nat → Prop) (b : Nat) (bs : List UInt8) (x : Nat) (h : St w S b bs) (hl : bs.length ≤ 1000000000) :
    Calls Try.prog 89 #[.pointer (some ⟨b, 0, none⟩), .float .f64 x] w (WO1 w S b (bs ++ encFloat x)) :=
  (w_float w S b bs false x h.1 hl).mono fun _ _ ⟨h1, h2, h3⟩ => ⟨h1, h3, st_of h2⟩

set_option maxRecDepth 100000 in
set_option maxHeartbeats 1000000 in
theorem s_wval (w : World) (S : Nat → Prop) (b : Nat) (bs : List UInt8) (v : AVal) (h : St w S b bs) (hv : v.ok) (hb : bs.length ≤ 800000000) (ht : v.text.size ≤ 16384) :
    Calls Try.prog 52 #[.pointer (some ⟨b, 0, none⟩), .agg #[.int .i64 v.kind, .float .f64 v.num, .string v.text]] w (WO1 w S b (bs ++ encV v)) := by
  obtain ⟨hk, hx, htx⟩ := hv
  obtain ⟨q, hq⟩ : ∃ q, w.heap.size = q := ⟨_, rfl⟩
  obtain ⟨W, hW⟩ : ∃ W, W = w.alloc (.cells #[.int .i64 v.kind, .float .f64 v.num, .string v.text] 28) := ⟨_, rfl⟩
  have hE : Ext w W := by rw [hW]; exact (Mod.refl _ w).alloc _
  have hA : W.heap[q]? = some (.cells #[.int .i64 v.kind, .float .f64 v.num, .string v.text] 28 (0, 0)) := by rw [hW, ← hq]; exact heap_alloc_new w _
  have hqW : q < W.heap.size := (Array.getElem?_eq_some_iff.1 hA).1
  have hSW := h.of_ext hE
  have hnq : ¬ S q := fun e => by have := h.2 _ e; omega
  have HW := Lib.hid hW
  have Hq := Lib.hid hq
  have HE := Lib.hid hE
  have hle := encInt_len v.kind
  clear hW hq hE h
  go_enter Try.func52, Try.ntmps52
  go_wp2_with fail
  rw [← HW.out, Hq.out]
  refine (w_int1 W S b bs v.kind hSW (by omega) hk).mono ?_
  rintro e w1 ⟨rfl, hm1, S1, hS1, hg1⟩
  have hA1 := hm1.blk hA hnq
  have hnq1 : ¬ S1 q := fun e => by rcases hg1 q e with h | h; exact hnq h; omega
  have a0 : w1.cell? ⟨q, 0, none⟩ = some _ := blk_cell hA1 rfl
  have a1 : w1.cell? ⟨q, 1, none⟩ = some _ := blk_cell hA1 rfl
  have a2 : w1.cell? ⟨q, 2, none⟩ = some _ := blk_cell hA1 rfl
  have hqw : q < w1.heap.size := (Array.getElem?_eq_some_iff.1 hA1).1
  have HS1 := Lib.hid hS1
  have Hg1 := Lib.hid hg1
  have Hm1 := Lib.hid hm1
  clear hS1 hg1 hm1 hA1 hA hSW
  by_cases e1 : v.kind = 1
  · have d1 : (v.kind == 1) = true := by simp [e1]
    have Hen : Hid (encV v = encInt v.kind ++ encFloat v.num) := Lib.hid (by unfold encV; rw [if_pos e1])
    have He1 := Lib.hid e1
    clear e1
    go_wp2_with fail
    refine (w_float1 w1 S1 b _ v.num HS1.out (by simp; omega)).mono ?_
    rintro e w2 ⟨rfl, hm2, S2, hS2, hg2⟩
    have hout : Hid (WO1 w S b (bs ++ encV v) (.returned (.tuple #[])) w2) := Lib.hid ⟨rfl, (HE.out.mod S).self (mod_gr Hm1.out hm2 Hg1.out), S2, by rw [Hen.out, ← List.append_assoc]; exact hS2, fun k hk => (gr_trans Hg1.out hg2 Hm1.out.size k hk).imp id (fun h => Nat.le_trans HE.out.size h)⟩
    clear hm2 hS2 hg2
    go_wp2
    go_end0
    exact hout.out
  have d1 : (v.kind == 1) = false := by simpa using e1
  by_cases e2 : v.kind = 2
  · have d2 : (v.kind == 2) = true := by simp [e2]
    have Hen : Hid (encV v = encInt v.kind ++ encText (bsOf v.text)) := Lib.hid (by unfold encV; rw [if_neg e1, if_pos e2])
    have He1 := Lib.hid e1
    have He2 := Lib.hid e2
    clear e1 e2
    have hbe := bw_ext w1 5 v.text
    have hbb := bw_byt w1 5 v.text htx
    have hSt := HS1.out.of_ext hbe
    have hdis : ∀ g, w1.heap.size ≤ g → ¬ S1 g := fun g h1 h2 => by have h3 := HS1.out.2 g h2; omega
    have hln : (bsOf v.text).length = v.text.size := rfl
    have c2 : (Lib.bytesWorld w1 5 v.text).cell? ⟨q, 2, none⟩ = some (.string v.text) := hbe.cell a2 id
    go_wp2_with fail
    refine (w_text1 _ S1 _ b _ (bsOf v.text) _ hSt (by simp; omega) hbb hdis (by omega)).mono ?_
    rintro e w2 ⟨rfl, hm2, S2, hS2, hg2⟩
    have hout : Hid (WO1 w S b (bs ++ encV v) (.returned (.tuple #[])) w2) := Lib.hid ⟨rfl, (HE.out.mod S).self (mod_gr (Hm1.out.ext hbe) hm2 Hg1.out), S2, by rw [Hen.out, ← List.append_assoc]; exact hS2, fun k hk => (gr_trans Hg1.out hg2 (Hm1.out.ext hbe).size k hk).imp id (fun h => Nat.le_trans HE.out.size h)⟩
    clear hm2 hS2 hg2
    go_wp2
    go_end0
    exact hout.out
  · have d2 : (v.kind == 2) = false := by simpa using e2
    have hout : Hid (WO1 w S b (bs ++ encV v) (.returned (.tuple #[])) w1) := Lib.hid ⟨rfl, (HE.out.mod S).self Hm1.out, S1, by unfold encV; rw [if_neg e1, if_neg e2, List.append_nil]; exact HS1.out, fun k hk => (Hg1.out k hk).imp id (fun h => Nat.le_trans HE.out.size h)⟩
    have He1 := Lib.hid e1
    have He2 := Lib.hid e2
    clear e1 e2
    go_wp2
    go_end0
    exact hout.out
end Go.Proofs.Ytplpegjnmlabkaa
