/-
 Layer 27 (script): rows of one's own of any type, and the page's Words (a line cut at each blank). Conditions: the line is no longer than 100000 bytes.
-/
import Derived.Test.YtmebipnljkopgaaGreatDoorScrG
import Derived.Test.YtmebipnljkopgaaGreatDoorScrB
namespace Go.Proofs.YtmebipnljkopgaaGreatDoor
set_option linter.unusedSimpArgs false
set_option linter.unusedVariables false
open Go.RowKit
/-- A row of one's own, new since w, of elements of one cell. -/
def NewR (t : TypeId) (w w' : World) (v : Value) (xs : List Value) : Prop :=
  w'.ownsRow 0 t 1 v xs.length xs ∧ ∀ g, v.ownBlock = some g → w.heap.size ≤ g
theorem NewR.nil (t : TypeId) (w : World) : NewR t w w (.slice none 0 0) [] := ⟨World.ownsRow_nil _ _ _ _, by simp [Value.ownBlock]⟩
theorem NewR.app {t : TypeId} {w wr wa w1 : World} {v v' : Value} {xs cs : List Value} {n N : Nat} {zs : List Value} (h : NewR t w wr v xs) (hE : Ext w wr) (ha : Ext wr wa) (he : zs = cs) (ho : w1.ownsRow 0 t 1 v' n zs)
    (hg : wa.grownBy w1 v.ownBlock) (hat : v'.ownBlock = v.ownBlock ∨ v'.ownBlock = some N) (hN : w.heap.size ≤ N) : NewR t w w1 v' cs ∧ Ext w w1 := by
  subst he
  obtain rfl : n = zs.length := by simpa using ho.1.symm
  refine ⟨⟨ho, fun g hgg => ?_⟩, (hE.ext ha).grown hg (fun k hk => .inl (h.2 k hk))⟩
  rcases hat with e | e
  · rw [e] at hgg; exact h.2 g hgg
  · rw [e] at hgg; injection hgg with hgg; omega
theorem NewR.ext {t : TypeId} {w0 w w' : World} {v : Value} {xs : List Value} (h : NewR t w0 w v xs) (hE : Ext w w') : NewR t w0 w' v xs := ⟨own_mod h.1 hE (fun _ _ => id), h.2⟩
theorem NewR.sl {t : TypeId} {w w' : World} {v : Value} {xs : List Value} (h : NewR t w w' v xs) : Sl w' (fun g => v.ownBlock = some g) 1 v xs.length xs := Sl.of_own h.1 (fun _ h => h)
theorem info_str : (Tryz.prog.info? 9).map (fun i => (i.zero, i.size, i.bytes)) = some (some (.string ⟨#[]⟩), 1, 16) := by kernel_rfl

theorem bs_cut (s : ByteArray) (a b : Nat) : bsOf (s.extract a b) = ((bsOf s).drop a).take (b - a) := by
 have e : s = ⟨(bsOf s).toArray⟩ := by simp [bsOf]
 conv => lhs; rw [e]
 rw [ByteArray.extract_mk]
theorem words_cut {l : List UInt8} {pre : List (List UInt8)} {a i : Nat} (h : wordsL l = pre ++ wordsL (l.drop a)) (hai : a ≤ i) (hc : l[i]? = some 32) (hno : ∀ k, a ≤ k → k < i → l[k]? ≠ some 32) :
    wordsL l = (pre ++ [(l.drop a).take (i - a)]) ++ wordsL (l.drop (i + 1)) := by
 obtain ⟨h1, h2⟩ := List.getElem?_eq_some_iff.1 hc
 have e : l.drop a = (l.drop a).take (i - a) ++ 32 :: l.drop (i + 1) := by
  conv => lhs; rw [← List.take_append_drop (i - a) (l.drop a)]
  rw [List.drop_drop, show a + (i - a) = i by omega, List.drop_eq_getElem_cons h1, h2]
 have hn : (32 : UInt8) ∉ (l.drop a).take (i - a) := by
  intro hm
  obtain ⟨k, hk⟩ := List.mem_iff_getElem?.1 hm
  rw [List.getElem?_take] at hk
  split at hk
  · rw [List.getElem?_drop] at hk
    exact hno (a + k) (by omega) (by omega) hk
  cases hk
 have := wordsL_at _ (l.drop (i + 1)) hn
 rw [← e] at this
 rw [h, this]
 simp
theorem words_end {l : List UInt8} {pre : List (List UInt8)} {a : Nat} (h : wordsL l = pre ++ wordsL (l.drop a)) (hno : ∀ k, a ≤ k → k < l.length → l[k]? ≠ some 32) :
    wordsL l = pre ++ [(l.drop a).take (l.length - a)] := by
 have hn : (32 : UInt8) ∉ l.drop a := by
  intro hm
  obtain ⟨k, hk⟩ := List.mem_iff_getElem?.1 hm
  rw [List.getElem?_drop] at hk
  have := (List.getElem?_eq_some_iff.1 hk).1
  exact hno (a + k) (by omega) this hk
 rw [h, wordsL_none _ hn, List.take_of_length_le (by simp)]
def WordsOut (w : World) (ws : List ByteArray) (e : Ending) (w' : World) : Prop := ∃ v, e = .returned v ∧ NewR 9 w w' v (ws.map Value.string) ∧ Ext w w'
set_option maxRecDepth 100000 in
set_option maxHeartbeats 1000000 in
theorem r_words (s : ByteArray) (w : World) (hs : s.size ≤ 100000) : Calls Tryz.prog 23 #[.string s] w (WordsOut w (wordsB s)) := by
 obtain ⟨i0, hi, hz0, hz1, hz2⟩ := info_parts info_str
 obtain ⟨l, hl⟩ : ∃ l, bsOf s = l := ⟨_, rfl⟩
 have hsz : s.size = l.length := by rw [← hl]; rfl
 obtain ⟨n, hn⟩ : ∃ n, s.size = n := ⟨_, rfl⟩
 have Hln : Hid (l.length = n) := Lib.hid (by omega)
 clear hsz
 have Hl := Lib.hid hl
 clear hl
 have hn1 : n ≤ 100000 := by omega
 clear hs
 go_enter Tryz.func23, Tryz.ntmps23
 go_wp2
 go_loopw [3, 4, 5] (fun v fv iv wr => ∃ (i a : Nat) (pre : List (List UInt8)), fv = .int .i64 a ∧ iv = .int .i64 i ∧ i ≤ n + 1 ∧ pre.length ≤ i ∧ (i ≤ n ∧ a ≤ i ∧ wordsL l = pre ++ wordsL (l.drop a) ∧ (∀ k, a ≤ k → k < i → l[k]? ≠ some 32) ∨ i = n + 1 ∧ wordsL l = pre) ∧
   NewR 9 w wr v (pre.map fun x => Value.string (bA x)) ∧ Ext w wr) (fun _ _ iv _ => n + 1 - (intOf iv).toNat)
 case atStart => exact ⟨0, 0, [], rfl, rfl, by omega, by simp, .inl ⟨by omega, by omega, rfl, fun k h1 h2 => absurd h2 (by omega)⟩, NewR.nil _ w, Mod.refl _ _⟩
 case round =>
  obtain ⟨i, a, pre, rfl, rfl, hin, hpl, hst, hB, hE⟩ := hrel
  by_cases hle : i ≤ n
  · obtain ⟨hai, hun, hno⟩ : a ≤ i ∧ wordsL l = pre ++ wordsL (l.drop a) ∧ (∀ k, a ≤ k → k < i → l[k]? ≠ some 32) := by
     rcases hst with h | h
     · exact h.2
     omega
    have Hun := Lib.hid hun
    have Hno := Lib.hid hno
    obtain ⟨m, hm⟩ : ∃ m, pre.length = m := ⟨_, rfl⟩
    have ho := hB.1
    rw [List.length_map, hm] at ho
    rw [hm] at hpl
    have Hm := Lib.hid hm
    obtain ⟨A, c, rfl⟩ := own_form ho
    have HB := Lib.hid hB
    clear hB hm hst hun hno
    by_cases hie : i = n
    · subst hie
      have hnew : wordsL l = pre ++ [(l.drop a).take (i - a)] := by
       have := words_end Hun.out (fun k h1 h2 => Hno.out k h1 (by have := Hln.out; omega))
       rw [Hln.out] at this
       exact this
      obtain ⟨x, hx⟩ : ∃ x, (l.drop a).take (i - a) = x := ⟨_, rfl⟩
      rw [hx] at hnew
      have Hnew := Lib.hid hnew
      clear hnew
      have hsl : ∀ W, (Instr.slice 9 (.string s) (some (.int .i64 (a : Int))) (some (.int .i64 (i : Int))) none).run Tryz.prog W = .ok (.string (bA x)) W := by
       intro W
       rw [run_slice_string W _ s _ _ _ _ Tryz.underlying9 (by omega) (by omega) (by omega)]
       have e : s.extract (a : Int).toNat (i : Int).toNat = bA x := bsOf_inj ((bs_cut _ _ _).trans (by rw [Hl.out, bA_bs, ← hx]; simp))
       rw [e]
      clear hx
      go_wp2_with (at_builtin; go_must (refine wpList_app _ rfl _ _ 48 rfl 9 i0 _ 1 16 Tryz.underlying48 hi hz0 hz1 hz2 rfl (by omega) _ m (pre.map fun x => Value.string (bA x)) rfl (ho.alloc _) _ _ 1 _ rfl (Sl.one wr _ _) (by simp [Value.oneCell']) (by simp only [maxLen]; omega) (by omega) ?_))
      intro v' w1 ho1 hgr hat
      obtain ⟨hB1, hE1⟩ := NewR.app (cs := (pre ++ [x]).map fun x => Value.string (bA x)) HB.out hE ((Mod.refl _ wr).alloc _) (by simp) ho1 hgr hat (by have := hE.size; omega)
      clear ho1 hgr hat ho
      go_wp2
      exact ⟨⟨i + 1, i + 1, pre ++ [x], by go_num, by go_num, by omega, by simp [Hm.out]; omega, .inr ⟨rfl, Hnew.out⟩, hB1, hE1⟩, by simp [intOf] <;> omega⟩
    have hlt : i < n := by omega
    obtain ⟨c0, hc0⟩ : ∃ c, l[i]? = some c := ⟨_, List.getElem?_eq_getElem (by rw [Hln.out]; exact hlt)⟩
    have x1 := run_ix Hl.out hc0 .i64
    obtain ⟨y, hy⟩ : ∃ y, c0.toNat = y := ⟨_, rfl⟩
    rw [hy] at x1
    by_cases h32 : c0 = 32
    · subst h32
      obtain rfl : y = 32 := by rw [← hy]; rfl
      have hnew : wordsL l = (pre ++ [(l.drop a).take (i - a)]) ++ wordsL (l.drop (i + 1)) := words_cut Hun.out hai hc0 Hno.out
      clear hc0 hy
      obtain ⟨x, hx⟩ : ∃ x, (l.drop a).take (i - a) = x := ⟨_, rfl⟩
      rw [hx] at hnew
      have Hnew := Lib.hid hnew
      clear hnew
      have hsl : ∀ W, (Instr.slice 9 (.string s) (some (.int .i64 (a : Int))) (some (.int .i64 (i : Int))) none).run Tryz.prog W = .ok (.string (bA x)) W := by
       intro W
       rw [run_slice_string W _ s _ _ _ _ Tryz.underlying9 (by omega) (by omega) (by omega)]
       have e : s.extract (a : Int).toNat (i : Int).toNat = bA x := bsOf_inj ((bs_cut _ _ _).trans (by rw [Hl.out, bA_bs, ← hx]; simp))
       rw [e]
      clear hx
      go_wp2_with (at_builtin; go_must (refine wpList_app _ rfl _ _ 48 rfl 9 i0 _ 1 16 Tryz.underlying48 hi hz0 hz1 hz2 rfl (by omega) _ m (pre.map fun x => Value.string (bA x)) rfl (ho.alloc _) _ _ 1 _ rfl (Sl.one wr _ _) (by simp [Value.oneCell']) (by simp only [maxLen]; omega) (by omega) ?_))
      intro v' w1 ho1 hgr hat
      obtain ⟨hB1, hE1⟩ := NewR.app (cs := (pre ++ [x]).map fun x => Value.string (bA x)) HB.out hE ((Mod.refl _ wr).alloc _) (by simp) ho1 hgr hat (by have := hE.size; omega)
      clear ho1 hgr hat ho
      go_wp2
      exact ⟨⟨i + 1, i + 1, pre ++ [x], by go_num, by go_num, by omega, by simp [Hm.out]; omega, .inl ⟨by omega, by omega, Hnew.out, fun k h1 h2 => absurd h2 (by omega)⟩, hB1, hE1⟩, by simp [intOf] <;> omega⟩
    have hy32 : y ≠ 32 := fun e => h32 (UInt8.toNat_inj.1 (by rw [hy, e]; rfl))
    have hno2 : ∀ k, a ≤ k → k < i + 1 → l[k]? ≠ some 32 := by
     intro k h1 h2
     by_cases hk : k = i
     · subst hk; rw [hc0]; intro e; injection e with e; exact h32 e
     exact Hno.out k h1 (by omega)
    have Hno2 := Lib.hid hno2
    have d1 : ((i : Int) == (n : Int)) = false := by simp; omega
    have d2 : ((y : Int) == 32) = false := by simp; omega
    clear hno2 hc0 hy h32
    go_wp2
    exact ⟨⟨i + 1, a, pre, rfl, by go_num, by omega, by rw [Hm.out]; omega, .inl ⟨by omega, by omega, Hun.out, Hno2.out⟩, HB.out, hE⟩, by simp [intOf] <;> omega⟩
  · obtain ⟨hi1, hfin⟩ : i = n + 1 ∧ wordsL l = pre := by
     rcases hst with h | h
     · omega
     exact h
    have Hfin := Lib.hid hfin
    clear hfin hst
    go_wp2
    go_ret
    refine ⟨_, rfl, ?_, hE⟩
    unfold wordsB
    rw [Hl.out, Hfin.out, List.map_map]
    exact hB
end Go.Proofs.YtmebipnljkopgaaGreatDoor
