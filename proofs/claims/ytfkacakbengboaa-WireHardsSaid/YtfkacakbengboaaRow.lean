/-
 Rows that are known whole, elements of k cells: copy, clear, append of a make. No program is named here. Conditions: as each theorem names them.
-/
import Derived.Test.YtfkacakbengboaaMem
import Derived.Laws.CopyOwn
import Derived.Lib.AppendZerosOnto
import Derived.Lib.Overlaps
namespace Go.Proofs.Ytfkacakbengboaa
open Go.RowKit

/-- Block g is known whole. -/
def Row (w : World) (g : Nat) (e : TypeId) (cur : List Value) : Prop := w.heap[g]? = some (.cells cur.toArray e (0, 0))
theorem Row.mod {w w' : World} {S : Nat → Prop} {g : Nat} {e : TypeId} {cur : List Value} (h : Row w g e cur) (hm : Mod S w w') (hS : ¬ S g) : Row w' g e cur := hm.blk h hS
theorem Row.lt {w : World} {g : Nat} {e : TypeId} {cur : List Value} (h : Row w g e cur) : g < w.heap.size := (Array.getElem?_eq_some_iff.1 h).1
theorem Row.cell {w : World} {g : Nat} {e : TypeId} {cur : List Value} (h : Row w g e cur) {j : Nat} {v : Value} (hj : cur[j]? = some v) : w.cell? ⟨g, j, none⟩ = some v := by
 unfold Row at h; simp [World.cell?, h, hj]
theorem Row.free {w : World} {g : Nat} {e : TypeId} {cur : List Value} (h : Row w g e cur) (j : Nat) : w.frozen? ⟨g, j, none⟩ = false := by
 unfold Row at h; simp [World.frozen?, h]
theorem Row.set {w : World} {g : Nat} {e : TypeId} {cur : List Value} (h : Row w g e cur) (cur' : List Value) : Row (w.setRow g cur'.toArray) g e cur' := setRow_heap w g _ _ e _ h
theorem Mod.setRow {S : Nat → Prop} {a w : World} (h : Mod S a w) {g : Nat} (hg : a.heap.size ≤ g ∨ S g) (cs : Array Value) : Mod S a (w.setRow g cs) :=
 ⟨h.os, h.tape, h.output, by simpa using h.size, fun k hk hn => (setRow_other w g k cs (fun e => by
  subst e
  rcases hg with hg | hg
  ·
   omega
  ·
   exact hn hg)).trans (h.block k hk hn)⟩
theorem Row.own {w : World} {g cap n : Nat} {e : TypeId} {cur : List Value} {size : Nat} {xs : List Value} (h : Row w g e cur) (hc : cur.length = cap * size) (hn : n ≤ cap) (hm : cap ≤ maxLen) (ht : cur.take (n * size) = xs) :
  w.ownsRow 0 e size (.slice (some ⟨g, 0, none⟩) n cap) n xs := by
 refine ⟨?_, .inr ⟨g, cap, cur.toArray, rfl, Nat.zero_le _, h, hn, hm, by simpa using hc, by simpa using ht⟩⟩
 rw [← ht, List.length_take]
 exact Nat.min_eq_left (by rw [hc]; exact Nat.mul_le_mul_right _ hn)
theorem row_of_own {w : World} {e : TypeId} {size n : Nat} {v : Value} {xs : List Value} (h : w.ownsRow 0 e size v n xs) :
  (v = .slice none 0 0 ∧ n = 0) ∨ ∃ g cap cur, v = .slice (some ⟨g, 0, none⟩) n cap ∧ Row w g e cur ∧ cur.length = cap * size ∧ n ≤ cap ∧ cap ≤ maxLen ∧ cur.take (n * size) = xs := by
 rcases h.2 with h1 | ⟨g, cap, cur, rfl, _, hg, hn, hm, hs, ht⟩
 ·
  exact .inl h1
 ·
  exact .inr ⟨g, cap, cur.toList, rfl, by unfold Row; simpa using hg, by simpa using hs, hn, hm, ht⟩

section
variable {P : Program} (w : World)
/-- copy, elements of k cells, into a row that is known whole. -/
theorem run_copyK (dT sT ty elem : TypeId) (k g o dLen dCap : Nat) (a : Addr) (sLen sCap n : Nat) (e : TypeId) (cur cs : List Value)
  (hu : P.underlying dT = some (.slice elem)) (hs : (P.info? elem).map (·.size) = some k) (hg : Row w g e cur) (hn : Nat.min sLen dLen = n) (hl : cs.length = n * k)
  (hsrc : ∀ j v, cs[j]? = some v → w.cell? (a.add j) = some v) (hfit : o + cs.length ≤ cur.length) (h1 : ∀ v ∈ cs, v.oneCell' = true) :
  (Builtin.copy_ #[dT, sT] ty #[.slice (some ⟨g, o, none⟩) dLen dCap, .slice (some a) sLen sCap]).run P w = .ok (goInt n) (w.setRow g (splice cur o cs).toArray) := by
 have hf := run_firstCells_some (P := P) w k n a sLen sCap cs hl hsrc
 have hst := run_storeCells_at P g o e cs 0 cur.toArray w hg (by simpa using hfit) h1
 cases hq : P.info? elem with
 | none => simp [hq] at hs
 | some i =>
  have hi : i.size = k := by simpa [hq] using hs
  have e1 : (cur.toArray.toList.take (o + 0) ++ cs ++ cur.toArray.toList.drop (o + 0 + cs.length)).toArray = (splice cur o cs).toArray := by simp [splice]
  rw [e1] at hst
  simp [Builtin.copy_, run_underlying hu, Builtin.lenOf, sizeOf, typeInfo, hq, hi, hn, hf, hst]
theorem splice_nil {α : Type} (L : List α) (o : Nat) : splice L o [] = L := by simp [splice]
/-- append, in the room that there is, onto a row that is known whole. -/
theorem run_appK (t ty elem : TypeId) (i : TypeInfo) (k g n cap : Nat) (x : Value) (m : Nat) (e : TypeId) (cur news : List Value) (T : Nat → Prop)
  (ht : P.underlying t = some (.slice elem)) (hi : P.info? elem = some i) (hk : i.size = k) (hg : Row w g e cur) (hx : Sl w T k x m news) (hroom : n + m ≤ cap) (hc : cur.length = cap * k) (h1 : ∀ v ∈ news, v.oneCell' = true) :
  (Builtin.append_ #[t, t] ty #[.slice (some ⟨g, 0, none⟩) n cap, x]).run P w = .ok (.slice (some ⟨g, 0, none⟩) (n + m) cap) (w.setRow g (splice cur (n * k) news).toArray) := by
 obtain ⟨hl, A, c, rfl, hmc, hcm, hsrc⟩ := hx
 have hfit : n * k + news.length ≤ cur.length := by rw [hl, hc, ← Nat.add_mul]; exact Nat.mul_le_mul_right _ hroom
 have hst := run_storeCells_at P g (n * k) e news 0 cur.toArray w hg (by simpa using hfit) h1
 have e1 : (cur.toArray.toList.take (n * k + 0) ++ news ++ cur.toArray.toList.drop (n * k + 0 + news.length)).toArray = (splice cur (n * k) news).toArray := by simp [splice]
 rw [e1] at hst
 rcases Nat.eq_zero_or_pos m with h0 | h0
 ·
  subst h0
  obtain rfl : news = [] := List.eq_nil_of_length_eq_zero (by simpa using hl)
  rw [splice_nil] at hst ⊢
  have hw : w.setRow g cur.toArray = w := setRow_self w g _ e _ hg
  rw [hw] at hst ⊢
  have hroom' : n ≤ cap := by omega
  rcases A with _ | a
  ·
   simp [Builtin.append_, run_underlying ht, sizeOf, typeInfo, hi, Builtin.lenOf, Builtin.firstCells, hroom', storeCells]
  ·
   have hf := run_firstCells_some (P := P) w k 0 a 0 c [] (by simp) (by simp)
   simp [Builtin.append_, run_underlying ht, sizeOf, typeInfo, hi, hk, Builtin.lenOf, hf, hroom', storeCells]
 ·
  obtain ⟨g', off, rfl, _, hcell⟩ := hsrc h0
  have hf := run_firstCells_some (P := P) w k m ⟨g', off, none⟩ m c news hl (fun j u hu => by rw [addMk]; exact hcell j u hu)
  simp [Builtin.append_, run_underlying ht, sizeOf, typeInfo, hi, hk, Builtin.lenOf, hf, hroom, Addr.add_lit, hst]
/-- clear of one element. -/
theorem run_clearK (t elem ty : TypeId) (z : Value) (k g o c : Nat) (e : TypeId) (cur : List Value) (ht : P.underlying t = some (.slice elem)) (hv : (zeroValue elem).run P w = .ok z w) (hz : z.cells.size = k)
  (h1 : ∀ u ∈ z.cells.toList, u.oneCell' = true) (hg : Row w g e cur) (hfit : o + k ≤ cur.length) :
  (Builtin.clear_ #[t] ty #[.slice (some ⟨g, o, none⟩) 1 c]).run P w = .ok (.tuple #[]) (w.setRow g (splice cur o z.cells.toList).toArray) := by
 have hzc : (Builtin.zeroCells z.cells 1).toList = z.cells.toList := by
  apply List.ext_getElem
  ·
   simp [Builtin.zeroCells]
  ·
   intro i h1 h2
   have hi : i < z.cells.size := by simpa using h2
   simp [Builtin.zeroCells, Nat.mod_eq_of_lt hi, getElem!_pos z.cells i hi]
 have hl : z.cells.toList.length = k := by simpa using hz
 have hst := run_storeCells_at P g o e z.cells.toList 0 cur.toArray w hg (by simpa [hz] using hfit) h1
 have e1 : (cur.toArray.toList.take (o + 0) ++ z.cells.toList ++ cur.toArray.toList.drop (o + 0 + z.cells.toList.length)).toArray = (splice cur o z.cells.toList).toArray := by simp [splice]
 rw [e1] at hst
 simp [Builtin.clear_, run_underlying ht, hv, hzc, hst]
end

/-- An append or a copy whose run is known, for the walk. -/
theorem wpList_copy_at {P : Program} (w : World) {ops : Array Oper} {rest : List Oper} {o : Oper} {a : Act} {Q : Exit → Act → World → Prop} (hgd : o.guard = none) (d s : Operand) (t t' : TypeId)
  (ho : o.op = .call { callee := .builtin .copy, args := #[d, s], argTypes := #[t, t'] }) (v u : Value) (hd : a.eval d = v) (hs : a.eval s = u) {v' : Value} {w' : World}
  (hr : (Builtin.copy_ #[t, t'] o.type #[v, u]).run P w = .ok v' w') (h : wpList P ops Q rest (a.put o.dst v') w') : wpList P ops Q (o :: rest) a w := by
 refine wpList_plain hgd fun K hK => ?_
 unfold Oper.wp
 simp [execOp, ho, resolve, invoke, builtin, hd, hs, hr, Result.andThen]
 exact hK _ _ h
theorem wpList_clear_at {P : Program} (w : World) {ops : Array Oper} {rest : List Oper} {o : Oper} {a : Act} {Q : Exit → Act → World → Prop} (hgd : o.guard = none) (d : Operand) (t : TypeId)
  (ho : o.op = .call { callee := .builtin .clear, args := #[d], argTypes := #[t] }) (v : Value) (hd : a.eval d = v) {v' : Value} {w' : World}
  (hr : (Builtin.clear_ #[t] o.type #[v]).run P w = .ok v' w') (h : wpList P ops Q rest (a.put o.dst v') w') : wpList P ops Q (o :: rest) a w := by
 refine wpList_plain hgd fun K hK => ?_
 unfold Oper.wp
 simp [execOp, ho, resolve, invoke, builtin, hd, hr, Result.andThen]
 exact hK _ _ h
theorem step_copy_at {P : Program} {ops : Array Oper} {o : Oper} {a : Act} {w : World} {K : Act → World → Prop} {Q : Exit → Act → World → Prop} {E : Prop}
  (hg : o.guard = none) (d x : Operand) (dT sT : TypeId) (hop : o.op = Op.call { callee := Callee.builtin Builtin.copy, args := #[d, x], argTypes := #[dT, sT] })
  (v u : Value) (hd : a.eval d = v) (hx : a.eval x = u) {v' : Value} {w' : World} (hr : (Builtin.copy_ #[dT, sT] o.type #[v, u]).run P w = .ok v' w') (hK : K (a.put o.dst v') w') :
  if Region.wanted o (yielded ops a.tmps) = true then Oper.wp P o a w K Q else E := by
 have hw : Region.wanted o (yielded ops a.tmps) = true := by simp [Region.wanted, hg]
 rw [if_pos hw]
 unfold Oper.wp
 simp [execOp, hop, resolve, invoke, builtin, hd, hx, hr, Result.andThen]
 exact hK
theorem step_app_at {P : Program} {ops : Array Oper} {o : Oper} {a : Act} {w : World} {K : Act → World → Prop} {Q : Exit → Act → World → Prop} {E : Prop}
  (hg : o.guard = none) (d x : Operand) (dT sT : TypeId) (hop : o.op = Op.call { callee := Callee.builtin Builtin.append, args := #[d, x], argTypes := #[dT, sT] })
  (v u : Value) (hd : a.eval d = v) (hx : a.eval x = u) {v' : Value} {w' : World} (hr : (Builtin.append_ #[dT, sT] o.type #[v, u]).run P w = .ok v' w') (hK : K (a.put o.dst v') w') :
  if Region.wanted o (yielded ops a.tmps) = true then Oper.wp P o a w K Q else E := by
 have hw : Region.wanted o (yielded ops a.tmps) = true := by simp [Region.wanted, hg]
 rw [if_pos hw]
 unfold Oper.wp
 simp [execOp, hop, resolve, invoke, builtin, hd, hx, hr, Result.andThen]
 exact hK
theorem splice_mid {α : Type} (a b c cs : List α) (h : cs.length = b.length) : splice (a ++ (b ++ c)) a.length cs = a ++ (cs ++ c) := by
 unfold splice
 rw [List.take_left, h, ← List.append_assoc a b c, ← List.length_append, List.drop_left]
/-- A box of another type is none of a row's blocks. -/
theorem own_apart {w : World} {e t : TypeId} {k n b g : Nat} {v : Value} {xs : List Value} {cs : Array Value} {q : Nat × Nat} (h : w.ownsRow 0 e k v n xs) (hg : v.ownBlock = some g) (hb : w.heap[b]? = some (.cells cs t q)) (ht : e ≠ t) : g ≠ b := by
 rintro rfl
 rcases row_of_own h with ⟨rfl, _⟩ | ⟨g', cap, cur, rfl, hR, _⟩
 ·
  simp [Value.ownBlock] at hg
 ·
  simp [Value.ownBlock] at hg
  subst hg
  unfold Row at hR
  rw [hR] at hb
  injection hb with hb
  injection hb with _ hb
  exact ht hb
end Go.Proofs.Ytfkacakbengboaa
