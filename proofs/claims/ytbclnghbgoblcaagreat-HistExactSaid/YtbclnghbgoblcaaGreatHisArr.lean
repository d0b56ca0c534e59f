/-
 An array of calls in a box: one element is read, one is set. Conditions: as each theorem names them.
-/
import Derived.Test.YtbclnghbgoblcaaGreatHisCopy
namespace Go.Proofs.YtbclnghbgoblcaaGreat
set_option linter.unusedSimpArgs false
open Go.RowKit

def callAt (w : World) (q o : Nat) (c : ACall) : World := ((((((((((w.setCell ⟨q, o, none⟩ (.int .i64 c.client)).setCell ⟨q, o + 1, none⟩ (.int .i64 c.seq)).setCell ⟨q, o + 2, none⟩ (.int .i64 c.cmd.kind)).setCell ⟨q, o + 3, none⟩ (.string c.cmd.key)).setCell ⟨q, o + 4, none⟩ (.int .i64 c.cmd.old.kind)).setCell ⟨q, o + 5, none⟩ (.float .f64 c.cmd.old.num)).setCell ⟨q, o + 6, none⟩ (.string c.cmd.old.text)).setCell ⟨q, o + 7, none⟩ (.int .i64 c.cmd.val.kind)).setCell ⟨q, o + 8, none⟩ (.float .f64 c.cmd.val.num)).setCell ⟨q, o + 9, none⟩ (.string c.cmd.val.text))
theorem callAt_mod (w : World) (q o : Nat) (c : ACall) : Mod (fun k => k = q) w (callAt w q o c) := by
 unfold callAt
 exact mod_same (mod_same (mod_same (mod_same (mod_same (mod_same (mod_same (mod_same (mod_same (mod_same (Mod.refl _ _) _ _) _ _) _ _) _ _) _ _) _ _) _ _) _ _) _ _) _ _
theorem callAt_set {w : World} {q o : Nat} {e : TypeId} {A B : List Value} {k0 k1 k2 k3 k4 k5 k6 k7 k8 k9 : Value} (c : ACall) (h : Row w q e (A ++ k0 :: k1 :: k2 :: k3 :: k4 :: k5 :: k6 :: k7 :: k8 :: k9 :: B)) (ho : A.length = o) :
  Row (callAt w q o c) q e (A ++ .int .i64 c.client :: .int .i64 c.seq :: .int .i64 c.cmd.kind :: .string c.cmd.key :: .int .i64 c.cmd.old.kind :: .float .f64 c.cmd.old.num :: .string c.cmd.old.text :: .int .i64 c.cmd.val.kind :: .float .f64 c.cmd.val.num :: .string c.cmd.val.text :: B) := by
 unfold callAt
 have := (row_set (j := o + 9) (.string c.cmd.val.text) (row_set (j := o + 8) (.float .f64 c.cmd.val.num) (row_set (j := o + 7) (.int .i64 c.cmd.val.kind) (row_set (j := o + 6) (.string c.cmd.old.text) (row_set (j := o + 5) (.float .f64 c.cmd.old.num) (row_set (j := o + 4) (.int .i64 c.cmd.old.kind) (row_set (j := o + 3) (.string c.cmd.key) (row_set (j := o + 2) (.int .i64 c.cmd.kind) (row_set (j := o + 1) (.int .i64 c.seq) (row_set (j := o) (.int .i64 c.client) h))))))))))
 subst ho
 simpa [List.set_append] using this
theorem calls_split {L : List ACall} {k : Nat} {y : ACall} (h : L[k]? = some y) : L.flatMap ACall.cells = (L.take k).flatMap ACall.cells ++ (y.cells ++ (L.drop (k + 1)).flatMap ACall.cells) := by
 obtain ⟨hk, rfl⟩ := List.getElem?_eq_some_iff.1 h
 rw [← List.flatMap_cons, ← List.drop_eq_getElem_cons hk, ← List.flatMap_append, List.take_append_drop]
theorem calls_set {L : List ACall} {k : Nat} {y c : ACall} (h : L[k]? = some y) : (L.set k c).flatMap ACall.cells = (L.take k).flatMap ACall.cells ++ (c.cells ++ (L.drop (k + 1)).flatMap ACall.cells) := by
 obtain ⟨hk, rfl⟩ := List.getElem?_eq_some_iff.1 h
 have h2 : (L.set k c)[k]? = some c := by simp [hk]
 rw [calls_split h2]
 have e1 : (L.set k c).take k = L.take k := by rw [List.take_set]; exact List.set_eq_of_length_le (by rw [List.length_take]; omega)
 have e2 : (L.set k c).drop (k + 1) = L.drop (k + 1) := by rw [List.drop_set]; simp
 rw [e1, e2]
theorem callAt_row {w : World} {q k : Nat} {e : TypeId} {L : List ACall} {y : ACall} (c : ACall) (h : Row w q e (L.flatMap ACall.cells)) (hk : L[k]? = some y) : Row (callAt w q (k * 10) c) q e ((L.set k c).flatMap ACall.cells) := by
 rw [calls_split hk] at h
 rw [calls_set hk]
 have hl : ((L.take k).flatMap ACall.cells).length = k * 10 := by
  rw [flat_len (k := 10) (fun _ => rfl), List.length_take, Nat.min_eq_left (Nat.le_of_lt (List.getElem?_eq_some_iff.1 hk).1)]
 exact callAt_set c h hl
theorem calls_at {w : World} {q k : Nat} {e : TypeId} {L : List ACall} {y : ACall} (h : Row w q e (L.flatMap ACall.cells)) (hk : L[k]? = some y) : At w q (k * 10) y.cells := fun j u hu => by
 have hj : j < 10 := (List.getElem?_eq_some_iff.1 hu).1
 exact h.cell (by rw [flat_get (k := 10) (fun _ => rfl) L k j _ hk hj]; exact hu)
set_option maxHeartbeats 2000000 in
theorem store_call_at {w : World} {q k : Nat} {L : List ACall} {y : ACall} {e : TypeId} (c : ACall) (h : Row w q e (L.flatMap ACall.cells)) (hk : L[k]? = some y) :
  (Instr.storeAt 44 (.pointer (some ⟨q, k * 10, none⟩)) (.agg #[.int .i64 c.client, .int .i64 c.seq, .int .i64 c.cmd.kind, .string c.cmd.key, .int .i64 c.cmd.old.kind, .float .f64 c.cmd.old.num, .string c.cmd.old.text, .int .i64 c.cmd.val.kind, .float .f64 c.cmd.val.num, .string c.cmd.val.text])).run Tryz.prog w = .ok () (callAt w q (k * 10) c) := by
 have hA := calls_at h hk
 have f0 : w.frozen? ⟨q, k * 10, none⟩ = false := h.free _
 have f1 : w.frozen? ⟨q, k * 10 + 1, none⟩ = false := h.free _
 have f2 : w.frozen? ⟨q, k * 10 + 2, none⟩ = false := h.free _
 have f3 : w.frozen? ⟨q, k * 10 + 3, none⟩ = false := h.free _
 have f4 : w.frozen? ⟨q, k * 10 + 4, none⟩ = false := h.free _
 have f5 : w.frozen? ⟨q, k * 10 + 5, none⟩ = false := h.free _
 have f6 : w.frozen? ⟨q, k * 10 + 6, none⟩ = false := h.free _
 have f7 : w.frozen? ⟨q, k * 10 + 7, none⟩ = false := h.free _
 have f8 : w.frozen? ⟨q, k * 10 + 8, none⟩ = false := h.free _
 have f9 : w.frozen? ⟨q, k * 10 + 9, none⟩ = false := h.free _
 have c0 := hA 0 _ rfl
 have c1 := hA 1 _ rfl
 have c2 := hA 2 _ rfl
 have c3 := hA 3 _ rfl
 have c4 := hA 4 _ rfl
 have c5 := hA 5 _ rfl
 have c6 := hA 6 _ rfl
 have c7 := hA 7 _ rfl
 have c8 := hA 8 _ rfl
 have c9 := hA 9 _ rfl
 rw [Nat.add_zero] at c0
 unfold callAt
 go_simp
end Go.Proofs.YtbclnghbgoblcaaGreat
