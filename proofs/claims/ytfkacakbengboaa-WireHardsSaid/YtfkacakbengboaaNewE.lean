/-
 Lists of entries of one's own, their twins. Conditions: as each theorem names them.
-/
import Derived.Test.YtfkacakbengboaaNum
import Derived.Test.YtfkacakbengboaaRow
import Derived.Test.YtfkacakbengboaaEnts
namespace Go.Proofs.Ytfkacakbengboaa
set_option linter.unusedSimpArgs false
open Go.RowKit

theorem own_own {w : World} {e t : TypeId} {k n k' n' g : Nat} {v v' : Value} {xs xs' : List Value} (h : w.ownsRow 0 e k v n xs) (h' : w.ownsRow 0 t k' v' n' xs') (ht : e ≠ t) (hg : v.ownBlock = some g) : v'.ownBlock ≠ some g := by
 intro hg'
 rcases row_of_own h' with ⟨rfl, _⟩ | ⟨g', cap, cur, rfl, hR, _⟩
 ·
  simp [Value.ownBlock] at hg'
 ·
  simp [Value.ownBlock] at hg'
  subst hg'
  exact own_apart h hg hR ht rfl
theorem any_step {α : Type} {p : α → Bool} {l : List α} {i : Nat} {x : α} (h : (l.take i).any p = false) (hx : l[i]? = some x) (e : p x = false) : (l.take (i + 1)).any p = false := by
 obtain ⟨hi, rfl⟩ := List.getElem?_eq_some_iff.1 hx
 rw [List.take_succ_eq_append_getElem hi, List.any_append, h]; simp [e]
theorem info_entry : (Try.prog.info? 44).map (fun i => (i.zero, i.size, i.bytes)) = some (some (.agg #[.int .i64 0, .int .i64 0, .int .i64 0, .int .i64 0, .int .i64 0, .string ⟨#[]⟩, .int .i64 0, .float .f64 0, .string ⟨#[]⟩, .int .i64 0, .float .f64 0, .string ⟨#[]⟩, .int .i64 0, .int .i64 0, .int .i64 0, .int .i64 0]), 16, 152) := by kernel_rfl
theorem entry_one (l : List AEntry) : ∀ u ∈ l.flatMap AEntry.cells, u.oneCell' = true := by
 intro u hu
 obtain ⟨p, _, hp⟩ := List.mem_flatMap.1 hu
 simp only [AEntry.cells, List.mem_cons, List.not_mem_nil, or_false] at hp
 rcases hp with rfl | rfl | rfl | rfl | rfl | rfl | rfl | rfl | rfl | rfl | rfl | rfl | rfl | rfl | rfl | rfl <;> rfl
/-- Of one's own. -/
def NewE (w w' : World) (v : Value) (l : List AEntry) : Prop := w'.ownsRow 0 44 16 v l.length (l.flatMap AEntry.cells) ∧ (∀ x ∈ l, x.ok) ∧ ∀ g, v.ownBlock = some g → w.heap.size ≤ g
theorem NewE.ents {w w' : World} {v : Value} {l : List AEntry} (h : NewE w w' v l) : Ents w' (fun g => v.ownBlock = some g) v l := ⟨Sl.of_own h.1 (fun _ h => h), h.2.1⟩
theorem newE_mod {W w1 w2 : World} {S : Nat → Prop} {v : Value} {l : List AEntry} (h : NewE W w1 v l) (hm : Mod S w1 w2) (hd : ∀ g, v.ownBlock = some g → ¬ S g) : NewE W w2 v l := ⟨own_mod h.1 hm hd, h.2.1, h.2.2⟩
theorem newE_up {W w0 w1 : World} {v : Value} {l : List AEntry} (h : NewE w0 w1 v l) (hs : W.heap.size ≤ w0.heap.size) : NewE W w1 v l := ⟨h.1, h.2.1, fun g hg => Nat.le_trans hs (h.2.2 g hg)⟩
theorem newE_nil (W w : World) : NewE W w (.slice none 0 0) [] := ⟨World.ownsRow_nil _ _ _ _, by simp, by simp [Value.ownBlock]⟩
theorem newE_box {W w w' : World} {v : Value} {l : List AEntry} {b : Nat} {t : TypeId} {cs : Array Value} {q : Nat × Nat} (h : NewE W w v l) (hb : w.heap[b]? = some (.cells cs t q)) (hM : Mod (fun k => k = b) w w') (h1 : 44 ≠ t) : NewE W w' v l :=
 newE_mod h hM (fun _ hg => own_apart h.1 hg hb h1)
theorem NewE.form {w w' : World} {v : Value} {l : List AEntry} (h : NewE w w' v l) : ∃ A c, v = .slice A l.length c := own_form h.1
/-- Behind an append. -/
theorem newE_app {W w w' : World} {v v' : Value} {l k : List AEntry} {n m q : Nat} (h : NewE W w v l) (hk : ∀ x ∈ k, x.ok) (hn : l.length = n) (hm : k.length = m) (ho : w'.ownsRow 0 44 16 v' (n + m) (l.flatMap AEntry.cells ++ k.flatMap AEntry.cells)) (hat : v'.ownBlock = v.ownBlock ∨ v'.ownBlock = some q) (hs : W.heap.size ≤ q) : NewE W w' v' (l ++ k) := by
 refine ⟨by rw [List.length_append, List.flatMap_append, hn, hm]; exact ho, fun x hx => ?_, fun g hg => ?_⟩
 ·
  rcases List.mem_append.1 hx with hx | hx
  ·
   exact h.2.1 x hx
  ·
   exact hk x hx
 ·
  rcases hat with e | e <;> rw [e] at hg
  ·
   exact h.2.2 g hg
  ·
   injection hg with hg; omega
end Go.Proofs.Ytfkacakbengboaa
