/-
 Bytes behind bytes of one's own, as one step of a walk. Conditions: as each theorem names them.
-/
import Derived.Test.YtfkacakbengboaaSesRef2
import Derived.Test.YtfkacakbengboaaTake
namespace Go.Proofs.Ytfkacakbengboaa
set_option linter.unusedSimpArgs false
open Go.RowKit

theorem NewB.up {w0 w1 w' : World} {v : Value} {xs : List UInt8} (h : NewB w1 w' v xs) (hE : Ext w0 w1) : NewB w0 w' v xs := ⟨h.1, fun g hg => Nat.le_trans hE.size (h.2 g hg)⟩
theorem NewB.ext {w0 w w' : World} {v : Value} {xs : List UInt8} (h : NewB w0 w v xs) (hE : Ext w w') : NewB w0 w' v xs := ⟨own_mod h.1 hE (fun _ _ => id), h.2⟩
section
variable {ops : Array Oper} {rest : List Oper} {o : Oper} {a : Act} {w0 w : World} {Q : Exit → Act → World → Prop} {xs ys : List UInt8} {v xv : Value}
theorem appB (hN : NewB w0 w v xs) (hE : Ext w0 w) {n : Nat} {w' : World} {v' : Value} (ho : w'.ownsRow 0 5 1 v' (xs.length + ys.length) (xs.map B ++ ys.map B)) (hgr : w.grownBy w' v.ownBlock) (hat : v'.ownBlock = v.ownBlock ∨ v'.ownBlock = some w.heap.size) (hn : n = (xs ++ ys).length) :
  ∃ A c, v' = .slice A n c ∧ NewB w0 w' (.slice A n c) (xs ++ ys) ∧ Ext w0 w' ∧ Mod (fun k => v.ownBlock = some k) w w' ∧ (∀ g, (Value.slice A n c).ownBlock = some g → v.ownBlock = some g ∨ w.heap.size ≤ g) := by
 have hF := newB_app hN hE ho (by rw [List.length_append]) hgr hat
 obtain ⟨A, c, rfl⟩ := own_form hF.1.1
 subst hn
 refine ⟨A, c, rfl, hF.1, hF.2, (Mod.refl _ w).grown hgr (fun k_ e => .inr e), fun g hg => ?_⟩
 rcases hat with e | e
 ·
  exact .inl (by rw [← e]; exact hg)
 ·
  rw [e] at hg
  injection hg with hg
  exact .inr (by omega)
theorem wpList_appB (hgd : o.guard = none) (s x : Operand) (ho : o.op = .call { callee := .builtin .append, args := #[s, x], argTypes := #[25, 25] }) 
  (v : Value) (xs : List UInt8) (w0 : World) (hs : a.eval s = v) (hN : NewB w0 w v xs) (hE : Ext w0 w) (T : Nat → Prop) (xv : Value) (ys : List UInt8) (hx : a.eval x = xv) (hb : Byt w T xv ys) (hl : xs.length + ys.length ≤ 1000000000)
  (h : ∀ A n c w', n = (xs ++ ys).length → NewB w0 w' (.slice A n c) (xs ++ ys) → Ext w0 w' → Mod (fun k => v.ownBlock = some k) w w' → (∀ g, (Value.slice A n c).ownBlock = some g → v.ownBlock = some g ∨ w.heap.size ≤ g) → wpList Try.prog ops Q rest (a.put o.dst (.slice A n c)) w') : wpList Try.prog ops Q (o :: rest) a w := by
 obtain ⟨i0, hi, hz0, hz1, hz2⟩ := info_parts info_u8
 refine wpList_app _ hgd s x 25 ho 5 i0 _ 1 1 Try.underlying25 hi hz0 hz1 hz2 rfl (by omega) v xs.length (xs.map B) hs hN.1 T xv ys.length (ys.map B) hx hb (B_one ys) (by simp only [maxLen]; omega) (by omega) ?_
 intro v' w' ho' hgr hat
 obtain ⟨A, c, rfl, h1, h2, h3, h4⟩ := appB hN hE ho' hgr hat rfl
 exact h A _ c w' rfl h1 h2 h3 h4
theorem step_appB {K : Act → World → Prop} {E : Prop} (hgd : o.guard = none) (s x : Operand) (ho : o.op = .call { callee := .builtin .append, args := #[s, x], argTypes := #[25, 25] })
  (v : Value) (xs : List UInt8) (w0 : World) (hs : a.eval s = v) (hN : NewB w0 w v xs) (hE : Ext w0 w) (T : Nat → Prop) (xv : Value) (ys : List UInt8) (hx : a.eval x = xv) (hb : Byt w T xv ys) (hl : xs.length + ys.length ≤ 1000000000)
  (h : ∀ A n c w', n = (xs ++ ys).length → NewB w0 w' (.slice A n c) (xs ++ ys) → Ext w0 w' → Mod (fun k => v.ownBlock = some k) w w' → (∀ g, (Value.slice A n c).ownBlock = some g → v.ownBlock = some g ∨ w.heap.size ≤ g) → K (a.put o.dst (.slice A n c)) w') :
  if Region.wanted o (yielded ops a.tmps) = true then Oper.wp Try.prog o a w K Q else E := by
 obtain ⟨i0, hi, hz0, hz1, hz2⟩ := info_parts info_u8
 refine step_app _ hgd s x 25 ho 5 i0 _ 1 1 Try.underlying25 hi hz0 hz1 hz2 rfl (by omega) v xs.length (xs.map B) hs hN.1 T xv ys.length (ys.map B) hx hb (B_one ys) (by simp only [maxLen]; omega) (by omega) ?_
 intro v' w' ho' hgr hat
 obtain ⟨A, c, rfl, h1, h2, h3, h4⟩ := appB hN hE ho' hgr hat rfl
 exact h A _ c w' rfl h1 h2 h3 h4
end
end Go.Proofs.Ytfkacakbengboaa
