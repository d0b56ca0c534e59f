/-
 Layer 27 (script): the writer among memory that is kept: each of its steps again, by blocks that stay. Conditions: as ScrZ, ScrZs.
-/
import Derived.Test.YtmebipnljkopgaaGreatDoorScrZs
namespace Go.Proofs.YtmebipnljkopgaaGreatDoor
set_option linter.unusedSimpArgs false
set_option linter.unusedVariables false
open Go.RowKit
/-- A writer at wb; the blocks of X are none of its own. -/
def WrE (W : World) (wb : Nat) (X : Nat → Prop) (ws : List (List UInt8)) : Prop := WrM W wb (fun g => wb < g ∧ ¬ X g) ws ∧ wb < W.heap.size ∧ (∀ g, X g → g < W.heap.size) ∧ ¬ X wb
def WeOut (W : World) (wb : Nat) (X : Nat → Prop) (ws : List (List UInt8)) (e : Ending) (W' : World) : Prop := e = .returned (.tuple #[]) ∧ WrE W' wb X ws ∧ Mod (fun g => wb ≤ g ∧ ¬ X g) W W'
theorem WrE.ext {W W' : World} {wb : Nat} {X : Nat → Prop} {ws : List (List UInt8)} (h : WrE W wb X ws) (hE : Ext W W') : WrE W' wb X ws :=
 ⟨h.1.ext hE, Nat.lt_of_lt_of_le h.2.1 hE.size, fun g hg => Nat.lt_of_lt_of_le (h.2.2.1 g hg) hE.size, h.2.2.2⟩
theorem own_lt {W : World} {base : Nat} {e : TypeId} {k n : Nat} {v : Value} {xs : List Value} (h : W.ownsRow base e k v n xs) {g : Nat} (hg : v.ownBlock = some g) : g < W.heap.size := by
 rcases h.2 with ⟨rfl, _⟩ | ⟨g', cap, cur, rfl, hb, hh, _⟩
 · cases hg
 · injection hg with hg; subst hg
   exact (Array.getElem?_eq_some_iff.1 hh).1
/-- A new block that is kept from now on. -/
theorem WrE.add {W W' : World} {wb b : Nat} {X : Nat → Prop} {ws : List (List UInt8)} (h : WrE W wb X ws) (hE : Ext W W') (h1 : W.heap.size ≤ b) (h2 : b < W'.heap.size) : WrE W' wb (fun g => X g ∨ g = b) ws := by
 obtain ⟨⟨v, hb, ho, hv⟩, hw, hX, hXw⟩ := h
 refine ⟨⟨v, hE.blk hb id, own_mod ho hE (fun _ _ => id), fun g hg => ⟨(hv g hg).1, ?_⟩⟩, Nat.lt_of_lt_of_le hw hE.size, ?_, ?_⟩
 · rintro (e | e)
   · exact (hv g hg).2 e
   · have := own_lt ho hg; omega
 · rintro g (e | e)
   · exact Nat.lt_of_lt_of_le (hX g e) hE.size
   · omega
 · rintro (e | e)
   · exact hXw e
   · omega
theorem WrE.drop {W : World} {wb : Nat} {X Y : Nat → Prop} {ws : List (List UInt8)} (h : WrE W wb Y ws) (hXY : ∀ g, X g → Y g) : WrE W wb X ws :=
 ⟨h.1.wide (fun g hg => ⟨hg.1, fun e => hg.2 (hXY g e)⟩), h.2.1, fun g hg => h.2.2.1 g (hXY g hg), fun e => h.2.2.2 (hXY _ e)⟩
theorem we_of {W W' : World} {wb : Nat} {X : Nat → Prop} {ws ws' : List (List UInt8)} {e : Ending} (h : WrE W wb X ws) (h2 : WwOut W wb (fun g => wb < g ∧ ¬ X g) ws' e W') : WeOut W wb X ws' e W' := by
 obtain ⟨he, hW, hM⟩ := h2
 obtain ⟨_, hw, hX, hXw⟩ := h
 exact ⟨he, ⟨hW, Nat.lt_of_lt_of_le hw hM.size, fun g hg => Nat.lt_of_lt_of_le (hX g hg) hM.size, hXw⟩, hM.mono (fun g _ hg => by
  rcases hg with rfl | ⟨h1, h2⟩
  · exact ⟨Nat.le_refl _, hXw⟩
  · exact ⟨by omega, h2⟩)⟩
theorem WrE.new {W : World} {wb : Nat} {X : Nat → Prop} {ws : List (List UInt8)} (h : WrE W wb X ws) : ∀ g, W.heap.size ≤ g → wb < g ∧ ¬ X g := fun g hg => ⟨by have := h.2.1; omega, fun e => by have := h.2.2.1 g e; omega⟩
theorem e_word {W : World} {wb : Nat} {X : Nat → Prop} {ws : List (List UInt8)} (h : WrE W wb X ws) (s : List UInt8) (hl : ws.length ≤ 1000) :
  Calls Tryz.prog 30 #[.pointer (some ⟨wb, 0, none⟩), .string (bA s)] W (WeOut W wb X (ws ++ [s])) :=
 (s_wword W wb _ ws s h.1 h.new (fun _ hg => hg.1) hl).mono fun _ _ hh => we_of h hh
theorem e_value {W : World} {wb : Nat} {X : Nat → Prop} {ws : List (List UInt8)} (h : WrE W wb X ws) (hg : Glb W) (v : AVal) (hn : v.num < 18446744073709551616) (ht : v.text.size ≤ 100000) (hl : ws.length ≤ 1000) :
  Calls Tryz.prog 56 #[.pointer (some ⟨wb, 0, none⟩), .agg #[.int .i64 v.kind, .float .f64 v.num, .string v.text]] W (WeOut W wb X (ws ++ [valW v])) :=
 (s_wvalue W hg wb _ ws v hn ht h.1 h.new (fun _ hg => hg.1) hl).mono fun _ _ hh => we_of h hh
theorem e_raw {W : World} {wb : Nat} {X T : Nat → Prop} {ws : List (List UInt8)} (h : WrE W wb X ws) (bv : Value) (bs : List UInt8) (hb : Byt W T bv bs) (hbl : bs.length ≤ 100000) (hl : ws.length ≤ 1000) :
  Calls Tryz.prog 32 #[.pointer (some ⟨wb, 0, none⟩), bv] W (WeOut W wb X (ws ++ [rawW bs])) :=
 (s_wraw W wb _ T ws bv bs hb hbl h.1 h.new (fun _ hg => hg.1) hl).mono fun _ _ hh => we_of h hh
/-- Numbers that stand in the newest block. -/
theorem e_ints {W : World} {wb : Nat} {X : Nat → Prop} {ws : List (List UInt8)} (h : WrE W wb X ws) (hg : Glb W) (h9 : 9 ≤ wb) (is : List Int) (T : TypeId) (hl : ws.length + is.length ≤ 1000) (hi64 : ∀ i ∈ is, -9223372036854775808 ≤ i ∧ i ≤ 9223372036854775807) :
  Calls Tryz.prog 31 #[.pointer (some ⟨wb, 0, none⟩), .slice (some ⟨W.heap.size, 0, none⟩) is.length is.length] (W.alloc (.cells (is.map (Value.int .i64)).toArray T)) (WeOut W wb X (ws ++ is.map Lib.itoa)) := by
 have hE : Ext W (W.alloc (.cells (is.map (Value.int .i64)).toArray T)) := (Mod.refl _ W).alloc _
 have h2 := h.add (b := W.heap.size) hE (Nat.le_refl _) (by simp)
 have hlm : (is.map (Value.int .i64)).length = is.length := List.length_map _
 have hS := Sl.lit W (is.map (Value.int .i64)) T (by rw [hlm]; simp only [maxLen]; omega)
 rw [hlm] at hS
 refine (s_wints _ (hg.ext hE) wb _ ws is _ _ h2.1 h2.new (fun _ hg => hg.1) h9 hl hS (fun g hgg => ⟨by have := h.2.1; omega, fun e => e.2 (.inr hgg)⟩) hi64).mono fun e W' hh => ?_
 obtain ⟨he, hW, hM⟩ := we_of h2 hh
 exact ⟨he, hW.drop (fun g hg => .inl hg), ((Mod.refl (fun g => wb ≤ g ∧ ¬ X g) W).alloc _).self (hM.mono (fun g _ hg => ⟨hg.1, fun e => hg.2 (.inl e)⟩))⟩
end Go.Proofs.YtmebipnljkopgaaGreatDoor
