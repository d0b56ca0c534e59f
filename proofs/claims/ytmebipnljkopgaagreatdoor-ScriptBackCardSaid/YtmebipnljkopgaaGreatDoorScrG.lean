/-
 Layer 27 (script): what is known of Go's package variables ('Glb'), and the library's contracts (Split, Atoi, Itoa, CutPrefix, HasPrefix, IndexByte, Index) in these texts' words. Conditions: none.
-/
import Derived.Test.YtmebipnljkopgaaGreatDoorShelf
import Derived.Test.YtmebipnljkopgaaGreatDoorScrQ
import Derived.Lib.AppendIntMem
namespace Go.Proofs.YtmebipnljkopgaaGreatDoor
open Go.RowKit
set_option linter.unusedVariables false
set_option linter.unusedSimpArgs false

/-- What the package variables hold that the library reads. -/
structure Glb (w : World) : Prop where
  size : 9 ≤ w.heap.size
  ml : ∃ m, w.cell? ⟨1, 0, none⟩ = some (.int .i64 m)
  es : ∃ t p, w.cell? ⟨2, 0, none⟩ = some (.iface t p)
  er : ∃ t p, w.cell? ⟨3, 0, none⟩ = some (.iface t p)
  p10 : Lib.TabIs Tryz.prog w "internal/strconv.uint64pow10" .u64 Lib.pow10Tab
  db : w.cell? ⟨8, 15, none⟩ = some (.int .u8 4)
theorem globalNamed10 : Tryz.prog.globalNamed "internal/strconv.uint64pow10" = some 6 := by kernel_rfl
theorem Glb.keep {w w' : World} (h : Glb w) (hs : w.heap.size ≤ w'.heap.size) (hb : ∀ k, k < 9 → w'.heap[k]? = w.heap[k]?) : Glb w' := by
 obtain ⟨h0, ⟨m, h1⟩, ⟨t, p, h2⟩, ⟨t', p', h3⟩, h4, h5⟩ := h
 refine ⟨by omega, ⟨m, ?_⟩, ⟨t, p, ?_⟩, ⟨t', p', ?_⟩, ?_, ?_⟩
 · rw [World.cell?_of_block (hb _ (by decide))]; exact h1
 · rw [World.cell?_of_block (hb _ (by decide))]; exact h2
 · rw [World.cell?_of_block (hb _ (by decide))]; exact h3
 · unfold Lib.TabIs World.var? at h4 ⊢
   rw [globalNamed10] at h4 ⊢
   simp only [Option.bind_some] at h4 ⊢
   rw [hb _ (by decide)]; exact h4
 · rw [World.cell?_of_block (hb _ (by decide))]; exact h5
theorem Glb.mod {S : Nat → Prop} {w w' : World} (h : Glb w) (hm : Mod S w w') (hS : ∀ k, k < 9 → ¬ S k) : Glb w' :=
 h.keep hm.size fun k hk => hm.block k (by have := h.size; omega) (hS k hk)
theorem Glb.ext {w w' : World} (h : Glb w) (hm : Ext w w') : Glb w' := h.mod hm fun _ _ => id

theorem ext_grow (w : World) (k : Nat) (os : Array Obj) : Ext w (Go.Sort.grow (w.drewN k) os) := Ext.of_below (Lib.below_grow _ w (Nat.le_refl _) k os)

theorem c_split (s : ByteArray) (w : World) (hg : Glb w) (hs : s.size ≤ 100000) :
  Calls Tryz.prog 15 #[.string s, .string (bA [32])] w fun e w' => e = .returned (.slice (some ⟨w.heap.size, 0, none⟩) (wordsB s).length (wordsB s).length) ∧ w' = w.alloc (.cells ((wordsB s).map Value.string).toArray 9) := by
 obtain ⟨m, hm⟩ := hg.ml
 have h := Tryz.strings_Split s (bA [32]) m w (by omega) hm (by decide)
 rw [split_words, countB_words] at h
 exact h
theorem c_itoa (n : Int) (h0 : -9223372036854775808 ≤ n) (h1 : n ≤ 9223372036854775807) (w : World) (hg : Glb w) :
  Calls Tryz.prog 46 #[.int .i64 n] w fun e w' => e = .returned (.string (bA (Lib.itoa n))) ∧ Ext w w' :=
 (Tryz.strconv_Itoa n h0 h1 w hg.p10).mono fun e w' h => by
  obtain ⟨rfl, k, os, rfl⟩ := h
  exact ⟨rfl, ext_grow w k os⟩
/-- Atoi: a number and no error, or some number and an error. -/
def AtoiOut (w : World) (s : ByteArray) (e : Ending) (w' : World) : Prop := Ext w w' ∧
  ((∃ v, Lib.atoiAll (bsOf s) = .ok v ∧ e = .returned (.tuple #[.int .i64 v, .nilIface])) ∨
   ((∀ v, Lib.atoiAll (bsOf s) ≠ .ok v) ∧ ∃ v T p, e = .returned (.tuple #[.int .i64 v, .iface T p])))
theorem c_atoi (s : ByteArray) (w : World) (hg : Glb w) (hs : s.size ≤ 100000) : Calls Tryz.prog 45 #[.string s] w (AtoiOut w s) := by
 rcases h : Lib.atoiAll (bsOf s) with v | _ | _
 · refine (Tryz.strconv_Atoi_ok s (by omega) v h w).mono fun e w' hh => ?_
   obtain ⟨rfl, hw⟩ := hh
   refine ⟨?_, .inl ⟨v, h, rfl⟩⟩
   rcases hw with rfl | ⟨t, rfl⟩
   · exact Mod.refl _ _
   exact Ext.of_below (Lib.bytesWorld_below _ _ _)
 · obtain ⟨t, p, he⟩ := hg.es
   refine (Tryz.strconv_Atoi_syntax s (by omega) h _ w he (.inr ⟨t, p, rfl⟩)).mono fun e w' hh => ?_
   obtain ⟨N, rfl, _, _, hb⟩ := hh
   exact ⟨Ext.of_below hb, .inr ⟨by intro v; rw [h]; simp, _, _, _, rfl⟩⟩
 obtain ⟨t, p, he⟩ := hg.er
 refine (Tryz.strconv_Atoi_range s (by omega) h _ w he (.inr ⟨t, p, rfl⟩)).mono fun e w' hh => ?_
 obtain ⟨N, rfl, _, _, hb⟩ := hh
 exact ⟨Ext.of_below hb, .inr ⟨by intro v; rw [h]; simp, _, _, _, rfl⟩⟩
theorem indexByte_hex_fin : ∀ c : Fin 256, Lib.indexByte [48, 49, 50, 51, 52, 53, 54, 55, 56, 57, 97, 98, 99, 100, 101, 102] (UInt8.ofNat c.val) = match hexV (UInt8.ofNat c.val) with
  | some n => (n : Int)
  | none => -1 := by decide +kernel
def hexI (c : UInt8) : Int := match hexV c with
  | some n => (n : Int)
  | none => -1
theorem c_digit (c : UInt8) (w : World) :
  Calls Tryz.prog 72 #[.string (bA [48, 49, 50, 51, 52, 53, 54, 55, 56, 57, 97, 98, 99, 100, 101, 102]), .int .u8 c.toNat] w fun e w' => e = .returned (.int .i64 (hexI c)) ∧ w' = w := by
 have h := Tryz.strings_IndexByte (bA [48, 49, 50, 51, 52, 53, 54, 55, 56, 57, 97, 98, 99, 100, 101, 102]) c.toNat w
 have h2 := indexByte_hex_fin ⟨c.toNat, c.toNat_lt⟩
 have e : UInt8.ofNat c.toNat = c := by simp
 have e1 : (((c.toNat : Nat) : Int).toNat).toUInt8 = c := by simp
 simp only [e] at h2
 rw [e1] at h
 have e2 : Lib.indexByte (bA [48, 49, 50, 51, 52, 53, 54, 55, 56, 57, 97, 98, 99, 100, 101, 102]).data.toList c = hexI c := h2
 rw [e2] at h
 exact h
end Go.Proofs.YtmebipnljkopgaaGreatDoor
