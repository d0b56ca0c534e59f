/-
 Layer 27 (script): bytes of one's own in the making; a text made bytes, bytes made a text. Conditions: as each theorem names them.
-/
import Derived.Test.YtmebipnljkopgaaGreatDoorMem
import Derived.Test.YtmebipnljkopgaaGreatDoorGSpec
import Derived.Test.YtmebipnljkopgaaGreatDoorProg
import Derived.Lib.ConvBytes
import Derived.Laws.IdiomStrings
import Derived.Deep.RegionLaw
namespace Go.Proofs.YtmebipnljkopgaaGreatDoor
set_option linter.unusedSimpArgs false
open Go.RowKit
theorem info_u8 : (Tryz.prog.info? 5).map (fun i => (i.zero, i.size, i.bytes)) = some (some (.int .u8 0), 1, 1) := by kernel_rfl
theorem Sl.one (w : World) (u : Value) (e : TypeId) : Sl (w.alloc (.cells #[u] e)) (fun g => w.heap.size ≤ g) 1 (.slice (some ⟨w.heap.size, 0, none⟩) 1 1) 1 [u] :=
  ⟨rfl, _, _, rfl, Nat.le_refl _, by simp [maxLen], fun _ => ⟨_, _, rfl, Nat.le_refl _, fun j u' hu => by
    rcases j with _ | j
    · simp at hu; subst hu; simp
    · simp at hu⟩⟩
/-- Bytes of one's own that are new since w. -/
def NewB (w w' : World) (v : Value) (bs : List UInt8) : Prop :=
  w'.ownsRow 0 5 1 v bs.length (bs.map B) ∧ ∀ g, v.ownBlock = some g → w.heap.size ≤ g
/-- Bytes of one's own that are new since w, in the making. -/
theorem NewB.nil (w : World) : NewB w w (.slice none 0 0) [] := ⟨World.ownsRow_nil _ _ _ _, by simp [Value.ownBlock]⟩
theorem NewB.app {w wr wa w1 : World} {v v' : Value} {bs cs : List UInt8} {n N : Nat} {zs : List Value} (h : NewB w wr v bs) (hE : Ext w wr) (ha : Ext wr wa) (he : zs = cs.map B) (ho : w1.ownsRow 0 5 1 v' n zs)
    (hg : wa.grownBy w1 v.ownBlock) (hat : v'.ownBlock = v.ownBlock ∨ v'.ownBlock = some N) (hN : w.heap.size ≤ N) : NewB w w1 v' cs ∧ Ext w w1 := by
  subst he
  obtain rfl : n = cs.length := by simpa using ho.1.symm
  refine ⟨⟨ho, fun g hgg => ?_⟩, (hE.ext ha).grown hg (fun k hk => .inl (h.2 k hk))⟩
  rcases hat with e | e
  · rw [e] at hgg; exact h.2 g hgg
  · rw [e] at hgg; injection hgg with hgg; omega

theorem NewB.ext {w0 w w' : World} {v : Value} {xs : List UInt8} (h : NewB w0 w v xs) (hE : Ext w w') : NewB w0 w' v xs := ⟨own_mod h.1 hE (fun _ _ => id), h.2⟩
theorem NewB.byt {w w' : World} {v : Value} {bs : List UInt8} (h : NewB w w' v bs) : Byt w' (fun g => v.ownBlock = some g) v bs := Sl.of_own h.1 (fun _ h => h)
theorem conv_sb (s : ByteArray) (w : World) : (convert 9 29 (.string s)).run Tryz.prog w = .ok (.slice (some ⟨w.heap.size, 0, none⟩) s.size (grownCap w s.size 0 5)) (Lib.bytesWorld w 5 s) :=
  Lib.run_convert_string_bytes w _ _ _ s Tryz.underlying9 Tryz.underlying29 Tryz.underlying5
theorem bw_ext (w : World) (e : TypeId) (s : ByteArray) : Ext w (Lib.bytesWorld w e s) :=
  ⟨rfl, rfl, rfl, by rw [Lib.bytesWorld_size]; omega, fun k hk _ => Lib.bytesWorld_at_old w e s k hk⟩
theorem bw_byt (w : World) (e : TypeId) (s : ByteArray) (hs : s.size ≤ maxLen) : Byt (Lib.bytesWorld w e s) (fun g => w.heap.size ≤ g) (.slice (some ⟨w.heap.size, 0, none⟩) s.size (grownCap w s.size 0 e)) (bsOf s) := by
  have hl : (bsOf s).length = s.size := rfl
  refine ⟨by simp, _, _, by rw [hl], by rw [hl]; exact grownCap_ge w _ _ _, grownCap_le_maxLen w _ _ _ hs, fun _ => ⟨_, 0, rfl, Nat.le_refl _, fun j u hu => ?_⟩⟩
  have hj : j < s.size := by have := (List.getElem?_eq_some_iff.1 hu).1; simpa using this
  rw [Nat.zero_add, Lib.bytesWorld_cell w e s j hj, ← hu]
  have hjl : j < s.data.toList.length := by simpa using hj
  rw [List.getElem?_map, List.getElem?_eq_getElem hjl, Option.map_some, List.getD, List.getElem?_eq_getElem hjl]
  rfl
theorem conv_bs {w : World} {T : Nat → Prop} {v : Value} {l : List UInt8} (h : Byt w T v l) : (convert 29 9 v).run Tryz.prog w = .ok (.string ⟨l.toArray⟩) w := by
  obtain ⟨_, A, c, rfl, hn, hc, hx⟩ := h
  rcases A with _ | a
  · have hl : l = [] := by
      rcases l with _ | ⟨x, l⟩
      · rfl
      · obtain ⟨g, off, e, _⟩ := hx (by simp)
        cases e
    subst hl
    rw [run_convert_bytes_string w _ _ _ none _ c Tryz.underlying29 Tryz.underlying5 Tryz.underlying9]
    simp [Conv.bytesToString]
    rfl
  · refine run_convert_bytes_back w _ _ _ a c l Tryz.underlying29 Tryz.underlying5 Tryz.underlying9 (fun j hj => ?_)
    obtain ⟨g, off, e, _, hcell⟩ := hx (by omega)
    injection e with e
    subst e
    have h9 := hcell j (.int .u8 (l[j].toNat : Int)) (by simp [hj, B])
    simp only [Addr.add]
    split
    · rename_i h0
      subst h0
      simpa using h9
    · simpa using h9
theorem run_ix {s : ByteArray} {l : List UInt8} (hl : bsOf s = l) {i : Nat} {a : UInt8} (ha : l[i]? = some a) (k : IntKind) (W : World) : (Instr.index 9 (.string s) (.int k (i : Int))).run Tryz.prog W = .ok (.int .u8 (a.toNat : Int)) W := by
 have hsz : s.size = l.length := by rw [← hl]; rfl
 obtain ⟨h1, h2⟩ := List.getElem?_eq_some_iff.1 ha
 rw [run_index_string W _ s k (i : Int) Tryz.underlying9]
 rw [dif_pos ⟨by omega, by omega⟩]
 congr 3
 subst hl
 rw [← h2]
 simp [bsOf, ByteArray.getElem_eq_getElem_data]
end Go.Proofs.YtmebipnljkopgaaGreatDoor
