/-
  The contract of the page's Get. Conditions: as each theorem names them.
-/
import Derived.Test.YthhjaneadbkccaaKvChk
namespace Go.Proofs.Ythhjaneadbkccaa
set_option linter.unusedSimpArgs false
open Go.RowKit

theorem getP_drop {l : List APair} {i : Nat} {x : APair} (k : ByteArray) (h : l[i]? = some x) : getP (l.drop i) k = if eqT x.key k then x.val else getP (l.drop (i + 1)) k := by
  obtain ⟨hi, rfl⟩ := List.getElem?_eq_some_iff.1 h
  rw [List.drop_eq_getElem_cons hi]
  rfl

set_option maxRecDepth 100000 in
set_option maxHeartbeats 1000000 in
theorem r_get (w : World) (T : Nat → Prop) (v : Value) (l : List APair) (key : ByteArray) (h : Prs w T v l) :
    Calls Try.prog 28 #[v, .string key] w fun e w' => e = .returned (.agg #[.int .i64 (getP l key).kind, .float .f64 (getP l key).num, .string (getP l key).text]) ∧ Ext w w' := by
  obtain ⟨n, hn⟩ : ∃ n, l.length = n := ⟨_, rfl⟩
  obtain ⟨A, c, rfl⟩ := h.form
  have hl := h.1.le
  unfold maxLen at hl
  rw [hn] at h hl ⊢
  have Hn := Lib.hid hn
  clear hn
  obtain ⟨r, hr⟩ : ∃ r, getP l key = r := ⟨_, rfl⟩
  rw [hr]
  have Hr := Lib.hid hr
  clear hr
  have hE : Ext w (w.alloc (.cells #[.int .i64 0, .float .f64 0, .string ⟨#[]⟩] 25)) := (Mod.refl _ w).alloc _
  have h2 := h.ext hE
  go_enter Try.func28, Try.ntmps28
  go_wp2
  go_loop [5] (fun iv => ∃ i : Nat, i ≤ n ∧ iv = .int .i64 i ∧ getP (l.drop i) key = r) (fun iv => n - (intOf iv).toNat)
  case atStart => exact ⟨0, by omega, rfl, by simpa using Hr.out⟩
  case round =>
    obtain ⟨i, hin, rfl, hg⟩ := hrel
    have Hg := Lib.hid hg
    clear hg
    by_cases hi : i < n
    · obtain ⟨g, off, x, rfl, hgT, hx, hxok, hcells⟩ := h2.at hi
      have hi0 : (0 : Int) ≤ (i : Int) := by omega
      have hi1 : (i : Int) < (n : Int) := by omega
      have x0 := hcells 0 _ rfl
      have x1 := hcells 1 _ rfl
      have x2 := hcells 2 _ rfl
      have x3 := hcells 3 _ rfl
      rw [Nat.add_zero] at x0
      have hd := getP_drop key hx
      have Hd := Lib.hid hd
      clear hcells hx hxok hd
      have hT : (x.key.toList == key.toList) = eqT x.key key := rfl
      rcases hk : eqT x.key key with _ | _
      · rw [hk] at hT
        have Hn2 : Hid (getP (l.drop (i + 1)) key = r) := Lib.hid (by have := Hd.out; rw [hk, Hg.out] at this; exact this.symm)
        go_wp2
        exact ⟨⟨i + 1, by omega, by go_num, Hn2.out⟩, by simp [intOf]; omega⟩
      · rw [hk] at hT
        have e : x.val = r := by have := Hd.out; rw [hk, Hg.out] at this; exact this.symm
        have He := Lib.hid e
        clear e
        go_wp2
        refine bodyPost_ret (v := .agg #[.int .i64 x.val.kind, .float .f64 x.val.num, .string x.val.text]) (by simp [results, Try.results28, go_sem]) rfl ⟨by rw [He.out], ?_⟩
        refine Mod.toExt ?_
        repeat (first | exact Mod.refl _ _ | (refine Mod.setCell ?_ (.inl (by first | omega | (simp <;> omega))) _) | refine Mod.alloc ?_ _)
    · have e : AVal.zero = r := by
        have := Hg.out
        rw [List.drop_eq_nil_of_le (by rw [Hn.out]; omega)] at this
        exact this
      have He := Lib.hid e
      clear e
      go_wp2
      refine bodyPost_ret (v := .agg #[.int .i64 0, .float .f64 0, .string ⟨#[]⟩]) (by simp [results, Try.results28, go_sem]) rfl ⟨by rw [← He.out]; rfl, ?_⟩
      refine Mod.toExt ?_
      repeat (first | exact Mod.refl _ _ | (refine Mod.setCell ?_ (.inl (by first | omega | (simp <;> omega))) _) | refine Mod.alloc ?_ _)
end Go.Proofs.Ythhjaneadbkccaa
