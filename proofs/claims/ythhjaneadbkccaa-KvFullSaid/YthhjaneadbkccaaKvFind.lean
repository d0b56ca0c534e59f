/-
  The contract of slices.BinarySearchFunc as kv.put calls it. Conditions: as each theorem names them.
-/
import Derived.Test.YthhjaneadbkccaaKvGet2
import Derived.Test.YthhjaneadbkccaaKvLaw
namespace Go.Proofs.Ythhjaneadbkccaa
set_option linter.unusedSimpArgs false
open Go.RowKit

/-- What put's closure tells. -/
def cmpP (x : APair) (key : ByteArray) : Int := if ltT x.key key then -1 else if ltT key x.key then 1 else 0
theorem cmpP_lt {x : APair} {key : ByteArray} (h : ltT x.key key = true) : cmpP x key = -1 := by unfold cmpP; rw [if_pos h]
theorem cmpP_ge {x : APair} {key : ByteArray} (h : ltT x.key key = false) : 0 ≤ cmpP x key ∧ cmpP x key ≤ 1 := by
  unfold cmpP
  rw [h]
  simp only [Bool.false_eq_true, if_false]
  split <;> omega
theorem cmpP_zero {x : APair} {key : ByteArray} (h : ltT x.key key = false) : (cmpP x key == 0) = eqT x.key key := by
  unfold cmpP
  rw [h]
  simp only [Bool.false_eq_true, if_false]
  rcases h2 : ltT key x.key with _ | _
  · rcases h3 : eqT x.key key with _ | _
    · have := ltT_or h h3; rw [h2] at this; cases this
    · rfl
  · rw [eqT_gt h2]; rfl
set_option maxRecDepth 100000 in
set_option maxHeartbeats 400000 in
theorem kv_cmp (x : APair) (key : ByteArray) (w : World) :
    Calls Try.prog 59 #[.agg #[.string x.key, .int .i64 x.val.kind, .float .f64 x.val.num, .string x.val.text], .string key] w fun e w' => e = .returned (.int .i64 (cmpP x key)) ∧ Ext w w' := by
  obtain ⟨r, hr⟩ : ∃ r, cmpP x key = r := ⟨_, rfl⟩
  have Hr := Lib.hid hr
  rw [hr]
  clear hr
  rcases h1 : ltT x.key key with _ | _
  · have b1 : Op.bytesLess x.key.toList key.toList = false := h1
    rcases h2 : ltT key x.key with _ | _
    · have h3 : eqT x.key key = true := by
        rcases h3 : eqT x.key key with _ | _
        · have := ltT_or h1 h3; rw [h2] at this; cases this
        · rfl
      have b2 : (x.key.toList == key.toList) = true := h3
      have hr2 : Hid (r = 0) := Lib.hid (by rw [← Hr.out]; unfold cmpP; rw [h1, h2]; rfl)
      go_enter Try.func59, Try.ntmps59
      go_wp2
      go_ret
      exact ⟨ret_int hr2.out.symm, (Mod.refl _ w).alloc _⟩
    · have b2 : (x.key.toList == key.toList) = false := eqT_gt h2
      have hr2 : Hid (r = 1) := Lib.hid (by rw [← Hr.out]; unfold cmpP; rw [h1, h2]; rfl)
      go_enter Try.func59, Try.ntmps59
      go_wp2
      go_ret
      exact ⟨ret_int hr2.out.symm, (Mod.refl _ w).alloc _⟩
  · have b1 : Op.bytesLess x.key.toList key.toList = true := h1
    have hr2 : Hid (r = -1) := Lib.hid (by rw [← Hr.out]; exact cmpP_lt h1)
    go_enter Try.func59, Try.ntmps59
    go_wp2
    go_ret
    exact ⟨ret_int hr2.out.symm, (Mod.refl _ w).alloc _⟩

set_option maxRecDepth 100000 in
set_option maxHeartbeats 1000000 in
theorem sl_find (w : World) (T : Nat → Prop) (v : Value) (l : List APair) (key : ByteArray) (h : Prs w T v l) (hl : l.length ≤ 1000000) (p : Nat) (hp : p ≤ l.length) (hlt : ∀ (k : Nat) x, l[k]? = some x → ltT x.key key = decide (k < p))
    (is : Bool) (his : is = true ↔ ∃ x, l[p]? = some x ∧ eqT x.key key = true) :
    Calls Try.prog 58 #[v, .string key, .func (Fn.func 59) #[] #[]] w fun e w' => e = .returned (.tuple #[.int .i64 p, .bool is]) ∧ Ext w w' := by
  obtain ⟨n, hn⟩ : ∃ n, l.length = n := ⟨_, rfl⟩
  obtain ⟨A, c, rfl⟩ := h.form
  rw [hn] at h hl hp ⊢
  have Hn := Lib.hid hn
  have Hlt := Lib.hid hlt
  have His := Lib.hid his
  clear hn hlt his
  go_enter Try.func58, Try.ntmps58
  go_wp2
  go_loopw [9, 10] (fun iv jv wr => ∃ i j : Nat, i ≤ p ∧ p ≤ j ∧ j ≤ n ∧ iv = .int .i64 i ∧ jv = .int .i64 j ∧ Ext w wr) (fun iv jv _ => (intOf jv).toNat - (intOf iv).toNat)
  case atStart => exact ⟨0, n, by omega, by omega, by omega, rfl, rfl, Mod.refl _ w⟩
  case round =>
    obtain ⟨i, j, hip, hpj, hjn, rfl, rfl, hE⟩ := hrel
    have h2 := h.ext hE
    by_cases hij : i < j
    · have hm2 : (i + j) / 2 < j := by omega
      obtain ⟨g, off, x, rfl, hgT, hx, hxok, hcells⟩ := h2.at (show (i + j) / 2 < n by omega)
      have x0 := hcells 0 _ rfl
      have x1 := hcells 1 _ rfl
      have x2 := hcells 2 _ rfl
      have x3 := hcells 3 _ rfl
      rw [Nat.add_zero] at x0
      have Hx := Lib.hid hx
      clear hcells hx h2 hxok
      go_wp2_with fail
      refine (kv_cmp x key _).mono ?_
      rintro e w1 ⟨rfl, hE1⟩
      have hF := Mod.ext hE hE1
      have hc := Hlt.out _ _ Hx.out
      clear hE1 hE x0 x1 x2 x3
      by_cases hmp : (i + j) / 2 < p
      · have hlt : ltT x.key key = true := by rw [hc]; simpa using hmp
        rw [cmpP_lt hlt]
        clear hc hlt
        go_wp2
        exact ⟨⟨(i + j) / 2 + 1, j, by omega, hpj, hjn, by go_num, rfl, hF⟩, by simp [intOf]; omega⟩
      · have hlt : ltT x.key key = false := by rw [hc]; simpa using hmp
        obtain ⟨q1, q2⟩ := cmpP_ge hlt
        have q3 : decide (cmpP x key < 0) = false := by simp; omega
        clear hc hlt
        go_wp2
        exact ⟨⟨i, (i + j) / 2, hip, by omega, by omega, rfl, by go_num, hF⟩, by simp [intOf]; omega⟩
    · obtain rfl : i = p := by omega
      obtain rfl : j = i := by omega
      by_cases hjn2 : j < n
      · obtain ⟨g, off, x, rfl, hgT, hx, hxok, hcells⟩ := h2.at hjn2
        have hi0 : (0 : Int) ≤ (j : Int) := by omega
        have hi1 : (j : Int) < (n : Int) := by omega
        have x0 := hcells 0 _ rfl
        have x1 := hcells 1 _ rfl
        have x2 := hcells 2 _ rfl
        have x3 := hcells 3 _ rfl
        rw [Nat.add_zero] at x0
        have Hx := Lib.hid hx
        clear hcells hx h2 hxok
        go_wp2_with fail
        refine (kv_cmp x key _).mono ?_
        rintro e w1 ⟨rfl, hE1⟩
        have hF := Mod.ext hE hE1
        have hc := Hlt.out _ _ Hx.out
        have hlt : ltT x.key key = false := by rw [hc]; simp
        have hz := cmpP_zero hlt
        have hb : eqT x.key key = is := by
          rw [Bool.eq_iff_iff, His.out]
          exact ⟨fun h => ⟨x, Hx.out, h⟩, fun ⟨y, hy, h⟩ => by rw [Hx.out] at hy; cases hy; exact h⟩
        rw [hb] at hz
        clear hE1 hE x0 x1 x2 x3 hc hlt hb
        go_wp2
        go_ret2
        exact ⟨rfl, hF⟩
      · have hb : is = false := by
          rw [← Bool.not_eq_true, His.out]
          rintro ⟨y, hy, _⟩
          have := (List.getElem?_eq_some_iff.1 hy).1
          have := Hn.out
          omega
        subst hb
        go_wp2
        go_ret2
        exact ⟨rfl, hE⟩
end Go.Proofs.Ythhjaneadbkccaa
