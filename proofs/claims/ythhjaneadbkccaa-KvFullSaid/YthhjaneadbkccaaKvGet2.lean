/-
  Contracts of kv.place and kv.Get (slices.IndexFunc with a closure), and of skerrykeep.TwinPairs. Conditions: as each theorem names them.
-/
import Derived.Test.YthhjaneadbkccaaKvGet
namespace Go.Proofs.Ythhjaneadbkccaa
set_option linter.unusedSimpArgs false
open Go.RowKit

/-- Where the first pair of a key stands; -1: there is none. -/
def placeP : List APair → ByteArray → Int
  | [], _ => -1
  | p :: l, k => if eqT p.key k then 0 else (let r := placeP l k; if r < 0 then -1 else r + 1)
theorem placeP_lo (l : List APair) (k : ByteArray) : -1 ≤ placeP l k ∧ placeP l k < l.length := by
  induction l with
  | nil => simp [placeP]
  | cons p l ih =>
    rw [placeP]
    split
    · simp <;> omega
    · simp only
      split
      · simp <;> omega
      · simp <;> omega
theorem getP_place (l : List APair) (k : ByteArray) : (placeP l k < 0 → getP l k = AVal.zero) ∧ (∀ j : Nat, placeP l k = j → ∃ x, l[j]? = some x ∧ getP l k = x.val) := by
  induction l with
  | nil => exact ⟨fun _ => rfl, fun j h => by simp [placeP] at h <;> omega⟩
  | cons p l ih =>
    rw [placeP, getP_cons]
    by_cases h : eqT p.key k = true
    · rw [if_pos h, if_pos h]
      refine ⟨fun h => by omega, fun j hj => ?_⟩
      obtain rfl : j = 0 := by omega
      exact ⟨p, rfl, rfl⟩
    · rw [if_neg h, if_neg h]
      simp only
      by_cases h2 : placeP l k < 0
      · rw [if_pos h2]
        exact ⟨fun _ => ih.1 h2, fun j hj => by omega⟩
      · rw [if_neg h2]
        refine ⟨fun h3 => by omega, fun j hj => ?_⟩
        obtain ⟨j', rfl⟩ : ∃ j', j = j' + 1 := ⟨j - 1, by omega⟩
        obtain ⟨x, h4, h5⟩ := ih.2 j' (by omega)
        exact ⟨x, by simpa using h4, h5⟩
/-- The first one from i on. -/
theorem placeP_found {l : List APair} {i : Nat} {x : APair} {k : ByteArray} (h : l[i]? = some x) (hx : eqT x.key k = true) (hb : ∀ j y, j < i → l[j]? = some y → eqT y.key k = false) : placeP l k = i := by
  induction l generalizing i with
  | nil => simp at h
  | cons p l ih =>
    rw [placeP]
    cases i with
    | zero => simp at h; subst h; rw [if_pos hx]; rfl
    | succ i =>
      rw [if_neg (by rw [hb 0 p (by omega) rfl]; simp)]
      have := ih (i := i) (by simpa using h) (fun j y hj hy => hb (j + 1) y (by omega) (by simpa using hy))
      simp only [this]
      rw [if_neg (by omega)]
      omega
theorem placeP_none {l : List APair} {k : ByteArray} (hb : ∀ (j : Nat) y, l[j]? = some y → eqT y.key k = false) : placeP l k = -1 := by
  induction l with
  | nil => rfl
  | cons p l ih =>
    rw [placeP, if_neg (by rw [hb 0 p rfl]; simp)]
    have := ih (fun j y hy => hb (j + 1) y (by simpa using hy))
    simp only [this]
    rfl

set_option maxRecDepth 100000 in
set_option maxHeartbeats 400000 in
theorem kv_place1 (x : APair) (key : ByteArray) (b : Nat) (w : World) (hb : w.cell? ⟨b, 0, none⟩ = some (.string key)) :
    Calls Try.prog 52 #[.agg #[.string x.key, .int .i64 x.val.kind, .float .f64 x.val.num, .string x.val.text], .pointer (some ⟨b, 0, none⟩)] w fun e w' => e = .returned (.bool (eqT x.key key)) ∧ Ext w w' := by
  have hT : (x.key.toList == key.toList) = eqT x.key key := rfl
  have hlt : b < w.heap.size := World.block_lt_of_cell? _ _ hb
  go_enter Try.func52, Try.ntmps52
  go_wp2
  go_ret
  exact ⟨rfl, (Mod.refl _ w).alloc _⟩

set_option maxRecDepth 100000 in
set_option maxHeartbeats 1000000 in
theorem sl_index (w : World) (T : Nat → Prop) (v : Value) (l : List APair) (key : ByteArray) (b : Nat) (h : Prs w T v l) (hb : w.cell? ⟨b, 0, none⟩ = some (.string key)) :
    Calls Try.prog 51 #[v, .func (Fn.func 52) #[] #[.pointer (some ⟨b, 0, none⟩)]] w fun e w' => e = .returned (.int .i64 (placeP l key)) ∧ Ext w w' := by
  obtain ⟨n, hn⟩ : ∃ n, l.length = n := ⟨_, rfl⟩
  obtain ⟨A, c, rfl⟩ := h.form
  have hl := h.1.le
  unfold maxLen at hl
  rw [hn] at h hl ⊢
  have Hn := Lib.hid hn
  clear hn
  go_enter Try.func51, Try.ntmps51
  go_wp2
  go_loopw [8] (fun iv wr => ∃ i : Nat, i ≤ n ∧ iv = .int .i64 i ∧ Ext w wr ∧ ∀ j y, j < i → l[j]? = some y → eqT y.key key = false) (fun iv _ => n - (intOf iv).toNat)
  case atStart => exact ⟨0, by omega, rfl, Mod.refl _ w, fun j y hj => by omega⟩
  case round =>
    obtain ⟨i, hin, rfl, hE, hg⟩ := hrel
    have Hg := Lib.hid hg
    have h2 := h.ext hE
    clear hg
    by_cases hi : i < n
    · obtain ⟨g, off, x, rfl, hgT, hx, hxok, hcells⟩ := h2.at hi
      have hi0 : (0 : Int) ≤ (i : Int) := by omega
      have hi1 : (i : Int) < (n : Int) := by omega
      have x0 := hcells 0 _ rfl
      have x1 := hcells 1 _ rfl
      have x2 := hcells 2 _ rfl
      have x3 := hcells 3 _ rfl
      rw [Nat.add_zero] at x0
      have Hx := Lib.hid hx
      clear hcells hx h2 hxok
      go_wp2_with fail
      refine (kv_place1 x key b _ (hE.cell hb id)).mono ?_
      rintro e w1 ⟨rfl, hE1⟩
      have hF := Mod.ext hE hE1
      clear hE1 x0 x1 x2 x3
      rcases hk : eqT x.key key with _ | _
      · have Hst : Hid (∀ j y, j < i + 1 → l[j]? = some y → eqT y.key key = false) := Lib.hid (fun j y hj hy => by
          by_cases e : j = i
          · subst e; rw [Hx.out] at hy; cases hy; exact hk
          · exact Hg.out j y (by omega) hy)
        go_wp2
        exact ⟨⟨i + 1, by omega, by go_num, hF, Hst.out⟩, by simp [intOf]; omega⟩
      · have Hf : Hid (placeP l key = i) := Lib.hid (placeP_found Hx.out hk Hg.out)
        go_wp2
        go_ret
        exact ⟨ret_int Hf.out.symm, hF⟩
    · have Hf : Hid (placeP l key = -1) := Lib.hid (placeP_none (fun j y hy => Hg.out j y (by have := (List.getElem?_eq_some_iff.1 hy).1; have := Hn.out; omega) hy))
      go_wp2
      go_ret
      exact ⟨ret_int Hf.out.symm, hE⟩
set_option maxRecDepth 100000 in
set_option maxHeartbeats 1000000 in
theorem kv_place (w : World) (T : Nat → Prop) (v : Value) (l : List APair) (key : ByteArray) (h : Prs w T v l) :
    Calls Try.prog 37 #[v, .string key] w fun e w' => e = .returned (.int .i64 (placeP l key)) ∧ Ext w w' := by
  have hmf : ∀ (fn : Fn) (first cap : Array Value) (w : World), (Instr.makeFunc fn first cap).run Try.prog w = .ok (.func fn first cap) w := fun _ _ _ _ => rfl
  have hE : Ext w (w.alloc (.cells #[.string key] 9)) := (Mod.refl _ w).alloc _
  go_enter Try.func37, Try.ntmps37
  go_wp2_with fail
  refine (sl_index _ T v l key w.heap.size (h.ext hE) (by simp)).mono ?_
  rintro e w1 ⟨rfl, hE1⟩
  have HE := Lib.hid (Mod.ext hE hE1)
  clear hE1 hE
  go_wp2
  go_ret
  exact ⟨rfl, HE.out⟩
set_option maxRecDepth 100000 in
set_option maxHeartbeats 1000000 in
theorem kv_get (w : World) (T : Nat → Prop) (v : Value) (l : List APair) (key : ByteArray) (h : Prs w T v l) :
    Calls Try.prog 15 #[v, .string key] w fun e w' => e = .returned (.agg #[.int .i64 (getP l key).kind, .float .f64 (getP l key).num, .string (getP l key).text]) ∧ Ext w w' := by
  have hE : Ext w (w.alloc (.cells #[.int .i64 0, .float .f64 0, .string ⟨#[]⟩] 25)) := (Mod.refl _ w).alloc _
  have hp := getP_place l key
  have hlo := placeP_lo l key
  obtain ⟨n, hn⟩ : ∃ n, l.length = n := ⟨_, rfl⟩
  obtain ⟨A, c, rfl⟩ := h.form
  rw [hn] at h hlo ⊢
  have hl := h.len.2
  unfold maxLen at hl
  go_enter Try.func15, Try.ntmps15
  go_wp2_with fail
  refine (kv_place _ T _ l key (h.ext hE)).mono ?_
  rintro e w1 ⟨rfl, hE1⟩
  have h2 := h.ext (Mod.ext hE hE1)
  obtain ⟨hc1, hf1⟩ := bcell hE1
  have hz1 := hE1.size
  simp at hz1
  have q : w.heap.size < w1.heap.size := by omega
  have HM : Hid (Mod (Since w.heap.size) w w1) := Lib.hid (((Mod.refl (Since w.heap.size) w).alloc _).ext hE1)
  clear hE1 hE h
  by_cases hneg : placeP l key < 0
  · have d : decide (placeP l key < 0) = true := by simpa using hneg
    have Hv := Lib.hid (hp.1 hneg)
    clear hp hlo hn h2 hneg
    go_wp2
    refine bodyPost_ret (v := .agg #[.int .i64 0, .float .f64 0, .string ⟨#[]⟩]) (by simp [results, Try.results15, go_sem, hc1, q]) rfl ⟨by rw [Hv.out]; rfl, ?_⟩
    refine Mod.toExt ?_
    repeat (first | exact HM.out | (refine Mod.setCell ?_ (.inl (by first | omega | (simp <;> omega))) _) | refine Mod.alloc ?_ _)
  · obtain ⟨j, hj⟩ : ∃ j : Nat, placeP l key = j := ⟨(placeP l key).toNat, by omega⟩
    obtain ⟨x, hx, hv⟩ := hp.2 j hj
    have hjn : j < n := by rw [hj] at hlo; omega
    obtain ⟨g, off, y, rfl, hgT, hy, _, hcells⟩ := h2.at hjn
    rw [hx] at hy
    cases hy
    have hi0 : (0 : Int) ≤ (j : Int) := by omega
    have hi1 : (j : Int) < (n : Int) := by omega
    have d : decide ((j : Int) < 0) = false := by simp
    have x0 := hcells 0 _ rfl
    have x1 := hcells 1 _ rfl
    have x2 := hcells 2 _ rfl
    have x3 := hcells 3 _ rfl
    have Hv := Lib.hid hv
    rw [hj]
    clear hcells hp hlo hn h2 hneg hj hx hv
    go_wp2
    refine bodyPost_ret (v := .agg #[.int .i64 x.val.kind, .float .f64 x.val.num, .string x.val.text]) (by simp [results, Try.results15, go_sem, hc1, q]) rfl ⟨by rw [Hv.out], ?_⟩
    refine Mod.toExt ?_
    repeat (first | exact HM.out | (refine Mod.setCell ?_ (.inl (by first | omega | (simp <;> omega))) _) | refine Mod.alloc ?_ _)
end Go.Proofs.Ythhjaneadbkccaa
