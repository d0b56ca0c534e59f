/-
 Contracts of what the laws of layer 6 share: HeavyCmd, HeavyPairs, SpoilPairs, wakes. Conditions: as each theorem names them.
-/
import Derived.Test.YtbclnghbgoblcaaGreatGDo
namespace Go.Proofs.YtbclnghbgoblcaaGreat
set_option linter.unusedSimpArgs false
open Go.RowKit

def heavyCmd (c : ACmd) : Bool := decide (2000 < c.key.size) || decide (2000 < c.old.text.size) || decide (2000 < c.val.text.size)
theorem any_take_step {α : Type} {p : α → Bool} {l : List α} {i : Nat} {x : α} (h : (l.take i).any p = false) (hx : l[i]? = some x) (e : p x = false) : (l.take (i + 1)).any p = false := by
 obtain ⟨hi, rfl⟩ := List.getElem?_eq_some_iff.1 hx
 rw [List.take_succ_eq_append_getElem hi, List.any_append, h]; simp [e]
theorem any_yes {α : Type} {p : α → Bool} {l : List α} {i : Nat} {x : α} (hx : l[i]? = some x) (e : p x = true) : l.any p = true :=
 List.any_eq_true.2 ⟨x, List.mem_of_getElem? hx, e⟩
set_option maxRecDepth 100000 in
set_option maxHeartbeats 400000 in
theorem hv_cmd (c : ACmd) (w : World) : Calls Tryz.prog 23 #[.agg #[.int .i64 c.kind, .string c.key, .int .i64 c.old.kind, .float .f64 c.old.num, .string c.old.text, .int .i64 c.val.kind, .float .f64 c.val.num, .string c.val.text]] w fun e w' => e = .returned (.bool (heavyCmd c)) ∧ Ext w w' := by
 have e1 : decide ((2000 : Int) < (c.key.size : Int)) = decide (2000 < c.key.size) := by rw [decide_eq_decide]; omega
 have e2 : decide ((2000 : Int) < (c.old.text.size : Int)) = decide (2000 < c.old.text.size) := by rw [decide_eq_decide]; omega
 have e3 : decide ((2000 : Int) < (c.val.text.size : Int)) = decide (2000 < c.val.text.size) := by rw [decide_eq_decide]; omega
 have hE : Ext w (w.alloc (.cells #[.int .i64 c.kind, .string c.key, .int .i64 c.old.kind, .float .f64 c.old.num, .string c.old.text, .int .i64 c.val.kind, .float .f64 c.val.num, .string c.val.text] 42)) := (Mod.refl _ w).alloc _
 rcases h1 : decide (2000 < c.key.size) with _ | _
 ·
  rcases h2 : decide (2000 < c.old.text.size) with _ | _
  ·
   rw [h1] at e1; rw [h2] at e2
   go_enter Tryz.func23, Tryz.ntmps23
   go_wp2
   go_ret
   exact ⟨ret_bool (by simp only [heavyCmd, h1, h2, Bool.false_or]), hE⟩
  ·
   rw [h1] at e1; rw [h2] at e2
   go_enter Tryz.func23, Tryz.ntmps23
   go_wp2
   go_ret
   exact ⟨ret_bool (by simp only [heavyCmd, h2, Bool.or_true, Bool.true_or]), hE⟩
 ·
  rw [h1] at e1
  go_enter Tryz.func23, Tryz.ntmps23
  go_wp2
  go_ret
  exact ⟨ret_bool (by simp only [heavyCmd, h1, Bool.true_or]), hE⟩
set_option maxRecDepth 100000 in
set_option maxHeartbeats 1000000 in
theorem k_spoil (w : World) (v : Value) (l : List APair) (h : Own w v l) :
  Calls Tryz.prog 32 #[v] w fun e w' => e = .returned (.tuple #[]) ∧ Mod (fun k => v.ownBlock = some k) w w' := by
 obtain ⟨A, c, rfl, hlc, hcm⟩ := own_len h
 unfold maxLen at hcm
 obtain ⟨n, hn⟩ : ∃ n, l.length = n := ⟨_, rfl⟩
 rcases Nat.eq_zero_or_pos n with h0 | h0
 ·
  rw [hn, h0]
  clear h hn hlc hcm h0
  go_enter Tryz.func32, Tryz.ntmps32
  go_wp2_with fail
  refine wp_loop_rounds 1 ?_
  rw [rounds_succ]
  go_wp2
  go_end0
  exact ⟨rfl, Mod.refl _ w⟩
 obtain ⟨g, cap, cur, e, hR, hcl, hnc, _, _⟩ := own_row h (by intro e; rw [e] at hn; simp at hn; omega)
 injection e with e1 e2 e3
 subst e1; subst e3
 rw [hn] at hnc hlc ⊢
 clear h hn
 go_enter Tryz.func32, Tryz.ntmps32
 go_wp2
 go_loopw [2] (fun iv wr => ∃ (i : Nat) (cur' : List Value), i ≤ n ∧ iv = .int .i64 i ∧ Row wr g 94 cur' ∧ cur'.length = c * 4 ∧ Mod (fun k => k = g) w wr) (fun iv _ => n - (intOf iv).toNat)
 case atStart => exact ⟨0, cur, by omega, rfl, hR, hcl, Mod.refl _ w⟩
 case round =>
  obtain ⟨i, cur', hin, rfl, hR', hl', hm⟩ := hrel
  by_cases hi : i < n
  ·
   have hi0 : (0 : Int) ≤ (i : Int) := by omega
   have hi1 : (i : Int) < (n : Int) := by omega
   have hlt : i * 4 < cur'.length := by omega
   have hc0 : wr.cell? ⟨g, i * 4, none⟩ = some cur'[i * 4] := hR'.cell (List.getElem?_eq_getElem hlt)
   have hf0 : wr.frozen? ⟨g, i * 4, none⟩ = false := hR'.free _
   obtain ⟨u, hu⟩ : ∃ u, cur'[i * 4] = u := ⟨_, rfl⟩
   rw [hu] at hc0
   have Hnew : Hid (Row (wr.setCell ⟨g, i * 4, none⟩ (.string ⟨#[115, 112, 111, 105, 108, 116]⟩)) g 94 (cur'.set (i * 4) (.string ⟨#[115, 112, 111, 105, 108, 116]⟩)) ∧ (cur'.set (i * 4) (.string ⟨#[115, 112, 111, 105, 108, 116]⟩)).length = c * 4 ∧ Mod (fun k => k = g) w (wr.setCell ⟨g, i * 4, none⟩ (.string ⟨#[115, 112, 111, 105, 108, 116]⟩))) :=
    Lib.hid ⟨row_set _ hR', by rw [List.length_set]; exact hl', mod_same hm _ _⟩
   clear hR' hl' hm hu hlt
   go_wp2
   exact ⟨⟨i + 1, _, by omega, by go_num, Hnew.out.1, Hnew.out.2.1, Hnew.out.2.2⟩, by simp [intOf]; omega⟩
  ·
   have Hm := Lib.hid (hm.mono (T := fun k => (Value.slice (some ⟨g, 0, none⟩) n c).ownBlock = some k) (fun k _ e => by rw [e]; rfl))
   clear hR' hl' hm
   go_wp2
   go_end0
   exact ⟨rfl, Hm.out⟩

theorem kv_Do_at (w : World) (T : Nat → Prop) (v : Value) (l : List APair) (c : ACmd) (h : Prs w T v l) (hlen : l.length ≤ 1000000) (hcv : c.val.ok) {L : List APair} {r : AReply} (hr : doP l c = (L, r)) :
  Calls Tryz.prog 33 #[v, .agg #[.int .i64 c.kind, .string c.key, .int .i64 c.old.kind, .float .f64 c.old.num, .string c.old.text, .int .i64 c.val.kind, .float .f64 c.val.num, .string c.val.text]] w (DoOut w L r) := by
 have := kv_Do w T v l c h hlen hcv
 rw [hr] at this
 exact this
theorem r_do_at (w : World) (T : Nat → Prop) (v : Value) (l : List APair) (c : ACmd) (h : Prs w T v l) (hlen : l.length ≤ 1000000) (hcv : c.val.ok) {L : List APair} {r : AReply} (hr : doP l c = (L, r)) :
  Calls Tryz.prog 36 #[v, .agg #[.int .i64 c.kind, .string c.key, .int .i64 c.old.kind, .float .f64 c.old.num, .string c.old.text, .int .i64 c.val.kind, .float .f64 c.val.num, .string c.val.text]] w (DoOut w L r) := by
 have := r_do w T v l c h hlen hcv
 rw [hr] at this
 exact this
/-- What wakes asks. -/
def wakesC : ACmd := ⟨5, ⟨#[97]⟩, AVal.zero, ⟨1, 4611686018427387904, ⟨#[]⟩⟩⟩
theorem wakes_do : doP [] wakesC = ([⟨⟨#[97]⟩, ⟨1, 4611686018427387904, ⟨#[]⟩⟩⟩], ⟨0, ⟨1, 4611686018427387904, ⟨#[]⟩⟩⟩) := by
 have hn : isNaN 4611686018427387904 = false := by kernel_rfl
 have hv : chk ⟨1, 4611686018427387904, ⟨#[]⟩⟩ = 0 := chk_num (by rw [hn]; simp)
 have hk : (⟨#[97]⟩ : ByteArray).size = 1 := rfl
 have hc : cmdE wakesC = 0 := by
  simp [cmdE, wakesC, okV, zeroV_zero, chk_zero, hv, hk]
 have hj : joinV true AVal.zero ⟨1, 4611686018427387904, ⟨#[]⟩⟩ = (⟨1, 4611686018427387904, ⟨#[]⟩⟩, 0) := by
  unfold joinV
  rw [if_neg (by simp [chk_zero]), if_neg (by simp [hv])]
  exact if_pos rfl
 have hs : stepV (getP [] wakesC.key) wakesC = (0, ⟨1, 4611686018427387904, ⟨#[]⟩⟩, ⟨1, 4611686018427387904, ⟨#[]⟩⟩) := by
  have e : getP [] wakesC.key = AVal.zero := rfl
  rw [e]
  unfold stepV
  rw [if_neg (by simp [wakesC]), if_neg (by simp [wakesC]), if_neg (by simp [wakesC])]
  have e5 : (wakesC.kind == 5) = true := rfl
  have ev : wakesC.val = ⟨1, 4611686018427387904, ⟨#[]⟩⟩ := rfl
  rw [e5, ev, hj]
  rfl
 rw [do_eq hc (by simp [pairsB, sortedB]) (by simp [wakesC]), hs]
 rfl

/-- A list of commands. -/
def Cms (w : World) (T : Nat → Prop) (v : Value) (l : List ACmd) : Prop := Sl w T 8 v l.length (l.flatMap ACmd.cells) ∧ ∀ x ∈ l, x.ok
theorem Cms.ext {w w' : World} {T : Nat → Prop} {v : Value} {l : List ACmd} (h : Cms w T v l) (hm : Ext w w') : Cms w' T v l := ⟨h.1.ext hm, h.2⟩
theorem Cms.form {w : World} {T : Nat → Prop} {v : Value} {l : List ACmd} (h : Cms w T v l) : ∃ A c, v = .slice A l.length c := by
 obtain ⟨⟨_, A, c, e, _⟩, _⟩ := h
 exact ⟨A, c, e⟩
theorem Cms.at {w : World} {T : Nat → Prop} {A : Option Addr} {n c : Nat} {l : List ACmd} (h : Cms w T (.slice A n c) l) {i : Nat} (hi : i < n) :
  ∃ g off x, A = some ⟨g, off, none⟩ ∧ T g ∧ l[i]? = some x ∧ x.ok ∧ ∀ j u, x.cells[j]? = some u → w.cell? ⟨g, off + i * 8 + j, none⟩ = some u := by
 obtain ⟨⟨hl, A', c', e, hn, hc, hx⟩, hf⟩ := h
 injection e with e1 e2 e3; subst e1; subst e2; subst e3
 obtain ⟨g, off, rfl, hT, hcell⟩ := hx (by omega)
 have hget : l[i]? = some l[i] := List.getElem?_eq_getElem hi
 refine ⟨g, off, l[i], rfl, hT, hget, hf _ (List.getElem_mem hi), fun j u hu => ?_⟩
 have hj : j < 8 := (List.getElem?_eq_some_iff.1 hu).1
 rw [Nat.add_assoc]
 exact hcell _ u (by rw [flat_get (k := 8) (fun _ => rfl) l i j _ hget hj]; exact hu)
/-- Pairs behind commands. -/
def growP (p : List APair) (l : List ACmd) : List APair := l.foldl (fun p c => if heavyCmd c then p else (doP p c).1) p
theorem growP_right {p : List APair} (h : pairsB p = true) (l : List ACmd) : pairsB (growP p l) = true := by
 induction l generalizing p with
 | nil => exact h
 | cons c l ih =>
  unfold growP
  rw [List.foldl_cons]
  refine ih ?_
  split
  ·
   exact h
  ·
   exact do_right c h
theorem growP_snoc {l : List ACmd} {i : Nat} {x : ACmd} (h : l[i]? = some x) : growP [] (l.take (i + 1)) = if heavyCmd x then growP [] (l.take i) else (doP (growP [] (l.take i)) x).1 := by
 obtain ⟨hi, rfl⟩ := List.getElem?_eq_some_iff.1 h
 unfold growP
 rw [List.take_succ_eq_append_getElem hi, List.foldl_append]
 rfl
theorem right_nil : pairsB [] = true := by simp [pairsB, sortedB]
theorem right_len {l : List APair} (h : pairsB l = true) : l.length ≤ 32 := ((pairsB_iff l).1 h).1
end Go.Proofs.YtbclnghbgoblcaaGreat
