/-
 Layer 27 (script): the reader's key, value, raw; kinds, commands. Conditions: each word is no longer than 100000 bytes; the package variables are as start-up lays them (Glb).
-/
import Derived.Test.YtmebipnljkopgaaGreatDoorScrJ
import Derived.Test.YtmebipnljkopgaaGreatDoorScrX
namespace Go.Proofs.YtmebipnljkopgaaGreatDoor
set_option linter.unusedSimpArgs false
set_option linter.unusedVariables false
open Go.RowKit
theorem word_wrong {w : World} {rb sb : Nat} {s : RSt} (h : RdM w rb sb (wordS s).2) : ∃ b0, w.cell? ⟨rb, 1, none⟩ = some (.bool b0) ∧ w.frozen? ⟨rb, 1, none⟩ = false ∧ RdM (w.setCell ⟨rb, 1, none⟩ (.bool true)) rb sb ((wordS s).2.1, true) :=
 ⟨_, RdM.wrong h⟩
def cutK (u : ByteArray) : List UInt8 × Bool := match bsOf u with
  | [] => ([], false)
  | c :: r => if c = 107 then (r, true) else (c :: r, false)
theorem c_cutk (u : ByteArray) (w : World) : Calls Tryz.prog 47 #[.string u, .string (bA [107])] w fun e w' => e = .returned (.tuple #[.string (bA (cutK u).1), .bool (cutK u).2]) ∧ w' = w := by
 have h := Tryz.strings_CutPrefix u (bA [107]) w
 have e : Lib.trimPrefix u.data.toList (bA [107]).data.toList = (cutK u).1 ∧ Lib.hasPrefix u.data.toList (bA [107]).data.toList = (cutK u).2 := by
  unfold cutK
  show Lib.trimPrefix (bsOf u) [107] = _ ∧ Lib.hasPrefix (bsOf u) [107] = _
  rcases bsOf u with _ | ⟨c, r⟩
  · exact ⟨rfl, rfl⟩
  by_cases hc : c = 107
  · subst hc; simp [Lib.trimPrefix, Lib.hasPrefix, List.isPrefixOf]
  · have : (107 == c) = false := by simp [Ne.symm hc]
    simp [Lib.trimPrefix, Lib.hasPrefix, List.isPrefixOf, this, hc]
 rw [e.1, e.2] at h
 exact h
theorem keyP_cut (u : ByteArray) : keyP u = if (cutK u).2 = true then (unhexL (cutK u).1).map bA else none := by
 unfold keyP cutK
 rcases bsOf u with _ | ⟨c, r⟩
 · rfl
 by_cases hc : c = 107
 · simp [hc]
 · simp [hc]
theorem cutK_size (u : ByteArray) : (bA (cutK u).1).size ≤ u.size := by
 have e : (bA (cutK u).1).size = (cutK u).1.length := by simp [bA, ByteArray.size]
 have e2 : u.size = (bsOf u).length := rfl
 rw [e, e2]
 unfold cutK
 rcases bsOf u with _ | ⟨c, r⟩
 · simp
 by_cases hc : c = 107 <;> simp [hc]
theorem keyS_yes {s : RSt} {k : ByteArray} (h : keyP (wordS s).1 = some k) : keyS s = (k, (wordS s).2) := by unfold keyS; rw [h]
theorem keyS_no {s : RSt} (h : keyP (wordS s).1 = none) : keyS s = (⟨#[]⟩, ((wordS s).2.1, true)) := by unfold keyS; rw [h]
def KeyOut (w : World) (rb sb : Nat) (s : RSt) (e : Ending) (w' : World) : Prop := e = .returned (.string (keyS s).1) ∧ RdM w' rb sb (keyS s).2 ∧ Mod (fun k => k = rb) w w'
set_option maxRecDepth 100000 in
set_option maxHeartbeats 1000000 in
theorem s_key (w : World) (rb sb : Nat) (s : RSt) (h : RdM w rb sb s) (hw : ∀ x ∈ s.1, x.size ≤ 100000) : Calls Tryz.prog 21 #[.pointer (some ⟨rb, 0, none⟩)] w (KeyOut w rb sb s) := by
 have hsz := wordS_size s hw
 clear hw
 go_enter Tryz.func21, Tryz.ntmps21
 go_wp2_with fail
 refine (s_word w rb sb s h).mono ?_
 rintro e w1 ⟨rfl, hR1, hm1⟩
 obtain ⟨u, hu⟩ : ∃ u, (wordS s).1 = u := ⟨_, rfl⟩
 rw [hu] at hsz ⊢
 have hcz := cutK_size u
 have hkc := keyP_cut u
 have hck := c_cutk u
 obtain ⟨q, hq⟩ : ∃ q, (cutK u).1 = q := ⟨_, rfl⟩
 obtain ⟨is, his⟩ : ∃ q, (cutK u).2 = q := ⟨_, rfl⟩
 rw [hq] at hcz hkc hck
 rw [his] at hkc hck
 have hun : ∀ W, Calls Tryz.prog 48 #[.string (bA q)] W fun e w' => e = .returned (.tuple #[.string (bA ((unhexL q).getD [])), .bool (unhexL q).isSome]) ∧ Ext W w' := by
  intro W
  have h := s_unhex (bA q) W (by omega)
  rw [bA_bs] at h
  exact h
 obtain ⟨z, hz⟩ : ∃ z, bA q = z := ⟨_, rfl⟩
 rw [hz] at hun hck
 have HR1 := Lib.hid hR1
 have Hm1 := Lib.hid hm1
 have Hu := Lib.hid hu
 clear hR1 hm1 hu hcz hq his hz h
 cases is with
 | false =>
  simp only [Bool.false_eq_true, if_false] at hkc
  have Hkc := Lib.hid hkc
  clear hkc
  go_wp2_with fail
  refine (hck w1).mono ?_
  rintro e w2 ⟨rfl, rfl⟩
  go_wp2_with fail
  refine (hun w2).mono ?_
  rintro e w3 ⟨rfl, hE3⟩
  obtain ⟨rs, hrs⟩ : ∃ rs, (unhexL q).isSome = rs := ⟨_, rfl⟩
  rw [hrs]
  obtain ⟨b0, c1, f1, hR3⟩ := word_wrong (HR1.out.ext hE3)
  have hm3 : Mod (fun k => k = rb) w3 (w3.setCell ⟨rb, 1, none⟩ (.bool true)) := mod_same (Mod.refl _ _) _ _
  have HR3 := Lib.hid hR3
  have Hm3 := Lib.hid ((Hm1.out.ext hE3).self hm3)
  clear hR3 hm3 hrs hE3
  go_wp2
  go_ret
  have e := keyS_no (s := s) (by rw [Hu.out]; exact Hkc.out)
  refine ⟨by rw [e]; rfl, ?_, Hm3.out⟩
  rw [e]; exact HR3.out
 | true =>
  simp only [if_true] at hkc
  rcases hun' : unhexL q with _ | t
  · rw [hun'] at hun hkc
    simp only [Option.map_none, Option.getD_none, Option.isSome_none] at hkc
    have Hkc := Lib.hid hkc
    clear hkc hun'
    go_wp2_with fail
    refine (hck w1).mono ?_
    rintro e w2 ⟨rfl, rfl⟩
    go_wp2_with fail
    refine (hun w2).mono ?_
    rintro e w3 ⟨rfl, hE3⟩
    obtain ⟨b0, c1, f1, hR3⟩ := word_wrong (HR1.out.ext hE3)
    have hm3 : Mod (fun k => k = rb) w3 (w3.setCell ⟨rb, 1, none⟩ (.bool true)) := mod_same (Mod.refl _ _) _ _
    have HR3 := Lib.hid hR3
    have Hm3 := Lib.hid ((Hm1.out.ext hE3).self hm3)
    clear hR3 hm3 hE3
    go_wp2
    go_ret
    have e := keyS_no (s := s) (by rw [Hu.out]; exact Hkc.out)
    refine ⟨by rw [e]; rfl, ?_, Hm3.out⟩
    rw [e]; exact HR3.out
  rw [hun'] at hun hkc
  simp only [Option.map_some] at hkc
  have Hkc := Lib.hid hkc
  clear hkc hun'
  go_wp2_with fail
  refine (hck w1).mono ?_
  rintro e w2 ⟨rfl, rfl⟩
  go_wp2_with fail
  refine (hun w2).mono ?_
  rintro e w3 ⟨rfl, hE3⟩
  have HE3 := Lib.hid hE3
  clear hE3
  go_wp2
  go_ret
  have e := keyS_yes (s := s) (by rw [Hu.out]; exact Hkc.out)
  refine ⟨by rw [e]; rfl, ?_, Hm1.out.ext HE3.out⟩
  rw [e]; exact HR1.out.ext HE3.out
theorem Mod.back {S : Nat → Prop} {w w1 w2 : World} {b : Nat} (h : Mod S w w1) (h2 : Mod (fun k => k = b) w1 w2) (hb : w.heap.size ≤ b) : Mod S w w2 := h.trans h2 (fun k hk e => by omega)
theorem results_row1 {P : Program} {fn : Func} {p : Tmp} {ty : TypeId} {k : Nat} (h : fn.results = #[.cell p ty]) (tmps : Array Value) (w : World) (g : Nat) (t : TypeId) (cs : List Value) (hs : Str P ty k)
    (hp : tmps.getD p undef = .pointer (some ⟨g, 0, none⟩)) (hg : w.heap[g]? = some (.cells cs.toArray t (0, 0))) (hc : cs.length = k) : (results fn tmps).run P w = .ok (.agg cs.toArray) w := by
  have hl := load_row (P := P) (o := 0) (cs := cs) hs hg hc (fun j u hu => by rw [Nat.zero_add]; exact hu)
  have hv : (loadVar ty ⟨g, 0, none⟩).run P w = .ok (.agg cs.toArray) w := by simpa [Instr.loadAt, Instr.sureAddr] using hl
  have hp' : tmps[p]?.getD undef = .pointer (some ⟨g, 0, none⟩) := by rw [← Array.getD_eq_getD_getElem?]; exact hp
  simp [results, h, hp', asAddr, hv, Result.andThen]
theorem valS_yes {s : RSt} {v : AVal} (h : valP (wordS s).1 = some v) : valS s = (v, (wordS s).2) := by unfold valS; rw [h]
theorem valS_no {s : RSt} (h : valP (wordS s).1 = none) : valS s = (AVal.zero, ((wordS s).2.1, true)) := by unfold valS; rw [h]
def ValSOut (w : World) (rb sb : Nat) (s : RSt) (e : Ending) (w' : World) : Prop := e = .returned (.agg #[.int .i64 (valS s).1.kind, .float .f64 (valS s).1.num, .string (valS s).1.text]) ∧ RdM w' rb sb (valS s).2 ∧ Mod (fun k => k = rb) w w'
set_option maxRecDepth 100000 in
set_option maxHeartbeats 1000000 in
theorem s_value (w : World) (rb sb : Nat) (s : RSt) (h : RdM w rb sb s) (hg : Glb w) (h9 : 9 ≤ rb) (hsb : sb < w.heap.size) (hw : ∀ x ∈ s.1, x.size ≤ 100000) : Calls Tryz.prog 22 #[.pointer (some ⟨rb, 0, none⟩)] w (ValSOut w rb sb s) := by
 have hsz := wordS_size s hw
 clear hw
 have hrb : rb < w.heap.size := by obtain ⟨_, A, c, hb, _⟩ := h; exact (Array.getElem?_eq_some_iff.1 hb).1
 obtain ⟨b, hb⟩ : ∃ b, w.heap.size = b := ⟨_, rfl⟩
 go_enter Tryz.func22, Tryz.ntmps22
 go_wp2_with fail
 obtain ⟨W2, hW2⟩ : ∃ W2, w.alloc (.cells #[.int .i64 0, .float .f64 0, .string ⟨#[]⟩] 24) = W2 := ⟨_, rfl⟩
 have hE2 : Ext w W2 := hW2 ▸ ((Mod.refl _ w).alloc _)
 have hb2 : W2.heap[b]? = some (.cells [.int .i64 AVal.zero.kind, .float .f64 AVal.zero.num, .string AVal.zero.text].toArray 24 (0, 0)) := hb ▸ hW2 ▸ heap_new _ _
 rw [hW2]
 clear hW2
 refine (s_word W2 rb sb s (h.ext hE2)).mono ?_
 rintro e w1 ⟨rfl, hR1, hm1⟩
 obtain ⟨u, hu⟩ : ∃ u, (wordS s).1 = u := ⟨_, rfl⟩
 rw [hu] at hsz ⊢
 have HR1 := Lib.hid hR1
 have Hm1 := Lib.hid ((Ext.mod hE2 (fun k => k = rb)).self hm1)
 have hG1 : Hid (Glb w1) := Lib.hid ((hg.ext hE2).mod hm1 (by rintro k hk e; omega))
 have hb1 := hm1.blk hb2 (by omega)
 have hs1 := hm1.size
 have hs2 := hE2.size
 have Hu := Lib.hid hu
 clear hR1 hm1 hE2 hb2 hu hg h
 go_wp2_with fail
 refine (v_parse u w1 hG1.out hsz).mono ?_
 rintro e w3 ⟨he, hE3⟩
 have hb3 := hE3.blk hb1 id
 have hs3 := hE3.size
 have HR3 := Lib.hid (HR1.out.ext hE3)
 have Hm3 := Lib.hid (Hm1.out.ext hE3)
 clear hE3 hb1
 rcases hv : valP u with _ | v
 · rw [hv] at he
   subst he
   have e := valS_no (s := s) (by rw [Hu.out]; exact hv)
   have He := Lib.hid e
   clear e hv
   obtain ⟨w4, hw4⟩ : ∃ w4, w3.alloc (.cells #[.int .i64 AVal.zero.kind, .float .f64 AVal.zero.num, .string AVal.zero.text] 24) = w4 := ⟨_, rfl⟩
   go_upto_region 2 with fail
   have hE4 : Ext w3 w4 := hw4 ▸ ((Mod.refl _ w3).alloc _)
   have hc4 : w4.heap[w3.heap.size]? = some (.cells [.int .i64 AVal.zero.kind, .float .f64 AVal.zero.num, .string AVal.zero.text].toArray 24 (0, 0)) := hw4 ▸ heap_new _ _
   obtain ⟨c, hc⟩ : ∃ c, w3.heap.size = c := ⟨_, rfl⟩
   rw [hc] at hc4 hs3
   rw [hc]
   have hb4 := hE4.blk hb3 id
   obtain ⟨b0, c1, f1, hR5⟩ := word_wrong (HR3.out.ext hE4)
   have hm5 : Mod (fun k => k = rb) w4 (w4.setCell ⟨rb, 1, none⟩ (.bool true)) := mod_same (Mod.refl _ _) _ _
   obtain ⟨w5, hw5⟩ : ∃ w5, w4.setCell ⟨rb, 1, none⟩ (.bool true) = w5 := ⟨_, rfl⟩
   have hbne : b ≠ rb := by omega
   have hcne : c ≠ rb := by omega
   have hb5 := hm5.blk hb4 hbne
   have hc5 := hm5.blk hc4 hcne
   have HM5 := Lib.hid ((Hm3.out.ext hE4).self hm5)
   rw [hw5] at hb5 hc5 hR5 HM5
   have HR5 := Lib.hid hR5
   clear hw4 hE4 hb3 hb4 hR5 hm5
   go_upto_region 4 with fail
   clear hw5 c1 f1 hc4
   have k0 : w5.cell? ⟨c, 0, none⟩ = some (.int .i64 0) := blk_cell hc5 rfl
   have k1 : w5.cell? ⟨c, 1, none⟩ = some (.float .f64 0) := blk_cell hc5 rfl
   have k2 : w5.cell? ⟨c, 2, none⟩ = some (.string ⟨#[]⟩) := blk_cell hc5 rfl
   go_wp2_with (refine wpList_stR rfl 24 _ _ rfl 3 b 0 [.int .i64 AVal.zero.kind, .float .f64 AVal.zero.num, .string AVal.zero.text] rfl rfl str_val _ _ [.int .i64 AVal.zero.kind, .float .f64 AVal.zero.num, .string AVal.zero.text] hb5 rfl (by simp) (by simp [Value.oneCell']) rfl ?_; intro w6 hb6 hm6 hs6)
   refine bodyPost_ret (results_row1 rfl _ _ b 24 [.int .i64 AVal.zero.kind, .float .f64 AVal.zero.num, .string AVal.zero.text] str_val rfl hb6 rfl) rfl ?_
   refine ⟨by rw [He.out], ?_, ?_⟩
   · rw [He.out]; exact HR5.out.mod hm6 (fun e => hbne e.symm) (by omega)
   exact Mod.back HM5.out hm6 (by omega)
 rw [hv] at he
 subst he
 have He := Lib.hid (valS_yes (s := s) (by rw [Hu.out]; exact hv))
 clear hv
 obtain ⟨kv, xv, tv⟩ := v
 simp only
 go_wp2_with (refine wpList_stR rfl 24 _ _ rfl 3 b 0 [.int .i64 kv, .float .f64 xv, .string tv] rfl rfl str_val _ _ [.int .i64 kv, .float .f64 xv, .string tv] (((Mod.refl (fun _ => False) w3).alloc _).blk hb3 id) rfl (by simp) (by simp [Value.oneCell']) rfl ?_; intro w6 hb6 hm6 hs6)
 refine bodyPost_ret (results_row1 rfl _ _ b 24 [.int .i64 kv, .float .f64 xv, .string tv] str_val rfl hb6 rfl) rfl ?_
 refine ⟨by rw [He.out], ?_, ?_⟩
 · rw [He.out]; exact (HR3.out.ext ((Mod.refl _ w3).alloc _)).mod hm6 (by omega) (by omega)
 exact Mod.back (Hm3.out.ext ((Mod.refl _ w3).alloc _)) hm6 (by omega)
end Go.Proofs.YtmebipnljkopgaaGreatDoor
