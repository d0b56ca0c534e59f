/-
 Layer 27 (script): the reader of words in memory; its word and into. Conditions: each word is no longer than 100000 bytes; the package variables are as start-up lays them (Glb).
-/
import Derived.Test.YtmebipnljkopgaaGreatDoorScrG
import Derived.Test.YtmebipnljkopgaaGreatDoorScrB
import Derived.Lib.AtoiAllCases
namespace Go.Proofs.YtmebipnljkopgaaGreatDoor
set_option linter.unusedSimpArgs false
set_option linter.unusedVariables false
open Go.RowKit
/-- The reader in memory: its words lie in block sb. -/
def RdM (w : World) (rb sb : Nat) (s : RSt) : Prop := sb ≠ rb ∧ ∃ A c, w.heap[rb]? = some (.cells #[.slice A s.1.length c, .bool s.2] 51 (0, 0)) ∧ Sl w (fun g => g = sb) 1 (.slice A s.1.length c) s.1.length (s.1.map Value.string)
theorem RdM.mod {S : Nat → Prop} {w w' : World} {rb sb : Nat} {s : RSt} (h : RdM w rb sb s) (hm : Mod S w w') (h1 : ¬ S rb) (h2 : ¬ S sb) : RdM w' rb sb s := by
 obtain ⟨h0, A, c, hb, hS⟩ := h
 exact ⟨h0, A, c, hm.blk hb h1, hS.mod hm fun g hg e => h2 (hg ▸ e)⟩
theorem RdM.ext {w w' : World} {rb sb : Nat} {s : RSt} (h : RdM w rb sb s) (hm : Ext w w') : RdM w' rb sb s := h.mod hm id id
theorem blk_set {w : World} {b : Nat} {cs : List Value} {t : TypeId} (h : w.heap[b]? = some (.cells cs.toArray t (0, 0))) (j : Nat) (u : Value) : (w.setCell ⟨b, j, none⟩ u).heap[b]? = some (.cells (cs.set j u).toArray t (0, 0)) := by
  simp [World.setCell, Array.getElem?_modify, h]
def WordOut (w : World) (rb sb : Nat) (s : RSt) (e : Ending) (w' : World) : Prop := e = .returned (.string (wordS s).1) ∧ RdM w' rb sb (wordS s).2 ∧ Mod (fun k => k = rb) w w'
set_option maxRecDepth 100000 in
set_option maxHeartbeats 400000 in
theorem s_word (w : World) (rb sb : Nat) (s : RSt) (h : RdM w rb sb s) : Calls Tryz.prog 44 #[.pointer (some ⟨rb, 0, none⟩)] w (WordOut w rb sb s) := by
 obtain ⟨l, b⟩ := s
 obtain ⟨h0, A, c, hb, hS⟩ := h
 simp only at hb hS
 rcases l with _ | ⟨x, r⟩
 · have hb' : w.heap[rb]? = some (.cells [.slice A 0 c, .bool b].toArray 51 (0, 0)) := hb
   have hc0 : w.cell? ⟨rb, 0, none⟩ = some (.slice A 0 c) := blk_cell hb' rfl
   have hc1 : w.cell? ⟨rb, 1, none⟩ = some (.bool b) := blk_cell hb' rfl
   have hf0 := blk_free 0 hb'
   have hf1 := blk_free 1 hb'
   have hb2 := blk_set hb' 1 (.bool true)
   have hm := mod_same (Mod.refl (fun k => k = rb) w) 1 (.bool true)
   have HS := Lib.hid hS
   have Hb2 := Lib.hid hb2
   have Hm := Lib.hid hm
   clear hS hb2 hm hb hb'
   go_enter Tryz.func44, Tryz.ntmps44
   go_wp2
   go_ret
   exact ⟨rfl, ⟨h0, A, c, Hb2.out, HS.out.mod Hm.out fun g hg e => h0 (by rw [← e, hg])⟩, Hm.out⟩
 have hb' : w.heap[rb]? = some (.cells [.slice A (r.length + 1) c, .bool b].toArray 51 (0, 0)) := hb
 obtain ⟨n, hn⟩ : ∃ n, r.length = n := ⟨_, rfl⟩
 have hSc := hS.cutA (m := 1) (by simp)
 have hcap : r.length + 1 ≤ c ∧ c ≤ maxLen := by
  obtain ⟨_, A', c', e, h1, h2, _⟩ := hS
  injection e with e1 e2 e3; subst e3
  simp only [List.length_cons] at h1
  exact ⟨h1, h2⟩
 obtain ⟨off, rfl, hx⟩ : ∃ off, A = some ⟨sb, off, none⟩ ∧ w.cell? ⟨sb, off, none⟩ = some (.string x) := by
  obtain ⟨_, A', c', e, _, _, hx⟩ := hS
  injection e with e1 e2 e3; subst e1
  obtain ⟨g, off, rfl, rfl, hcell⟩ := hx (by simp)
  exact ⟨off, rfl, hcell 0 _ rfl⟩
 simp only [List.length_cons, Nat.add_sub_cancel, Nat.one_mul, List.map_cons, List.drop_succ_cons, List.drop_zero] at hSc
 rw [hn] at hb' hSc hcap
 have hc0 : w.cell? ⟨rb, 0, none⟩ = some (.slice (some ⟨sb, off, none⟩) (n + 1) c) := blk_cell hb' rfl
 have hc1 : w.cell? ⟨rb, 1, none⟩ = some (.bool b) := blk_cell hb' rfl
 have hf0 := blk_free 0 hb'
 have hf1 := blk_free 1 hb'
 have hb2 := blk_set hb' 0 (.slice (cutA (some ⟨sb, off, none⟩) 1 c 1) n (c - 1))
 have hm := mod_same (Mod.refl (fun k => k = rb) w) 0 (.slice (cutA (some ⟨sb, off, none⟩) 1 c 1) n (c - 1))
 have HS := Lib.hid hSc
 have Hb2 := Lib.hid hb2
 have Hm := Lib.hid hm
 have Hn := Lib.hid hn
 have hcm : c ≤ 9223372036854775807 := hcap.2
 have hcn := hcap.1
 clear hS hSc hb2 hm hb hb' hn hcap
 go_enter Tryz.func44, Tryz.ntmps44
 go_wp2
 go_ret
 refine ⟨rfl, ⟨h0, cutA (some ⟨sb, off, none⟩) 1 c 1, c - 1, ?_, ?_⟩, Hm.out⟩
 · show _ = some (Obj.cells #[Value.slice _ r.length _, _] _ _)
   rw [Hn.out]; exact Hb2.out
 · show Sl _ _ _ (.slice _ r.length _) r.length _
   rw [Hn.out]
   exact HS.out.mod Hm.out fun g hg e => h0 (by rw [← e, hg])

theorem bs_ne {z u : ByteArray} (h : z ≠ u) : (z.toList == u.toList) = false := by
 rw [beq_eq_false_iff_ne]; intro e; rw [ByteArray.toList_eq, ByteArray.toList_eq] at e; exact h (bsOf_inj e)
theorem setO_cells (a : AAct) (v : Value) (x : Int) (o : Nat) (ho : o ∈ [1, 2, 3, 4, 13, 14, 15, 16]) : (a.cells v).set o (.int .i64 x) = (a.setO o x).cells v ∧ ∃ y, (a.cells v)[o]? = some (.int .i64 y) := by
 simp only [List.mem_cons, List.not_mem_nil, or_false] at ho
 rcases ho with rfl | rfl | rfl | rfl | rfl | rfl | rfl | rfl <;> exact ⟨rfl, _, rfl⟩
theorem wordS_sub (s : RSt) : ∀ x ∈ (wordS s).2.1, x ∈ s.1 := by
 obtain ⟨l, b⟩ := s
 rcases l with _ | ⟨y, r⟩
 · intro x hx; simp [wordS] at hx
 intro x hx; simp only [wordS] at hx; exact List.mem_cons_of_mem _ hx
theorem wordS_size (s : RSt) (h : ∀ x ∈ s.1, x.size ≤ 100000) : (wordS s).1.size ≤ 100000 := by
 obtain ⟨l, b⟩ := s
 rcases l with _ | ⟨y, r⟩
 · show (0 : Nat) ≤ 100000; omega
 exact h y (by simp)
theorem intS_sub (s : RSt) : ∀ x ∈ (intS s).2.1, x ∈ s.1 := by
 intro x hx
 unfold intS at hx
 split at hx <;> exact wordS_sub s x hx
theorem atoi_range {l : List UInt8} {v : Int} (h : Lib.atoiAll l = .ok v) : -9223372036854775808 ≤ v ∧ v ≤ 9223372036854775807 := Lib.atoiAll_bounds h
/-- What one number's reading does to the flag. -/
theorem intS_ok {s : RSt} {v : Int} (h : Lib.atoiAll (bsOf (wordS s).1) = .ok v) (he : bA (Lib.itoa v) = (wordS s).1) : intS s = (v, (wordS s).2) := by
 have : numW (wordS s).1 = some v := by
  unfold numW; rw [h]; simp only; rw [if_pos]; rw [← he, bA_bs]
 unfold intS; rw [this]
theorem intS_ne {s : RSt} {v : Int} (h : Lib.atoiAll (bsOf (wordS s).1) = .ok v) (he : bA (Lib.itoa v) ≠ (wordS s).1) : intS s = (0, ((wordS s).2.1, true)) := by
 have : numW (wordS s).1 = none := by
  unfold numW; rw [h]; simp only; rw [if_neg]; intro e; exact he (by rw [e, bs_bA])
 unfold intS; rw [this]
theorem intS_bad {s : RSt} (h : ∀ v, Lib.atoiAll (bsOf (wordS s).1) ≠ .ok v) : intS s = (0, ((wordS s).2.1, true)) := by
 have : numW (wordS s).1 = none := by
  unfold numW; split
  · rename_i v hv; exact absurd hv (h v)
  rfl
 unfold intS; rw [this]
theorem RdM.wrong {w : World} {rb sb : Nat} {s : RSt} (h : RdM w rb sb s) : w.cell? ⟨rb, 1, none⟩ = some (.bool s.2) ∧ w.frozen? ⟨rb, 1, none⟩ = false ∧ RdM (w.setCell ⟨rb, 1, none⟩ (.bool true)) rb sb (s.1, true) := by
 obtain ⟨h0, A, c, hb, hS⟩ := h
 have hb' : w.heap[rb]? = some (.cells [.slice A s.1.length c, .bool s.2].toArray 51 (0, 0)) := hb
 refine ⟨blk_cell hb' rfl, blk_free 1 hb', h0, A, c, blk_set hb' 1 (.bool true), hS.mod (mod_same (Mod.refl (fun k => k = rb) w) 1 (.bool true)) fun g hg e => h0 (by rw [← e, hg])⟩
def IntoOut (w : World) (rb sb ab : Nat) (os : List Nat) (a : AAct) (bv : Value) (s : RSt) (e : Ending) (w' : World) : Prop :=
 e = .returned (.tuple #[]) ∧ RdM w' rb sb (intoS os a s).2 ∧ w'.heap[ab]? = some (.cells ((intoS os a s).1.cells bv).toArray 31 (0, 0)) ∧ Mod (fun k => k = rb ∨ k = ab) w w'
set_option maxRecDepth 100000 in
set_option maxHeartbeats 1000000 in
theorem s_into (w : World) (rb sb ab pb : Nat) (os : List Nat) (a : AAct) (bv pv : Value) (s : RSt) (h : RdM w rb sb s) (hg : Glb w) (hw : ∀ x ∈ s.1, x.size ≤ 100000)
  (ha : w.heap[ab]? = some (.cells (a.cells bv).toArray 31 (0, 0))) (hos : ∀ o ∈ os, o ∈ [1, 2, 3, 4, 13, 14, 15, 16]) (hol : os.length ≤ 100)
  (hp : Sl w (fun g => g = pb) 1 pv os.length (os.map fun o => .pointer (some ⟨ab, o, none⟩))) (h1 : ab ≠ rb) (h2 : ab ≠ sb) (h3 : pb ≠ rb) (h4 : pb ≠ ab) (h9 : 9 ≤ ab) (h9' : 9 ≤ rb) :
  Calls Tryz.prog 20 #[.pointer (some ⟨rb, 0, none⟩), pv] w (IntoOut w rb sb ab os a bv s) := by
 obtain ⟨n, hn⟩ : ∃ n, os.length = n := ⟨_, rfl⟩
 obtain ⟨A, cp, rfl⟩ : ∃ A cp, pv = .slice A os.length cp := by obtain ⟨_, A, c, e, _⟩ := hp; exact ⟨A, c, e⟩
 rw [hn] at hp hol ⊢
 have Hp := Lib.hid hp
 have Hn := Lib.hid hn
 have H := Lib.hid h
 have Hw := Lib.hid hw
 have Ha := Lib.hid ha
 have Hos := Lib.hid hos
 have Hg := Lib.hid hg
 clear hp hn h hw ha hos hg
 go_enter Tryz.func20, Tryz.ntmps20
 go_wp2
 go_loopw [11] (fun iv wr => ∃ (i : Nat) (a' : AAct) (s' : RSt), iv = .int .i64 i ∧ i ≤ n ∧ RdM wr rb sb s' ∧ wr.heap[ab]? = some (.cells (a'.cells bv).toArray 31 (0, 0)) ∧ (∀ x ∈ s'.1, x.size ≤ 100000) ∧
   intoS os a s = intoS (os.drop i) a' s' ∧ Mod (fun k => k = rb ∨ k = ab) w wr) (fun iv _ => n - (intOf iv).toNat)
 case atStart => exact ⟨0, a, s, rfl, by omega, H.out, Ha.out, Hw.out, rfl, Mod.refl _ _⟩
 case round =>
  obtain ⟨i, a', s', rfl, hin, hR, hQ, hws, hps, hm⟩ := hrel
  have HR := Lib.hid hR
  have HQ := Lib.hid hQ
  have Hps := Lib.hid hps
  have Hm := Lib.hid hm
  have Hws := Lib.hid hws
  clear hR hQ hps hm hws
  by_cases hi : i < n
  case neg =>
   obtain rfl : i = n := by omega
   have hd : decide (i < i) = false := by simp
   go_wp2
   go_end0
   have e1 := Hps.out
   rw [List.drop_eq_nil_of_le (by rw [Hn.out]; omega)] at e1
   refine ⟨rfl, ?_, ?_, Hm.out⟩
   · rw [e1]; exact HR.out
   · rw [e1]; exact HQ.out
  obtain ⟨o, ho⟩ : ∃ o, os[i]? = some o := ⟨_, List.getElem?_eq_getElem (by rw [Hn.out]; exact hi)⟩
  obtain ⟨off, rfl, hcell⟩ : ∃ off, A = some ⟨pb, off, none⟩ ∧ wr.cell? ⟨pb, off + i, none⟩ = some (.pointer (some ⟨ab, o, none⟩)) := by
   obtain ⟨_, A', c', e, hl1, hl2, hx⟩ := Hp.out
   injection e with e1 _ e3; subst e1; subst e3
   obtain ⟨g, off, rfl, rfl, hcell⟩ := hx (by omega)
   exact ⟨off, rfl, Hm.out.cell (hcell i _ (by simp [ho])) (by rintro (e | e); exact h3 e; exact h4 e)⟩
  have Ho := Lib.hid ho
  clear ho
  have hsz := wordS_size s' Hws.out
  have hsub : ∀ x ∈ (intS s').2.1, x.size ≤ 100000 := fun x hx => Hws.out x (intS_sub s' x hx)
  have hrb := HR.out.1
  go_wp2_with fail
  refine (s_word wr rb sb s' HR.out).mono ?_
  rintro e w1 ⟨rfl, hR1, hm1⟩
  obtain ⟨u, hu⟩ : ∃ u, (wordS s').1 = u := ⟨_, rfl⟩
  rw [hu] at hsz ⊢
  have hG1 : Glb w1 := (Hg.out.mod Hm.out (by rintro k hk (e | e) <;> omega)).mod hm1 (by rintro k hk e; omega)
  have hQ1 := hm1.blk HQ.out h1
  have hm1' : Mod (fun k => k = rb ∨ k = ab) w w1 := Hm.out.trans hm1 (fun _ _ h => .inl h)
  have HG1 := Lib.hid hG1
  have HR1 := Lib.hid hR1
  have HQ1 := Lib.hid hQ1
  have HM1 := Lib.hid hm1'
  have Hu := Lib.hid hu
  have Hsub := Lib.hid hsub
  clear hG1 hR1 hQ1 hm1' hm1 hu hsub
  go_wp2_with fail
  refine (c_atoi u w1 HG1.out hsz).mono ?_
  rintro e w2 ⟨hE2, hcase⟩
  rcases hcase with ⟨v, hv, rfl⟩ | ⟨hv, v, T, p, rfl⟩
  · obtain ⟨hv1, hv2⟩ := atoi_range hv
    have hG2 : Glb w2 := HG1.out.ext hE2
    have hR2 := HR1.out.ext hE2
    have hQ2 := hE2.blk HQ1.out id
    have hM2 := HM1.out.ext hE2
    obtain ⟨z, hz⟩ : ∃ z, bA (Lib.itoa v) = z := ⟨_, rfl⟩
    have hit : ∀ W, Glb W → Calls Tryz.prog 46 #[.int .i64 v] W fun e w' => e = .returned (.string z) ∧ Ext W w' := fun W hW => hz ▸ c_itoa v hv1 hv2 W hW
    have Hz := Lib.hid hz
    have Hv := Lib.hid hv
    have HG2 := Lib.hid hG2
    have HR2 := Lib.hid hR2
    have HQ2 := Lib.hid hQ2
    have HM2 := Lib.hid hM2
    have Hit := Lib.hid hit
    clear hit hz hv hG2 hR2 hQ2 hM2 hE2
    by_cases hzu : z = u
    · subst hzu
      go_upto_region 8 with (go_at_call 46; refine (Hit.out _ HG2.out).mono ?_; rintro e w3 ⟨rfl, hE3⟩)
      have HI : Hid (intS s' = (v, (wordS s').2)) := Lib.hid (intS_ok (by rw [Hu.out]; exact Hv.out) (by rw [Hu.out]; exact Hz.out))
      have HR3 := Lib.hid (HR2.out.ext hE3)
      have HQ3 := Lib.hid (hE3.blk HQ2.out id)
      have HM3 := Lib.hid (HM2.out.ext hE3)
      clear hE3
      obtain ⟨hst, y, hy⟩ := setO_cells a' bv (v) o (Hos.out o (List.mem_of_getElem? Ho.out))
      have hQ4 := blk_set HQ3.out o (.int .i64 v)
      rw [hst] at hQ4
      have qc : w3.cell? ⟨ab, o, none⟩ = some (.int .i64 y) := blk_cell HQ3.out hy
      have qf : w3.frozen? ⟨ab, o, none⟩ = false := blk_free o HQ3.out
      have hm4 : Mod (fun k => k = ab) w3 (w3.setCell ⟨ab, o, none⟩ (.int .i64 v)) := mod_same (Mod.refl _ _) _ _
      have hR4 := HR3.out.mod hm4 (fun e => h1 e.symm) (fun e => h2 e.symm)
      have hM4 := HM3.out.trans hm4 (fun _ _ h => .inr h)
      have HQ4 := Lib.hid hQ4
      have HR4 := Lib.hid hR4
      have HM4 := Lib.hid hM4
      clear hQ4 hR4 hM4 hm4 hst hy
      go_wp2
      refine ⟨⟨i + 1, a'.setO o (v), _, by go_num, by omega, HR4.out, HQ4.out, ?_, ?_, HM4.out⟩, by simp [intOf]; omega⟩
      · intro x hx; exact Hsub.out x (by rw [HI.out]; exact hx)
      · rw [Hps.out, List.drop_eq_getElem_cons (by rw [Hn.out]; exact hi), intoS, HI.out]
        rw [(List.getElem?_eq_some_iff.1 Ho.out).2]
    have hzd := bs_ne hzu
    go_upto_region 6 with (go_at_call 46; refine (Hit.out _ HG2.out).mono ?_; rintro e w3 ⟨rfl, hE3⟩)
    have HI : Hid (intS s' = (0, ((wordS s').2.1, true))) := Lib.hid (intS_ne (by rw [Hu.out]; exact Hv.out) (by rw [Hu.out, Hz.out]; exact hzu))
    obtain ⟨c1, f1, hR3⟩ := RdM.wrong (HR2.out.ext hE3)
    have hm3 : Mod (fun k => k = rb) w3 (w3.setCell ⟨rb, 1, none⟩ (.bool true)) := mod_same (Mod.refl _ _) _ _
    have hQ3 := hm3.blk (hE3.blk HQ2.out id) h1
    have hM3 := (HM2.out.ext hE3).trans hm3 (fun _ _ h => .inl h)
    obtain ⟨b0, hb0⟩ : ∃ b0, (wordS s').2.2 = b0 := ⟨_, rfl⟩
    rw [hb0] at c1
    clear hb0
    have HR3 := Lib.hid hR3
    have HQ3 := Lib.hid hQ3
    have HM3 := Lib.hid hM3
    clear hR3 hQ3 hM3 hm3
    go_upto_region 8 with fail
    obtain ⟨hst, y, hy⟩ := setO_cells a' bv (0) o (Hos.out o (List.mem_of_getElem? Ho.out))
    have hQ4 := blk_set HQ3.out o (.int .i64 0)
    rw [hst] at hQ4
    have qc : (w3.setCell ⟨rb, 1, none⟩ (.bool true)).cell? ⟨ab, o, none⟩ = some (.int .i64 y) := blk_cell HQ3.out hy
    have qf : (w3.setCell ⟨rb, 1, none⟩ (.bool true)).frozen? ⟨ab, o, none⟩ = false := blk_free o HQ3.out
    have hm4 : Mod (fun k => k = ab) (w3.setCell ⟨rb, 1, none⟩ (.bool true)) ((w3.setCell ⟨rb, 1, none⟩ (.bool true)).setCell ⟨ab, o, none⟩ (.int .i64 0)) := mod_same (Mod.refl _ _) _ _
    have hR4 := HR3.out.mod hm4 (fun e => h1 e.symm) (fun e => h2 e.symm)
    have hM4 := HM3.out.trans hm4 (fun _ _ h => .inr h)
    have HQ4 := Lib.hid hQ4
    have HR4 := Lib.hid hR4
    have HM4 := Lib.hid hM4
    clear hQ4 hR4 hM4 hm4 hst hy
    go_wp2
    refine ⟨⟨i + 1, a'.setO o (0), _, by go_num, by omega, HR4.out, HQ4.out, ?_, ?_, HM4.out⟩, by simp [intOf]; omega⟩
    · intro x hx; exact Hsub.out x (by rw [HI.out]; exact hx)
    · rw [Hps.out, List.drop_eq_getElem_cons (by rw [Hn.out]; exact hi), intoS, HI.out]
      rw [(List.getElem?_eq_some_iff.1 Ho.out).2]
  go_upto_region 6 with fail
  have HI : Hid (intS s' = (0, ((wordS s').2.1, true))) := Lib.hid (intS_bad (by rw [Hu.out]; exact hv))
  obtain ⟨c1, f1, hR3⟩ := RdM.wrong (HR1.out.ext hE2)
  have hm3 : Mod (fun k => k = rb) w2 (w2.setCell ⟨rb, 1, none⟩ (.bool true)) := mod_same (Mod.refl _ _) _ _
  have hQ3 := hm3.blk (hE2.blk HQ1.out id) h1
  have hM3 := (HM1.out.ext hE2).trans hm3 (fun _ _ h => .inl h)
  obtain ⟨b0, hb0⟩ : ∃ b0, (wordS s').2.2 = b0 := ⟨_, rfl⟩
  rw [hb0] at c1
  clear hb0
  have HR3 := Lib.hid hR3
  have HQ3 := Lib.hid hQ3
  have HM3 := Lib.hid hM3
  clear hR3 hQ3 hM3 hm3
  go_upto_region 8 with fail
  obtain ⟨hst, y, hy⟩ := setO_cells a' bv (0) o (Hos.out o (List.mem_of_getElem? Ho.out))
  have hQ4 := blk_set HQ3.out o (.int .i64 0)
  rw [hst] at hQ4
  have qc : (w2.setCell ⟨rb, 1, none⟩ (.bool true)).cell? ⟨ab, o, none⟩ = some (.int .i64 y) := blk_cell HQ3.out hy
  have qf : (w2.setCell ⟨rb, 1, none⟩ (.bool true)).frozen? ⟨ab, o, none⟩ = false := blk_free o HQ3.out
  have hm4 : Mod (fun k => k = ab) (w2.setCell ⟨rb, 1, none⟩ (.bool true)) ((w2.setCell ⟨rb, 1, none⟩ (.bool true)).setCell ⟨ab, o, none⟩ (.int .i64 0)) := mod_same (Mod.refl _ _) _ _
  have hR4 := HR3.out.mod hm4 (fun e => h1 e.symm) (fun e => h2 e.symm)
  have hM4 := HM3.out.trans hm4 (fun _ _ h => .inr h)
  have HQ4 := Lib.hid hQ4
  have HR4 := Lib.hid hR4
  have HM4 := Lib.hid hM4
  clear hQ4 hR4 hM4 hm4 hst hy
  go_wp2
  refine ⟨⟨i + 1, a'.setO o (0), _, by go_num, by omega, HR4.out, HQ4.out, ?_, ?_, HM4.out⟩, by simp [intOf]; omega⟩
  · intro x hx; exact Hsub.out x (by rw [HI.out]; exact hx)
  · rw [Hps.out, List.drop_eq_getElem_cons (by rw [Hn.out]; exact hi), intoS, HI.out]
    rw [(List.getElem?_eq_some_iff.1 Ho.out).2]
end Go.Proofs.YtmebipnljkopgaaGreatDoor
