/-
 Layer 27 (script): the page's Read: readP. Conditions: the line is no longer than 100000 bytes; the package variables are as start-up lays them (Glb).
-/
import Derived.Test.YtmebipnljkopgaaGreatDoorScrC
import Derived.Test.YtmebipnljkopgaaGreatDoorScrW
import Derived.Deep.QuietTactic
namespace Go.Proofs.YtmebipnljkopgaaGreatDoor
set_option linter.unusedSimpArgs false
set_option linter.unusedVariables false
open Go.RowKit
def formsL : List ByteArray := [bA [116, 105, 99, 107, 32, 105], bA [100, 101, 108, 105, 118, 101, 114, 32, 110], bA [100, 114, 111, 112, 32, 110], bA [116, 119, 105, 99, 101, 32, 110], bA [109, 111, 118, 101, 32, 110, 109], bA [114, 97, 119, 32, 98], bA [99, 114, 97, 115, 104, 32, 105, 110], bA [116, 114, 105, 112, 32, 105, 110, 109], bA [115, 116, 97, 114, 116, 32, 105], bA [], bA [97, 103, 97, 105, 110, 32, 99, 105], bA [112, 108, 97, 110, 32, 105], bA [99, 104, 97, 110, 103, 101, 32, 105, 102], bA [114, 111, 117, 110, 100, 32, 110]]
def namesL : List ByteArray := [bA [116, 105, 99, 107], bA [100, 101, 108, 105, 118, 101, 114], bA [100, 114, 111, 112], bA [116, 119, 105, 99, 101], bA [109, 111, 118, 101], bA [114, 97, 119], bA [99, 114, 97, 115, 104], bA [116, 114, 105, 112], bA [115, 116, 97, 114, 116], bA [], bA [97, 103, 97, 105, 110], bA [112, 108, 97, 110], bA [99, 104, 97, 110, 103, 101], bA [114, 111, 117, 110, 100]]
def lettL : List ByteArray := [bA [105], bA [110], bA [110], bA [110], bA [110, 109], bA [98], bA [105, 110], bA [105, 110, 109], bA [105], bA [], bA [99, 105], bA [105], bA [105, 102], bA [110]]
def FormsAt (w : World) (cb : Nat) : Prop := ∀ j, j < 14 → w.cell? ⟨cb, j, none⟩ = some (.string (formsL.getD j ByteArray.empty))
theorem c_forms (w : World) : Calls Tryz.prog 24 #[] w fun e w' => ∃ cb, e = .returned (.slice (some ⟨cb, 0, none⟩) 14 14) ∧ FormsAt w' cb ∧ Ext w w' := by
 have Hb := Lib.hid (fun o => heap_new w o)
 go_enter Tryz.func24, Tryz.ntmps24
 go_wp2
 go_ret
 refine ⟨_, rfl, fun j hj => ?_, (Mod.refl _ w).alloc _⟩
 refine blk_cell (cs := formsL.map Value.string) (Hb.out _) ?_
 rw [List.getElem?_map]
 rcases j with _ | _ | _ | _ | _ | _ | _ | _ | _ | _ | _ | _ | _ | _ | j
 all_goals first | rfl | omega
theorem forms_words (j : Nat) (hj : j < 14) (h9 : j ≠ 9) : wordsB (formsL.getD j ByteArray.empty) = [namesL.getD j ByteArray.empty, lettL.getD j ByteArray.empty] := by
 rcases j with _ | _ | _ | _ | _ | _ | _ | _ | _ | _ | _ | _ | _ | _ | j
 all_goals first | rfl | omega
theorem forms_nine : wordsB (formsL.getD 9 ByteArray.empty) = [⟨#[]⟩] := rfl
theorem forms_size (j : Nat) : (formsL.getD j ByteArray.empty).size ≤ 100000 := by
 rcases j with _ | _ | _ | _ | _ | _ | _ | _ | _ | _ | _ | _ | _ | _ | j
 all_goals first | decide | (show (0 : Nat) ≤ 100000; omega)
theorem kindP_inv (l : List UInt8) : kindP l = 0 ∨ (kindP l = 1 ∧ l = [116, 105, 99, 107]) ∨ (kindP l = 2 ∧ l = [100, 101, 108, 105, 118, 101, 114]) ∨ (kindP l = 3 ∧ l = [100, 114, 111, 112]) ∨ (kindP l = 4 ∧ l = [116, 119, 105, 99, 101]) ∨ (kindP l = 5 ∧ l = [109, 111, 118, 101]) ∨ (kindP l = 6 ∧ l = [114, 97, 119]) ∨ (kindP l = 7 ∧ l = [99, 114, 97, 115, 104]) ∨ (kindP l = 8 ∧ l = [116, 114, 105, 112]) ∨ (kindP l = 9 ∧ l = [115, 116, 97, 114, 116]) ∨ (kindP l = 11 ∧ l = [97, 103, 97, 105, 110]) ∨ (kindP l = 12 ∧ l = [112, 108, 97, 110]) ∨ (kindP l = 13 ∧ l = [99, 104, 97, 110, 103, 101]) ∨ (kindP l = 14 ∧ l = [114, 111, 117, 110, 100]) := by
 by_cases h0 : l = [116, 105, 99, 107]
 · exact .inr (.inl ⟨by subst h0; decide, h0⟩)
 by_cases h1 : l = [100, 101, 108, 105, 118, 101, 114]
 · exact .inr (.inr (.inl ⟨by subst h1; decide, h1⟩))
 by_cases h2 : l = [100, 114, 111, 112]
 · exact .inr (.inr (.inr (.inl ⟨by subst h2; decide, h2⟩)))
 by_cases h3 : l = [116, 119, 105, 99, 101]
 · exact .inr (.inr (.inr (.inr (.inl ⟨by subst h3; decide, h3⟩))))
 by_cases h4 : l = [109, 111, 118, 101]
 · exact .inr (.inr (.inr (.inr (.inr (.inl ⟨by subst h4; decide, h4⟩)))))
 by_cases h5 : l = [114, 97, 119]
 · exact .inr (.inr (.inr (.inr (.inr (.inr (.inl ⟨by subst h5; decide, h5⟩))))))
 by_cases h6 : l = [99, 114, 97, 115, 104]
 · exact .inr (.inr (.inr (.inr (.inr (.inr (.inr (.inl ⟨by subst h6; decide, h6⟩)))))))
 by_cases h7 : l = [116, 114, 105, 112]
 · exact .inr (.inr (.inr (.inr (.inr (.inr (.inr (.inr (.inl ⟨by subst h7; decide, h7⟩))))))))
 by_cases h8 : l = [115, 116, 97, 114, 116]
 · exact .inr (.inr (.inr (.inr (.inr (.inr (.inr (.inr (.inr (.inl ⟨by subst h8; decide, h8⟩)))))))))
 by_cases h9 : l = [97, 103, 97, 105, 110]
 · exact .inr (.inr (.inr (.inr (.inr (.inr (.inr (.inr (.inr (.inr (.inl ⟨by subst h9; decide, h9⟩))))))))))
 by_cases h10 : l = [112, 108, 97, 110]
 · exact .inr (.inr (.inr (.inr (.inr (.inr (.inr (.inr (.inr (.inr (.inr (.inl ⟨by subst h10; decide, h10⟩)))))))))))
 by_cases h11 : l = [99, 104, 97, 110, 103, 101]
 · exact .inr (.inr (.inr (.inr (.inr (.inr (.inr (.inr (.inr (.inr (.inr (.inr (.inl ⟨by subst h11; decide, h11⟩))))))))))))
 by_cases h12 : l = [114, 111, 117, 110, 100]
 · exact .inr (.inr (.inr (.inr (.inr (.inr (.inr (.inr (.inr (.inr (.inr (.inr (.inr (⟨by subst h12; decide, h12⟩)))))))))))))
 exact .inl (by unfold kindP; rw [if_neg h0, if_neg h1, if_neg h2, if_neg h3, if_neg h4, if_neg h5, if_neg h6, if_neg h7, if_neg h8, if_neg h9, if_neg h10, if_neg h11, if_neg h12])
theorem kind_eq (x : ByteArray) (j : Nat) (hj : j < 14) (h9 : j ≠ 9) : (x = namesL.getD j ByteArray.empty) ↔ kindP (bsOf x) = (j : Int) + 1 := by
 obtain ⟨l, hl⟩ : ∃ l, bsOf x = l := ⟨_, rfl⟩
 have e : x = bA l := by rw [← hl, bs_bA]
 subst e
 rw [bA_bs]
 have inj : ∀ m, bA l = bA m ↔ l = m := fun m => ⟨fun h => by have := congrArg bsOf h; rwa [bA_bs, bA_bs] at this, fun h => by rw [h]⟩
 have key := kindP_inv l
 rcases j with _ | _ | _ | _ | _ | _ | _ | _ | _ | _ | _ | _ | _ | _ | j
 all_goals first
  | omega
  | (simp only [namesL, List.getD_cons_succ, List.getD_cons_zero, inj]
     refine ⟨fun h => by subst h; decide, fun h => ?_⟩
     rcases key with e | ⟨e, e2⟩ | ⟨e, e2⟩ | ⟨e, e2⟩ | ⟨e, e2⟩ | ⟨e, e2⟩ | ⟨e, e2⟩ | ⟨e, e2⟩ | ⟨e, e2⟩ | ⟨e, e2⟩ | ⟨e, e2⟩ | ⟨e, e2⟩ | ⟨e, e2⟩ | ⟨e, e2⟩
     all_goals first | exact e2 | (exfalso; rw [e] at h; revert h; decide))
theorem kind_nine (x : ByteArray) : kindP (bsOf x) ≠ 10 := by
 have := kindP_cases (bsOf x); omega
theorem r_oth (j : Nat) (hj : j < 14) (h9 : j ≠ 9) (w : World) (hg : Glb w) (x0 : ByteArray) (ws : List ByteArray) (v : Value) (T : Nat → Prop)
  (hv : Sl w T 1 v (ws.length + 1) ((x0 :: ws).map Value.string)) (hT : ∀ g, T g → g < w.heap.size) (hsz : ∀ x ∈ ws, x.size ≤ 100000) (hlen : ws.length ≤ 100001) :
  Calls Tryz.prog 25 #[.agg (AAct.cells { AAct.zero with kind := (j : Int) + 1 } (.slice none 0 0)).toArray, .string (lettL.getD j ByteArray.empty), v] w (ReadOut w (otherP ((j : Int) + 1) ws) (.bool true) (.bool false)) := by
 rcases j with _ | _ | _ | _ | _ | _ | _ | _ | _ | _ | _ | _ | _ | _ | j
 · exact r_other 1 [105] (by decide) (by decide) (by decide) (by decide) (by decide) (by decide) w hg x0 ws v T hv hT hsz hlen
 · exact r_other 2 [110] (by decide) (by decide) (by decide) (by decide) (by decide) (by decide) w hg x0 ws v T hv hT hsz hlen
 · exact r_other 3 [110] (by decide) (by decide) (by decide) (by decide) (by decide) (by decide) w hg x0 ws v T hv hT hsz hlen
 · exact r_other 4 [110] (by decide) (by decide) (by decide) (by decide) (by decide) (by decide) w hg x0 ws v T hv hT hsz hlen
 · exact r_other 5 [110, 109] (by decide) (by decide) (by decide) (by decide) (by decide) (by decide) w hg x0 ws v T hv hT hsz hlen
 · exact r_other_b w x0 ws v T hv hT hsz hlen
 · exact r_other 7 [105, 110] (by decide) (by decide) (by decide) (by decide) (by decide) (by decide) w hg x0 ws v T hv hT hsz hlen
 · exact r_other 8 [105, 110, 109] (by decide) (by decide) (by decide) (by decide) (by decide) (by decide) w hg x0 ws v T hv hT hsz hlen
 · exact r_other 9 [105] (by decide) (by decide) (by decide) (by decide) (by decide) (by decide) w hg x0 ws v T hv hT hsz hlen
 · exact absurd rfl h9
 · exact r_other 11 [99, 105] (by decide) (by decide) (by decide) (by decide) (by decide) (by decide) w hg x0 ws v T hv hT hsz hlen
 · exact r_other 12 [105] (by decide) (by decide) (by decide) (by decide) (by decide) (by decide) w hg x0 ws v T hv hT hsz hlen
 · exact r_other_if w hg x0 ws v T hv hT hsz hlen
 · exact r_other 14 [110] (by decide) (by decide) (by decide) (by decide) (by decide) (by decide) w hg x0 ws v T hv hT hsz hlen
 · omega
set_option maxRecDepth 100000 in
set_option maxHeartbeats 1000000 in
theorem r_read (s : ByteArray) (w : World) (hg : Glb w) (hs : s.size ≤ 100000) : Calls Tryz.prog 7 #[.string s] w (ReadOut w (readP s) (.bool true) (.bool false)) := by
 obtain ⟨b, hb⟩ : ∃ b, w.heap.size = b := ⟨_, rfl⟩
 obtain ⟨x0, ws, hws⟩ : ∃ x0 ws, wordsB s = x0 :: ws := by
  rcases h : wordsB s with _ | ⟨x, r⟩
  · exact absurd h (wordsB_ne s)
  exact ⟨x, r, rfl⟩
 have hsz : ∀ x ∈ ws, x.size ≤ 100000 := fun x hx => by have := wordsB_size (s := s) (x := x) (by rw [hws]; exact List.mem_cons_of_mem _ hx); omega
 obtain ⟨n, hn⟩ : ∃ n, ws.length = n := ⟨_, rfl⟩
 have hszn : n + 1 ≤ 100001 := by have := wordsB_len s; rw [hws, List.length_cons, hn] at this; omega
 have hwo := fun W => r_words s W hs
 rw [hws] at hwo
 obtain ⟨kd, hkd⟩ : ∃ kd, kindP (bsOf x0) = kd := ⟨_, rfl⟩
 obtain ⟨op, hop⟩ : ∃ op, opP (bsOf x0) = op := ⟨_, rfl⟩
 have hrP : readP s = if 0 < kd then otherP kd ws else if 0 < op then callP op ws else none := by unfold readP; rw [hws]; simp only [hkd, hop]
 obtain ⟨res, hres⟩ : ∃ res, readP s = res := ⟨_, rfl⟩
 rw [hres] at hrP ⊢
 have hkc := kindP_cases (bsOf x0)
 rw [hkd] at hkc
 have hk14 : 0 ≤ kd ∧ kd ≤ 14 := by omega
 have Hwo := Lib.hid hwo
 have HrP := Lib.hid hrP
 have Hn := Lib.hid hn
 have Hsz := Lib.hid hsz
 have Hg := Lib.hid hg
 have Hkd := Lib.hid hkd
 have Hop := Lib.hid hop
 clear hwo hn hsz hws hg hrP hres hkc hkd hop hs
 go_enter Tryz.func7, Tryz.ntmps7
 go_upto_region 1 with fail
 obtain ⟨W2, hW2⟩ : ∃ W2, w.alloc (.cells #[.int .i64 0, .int .i64 0, .int .i64 0, .int .i64 0, .int .i64 0, .int .i64 0, .string ⟨#[]⟩, .int .i64 0, .float .f64 0, .string ⟨#[]⟩, .int .i64 0, .float .f64 0, .string ⟨#[]⟩, .int .i64 0, .int .i64 0, .int .i64 0, .int .i64 0, .slice none 0 0] 31) = W2 := ⟨_, rfl⟩
 have hE2 : Ext w W2 := hW2 ▸ ((Mod.refl _ w).alloc _)
 have hr2 : W2.heap[b]? = some (.cells (AAct.zero.cells (.slice none 0 0)).toArray 31 (0, 0)) := hb ▸ hW2 ▸ heap_new _ _
 rw [hW2]
 clear hW2
 go_upto_region 2 with (go_at_call 23; refine (Hwo.out _).mono ?_; rintro e w3 ⟨v, rfl, hN, hE3⟩)
 have hS3 := hN.sl
 simp only [List.length_map, List.length_cons] at hS3
 rw [Hn.out] at hS3
 have hS3 := hS3.cap (by omega)
 obtain ⟨A, cp, rfl⟩ : ∃ A cp, v = .slice A (n + 1) cp := by obtain ⟨_, A, c, e, _⟩ := hS3; exact ⟨A, c, e⟩
 have HS3 := Lib.hid (hS3.mono (U := fun g => g < w3.heap.size) (fun g hg => hg.2))
 have HE3 := Lib.hid (hE2.ext hE3)
 have Hr3 := Lib.hid (hE3.blk hr2 id)
 clear hN hS3 hE3 hE2 hr2
 obtain ⟨g, off, rfl, hgw, hx0⟩ : ∃ g off, A = some ⟨g, off, none⟩ ∧ g < w3.heap.size ∧ w3.cell? ⟨g, off, none⟩ = some (.string x0) := by
  obtain ⟨_, A', c', e, _, _, hx'⟩ := HS3.out
  injection e with e1 _ e3; subst e1; subst e3
  obtain ⟨g, off, rfl, hg, hcell⟩ := hx' (by omega)
  exact ⟨g, off, rfl, hg, hcell 0 _ rfl⟩
 have Hx0 := Lib.hid hx0
 clear hx0
 go_upto_region 3 with (go_at_call 24; refine (c_forms _).mono ?_; rintro e w4 ⟨cb, rfl, hF, hE4⟩)
 have HF := Lib.hid hF
 have HE4 := Lib.hid hE4
 clear hF hE4
 go_wp2
 go_loopw [6] (fun iv wr => ∃ (k : Nat), iv = .int .i64 k ∧ k ≤ 14 ∧ (kd = 0 ∨ (k : Int) + 1 ≤ kd) ∧ Ext w4 wr) (fun iv _ => 14 - (intOf iv).toNat)
 case atStart => exact ⟨0, rfl, by omega, by omega, Mod.refl _ _⟩
 case round =>
  obtain ⟨k, rfl, hk, hkk, hE⟩ := hrel
  have HE := Lib.hid hE
  clear hE
  by_cases hlt : k < 14
  · obtain ⟨f, hf⟩ : ∃ f, formsL.getD k ByteArray.empty = f := ⟨_, rfl⟩
    have hcf : wr.cell? ⟨cb, k, none⟩ = some (.string f) := HE.out.cell (p := ⟨cb, k, none⟩) (by rw [HF.out k hlt, hf]) id
    have hwf := fun W => r_words f W (by rw [← hf]; exact forms_size k)
    have HEx := Lib.hid (HE3.out.ext (HE4.out.ext HE.out))
    by_cases h9 : k = 9
    · subst h9
      rw [show wordsB f = [⟨#[]⟩] by rw [← hf]; exact forms_nine] at hwf
      go_upto_region 7 with (go_at_call 23; refine (hwf _).mono ?_; rintro e w5 ⟨v2, rfl, hN, hE5⟩)
      have hS5 := hN.sl
      simp only [List.length_map, List.length_cons, List.length_nil] at hS5
      obtain ⟨A2, c2, rfl⟩ : ∃ A cp, v2 = .slice A 1 cp := by obtain ⟨_, A, c, e, _⟩ := hS5; exact ⟨A, c, e⟩
      have HE5 := Lib.hid (HE.out.ext hE5)
      have hkk2 : kd = 0 ∨ ((10 : Nat) : Int) + 1 ≤ kd := by have := kind_nine x0; rw [Hkd.out] at this; omega
      clear hN hS5 hE5 hwf hcf hkk
      go_quiet (fail)
      go_wp2
      exact ⟨⟨10, by push_cast; rfl, by omega, hkk2, HE5.out.drewN _⟩, by simp [intOf] <;> omega⟩
    rw [show wordsB f = [namesL.getD k ByteArray.empty, lettL.getD k ByteArray.empty] by rw [← hf]; exact forms_words k hlt h9] at hwf
    have hke := kind_eq x0 k hlt h9
    rw [Hkd.out] at hke
    obtain ⟨nm, hnm⟩ : ∃ nm, namesL.getD k ByteArray.empty = nm := ⟨_, rfl⟩
    obtain ⟨lt, hlt2⟩ : ∃ lt, lettL.getD k ByteArray.empty = lt := ⟨_, rfl⟩
    rw [hnm] at hke
    rw [hnm, hlt2] at hwf
    go_upto_region 7 with (go_at_call 23; refine (hwf _).mono ?_; rintro e w5 ⟨v2, rfl, hN, hE5⟩)
    have hS5 := hN.sl
    simp only [List.length_map, List.length_cons, List.length_nil] at hS5
    obtain ⟨A2, c2, rfl⟩ : ∃ A cp, v2 = .slice A 2 cp := by obtain ⟨_, A, c, e, _⟩ := hS5; exact ⟨A, c, e⟩
    obtain ⟨g2, off2, rfl, y0, y1⟩ : ∃ g off, A2 = some ⟨g, off, none⟩ ∧ w5.cell? ⟨g, off, none⟩ = some (.string nm) ∧ w5.cell? ⟨g, off + 1, none⟩ = some (.string lt) := by
     obtain ⟨_, A', c', e, _, _, hx'⟩ := hS5
     injection e with e1 _ e3; subst e1; subst e3
     obtain ⟨g, off, rfl, hg, hcell⟩ := hx' (by omega)
     exact ⟨g, off, rfl, hcell 0 _ rfl, hcell 1 _ rfl⟩
    have HE5 := Lib.hid (HE.out.ext hE5)
    have z0 : w5.cell? ⟨g, off, none⟩ = some (.string x0) := (HE4.out.ext HE5.out).cell (p := ⟨g, off, none⟩) Hx0.out id
    have Hnm := Lib.hid hnm
    have Hlt2 := Lib.hid hlt2
    have Hke := Lib.hid hke
    clear hN hS5 hE5 hwf hcf hnm hlt2 hke hf
    by_cases hxn : x0 = nm
    · have hkd : kd = (k : Int) + 1 := Hke.out.1 hxn
      have Ho : Hid (res = otherP ((k : Int) + 1) ws) := Lib.hid (by rw [HrP.out, hkd, if_pos (by omega)])
      subst hxn
      clear hkk hkd
      go_quiet (fail)
      obtain ⟨W6, hW6⟩ : ∃ W6, w5.drewN nq = W6 := ⟨_, rfl⟩
      have hE6 : Ext w5 W6 := hW6 ▸ ((Mod.refl _ w5).drewN nq)
      rw [hW6]
      clear hW6
      have y1 := hE6.cell y1 id
      have HE6 := Lib.hid (HE4.out.ext (HE5.out.ext hE6))
      have HEw := Lib.hid (HE3.out.ext HE6.out)
      have Hr6 := Lib.hid (HE6.out.blk Hr3.out id)
      have Hsw : Hid (b < W6.heap.size) := Lib.hid ((Array.getElem?_eq_some_iff.1 Hr6.out).1)
      have hi := r_oth k hlt h9 W6 (Hg.out.ext HEw.out) x0 ws (.slice (some ⟨g, off, none⟩) (n + 1) cp) (fun g => g < W6.heap.size) (by rw [Hn.out]; exact (HS3.out.ext HE6.out).mono (fun g hg => Nat.lt_of_lt_of_le hg HE6.out.size)) (fun g h => h) Hsz.out (by rw [Hn.out]; omega)
      rw [Hlt2.out, ← Ho.out] at hi
      clear hE6 y0 z0 Hke Hnm
      go_wp2_with fail
      refine hi.mono ?_
      rintro e w7 ⟨A7, n7, c7, rfl, hB7, hE7⟩
      obtain ⟨ao, hao⟩ : ∃ ao, res.getD AAct.zero = ao := ⟨_, rfl⟩
      obtain ⟨yv, hyv⟩ : ∃ yv, (if res.isSome = true then Value.bool true else Value.bool false) = yv := ⟨_, rfl⟩
      rw [hao, hyv]
      rw [hao] at hB7
      have Hao := Lib.hid hao
      have Hyv := Lib.hid hyv
      have HB7 := Lib.hid hB7
      have hr7 := hE7.blk Hr6.out id
      have HEf := Lib.hid (Ext.mod (HEw.out.ext hE7) (Since w.heap.size))
      clear hB7 hao hyv hE7
      go_wp2_with (refine wpList_stR rfl 31 _ _ rfl 18 b 0 (ao.cells (.slice A7 n7 c7)) rfl rfl str_act _ _ (ao.cells (.slice A7 n7 c7)) hr7 rfl (by simp) (by simp [Value.oneCell']) rfl ?_; intro w8 hb8 hm8 hs8)
      exact bodyPost_ret (results_row2 rfl _ _ b 31 (ao.cells (.slice A7 n7 c7)) str_act rfl hb8 rfl) rfl ⟨A7, n7, c7, by rw [Hao.out, Hyv.out]; rfl, by rw [Hao.out]; exact ((HB7.out.mono (U := fun g => b < g) (fun g hg => by have := Hsw.out; omega)).mod hm8 (fun g hg e => by omega)).mono (fun g hg => by omega), Mod.toExt (Mod.trans HEf.out hm8 (fun k hk e => by unfold Since; omega))⟩
    have hd := bs_ne hxn
    have hkk2 : kd = 0 ∨ ((k + 1 : Nat) : Int) + 1 ≤ kd := by
     have : kd ≠ (k : Int) + 1 := fun e => hxn (Hke.out.2 e)
     omega
    clear hkk hxn Hke y1
    go_quiet (fail)
    go_wp2
    exact ⟨⟨k + 1, by push_cast; rfl, by omega, hkk2, HE5.out.drewN _⟩, by simp [intOf] <;> omega⟩
  obtain rfl : k = 14 := by omega
  have hkd : kd = 0 := by omega
  have Ho : Hid (res = if 0 < op then callP op ws else none) := Lib.hid (by rw [HrP.out, hkd, if_neg (by decide)])
  have hwr := HE4.out.ext HE.out
  have hi := r_call wr (Hg.out.ext (HE3.out.ext hwr)) x0 ws (.slice (some ⟨g, off, none⟩) (n + 1) cp) (fun g => g < wr.heap.size) (by rw [Hn.out]; exact (HS3.out.ext hwr).mono (fun g hg => Nat.lt_of_lt_of_le hg hwr.size)) (fun g h => h) Hsz.out (by rw [Hn.out]; omega)
  rw [Hop.out, ← Ho.out] at hi
  have hr5 := hwr.blk Hr3.out id
  have HEw := Lib.hid (HE3.out.ext hwr)
  clear hwr hkk hkd
  have Hr6 := Lib.hid hr5
  have Hsw : Hid (b < wr.heap.size) := Lib.hid ((Array.getElem?_eq_some_iff.1 hr5).1)
  clear hr5
  go_wp2_with fail
  refine hi.mono ?_
  rintro e w7 ⟨A7, n7, c7, rfl, hB7, hE7⟩
  obtain ⟨ao, hao⟩ : ∃ ao, res.getD AAct.zero = ao := ⟨_, rfl⟩
  obtain ⟨yv, hyv⟩ : ∃ yv, (if res.isSome = true then Value.bool true else Value.bool false) = yv := ⟨_, rfl⟩
  rw [hao, hyv]
  rw [hao] at hB7
  have Hao := Lib.hid hao
  have Hyv := Lib.hid hyv
  have HB7 := Lib.hid hB7
  have hr7 := hE7.blk Hr6.out id
  have HEf := Lib.hid (Ext.mod (HEw.out.ext hE7) (Since w.heap.size))
  clear hB7 hao hyv hE7
  go_wp2_with (refine wpList_stR rfl 31 _ _ rfl 18 b 0 (ao.cells (.slice A7 n7 c7)) rfl rfl str_act _ _ (ao.cells (.slice A7 n7 c7)) hr7 rfl (by simp) (by simp [Value.oneCell']) rfl ?_; intro w8 hb8 hm8 hs8)
  exact bodyPost_ret (results_row2 rfl _ _ b 31 (ao.cells (.slice A7 n7 c7)) str_act rfl hb8 rfl) rfl ⟨A7, n7, c7, by rw [Hao.out, Hyv.out]; rfl, by rw [Hao.out]; exact ((HB7.out.mono (U := fun g => b < g) (fun g hg => by have := Hsw.out; omega)).mod hm8 (fun g hg e => by omega)).mono (fun g hg => by omega), Mod.toExt (Mod.trans HEf.out hm8 (fun k hk e => by unfold Since; omega))⟩
end Go.Proofs.YtmebipnljkopgaaGreatDoor
