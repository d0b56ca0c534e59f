/-
 Layer 27 (script): the reader's raw and act; kinds, commands. Conditions: each word is no longer than 100000 bytes; the package variables are as start-up lays them (Glb).
-/
import Derived.Test.YtmebipnljkopgaaGreatDoorScrK
namespace Go.Proofs.YtmebipnljkopgaaGreatDoor
set_option linter.unusedSimpArgs false
set_option linter.unusedVariables false
open Go.RowKit
def RawOut (w : World) (rb sb : Nat) (s : RSt) (e : Ending) (w' : World) : Prop := ∃ A n c, e = .returned (.slice A n c) ∧ RdM w' rb sb (rawS s) ∧ Mod (fun k => k = rb) w w' ∧ ∀ b, rawP (wordS s).1 = some b → Byt w' (fun g => w.heap.size ≤ g) (.slice A n c) b
theorem rawS_yes {s : RSt} {v : List UInt8} (h : rawP (wordS s).1 = some v) : rawS s = (wordS s).2 := by unfold rawS; rw [h]
theorem rawS_no {s : RSt} (h : rawP (wordS s).1 = none) : rawS s = ((wordS s).2.1, true) := by unfold rawS; rw [h]
theorem rawP_dash : rawP (bA [45]) = some [] := by unfold rawP; rw [bA_bs]; rfl
theorem rawP_eq {u : ByteArray} (h : u ≠ bA [45]) : rawP u = match unhexL (bsOf u) with
  | some b => if b = [] then none else some b
  | none => none := by unfold rawP; rw [if_neg (fun e => h (bsOf_inj (e.trans (bA_bs _).symm)))]; rfl
theorem unhexL_nil {l : List UInt8} (h : unhexL l = some []) : l = [] := by
 have := unhexL_len l [] h
 exact List.eq_nil_of_length_eq_zero (by simpa using this)
set_option maxRecDepth 100000 in
set_option maxHeartbeats 1000000 in
theorem s_raw (w : World) (rb sb : Nat) (s : RSt) (h : RdM w rb sb s) (hw : ∀ x ∈ s.1, x.size ≤ 100000) : Calls Tryz.prog 43 #[.pointer (some ⟨rb, 0, none⟩)] w (RawOut w rb sb s) := by
 have hsz := wordS_size s hw
 clear hw
 go_enter Tryz.func43, Tryz.ntmps43
 go_wp2_with fail
 refine (s_word w rb sb s h).mono ?_
 rintro e w1 ⟨rfl, hR1, hm1⟩
 obtain ⟨u, hu⟩ : ∃ u, (wordS s).1 = u := ⟨_, rfl⟩
 rw [hu] at hsz ⊢
 have HR1 := Lib.hid hR1
 have Hm1 := Lib.hid hm1
 have Hu := Lib.hid hu
 have hs1 := hm1.size
 clear hR1 hm1 hu h
 by_cases h45 : u = bA [45]
 · subst h45
   go_wp2
   go_ret
   have e : rawP (wordS s).1 = some [] := by rw [Hu.out]; exact rawP_dash
   refine ⟨_, _, _, rfl, ?_, Hm1.out, ?_⟩
   · rw [rawS_yes e]; exact HR1.out
   · intro b hb
     rw [e] at hb
     injection hb with hb
     subst hb
     exact Sl.nil _ _ _
 have d45 : (u.toList == [45]) = false := by
  have := bs_ne h45
  rwa [show (bA [45]).toList = [45] by rw [ByteArray.toList_eq]] at this
 have hre := rawP_eq h45
 clear h45
 have hun : ∀ W, Calls Tryz.prog 48 #[.string u] W fun e w' => e = .returned (.tuple #[.string (bA ((unhexL (bsOf u)).getD [])), .bool (unhexL (bsOf u)).isSome]) ∧ Ext W w' := fun W => s_unhex u W hsz
 rcases hul : unhexL (bsOf u) with _ | t
 · rw [hul] at hun hre
   simp only [Option.getD_none, Option.isSome_none] at hun
   have Hno := Lib.hid (rawS_no (s := s) (by rw [Hu.out]; exact hre))
   have Hre := Lib.hid hre
   clear hul hre
   go_wp2_with fail
   refine (hun w1).mono ?_
   rintro e w3 ⟨rfl, hE3⟩
   obtain ⟨b0, c1, f1, hR5⟩ := word_wrong (HR1.out.ext hE3)
   have hm5 : Mod (fun k => k = rb) w3 (w3.setCell ⟨rb, 1, none⟩ (.bool true)) := mod_same (Mod.refl _ _) _ _
   obtain ⟨w5, hw5⟩ : ∃ w5, w3.setCell ⟨rb, 1, none⟩ (.bool true) = w5 := ⟨_, rfl⟩
   have HM5 := Lib.hid ((Hm1.out.ext hE3).self hm5)
   rw [hw5] at hR5 HM5
   have HR5 := Lib.hid hR5
   clear hE3 hR5 hm5
   have hcv := conv_sb (bA []) w5
   go_wp2
   go_ret
   refine ⟨_, _, _, rfl, ?_, HM5.out.ext (bw_ext _ _ _), ?_⟩
   · rw [Hno.out]; exact HR5.out.ext (bw_ext _ _ _)
   · intro b hb; rw [Hu.out, Hre.out] at hb; cases hb
 rw [hul] at hun hre
 simp only [Option.getD_some, Option.isSome_some] at hun
 simp only at hre
 have htl := unhexL_len _ _ hul
 have hbl : (bsOf u).length = u.size := rfl
 have htz : (bA t).size = t.length := by simp [bA, ByteArray.size]
 rcases t with _ | ⟨y, t⟩
 · obtain rfl : u = ⟨#[]⟩ := bsOf_inj (unhexL_nil hul)
   rw [if_pos rfl] at hre
   have Hno := Lib.hid (rawS_no (s := s) (by rw [Hu.out]; exact hre))
   have Hre := Lib.hid hre
   clear hul hre htl hbl htz
   go_wp2_with fail
   refine (hun w1).mono ?_
   rintro e w3 ⟨rfl, hE3⟩
   obtain ⟨b0, c1, f1, hR5⟩ := word_wrong (HR1.out.ext hE3)
   have hm5 : Mod (fun k => k = rb) w3 (w3.setCell ⟨rb, 1, none⟩ (.bool true)) := mod_same (Mod.refl _ _) _ _
   obtain ⟨w5, hw5⟩ : ∃ w5, w3.setCell ⟨rb, 1, none⟩ (.bool true) = w5 := ⟨_, rfl⟩
   have HM5 := Lib.hid ((Hm1.out.ext hE3).self hm5)
   rw [hw5] at hR5 HM5
   have HR5 := Lib.hid hR5
   clear hE3 hR5 hm5
   have hcv := conv_sb (bA []) w5
   go_wp2
   go_ret
   refine ⟨_, _, _, rfl, ?_, HM5.out.ext (bw_ext _ _ _), ?_⟩
   · rw [Hno.out]; exact HR5.out.ext (bw_ext _ _ _)
   · intro b hb; rw [Hu.out, Hre.out] at hb; cases hb
 rw [if_neg (by simp)] at hre
 have Hyes := Lib.hid (rawS_yes (s := s) (by rw [Hu.out]; exact hre))
 have Hre := Lib.hid hre
 have dem : (u.toList == []) = false := by
  rw [ByteArray.toList_eq]
  have : bsOf u ≠ [] := by intro e; rw [e] at htl; simp at htl
  show (bsOf u == []) = false
  simpa using this
 have dem2 : u.toList.isEmpty = false := by simpa using dem
 have Htz := Lib.hid htz
 have Htl := Lib.hid htl
 have Hbl := Lib.hid hbl
 clear hul hre htl hbl htz
 obtain ⟨z, hz⟩ : ∃ z, bA (y :: t) = z := ⟨_, rfl⟩
 have hcv := fun W => conv_sb z W
 have Hbw : Hid (∀ W, Byt (Lib.bytesWorld W 5 z) (fun g => W.heap.size ≤ g) (.slice (some ⟨W.heap.size, 0, none⟩) z.size (grownCap W z.size 0 5)) (y :: t)) := Lib.hid fun W => by
  have h := bw_byt W 5 (bA (y :: t)) (by rw [Htz.out]; have := Htl.out; have := Hbl.out; simp only [maxLen]; omega)
  rw [bA_bs, hz] at h
  exact h
 rw [hz] at hun
 clear hz
 go_wp2_with fail
 refine (hun w1).mono ?_
 rintro e w3 ⟨rfl, hE3⟩
 have HR3 := Lib.hid (HR1.out.ext hE3)
 have HM3 := Lib.hid (Hm1.out.ext hE3)
 have hs3 := hE3.size
 clear hE3
 go_wp2
 go_ret
 refine ⟨_, _, _, rfl, ?_, HM3.out.ext (bw_ext _ _ _), ?_⟩
 · rw [Hyes.out]; exact HR3.out.ext (bw_ext _ _ _)
 · intro b hb
   rw [Hu.out, Hre.out] at hb
   injection hb with hb
   subst hb
   exact (Hbw.out w3).mono fun g hg => by omega
set_option maxRecDepth 100000 in
set_option maxHeartbeats 1000000 in
theorem c_kinds (u : ByteArray) (w : World) : Calls Tryz.prog 16 #[.string u] w fun e w' => e = .returned (.int .i64 (kindP (bsOf u))) ∧ w' = w := by
 obtain ⟨l, hl⟩ : ∃ l, u.toList = l := ⟨_, rfl⟩
 have hl2 : bsOf u = l := by rw [← hl, ByteArray.toList_eq]
 rw [hl2]
 clear hl2
 go_enter Tryz.func16, Tryz.ntmps16
 go_wp2
 all_goals go_ret
 all_goals refine ⟨ret_int ?_, rfl⟩
 all_goals simp_all [kindP]
theorem c_commands (w : World) : Calls Tryz.prog 18 #[] w fun e w' => e = .returned (.slice (some ⟨w.heap.size, 0, none⟩) 7 7) ∧ w' = w.alloc (.cells #[.string (bA []), .string (bA [103, 101, 116]), .string (bA [112, 117, 116]), .string (bA [100, 101, 108]), .string (bA [99, 97, 115]), .string (bA [97, 100, 100]), .string (bA [109, 97, 120])] 9) := by
 go_enter Tryz.func18, Tryz.ntmps18
 go_wp2
 go_ret
 exact ⟨rfl, rfl⟩
end Go.Proofs.YtmebipnljkopgaaGreatDoor
