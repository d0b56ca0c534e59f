/-
 What wakes (layer 25) asks: one call that is told, its history and its log; the contract of wakes. Conditions: as each theorem names them.
-/
import Derived.Test.YtbclnghbgoblcaaGreatHisOrder
import Derived.Test.YtbclnghbgoblcaaGreatHisCheck
namespace Go.Proofs.YtbclnghbgoblcaaGreat
set_option linter.unusedSimpArgs false
open Go.RowKit

theorem sl_lit {w : World} {g n k : Nat} {t : TypeId} {xs : List Value} (h : w.heap[g]? = some (.cells xs.toArray t (0, 0))) (hl : xs.length = n * k) (hn : n ≤ maxLen) : Sl w (fun h => h = g) k (.slice (some ⟨g, 0, none⟩) n n) n xs :=
 ⟨hl, _, n, rfl, Nat.le_refl _, hn, fun _ => ⟨g, 0, rfl, rfl, fun j u hu => by rw [Nat.zero_add]; exact bcl h hu⟩⟩
theorem lastS_one (s : ASess) (k : Int) (h : s.client = k) : lastS [s] k = (s.seq, s.reply) := by rw [lastS, if_pos h]
def wk25 : ACall := ⟨1, 1, ⟨3, ⟨#[97]⟩, AVal.zero, AVal.zero⟩⟩
def wkA : AEvent := ⟨true, ⟨wk25, AReply.zero, 0⟩⟩
def wkB : AEvent := ⟨false, ⟨wk25, AReply.zero, 1⟩⟩
def wkN : AEntry := ⟨0, 1, wk25, AConf.zero⟩
theorem wk_ok : wk25.ok := ⟨⟨by decide, by decide⟩, ⟨by decide, by decide⟩, ⟨by decide, by decide⟩, by decide, ⟨⟨by decide, by decide⟩, by decide, Nat.zero_le _⟩, ⟨⟨by decide, by decide⟩, by decide, Nat.zero_le _⟩⟩
theorem rep0_ok : AReply.zero.ok := ⟨⟨by decide, by decide⟩, ⟨by decide, by decide⟩, by decide, Nat.zero_le _⟩
theorem wkA_ok : wkA.ok := ⟨wk_ok, rep0_ok, by decide, by decide⟩
theorem wkB_ok : wkB.ok := ⟨wk_ok, rep0_ok, by decide, by decide⟩
theorem conf0_ok : AConf.zero.ok := ⟨⟨by decide, by decide⟩, ⟨by decide, by decide⟩, ⟨by decide, by decide⟩, by decide, by decide⟩
theorem wkN_ok : wkN.ok := ⟨⟨by decide, by decide⟩, ⟨by decide, by decide⟩, wk_ok, conf0_ok⟩
theorem wk_cmd : cmdE wk25.cmd = 0 := by
 have hk : (⟨#[97]⟩ : ByteArray).size = 1 := rfl
 simp [cmdE, wk25, okV, zeroV_zero, chk_zero, hk]
theorem wk_call : callE wk25 = 0 := by
 rw [callE_yes (by simp [wk25, numB])]
 exact wk_cmd
theorem wk_do : doP [] wk25.cmd = ([], ⟨0, AVal.zero⟩) := by
 have := do_del (l := []) (k := ⟨#[97]⟩) (by simp [pairsB, sortedB]) ⟨by decide, by decide⟩
 rw [show doP [] wk25.cmd = _ from this]
 rfl
theorem wk_once : onceP mach0 wk25 = (⟨[], [⟨1, 1, AReply.zero⟩]⟩, AReply.zero) := by
 unfold onceP
 rw [if_neg (by rw [wk_call]; simp), if_neg (by rw [mach0_right]; simp)]
 have hl : lastS mach0.sess wk25.client = (0, AReply.zero) := rfl
 rw [hl, if_neg (by simp [wk25]), if_neg (by simp [wk25]), show doP mach0.pairs wk25.cmd = _ from wk_do]
 simp [wk25, mach0, setS, AReply.zero]
theorem eqCmd_refl' (c : ACmd) : eqCmd c c = true := by simp [eqCmd, eqVal_refl, eqT_refl]
theorem wk_hist : histB [wkA, wkB] = true := by
 have h0 : stepH hist0 wkA = some (hist0.1.set 1 wk25, hist0.2.set 1 true) := by
  unfold stepH
  rw [if_neg (by rw [show callE wkA.told.call = 0 from wk_call]; simp), if_neg (by simp [hist0, wkA, wk25]), if_neg (by simp [hist0, wkA, wk25, ACall.zero]), if_neg (by simp [wkA])]
  rfl
 have h1 : stepH (hist0.1.set 1 wk25, hist0.2.set 1 true) wkB = some ((hist0.1.set 1 wk25).set 1 wk25, (hist0.2.set 1 true).set 1 false) := by
  unfold stepH
  have e : ((hist0.1.set 1 wk25).getD wkB.told.call.client.toNat ACall.zero) = wk25 := rfl
  rw [if_neg (by rw [show callE wkB.told.call = 0 from wk_call]; simp), if_neg (by simp [hist0, wkB, wk25]), if_neg (by simp [wkB]), if_neg ?_]
  ·
   rfl
  ·
   simp only [e]
   rintro ⟨_, h | h | h⟩
   ·
    exact h rfl
   ·
    rw [show wkB.told.call.cmd = wk25.cmd from rfl, eqCmd_refl'] at h; cases h
   ·
    simp [wkB] at h
 unfold histB
 rw [runH, h0]
 simp only
 rw [runH, h1]
 rfl
theorem wk_check : checkE [wkA, wkB] = 0 := by unfold checkE; rw [if_pos wk_hist]
theorem wk_told : toldP [wkN] wkB.told = true := by
 have hp : placeH [wkN] wk25 = 1 := rfl
 have hk : wkB.told.call.cmd.kind ≠ 1 := by simp [wkB, wk25]
 unfold toldP
 rw [if_neg hk, show wkB.told.call = wk25 from rfl, hp]
 have ha : atP [wkN] ((1 : Nat) : Int) = ⟨[], [⟨1, 1, AReply.zero⟩]⟩ := by
  have : atP [wkN] ((1 : Nat) : Int) = (onceP mach0 wk25).1 := rfl
  rw [this, wk_once]
 rw [ha, lastS_one _ _ (by rfl)]
 simp [wkN, wkB, wk25, eqCmd_refl', eqReply, eqVal_refl]
theorem wk_order : orderB [wkN] [wkA, wkB] = true := by
 rw [order_ask rfl, orderB, wk_told]
 rfl
theorem wk_none : orderB [] [wkA, wkB] = false := by
 rw [order_ask rfl]
 exact order_no rfl rfl
theorem nil_ents (w : World) : Ents w (fun _ => False) (.slice none 0 0) [] := ⟨Sl.nil _ _ _, fun _ h => absurd h (by simp)⟩
theorem nil_evs (w : World) : Evs w (fun _ => False) (.slice none 0 0) [] := ⟨Sl.nil _ _ _, fun _ h => absurd h (by simp)⟩

set_option maxRecDepth 100000 in
set_option maxHeartbeats 4000000 in
theorem l_wakes25 (w : World) : Calls Tryz.prog 21 #[] w fun e w' => e = .returned (.bool true) ∧ Ext w w' := by
 obtain ⟨q, hq⟩ : ∃ q, w.heap.size = q := ⟨_, rfl⟩
 obtain ⟨W, hW⟩ : ∃ W, W = (w.alloc (.cells #[.int .i64 1, .int .i64 1, .int .i64 3, .string ⟨#[97]⟩, .int .i64 0, .float .f64 0, .string ⟨#[]⟩, .int .i64 0, .float .f64 0, .string ⟨#[]⟩] 44)).alloc (.cells #[.bool true, .int .i64 1, .int .i64 1, .int .i64 3, .string ⟨#[97]⟩, .int .i64 0, .float .f64 0, .string ⟨#[]⟩, .int .i64 0, .float .f64 0, .string ⟨#[]⟩, .int .i64 0, .int .i64 0, .float .f64 0, .string ⟨#[]⟩, .int .i64 0, .bool false, .int .i64 1, .int .i64 1, .int .i64 3, .string ⟨#[97]⟩, .int .i64 0, .float .f64 0, .string ⟨#[]⟩, .int .i64 0, .float .f64 0, .string ⟨#[]⟩, .int .i64 0, .int .i64 0, .float .f64 0, .string ⟨#[]⟩, .int .i64 1] 50) := ⟨_, rfl⟩
 have hE : Ext w W := by rw [hW]; exact ((Mod.refl _ w).alloc _).alloc _
 obtain ⟨hA, hB, _⟩ := two_new w (.cells #[.int .i64 1, .int .i64 1, .int .i64 3, .string ⟨#[97]⟩, .int .i64 0, .float .f64 0, .string ⟨#[]⟩, .int .i64 0, .float .f64 0, .string ⟨#[]⟩] 44) (.cells #[.bool true, .int .i64 1, .int .i64 1, .int .i64 3, .string ⟨#[97]⟩, .int .i64 0, .float .f64 0, .string ⟨#[]⟩, .int .i64 0, .float .f64 0, .string ⟨#[]⟩, .int .i64 0, .int .i64 0, .float .f64 0, .string ⟨#[]⟩, .int .i64 0, .bool false, .int .i64 1, .int .i64 1, .int .i64 3, .string ⟨#[97]⟩, .int .i64 0, .float .f64 0, .string ⟨#[]⟩, .int .i64 0, .float .f64 0, .string ⟨#[]⟩, .int .i64 0, .int .i64 0, .float .f64 0, .string ⟨#[]⟩, .int .i64 1] 50)
 rw [← hW, hq] at hA hB
 have hV : Evs W (fun k => k = q + 1) (.slice (some ⟨q + 1, 0, none⟩) 2 2) [wkA, wkB] := ⟨sl_lit (xs := [wkA, wkB].flatMap AEvent.cells) hB rfl (by decide), fun x hx => by
  simp only [List.mem_cons, List.not_mem_nil, or_false] at hx
  rcases hx with rfl | rfl
  ·
   exact wkA_ok
  ·
   exact wkB_ok⟩
 have HV := Lib.hid hV
 have HE := Lib.hid hE
 have HA := Lib.hid hA
 have HW := Lib.hid hW
 have Hq := Lib.hid hq
 clear hV hE hA hB hW hq
 go_enter Tryz.func21, Tryz.ntmps21
 go_wp2_with fail
 rw [← HW.out, Hq.out]
 refine (h_check W _ _ [wkA, wkB] HV.out).mono ?_
 rintro e w2 ⟨rfl, hE2⟩
 rw [wk_check]
 have hA2 := hE2.blk HA.out id
 obtain ⟨a0, a1, a2, a3, a4, a5, a6, a7, a8, a9⟩ := cq10 hA2
 have HV2 := Lib.hid (HV.out.ext hE2)
 have HE2 := Lib.hid (HE.out.ext hE2)
 clear hA2 hE2 HV HE HA
 go_wp2_with fail
 obtain ⟨r, hr⟩ : ∃ r, w2.heap.size = r := ⟨_, rfl⟩
 obtain ⟨W3, hW3⟩ : ∃ W3, W3 = w2.alloc (.cells #[.int .i64 0, .int .i64 1, .int .i64 1, .int .i64 1, .int .i64 3, .string ⟨#[97]⟩, .int .i64 0, .float .f64 0, .string ⟨#[]⟩, .int .i64 0, .float .f64 0, .string ⟨#[]⟩, .int .i64 0, .int .i64 0, .int .i64 0, .int .i64 0] 67) := ⟨_, rfl⟩
 have hE3 : Ext w2 W3 := by rw [hW3]; exact (Mod.refl _ w2).alloc _
 have hN : W3.heap[r]? = some (.cells #[.int .i64 0, .int .i64 1, .int .i64 1, .int .i64 1, .int .i64 3, .string ⟨#[97]⟩, .int .i64 0, .float .f64 0, .string ⟨#[]⟩, .int .i64 0, .float .f64 0, .string ⟨#[]⟩, .int .i64 0, .int .i64 0, .int .i64 0, .int .i64 0] 67 (0, 0)) := by rw [hW3, ← hr]; exact heap_alloc_new w2 _
 rw [← hW3, hr]
 have hC : Ents W3 (fun k => k = r) (.slice (some ⟨r, 0, none⟩) 1 1) [wkN] := ⟨sl_lit (xs := [wkN].flatMap AEntry.cells) hN rfl (by decide), fun x hx => by
  simp only [List.mem_cons, List.not_mem_nil, or_false] at hx
  rw [hx]
  exact wkN_ok⟩
 have HV3 := Lib.hid (HV2.out.ext hE3)
 have HE3 := Lib.hid (HE2.out.ext hE3)
 clear hE3 hN hW3 hr HV2 HE2 a0 a1 a2 a3 a4 a5 a6 a7 a8 a9
 refine (h_order W3 _ _ _ _ [wkN] [wkA, wkB] hC HV3.out).mono ?_
 rintro e w4 ⟨rfl, hE4⟩
 rw [wk_order]
 have HV4 := Lib.hid (HV3.out.ext hE4)
 have HE4 := Lib.hid (HE3.out.ext hE4)
 clear hE4 hC HV3 HE3
 go_wp2_with fail
 refine (h_order w4 _ _ _ _ [] [wkA, wkB] (nil_ents _) HV4.out).mono ?_
 rintro e w5 ⟨rfl, hE5⟩
 rw [wk_none]
 have HE5 := Lib.hid (HE4.out.ext hE5)
 clear hE5 HV4 HE4
 go_wp2
 go_ret
 exact ⟨rfl, HE5.out⟩
end Go.Proofs.YtbclnghbgoblcaaGreat
