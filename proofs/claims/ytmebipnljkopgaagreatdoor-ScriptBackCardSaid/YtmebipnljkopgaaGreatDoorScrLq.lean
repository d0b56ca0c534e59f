/-
 Plain side of layer 27 (script), fourth part: how long a line is; a line that is read is written the same; acts that have no line. No program is named here. Conditions: as each theorem names them.
-/
import Derived.Test.YtmebipnljkopgaaGreatDoorScrLp
namespace Go.Proofs.YtmebipnljkopgaaGreatDoor
set_option linter.unusedSimpArgs false
set_option linter.unusedVariables false
open Go.RowKit
/-- How long the words are, blanks included. -/
def lenW : List (List UInt8) → Nat
  | [] => 0
  | w :: r => w.length + 1 + lenW r
theorem lenW_app (a b : List (List UInt8)) : lenW (a ++ b) = lenW a + lenW b := by
 induction a with
 | nil => simp [lenW]
 | cons x r ih => simp only [List.cons_append, lenW, ih]; omega
theorem joinL_len : ∀ ws : List (List UInt8), (joinL ws).length ≤ lenW ws
  | [] => by simp [joinL, lenW]
  | [w] => by simp [joinL, lenW]
  | w :: x :: r => by
    have := joinL_len (x :: r)
    rw [join_cons, lenW]; simp only [List.length_append, List.length_cons]; omega
/-- An act that is not heavy. -/
structure ALt (a : AAct) : Prop where
  node : -9223372036854775808 ≤ a.node ∧ a.node ≤ 9223372036854775807
  client : -9223372036854775808 ≤ a.client ∧ a.client ≤ 9223372036854775807
  n : -9223372036854775808 ≤ a.n ∧ a.n ≤ 9223372036854775807
  m : -9223372036854775808 ≤ a.m ∧ a.m ≤ 9223372036854775807
  conf : ∀ x ∈ [a.conf.full, a.conf.wit, a.conf.learn, a.conf.learnWit], -9223372036854775808 ≤ x ∧ x ≤ 9223372036854775807
  key : a.cmd.key.size ≤ 6000
  oldn : a.cmd.old.num < 18446744073709551616
  oldt : a.cmd.old.text.size ≤ 6000
  valn : a.cmd.val.num < 18446744073709551616
  valt : a.cmd.val.text.size ≤ 6000
  bytes : a.bytes.length ≤ 6000
theorem valW_len (v : AVal) (h : v.text.size ≤ 6000) : (valW v).length ≤ 12001 := by
 unfold valW; split
 · unfold textV; split
   · simp [textF, hexK_len]
   split
   · have e : (bsOf v.text).length = v.text.size := rfl
     simp only [List.length_cons, hexB_len, e]; omega
   · simp
 · simp
theorem opW_len (k : Int) : (opW k).length ≤ 3 := by
 unfold opW
 repeat' split
 all_goals simp
theorem callW_len {a : AAct} (h : ALt a) : lenW (callW a) ≤ 40000 := by
 unfold callW; split
 · simp [lenW]
 have h1 := itoa_le20 a.client h.client.1 h.client.2
 have h2 := itoa_le20 a.node h.node.1 h.node.2
 have h3 : (bsOf a.cmd.key).length ≤ 6000 := h.key
 have h4 := valW_len a.cmd.old h.oldt
 have h5 := valW_len a.cmd.val h.valt
 have h6 := opW_len a.cmd.kind
 rw [lenW_app, lenW_app]
 have e1 : lenW (if a.cmd.kind = 4 then [valW a.cmd.old] else []) ≤ 12002 := by split <;> simp [lenW]; omega
 have e2 : lenW (if a.cmd.kind ≠ 1 ∧ a.cmd.kind ≠ 3 then [valW a.cmd.val] else []) ≤ 12002 := by split <;> simp [lenW]; omega
 simp only [lenW, List.length_cons, hexB_len]; omega
theorem line_len {a : AAct} (h : ALt a) : (joinL (wordsA a)).length ≤ 40000 := by
 refine Nat.le_trans (joinL_len _) ?_
 have h1 := itoa_le20 a.client h.client.1 h.client.2
 have h2 := itoa_le20 a.node h.node.1 h.node.2
 have h3 := itoa_le20 a.n h.n.1 h.n.2
 have h4 := itoa_le20 a.m h.m.1 h.m.2
 have h5 := itoa_le20 _ (h.conf a.conf.full (by simp)).1 (h.conf a.conf.full (by simp)).2
 have h6 := itoa_le20 _ (h.conf a.conf.wit (by simp)).1 (h.conf a.conf.wit (by simp)).2
 have h7 := itoa_le20 _ (h.conf a.conf.learn (by simp)).1 (h.conf a.conf.learn (by simp)).2
 have h8 := itoa_le20 _ (h.conf a.conf.learnWit (by simp)).1 (h.conf a.conf.learnWit (by simp)).2
 have h9 := callW_len h
 have hr : (rawW a.bytes).length ≤ 12000 := by
  unfold rawW; split
  · simp
  · rw [hexB_len]; have := h.bytes; omega
 unfold wordsA
 by_cases g1 : a.kind = 1
 · rw [if_pos g1]; simp only [lenW, List.length_cons, List.length_nil]; omega
 rw [if_neg g1]
 by_cases g2 : a.kind = 2
 · rw [if_pos g2]; simp only [lenW, List.length_cons, List.length_nil]; omega
 rw [if_neg g2]
 by_cases g3 : a.kind = 3
 · rw [if_pos g3]; simp only [lenW, List.length_cons, List.length_nil]; omega
 rw [if_neg g3]
 by_cases g4 : a.kind = 4
 · rw [if_pos g4]; simp only [lenW, List.length_cons, List.length_nil]; omega
 rw [if_neg g4]
 by_cases g5 : a.kind = 5
 · rw [if_pos g5]; simp only [lenW, List.length_cons, List.length_nil]; omega
 rw [if_neg g5]
 by_cases g6 : a.kind = 6
 · rw [if_pos g6]; simp only [lenW, List.length_cons, List.length_nil]; omega
 rw [if_neg g6]
 by_cases g7 : a.kind = 7
 · rw [if_pos g7]; simp only [lenW, List.length_cons, List.length_nil]; omega
 rw [if_neg g7]
 by_cases g8 : a.kind = 8
 · rw [if_pos g8]; simp only [lenW, List.length_cons, List.length_nil]; omega
 rw [if_neg g8]
 by_cases g9 : a.kind = 9
 · rw [if_pos g9]; simp only [lenW, List.length_cons, List.length_nil]; omega
 rw [if_neg g9]
 by_cases g10 : a.kind = 10
 · rw [if_pos g10]; exact h9
 rw [if_neg g10]
 by_cases g11 : a.kind = 11
 · rw [if_pos g11]; simp only [lenW, List.length_cons, List.length_nil]; omega
 rw [if_neg g11]
 by_cases g12 : a.kind = 12
 · rw [if_pos g12]; simp only [lenW, List.length_cons, List.length_nil]; omega
 rw [if_neg g12]
 by_cases g13 : a.kind = 13
 · rw [if_pos g13]; simp only [lenW, List.length_cons, List.length_nil]; omega
 rw [if_neg g13]
 by_cases g14 : a.kind = 14
 · rw [if_pos g14]; simp only [lenW, List.length_cons, List.length_nil]; omega
 rw [if_neg g14]
 simp [lenW]
/-! An act that has no words. -/
theorem read_none : readP (bA (joinL [])) = none := by decide +kernel
theorem line_none {a : AAct} (h : wordsA a = []) : lineP a = none := by unfold lineP; rw [h, read_none]
theorem dec_ne32 (u : Nat) : (32 : UInt8) ∉ Lib.decDigits u := by
 induction u using Nat.strongRecOn with
 | _ u ih =>
  have key : ∀ d : Nat, d < 10 → (32 : UInt8) ≠ UInt8.ofNat (48 + d) := by
   intro d hd
   have : ∀ d : Fin 10, (32 : UInt8) ≠ UInt8.ofNat (48 + d.val) := by decide +kernel
   exact this ⟨d, hd⟩
  rw [Lib.decDigits]
  split
  · rename_i h; simpa using key u h
  · rename_i h
    rw [List.mem_append]
    rintro (e | e)
    · exact ih (u / 10) (by omega) e
    · exact key (u % 10) (by omega) (by simpa using e)
theorem itoa_ne32 (n : Int) : (32 : UInt8) ∉ Lib.itoa n := by
 unfold Lib.itoa; split
 · simp [dec_ne32]
 · exact dec_ne32 _
theorem valW_ne32 (v : AVal) : (32 : UInt8) ∉ valW v := by
 unfold valW; split
 · unfold textV; split
   · simp [textF, hexK_ne32]
   split
   · simp [hexB_ne32]
   · simp
 · simp
theorem opW_ne32 (k : Int) : (32 : UInt8) ∉ opW k := by
 unfold opW
 repeat' split
 all_goals simp
theorem opP_opW (k : Int) (h1 : 1 ≤ k) (h6 : k ≤ 6) : opP (opW k) = k ∧ kindP (opW k) = 0 := by
 have : k = 1 ∨ k = 2 ∨ k = 3 ∨ k = 4 ∨ k = 5 ∨ k = 6 := by omega
 rcases this with rfl | rfl | rfl | rfl | rfl | rfl <;> decide +kernel
theorem callW_ne32 (a : AAct) : ∀ w ∈ callW a, (32 : UInt8) ∉ w := by
 intro w hw
 unfold callW at hw
 split at hw
 · cases hw
 rw [List.mem_append, List.mem_append] at hw
 rcases hw with (hw | hw) | hw
 · simp only [List.mem_cons, List.not_mem_nil, or_false] at hw
   rcases hw with rfl | rfl | rfl | rfl
   · exact opW_ne32 _
   · exact itoa_ne32 _
   · exact itoa_ne32 _
   · simp [hexB_ne32]
 · split at hw
   · rw [List.mem_singleton] at hw; subst hw; exact valW_ne32 _
   · cases hw
 · split at hw
   · rw [List.mem_singleton] at hw; subst hw; exact valW_ne32 _
   · cases hw
theorem callP_none (op : Int) (c i k : ByteArray) (vs : List ByteArray) (h : vs.mapM valP = none) : callP op (c :: i :: k :: vs) = none := by
 unfold callP
 simp only [h]
 rcases numW c with _ | _ <;> rcases numW i with _ | _ <;> rcases keyP k with _ | _ <;> rfl
theorem valP_bad : valP (bA [63]) = none := by decide +kernel
/-- A value that is not right: no line. -/
theorem line_bad {a : AAct} (hk : a.kind = 10) (h1 : 1 ≤ a.cmd.kind) (h6 : a.cmd.kind ≤ 6) (h : a.cmd.kind = 4 ∧ chk a.cmd.old ≠ 0 ∨ (a.cmd.kind ≠ 1 ∧ a.cmd.kind ≠ 3) ∧ chk a.cmd.val ≠ 0) : lineP a = none := by
 have hw : wordsA a = callW a := by unfold wordsA; simp [hk]
 have hr : readP (bA (joinL (wordsA a))) = none := by
  rw [hw]
  have hne : callW a ≠ [] := by unfold callW; rw [if_neg (by omega)]; simp
  have hj := words_join (callW a) hne (callW_ne32 a)
  unfold readP wordsB
  rw [bA_bs, hj]
  have hc : callW a = opW a.cmd.kind :: Lib.itoa a.client :: Lib.itoa a.node :: (107 :: hexB (bsOf a.cmd.key)) :: ((if a.cmd.kind = 4 then [valW a.cmd.old] else []) ++ (if a.cmd.kind ≠ 1 ∧ a.cmd.kind ≠ 3 then [valW a.cmd.val] else [])) := by
   unfold callW; rw [if_neg (by omega)]; simp
  obtain ⟨ho, hk0⟩ := opP_opW a.cmd.kind h1 h6
  rw [hc]
  simp only [List.map_cons, bA_bs, ho, hk0]
  rw [if_neg (by decide), if_pos (by omega)]
  refine callP_none _ _ _ _ _ ?_
  rcases h with ⟨h4, ho⟩ | ⟨h13, hv⟩
  · rw [if_pos h4]
    simp [valW, if_neg ho, valP_bad]
  · rw [if_pos h13]
    by_cases h4 : a.cmd.kind = 4
    · rw [if_pos h4]
      simp only [List.map_append, List.map_cons, List.map_nil, List.cons_append, List.nil_append, List.mapM_cons, List.mapM_nil]
      rw [show valW a.cmd.val = [63] from if_neg hv, valP_bad]
      rcases valP (bA (valW a.cmd.old)) with _ | _ <;> rfl
    · rw [if_neg h4]
      simp [valW, if_neg hv, valP_bad]
 unfold lineP; rw [hr]
/-! A line that is read is written the same. -/
theorem sameF_refl (x : Nat) : sameF x x = true := by simp [sameF]
theorem eqAct_refl (a : AAct) : eqAct a a = true := by simp [eqAct, eqCmd, eqConf, eqVal_refl, eqT_refl]
theorem numW_text {w : ByteArray} {n : Int} (h : numW w = some n) : Lib.itoa n = bsOf w := by
 unfold numW at h
 split at h
 · split at h
   · rename_i e; simp only [Option.some.injEq] at h; rw [← h]; exact e
   · cases h
 · cases h
theorem numsP_text : ∀ (ws : List ByteArray) (l : List Int), numsP ws = some l → l.map Lib.itoa = ws.map bsOf
  | [], l, h => by simp only [numsP, Option.some.injEq] at h; subst h; rfl
  | w :: r, l, h => by
    unfold numsP at h
    split at h
    · rename_i n l' hn hl
      simp only [Option.some.injEq] at h; subst h
      rw [List.map_cons, List.map_cons, numW_text hn, numsP_text r l' hl]
    · cases h
theorem keyP_text {w k : ByteArray} (h : keyP w = some k) : 107 :: hexB (bsOf k) = bsOf w := by
 unfold keyP at h
 split at h
 · cases h
 rename_i c r hw
 split at h
 · rename_i hc
   rcases hu : unhexL r with _ | t
   · rw [hu] at h; cases h
   rw [hu] at h
   simp only [Option.map_some, Option.some.injEq] at h
   rw [← h, bA_bs, hex_unhex r t hu, hw, hc]
 · cases h
theorem rawP_text {w : ByteArray} {b : List UInt8} (h : rawP w = some b) : rawW b = bsOf w := by
 unfold rawP at h
 split at h
 · rename_i hw; simp only [Option.some.injEq] at h; subst h; rw [hw]; rfl
 split at h
 · rename_i t ht
   split at h
   · cases h
   rename_i hb
   simp only [Option.some.injEq] at h; subst h
   unfold rawW; rw [if_neg hb, hex_unhex _ _ ht]
 · cases h
theorem parseF_text {r : List UInt8} {x : Nat} (h : parseF (bA r) = some x) : textF x = r ∧ canon x = x := by
 have hx := parseF_lt h
 unfold parseF at h
 split at h
 · split at h
   · rename_i n hn
     split at h
     · rename_i ht
       simp only [Option.some.injEq] at h
       subst h
       have h2 := (parseF_of hx ht).2
       rw [hn] at h2
       simp only [Option.some.injEq] at h2
       rw [bA_bs] at ht
       exact ⟨ht, h2.symm⟩
     cases h
   cases h
 · cases h
theorem chk_float {x : Nat} (hc : canon x = x) : chk ⟨1, x, ⟨#[]⟩⟩ = 0 := by
 have he : isEmptyT ⟨#[]⟩ = true := by decide +kernel
 unfold chk
 simp only [he]
 rw [if_neg (by omega), if_neg (by omega), if_neg (by simp), if_neg]
 rintro ⟨h1, h2⟩
 unfold canon at hc; rw [if_pos h1] at hc; exact h2 hc.symm
theorem chk_text {t : List UInt8} (h : t.length ≤ 32) : chk ⟨2, 0, bA t⟩ = 0 := by
 unfold chk
 have e : (bA t).size = t.length := by simp [bA, ByteArray.size]
 have hz : isNaN 0 = false := by decide +kernel
 simp only [e, hz]
 rw [if_neg (by omega), if_neg (by omega), if_neg (by simp), if_neg (by simp)]
theorem valP_text {w : ByteArray} {v : AVal} (h : valP w = some v) : valW v = bsOf w := by
 unfold valP at h
 split at h
 · rename_i hw; simp only [Option.some.injEq] at h; subst h; rw [hw]; unfold valW; rw [if_pos chk_zero]; rfl
 split at h
 · cases h
 rename_i c r hw
 split at h
 · rename_i hc
   rcases hp : parseF (bA r) with _ | x
   · rw [hp] at h; cases h
   rw [hp] at h
   simp only [Option.map_some, Option.some.injEq] at h
   subst h
   obtain ⟨h1, h2⟩ := parseF_text hp
   unfold valW; rw [if_pos (chk_float h2)]
   unfold textV; rw [if_pos rfl, hw, hc, h1]
 split at h
 · rename_i hc
   split at h
   · rename_i t ht
     split at h
     · rename_i hl
       simp only [Option.some.injEq] at h
       subst h
       unfold valW; rw [if_pos (chk_text hl)]
       unfold textV; rw [if_neg (by simp), if_pos rfl, hw, hc, bA_bs, hex_unhex _ _ ht]
     cases h
   · cases h
 · cases h
theorem kindP_text (l : List UInt8) (h : 0 < kindP l) : ∀ a : AAct, a.kind = kindP l → (kindP l = 6 → wordsA a = [l, rawW a.bytes]) ∧ (kindP l ≠ 6 → ∀ is : List Int, is.length = (placesP (kindP l)).length → wordsA (setAll { AAct.zero with kind := kindP l } (placesP (kindP l)) is) = l :: is.map Lib.itoa) := by
 intro a ha
 by_cases g1 : l = [116, 105, 99, 107]
 · subst g1
   rw [show kindP [116, 105, 99, 107] = 1 by decide +kernel] at ha ⊢
   refine ⟨fun h6 => absurd h6 (by decide), fun h6 is hi => ?_⟩
   rcases is with _ | ⟨x, _ | ⟨y, _ | ⟨z, _ | ⟨u, _ | ⟨v, _ | ⟨s, r⟩⟩⟩⟩⟩⟩ <;> first | (simp [placesP] at hi; done) | rfl
 by_cases g2 : l = [100, 101, 108, 105, 118, 101, 114]
 · subst g2
   rw [show kindP [100, 101, 108, 105, 118, 101, 114] = 2 by decide +kernel] at ha ⊢
   refine ⟨fun h6 => absurd h6 (by decide), fun h6 is hi => ?_⟩
   rcases is with _ | ⟨x, _ | ⟨y, _ | ⟨z, _ | ⟨u, _ | ⟨v, _ | ⟨s, r⟩⟩⟩⟩⟩⟩ <;> first | (simp [placesP] at hi; done) | rfl
 by_cases g3 : l = [100, 114, 111, 112]
 · subst g3
   rw [show kindP [100, 114, 111, 112] = 3 by decide +kernel] at ha ⊢
   refine ⟨fun h6 => absurd h6 (by decide), fun h6 is hi => ?_⟩
   rcases is with _ | ⟨x, _ | ⟨y, _ | ⟨z, _ | ⟨u, _ | ⟨v, _ | ⟨s, r⟩⟩⟩⟩⟩⟩ <;> first | (simp [placesP] at hi; done) | rfl
 by_cases g4 : l = [116, 119, 105, 99, 101]
 · subst g4
   rw [show kindP [116, 119, 105, 99, 101] = 4 by decide +kernel] at ha ⊢
   refine ⟨fun h6 => absurd h6 (by decide), fun h6 is hi => ?_⟩
   rcases is with _ | ⟨x, _ | ⟨y, _ | ⟨z, _ | ⟨u, _ | ⟨v, _ | ⟨s, r⟩⟩⟩⟩⟩⟩ <;> first | (simp [placesP] at hi; done) | rfl
 by_cases g5 : l = [109, 111, 118, 101]
 · subst g5
   rw [show kindP [109, 111, 118, 101] = 5 by decide +kernel] at ha ⊢
   refine ⟨fun h6 => absurd h6 (by decide), fun h6 is hi => ?_⟩
   rcases is with _ | ⟨x, _ | ⟨y, _ | ⟨z, _ | ⟨u, _ | ⟨v, _ | ⟨s, r⟩⟩⟩⟩⟩⟩ <;> first | (simp [placesP] at hi; done) | rfl
 by_cases g6 : l = [114, 97, 119]
 · subst g6
   rw [show kindP [114, 97, 119] = 6 by decide +kernel] at ha ⊢
   refine ⟨fun _ => ?_, fun h6 => absurd rfl h6⟩
   unfold wordsA; simp [ha]
 by_cases g7 : l = [99, 114, 97, 115, 104]
 · subst g7
   rw [show kindP [99, 114, 97, 115, 104] = 7 by decide +kernel] at ha ⊢
   refine ⟨fun h6 => absurd h6 (by decide), fun h6 is hi => ?_⟩
   rcases is with _ | ⟨x, _ | ⟨y, _ | ⟨z, _ | ⟨u, _ | ⟨v, _ | ⟨s, r⟩⟩⟩⟩⟩⟩ <;> first | (simp [placesP] at hi; done) | rfl
 by_cases g8 : l = [116, 114, 105, 112]
 · subst g8
   rw [show kindP [116, 114, 105, 112] = 8 by decide +kernel] at ha ⊢
   refine ⟨fun h6 => absurd h6 (by decide), fun h6 is hi => ?_⟩
   rcases is with _ | ⟨x, _ | ⟨y, _ | ⟨z, _ | ⟨u, _ | ⟨v, _ | ⟨s, r⟩⟩⟩⟩⟩⟩ <;> first | (simp [placesP] at hi; done) | rfl
 by_cases g9 : l = [115, 116, 97, 114, 116]
 · subst g9
   rw [show kindP [115, 116, 97, 114, 116] = 9 by decide +kernel] at ha ⊢
   refine ⟨fun h6 => absurd h6 (by decide), fun h6 is hi => ?_⟩
   rcases is with _ | ⟨x, _ | ⟨y, _ | ⟨z, _ | ⟨u, _ | ⟨v, _ | ⟨s, r⟩⟩⟩⟩⟩⟩ <;> first | (simp [placesP] at hi; done) | rfl
 by_cases g11 : l = [97, 103, 97, 105, 110]
 · subst g11
   rw [show kindP [97, 103, 97, 105, 110] = 11 by decide +kernel] at ha ⊢
   refine ⟨fun h6 => absurd h6 (by decide), fun h6 is hi => ?_⟩
   rcases is with _ | ⟨x, _ | ⟨y, _ | ⟨z, _ | ⟨u, _ | ⟨v, _ | ⟨s, r⟩⟩⟩⟩⟩⟩ <;> first | (simp [placesP] at hi; done) | rfl
 by_cases g12 : l = [112, 108, 97, 110]
 · subst g12
   rw [show kindP [112, 108, 97, 110] = 12 by decide +kernel] at ha ⊢
   refine ⟨fun h6 => absurd h6 (by decide), fun h6 is hi => ?_⟩
   rcases is with _ | ⟨x, _ | ⟨y, _ | ⟨z, _ | ⟨u, _ | ⟨v, _ | ⟨s, r⟩⟩⟩⟩⟩⟩ <;> first | (simp [placesP] at hi; done) | rfl
 by_cases g13 : l = [99, 104, 97, 110, 103, 101]
 · subst g13
   rw [show kindP [99, 104, 97, 110, 103, 101] = 13 by decide +kernel] at ha ⊢
   refine ⟨fun h6 => absurd h6 (by decide), fun h6 is hi => ?_⟩
   rcases is with _ | ⟨x, _ | ⟨y, _ | ⟨z, _ | ⟨u, _ | ⟨v, _ | ⟨s, r⟩⟩⟩⟩⟩⟩ <;> first | (simp [placesP] at hi; done) | rfl
 by_cases g14 : l = [114, 111, 117, 110, 100]
 · subst g14
   rw [show kindP [114, 111, 117, 110, 100] = 14 by decide +kernel] at ha ⊢
   refine ⟨fun h6 => absurd h6 (by decide), fun h6 is hi => ?_⟩
   rcases is with _ | ⟨x, _ | ⟨y, _ | ⟨z, _ | ⟨u, _ | ⟨v, _ | ⟨s, r⟩⟩⟩⟩⟩⟩ <;> first | (simp [placesP] at hi; done) | rfl
 exfalso
 unfold kindP at h
 rw [if_neg g1, if_neg g2, if_neg g3, if_neg g4, if_neg g5, if_neg g6, if_neg g7, if_neg g8, if_neg g9, if_neg g11, if_neg g12, if_neg g13, if_neg g14] at h
 exact absurd h (by decide)
theorem opP_text (l : List UInt8) (h : 0 < opP l) : opW (opP l) = l ∧ 1 ≤ opP l ∧ opP l ≤ 6 := by
 obtain ⟨k, hk⟩ : ∃ k, opP l = k := ⟨_, rfl⟩
 rw [hk] at h ⊢
 unfold opP at hk
 repeat' split at hk
 all_goals first | (exact absurd h (by omega)) | (rename_i hl; subst hk; subst hl; decide)
theorem mapM_text : ∀ (ws : List ByteArray) (l : List AVal), ws.mapM valP = some l → l.map valW = ws.map bsOf
  | [], l, h => by simp only [List.mapM_nil] at h; cases h; rfl
  | w :: r, l, h => by
    rw [List.mapM_cons] at h
    rcases hv : valP w with _ | v
    · rw [hv] at h; cases h
    rcases hr : r.mapM valP with _ | t
    · rw [hv, hr] at h; cases h
    rw [hv, hr] at h
    cases h
    rw [List.map_cons, List.map_cons, valP_text hv, mapM_text r t hr]
theorem call_text {op : Int} {ws : List ByteArray} {b : AAct} (h1 : 1 ≤ op) (h6 : op ≤ 6) (h : callP op ws = some b) : wordsA b = opW op :: ws.map bsOf := by
 unfold callP at h
 split at h
 · rename_i c i k vs
   split at h
   · rename_i c' i' k' hc hi hk
     have ec := numW_text hc
     have ei := numW_text hi
     have ek := keyP_text hk
     have hop : op = 1 ∨ op = 2 ∨ op = 3 ∨ op = 4 ∨ op = 5 ∨ op = 6 := by omega
     split at h
     · rename_i hm hv
       have e := mapM_text vs _ hm
       simp only [Option.some.injEq] at h; subst h
       rw [List.map_cons, List.map_cons, List.map_cons, ← ec, ← ei, ← ek, ← e]
       rcases hop with rfl | rfl | rfl | rfl | rfl | rfl <;> first | (exact absurd hv (by decide)) | rfl
     · rename_i v hm hv
       have e := mapM_text vs _ hm
       simp only [Option.some.injEq] at h; subst h
       rw [List.map_cons, List.map_cons, List.map_cons, ← ec, ← ei, ← ek, ← e]
       rcases hop with rfl | rfl | rfl | rfl | rfl | rfl <;> first | (exact absurd hv (by decide)) | rfl
     · rename_i o v hm hv
       have e := mapM_text vs _ hm
       simp only [Option.some.injEq] at h; subst h
       rw [List.map_cons, List.map_cons, List.map_cons, ← ec, ← ei, ← ek, ← e]
       rcases hop with rfl | rfl | rfl | rfl | rfl | rfl <;> first | (exact absurd hv (by decide)) | rfl
     · cases h
   · cases h
 · cases h
theorem read_text {line : ByteArray} {b : AAct} (h : readP line = some b) : joinL (wordsA b) = bsOf line := by
 rw [← join_words (bsOf line)]
 congr 1
 unfold readP at h
 rcases hw : wordsL (bsOf line) with _ | ⟨x, r⟩
 · exact absurd hw (wordsL_ne _)
 have hB : wordsB line = bA x :: r.map bA := by unfold wordsB; rw [hw]; rfl
 have hr : (r.map bA).map bsOf = r := by rw [List.map_map]; exact List.map_id'' (fun y => bA_bs y) _
 rw [hB] at h
 simp only [bA_bs] at h
 split at h
 · rename_i hk
   unfold otherP at h
   split at h
   · rename_i h6
     split at h
     · rename_i w' hr'
       rcases hp : rawP w' with _ | bs
       · rw [hp] at h; cases h
       rw [hp] at h
       simp only [Option.map_some, Option.some.injEq] at h
       have e := rawP_text hp
       have := (kindP_text x hk b (by rw [← h])).1 h6
       rw [this, ← h]
       rw [hr'] at hr
       rw [← hr, List.map_cons, List.map_nil, ← e]
     · cases h
   · rename_i h6
     split at h
     · rename_i l hl
       split at h
       · rename_i hlen
         simp only [Option.some.injEq] at h
         have e := numsP_text _ l hl
         rw [hr] at e
         rw [← h, (kindP_text x hk { AAct.zero with kind := kindP x } rfl).2 h6 l hlen, e]
       · cases h
     · cases h
 split at h
 · rename_i ho
   obtain ⟨h1, h2, h3⟩ := opP_text x ho
   rw [call_text h2 h3 h, h1, hr]
 · cases h
theorem line_read {line : ByteArray} {b : AAct} (h : readP line = some b) : lineP b = some line := by
 unfold lineP
 rw [read_text h, bs_bA, h]
 simp only [eqAct_refl, if_true]
theorem line_some {a : AAct} {s : ByteArray} (h : lineP a = some s) : ∃ b, readP s = some b ∧ eqAct b a = true ∧ s = bA (joinL (wordsA a)) := by
 unfold lineP at h
 split at h
 · rename_i b hb
   split at h
   · rename_i he
     simp only [Option.some.injEq] at h
     subst h
     exact ⟨b, hb, he, rfl⟩
   · cases h
 · cases h
def lineR (a : AAct) (ln : ByteArray) : Option AAct → Option ByteArray
  | some y => if eqAct y a = true then some ln else none
  | none => none
theorem lineP_eq {a : AAct} {ln : ByteArray} (h : bA (joinL (wordsA a)) = ln) : lineP a = lineR a ln (readP ln) := by
 unfold lineP
 rw [h]
 rcases readP ln with _ | y <;> rfl
end Go.Proofs.YtmebipnljkopgaaGreatDoor
