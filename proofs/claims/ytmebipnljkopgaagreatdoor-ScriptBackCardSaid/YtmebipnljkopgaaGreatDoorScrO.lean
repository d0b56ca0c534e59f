/-
 Layer 27 (script): plain: what the program's reader reads of a command is what callP says; of another act what otherP says. No program is named here. Conditions: none.
-/
import Derived.Test.YtmebipnljkopgaaGreatDoorScrQ
import Derived.Laws.IdiomStrings
namespace Go.Proofs.YtmebipnljkopgaaGreatDoor
set_option linter.unusedSimpArgs false
set_option linter.unusedVariables false
open Go.RowKit
theorem wordS_t (l : List ByteArray) : (wordS (l, true)).2 = (l.drop 1, true) := by cases l <;> rfl
theorem intS_t (l : List ByteArray) : (intS (l, true)).2 = (l.drop 1, true) := by
 unfold intS; split <;> simp [wordS_t]
theorem keyS_t (l : List ByteArray) : (keyS (l, true)).2 = (l.drop 1, true) := by
 unfold keyS; split <;> simp [wordS_t]
theorem valS_t (l : List ByteArray) : (valS (l, true)).2 = (l.drop 1, true) := by
 unfold valS; split <;> simp [wordS_t]
def callV (op : Int) (a : AAct) (s : RSt) : AAct × RSt :=
  if op = 4 then ({ a with cmd := { a.cmd with old := (valS s).1, val := (valS (valS s).2).1 } }, (valS (valS s).2).2)
  else if op = 1 ∨ op = 3 then (a, s)
  else ({ a with cmd := { a.cmd with val := (valS s).1 } }, (valS s).2)
def callK (op : Int) (a : AAct) (s : RSt) : AAct × RSt := callV op { a with cmd := { a.cmd with key := (keyS s).1 } } (keyS s).2
def act10 (op : Int) : AAct := { AAct.zero with kind := 10, cmd := ⟨op, ⟨#[]⟩, AVal.zero, AVal.zero⟩ }
def callS (op : Int) (s : RSt) : AAct × RSt := callK op (intoS [2, 1] (act10 op) s).1 (intoS [2, 1] (act10 op) s).2
theorem callV_t (op : Int) (a : AAct) (l : List ByteArray) : (callV op a (l, true)).2.2 = true := by
 unfold callV
 split
 · simp [valS_t]
 split
 · rfl
 simp [valS_t]
theorem callK_t (op : Int) (a : AAct) (l : List ByteArray) : (callK op a (l, true)).2.2 = true := by
 unfold callK; rw [keyS_t]; exact callV_t _ _ _
theorem mapM_len : ∀ (vs : List ByteArray) (l : List AVal), vs.mapM valP = some l → l.length = vs.length
  | [], l, h => by simp at h; simp [h]
  | v :: vs, l, h => by
    simp only [List.mapM_cons] at h
    rcases hv : valP v with _ | x
    · rw [hv] at h; cases h
    rcases hm : vs.mapM valP with _ | t
    · rw [hv, hm] at h; cases h
    rw [hv, hm] at h
    injection h with h
    subst h
    simp [mapM_len vs t hm]
theorem callV_end (op : Int) (a : AAct) (vs : List ByteArray) : endS (callV op a (vs, false)).1 (callV op a (vs, false)).2 = match vs.mapM valP, valsP op with
      | some [], 0 => some a
      | some [v], 1 => some { a with cmd := { a.cmd with val := v } }
      | some [o, v], 2 => some { a with cmd := { a.cmd with old := o, val := v } }
      | _, _ => none := by
 unfold callV valsP
 by_cases h4 : op = 4
 · subst h4
   simp only [if_true, show ¬ ((4 : Int) = 1 ∨ (4 : Int) = 3) by decide, if_false]
   rcases vs with _ | ⟨x, _ | ⟨y, r⟩⟩
   · simp [valS, wordS, valP_nil, endS, List.mapM_nil]
   · rcases hx : valP x with _ | v
     · simp [valS, wordS, valP_nil, endS, List.mapM_cons, hx]
     · simp [valS, wordS, valP_nil, endS, List.mapM_cons, hx]
   · rcases hx : valP x with _ | v
     · have e : valS (x :: y :: r, false) = (AVal.zero, (y :: r, true)) := by simp [valS, wordS, hx]
       rw [e, endS_true _ _ (by simp [valS_t])]
       simp [List.mapM_cons, hx]
     have e : valS (x :: y :: r, false) = (v, (y :: r, false)) := by simp [valS, wordS, hx]
     rw [e]
     rcases hy : valP y with _ | u
     · have e : valS (y :: r, false) = (AVal.zero, (r, true)) := by simp [valS, wordS, hy]
       rw [e, endS_true _ _ rfl]
       simp [List.mapM_cons, hx, hy]
     have e : valS (y :: r, false) = (u, (r, false)) := by simp [valS, wordS, hy]
     rw [e]
     rcases r with _ | ⟨z, r⟩
     · simp [endS, List.mapM_cons, hx, hy]
     rcases hm : (z :: r).mapM valP with _ | l
     · simp [endS, List.mapM_cons, hx, hy, hm] at hm ⊢
     have hl := mapM_len _ _ hm
     rcases l with _ | ⟨p, l⟩
     · simp at hl
     rw [List.mapM_cons, List.mapM_cons, hx, hy, hm]
     simp [endS]
 by_cases h13 : op = 1 ∨ op = 3
 · rw [if_neg h4, if_pos h13, if_pos h13]
   rcases vs with _ | ⟨x, r⟩
   · simp [endS]
   rcases hm : (x :: r).mapM valP with _ | l
   · simp [endS]
   have hl := mapM_len _ _ hm
   rcases l with _ | ⟨p, l⟩
   · simp at hl
   simp [endS]
 rw [if_neg h4, if_neg h13, if_neg h13, if_neg h4]
 rcases vs with _ | ⟨x, r⟩
 · simp [valS, wordS, valP_nil, endS]
 rcases hx : valP x with _ | v
 · simp [valS, wordS, hx, endS, List.mapM_cons]
 rcases r with _ | ⟨y, r⟩
 · simp [valS, wordS, hx, endS, List.mapM_cons]
 rcases hm : (y :: r).mapM valP with _ | l
 · rw [List.mapM_cons, hx, hm]; simp [valS, wordS, hx, endS]
 have hl := mapM_len _ _ hm
 rcases l with _ | ⟨p, l⟩
 · simp at hl
 rw [List.mapM_cons, hx, hm]; simp [valS, wordS, hx, endS]
theorem call_end (op : Int) (ws : List ByteArray) : endS (callS op (ws, false)).1 (callS op (ws, false)).2 = callP op ws := by
 unfold callS callP
 rcases ws with _ | ⟨c, ws⟩
 · rw [endS_true]
   simp only [intoS, intS, wordS, numW_nil]
   exact callK_t _ _ _
 rcases hc : numW c with _ | nc
 · have e : intS (c :: ws, false) = (0, (ws, true)) := by simp [intS, wordS, hc]
   rw [endS_true]
   · rcases ws with _ | ⟨i, _ | ⟨k, vs⟩⟩
     · rfl
     · rfl
     · simp only [hc]
   · simp only [intoS, e, intS_t]
     exact callK_t _ _ _
 have ec : intS (c :: ws, false) = (nc, (ws, false)) := by simp [intS, wordS, hc]
 rcases ws with _ | ⟨i, ws⟩
 · rw [endS_true]
   simp only [intoS, ec]
   simp only [intS, wordS, numW_nil]
   exact callK_t _ _ _
 rcases hi : numW i with _ | ni
 · have e : intS (i :: ws, false) = (0, (ws, true)) := by simp [intS, wordS, hi]
   rw [endS_true]
   · rcases ws with _ | ⟨k, vs⟩
     · rfl
     · simp only [hc, hi]
   · simp only [intoS, ec, e]
     exact callK_t _ _ _
 have ei : intS (i :: ws, false) = (ni, (ws, false)) := by simp [intS, wordS, hi]
 simp only [intoS, ec, ei]
 unfold callK
 rcases ws with _ | ⟨k, vs⟩
 · rw [endS_true]
   simp only [keyS, wordS, keyP_nil]
   exact callV_t _ _ _
 rcases hk : keyP k with _ | nk
 · have e : keyS (k :: vs, false) = (⟨#[]⟩, (vs, true)) := by simp [keyS, wordS, hk]
   rw [endS_true]
   · simp only [hc, hi, hk]
   · rw [e]; exact callV_t _ _ _
 have ek : keyS (k :: vs, false) = (nk, (vs, false)) := by simp [keyS, wordS, hk]
 rw [ek, callV_end]
 simp only [hc, hi, hk]
 rfl
theorem other_end (k : Int) (hk : k ≠ 6) (ws : List ByteArray) : endS (intoS (placesP k) { AAct.zero with kind := k } (ws, false)).1 (intoS (placesP k) { AAct.zero with kind := k } (ws, false)).2 = otherP k ws := by
 rw [intoS_end]; unfold otherP; rw [if_neg hk]
theorem raw_end (ws : List ByteArray) : (if (rawS (ws, false)).2 = true ∨ (rawS (ws, false)).1 ≠ [] then none else (rawP (wordS (ws, false)).1)) = match ws with
    | [w] => rawP w
    | _ => none := by
 rcases ws with _ | ⟨w, ws⟩
 · simp [rawS, wordS, rawP_nil]
 rcases hw : rawP w with _ | b
 · rcases ws with _ | ⟨y, r⟩ <;> simp [rawS, wordS, hw]
 rcases ws with _ | ⟨y, r⟩ <;> simp [rawS, wordS, hw]
end Go.Proofs.YtmebipnljkopgaaGreatDoor
