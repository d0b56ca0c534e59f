/-
 Layer 27 (script): script.Read: readP. Conditions: the line is no longer than 100000 bytes; the package variables are as start-up lays them (Glb).
-/
import Derived.Test.YtmebipnljkopgaaGreatDoorScrM
import Derived.Test.YtmebipnljkopgaaGreatDoorScrO
namespace Go.Proofs.YtmebipnljkopgaaGreatDoor
set_option linter.unusedSimpArgs false
set_option linter.unusedVariables false
open Go.RowKit
theorem str_act : Str Tryz.prog 31 18 := ⟨⟨_, Tryz.underlying31⟩, by kernel_rfl⟩
/-- What is handed back: an act and its flag; its bytes are new memory. -/
def ReadOut (w : World) (o : Option AAct) (yes no : Value) (e : Ending) (w' : World) : Prop :=
 ∃ A n c, e = .returned (.tuple #[.agg ((o.getD AAct.zero).cells (.slice A n c)).toArray, if o.isSome = true then yes else no]) ∧ Byt w' (fun g => w.heap.size ≤ g) (.slice A n c) (o.getD AAct.zero).bytes ∧ Ext w w'
theorem wordsL_size : ∀ (l x : List UInt8), x ∈ wordsL l → x.length ≤ l.length
  | [], x, h => by simp only [wordsL, List.mem_singleton] at h; simp [h]
  | c :: r, x, h => by
    unfold wordsL at h
    split at h
    · rcases List.mem_cons.1 h with rfl | h
      · simp
      · have := wordsL_size r x h; simp; omega
    split at h
    · simp only [List.mem_singleton] at h; subst h; simp
    · rename_i y t hy
      rcases List.mem_cons.1 h with rfl | h
      · have := wordsL_size r y (by rw [hy]; simp); simp; omega
      · have := wordsL_size r x (by rw [hy]; exact List.mem_cons_of_mem _ h); simp; omega
theorem wordsB_size {s x : ByteArray} (h : x ∈ wordsB s) : x.size ≤ s.size := by
 unfold wordsB at h
 obtain ⟨y, hy, rfl⟩ := List.mem_map.1 h
 have := wordsL_size _ _ hy
 have e : (bA y).size = y.length := by simp [bA, ByteArray.size]
 rw [e]; exact this
theorem wordsL_len : ∀ l : List UInt8, (wordsL l).length ≤ l.length + 1
  | [] => by simp [wordsL]
  | c :: r => by
    have := wordsL_len r
    unfold wordsL
    split
    · simp; omega
    split
    · simp
    · rename_i x t h; rw [h] at this; simp at this ⊢; omega
theorem wordsB_len (s : ByteArray) : (wordsB s).length ≤ s.size + 1 := by
 unfold wordsB; rw [List.length_map]; exact wordsL_len _
theorem bA_eq (l : List UInt8) (x : ByteArray) : (bA l = x) = (bsOf x = l) := propext ⟨fun h => by rw [← h, bA_bs], fun h => by rw [← h, bs_bA]⟩
theorem idx_op (x : ByteArray) : Lib.idxOfS ([bA [], bA [103, 101, 116], bA [112, 117, 116], bA [100, 101, 108], bA [99, 97, 115], bA [97, 100, 100], bA [109, 97, 120]].take 7) x = opP (bsOf x) := by
 unfold Lib.idxOfS
 simp only [List.take_succ_cons, List.take_zero, Lib.idxFromS, bA_eq]
 rfl
theorem kindP_cases (l : List UInt8) : kindP l = 0 ∨ kindP l = 1 ∨ kindP l = 2 ∨ kindP l = 3 ∨ kindP l = 4 ∨ kindP l = 5 ∨ kindP l = 6 ∨ kindP l = 7 ∨ kindP l = 8 ∨ kindP l = 9 ∨ kindP l = 11 ∨ kindP l = 12 ∨ kindP l = 13 ∨ kindP l = 14 := by
 obtain ⟨k, hk⟩ : ∃ k, kindP l = k := ⟨_, rfl⟩
 rw [hk]
 unfold kindP at hk
 repeat' split at hk
 all_goals omega
theorem opP_cases (l : List UInt8) : opP l ≤ 0 ∨ opP l = 1 ∨ opP l = 2 ∨ opP l = 3 ∨ opP l = 4 ∨ opP l = 5 ∨ opP l = 6 := by
 obtain ⟨k, hk⟩ : ∃ k, opP l = k := ⟨_, rfl⟩
 rw [hk]
 unfold opP at hk
 repeat' split at hk
 all_goals omega
/-- What the flag and the rest tell of an act that was read. -/
def FinO (b : Nat) (s : ByteArray) (w : World) (a : AAct) (st : RSt) (v : Value) : Prop := (st.2 = true ∨ st.1 ≠ [] → readP s = none) ∧ (st.2 = false → st.1 = [] → readP s = some a ∧ Byt w (fun g => b < g) v a.bytes)
theorem intoS_bytes : ∀ (os : List Nat) (a : AAct) (s : RSt), (intoS os a s).1.bytes = a.bytes
  | [], a, s => rfl
  | o :: os, a, s => by
    rw [intoS, intoS_bytes os]
    unfold AAct.setO; split <;> rfl
theorem fin_of {b : Nat} {s : ByteArray} {w : World} {a : AAct} {st : RSt} (h : endS a st = readP s) (ha : a.bytes = []) : FinO b s w a st (.slice none 0 0) := by
 unfold endS at h
 refine ⟨fun hw => ?_, fun h1 h2 => ?_⟩
 · rw [if_pos hw] at h; exact h.symm
 · rw [if_neg (by rintro (e | e); rw [h1] at e; cases e; exact e h2)] at h
   refine ⟨h.symm, ?_⟩
   rw [ha]; exact Sl.nil _ _ _
theorem fin_other {b : Nat} {s : ByteArray} {w : World} {k : Int} {ws : List ByteArray} (h : readP s = otherP k ws) (hk : k ≠ 6) : FinO b s w (intoS (placesP k) { AAct.zero with kind := k } (ws, false)).1 (intoS (placesP k) { AAct.zero with kind := k } (ws, false)).2 (.slice none 0 0) :=
 fin_of (by rw [h]; exact other_end k hk ws) (by rw [intoS_bytes]; rfl)
theorem fin_raw {b : Nat} {s : ByteArray} {w : World} {ws : List ByteArray} {v : Value} (h : readP s = otherP 6 ws) (hB : ∀ b', rawP (wordS (ws, false)).1 = some b' → Byt w (fun g => b < g) v b') : ∃ bs, FinO b s w { AAct.zero with kind := 6, bytes := bs } (rawS (ws, false)) v := by
 have h2 : otherP 6 ws = (match ws with
    | [w] => rawP w
    | _ => none).map fun b => { AAct.zero with kind := 6, bytes := b } := by
  unfold otherP; rw [if_pos rfl]
  rcases ws with _ | ⟨x, _ | ⟨y, r⟩⟩ <;> rfl
 have h2 : otherP 6 ws = (if (rawS (ws, false)).2 = true ∨ (rawS (ws, false)).1 ≠ [] then none else (rawP (wordS (ws, false)).1)).map fun b => { AAct.zero with kind := 6, bytes := b } := h2.trans (congrArg (Option.map _) (raw_end ws).symm)
 rcases hw : rawP (wordS (ws, false)).1 with _ | bs
 · refine ⟨[], fun _ => ?_, fun h1 _ => ?_⟩
   · rw [h, h2, hw]; split <;> rfl
   · rw [rawS_no hw] at h1; cases h1
 refine ⟨bs, fun h1 => ?_, fun h1 h3 => ?_⟩
 · rw [h, h2, if_pos h1]; rfl
 · rw [h, h2, if_neg (by rintro (e | e); rw [h1] at e; cases e; exact e h3), hw]
   exact ⟨rfl, hB _ hw⟩
theorem fin_bad {b : Nat} {s : ByteArray} {w : World} {a : AAct} {l : List ByteArray} {v : Value} (h : readP s = none) : FinO b s w a (l, true) v := ⟨fun _ => h, fun h1 _ => by cases h1⟩
theorem intoS_sub : ∀ (os : List Nat) (a : AAct) (s : RSt), ∀ x ∈ (intoS os a s).2.1, x ∈ s.1
  | [], a, s, x, h => h
  | o :: os, a, s, x, h => intS_sub s x (intoS_sub os _ _ x h)
theorem keyS_sub (s : RSt) : ∀ x ∈ (keyS s).2.1, x ∈ s.1 := by
 intro x hx
 unfold keyS at hx
 split at hx <;> exact wordS_sub s x hx
theorem valS_sub (s : RSt) : ∀ x ∈ (valS s).2.1, x ∈ s.1 := by
 intro x hx
 unfold valS at hx
 split at hx <;> exact wordS_sub s x hx
theorem callV_bytes (op : Int) (a : AAct) (s : RSt) : (callV op a s).1.bytes = a.bytes := by
 unfold callV; split
 · rfl
 split <;> rfl
theorem fin_call {b : Nat} {s : ByteArray} {w : World} {op : Int} {ws : List ByteArray} {a7 : AAct} {s7 : RSt} (h : readP s = callP op ws) (h7 : intoS [2, 1] (act10 op) (ws, false) = (a7, s7)) :
   FinO b s w (callV op { a7 with cmd := { a7.cmd with key := (keyS s7).1 } } (keyS s7).2).1 (callV op { a7 with cmd := { a7.cmd with key := (keyS s7).1 } } (keyS s7).2).2 (.slice none 0 0) := by
 have e := call_end op ws
 unfold callS callK at e
 have hb := intoS_bytes [2, 1] (act10 op) (ws, false)
 rw [h7] at e hb
 exact fin_of (by rw [h]; exact e) (by rw [callV_bytes]; exact hb)
def CmdsAt (w : World) (cb : Nat) : Prop := ∀ j, j < 7 → w.cell? ⟨cb, 0 + j, none⟩ = some (.string ([bA [], bA [103, 101, 116], bA [112, 117, 116], bA [100, 101, 108], bA [99, 97, 115], bA [97, 100, 100], bA [109, 97, 120]].getD j ByteArray.empty))
theorem c_cmds (w : World) : Calls Tryz.prog 18 #[] w fun e w' => ∃ cb, e = .returned (.slice (some ⟨cb, 0, none⟩) 7 7) ∧ CmdsAt w' cb ∧ Ext w w' :=
 (c_commands w).mono fun e w' h => by
  obtain ⟨rfl, rfl⟩ := h
  refine ⟨_, rfl, fun j hj => ?_, (Mod.refl _ w).alloc _⟩
  have hb := heap_new w (.cells #[.string (bA []), .string (bA [103, 101, 116]), .string (bA [112, 117, 116]), .string (bA [100, 101, 108]), .string (bA [99, 97, 115]), .string (bA [97, 100, 100]), .string (bA [109, 97, 120])] 9)
  refine blk_cell hb ?_
  rw [Nat.zero_add]
  rcases j with _ | _ | _ | _ | _ | _ | _ | j
  all_goals first | rfl | omega
theorem c_index (x : ByteArray) (w : World) (cb : Nat) (h : CmdsAt w cb) : Calls Tryz.prog 17 #[.slice (some ⟨cb, 0, none⟩) 7 7, .string x] w fun e w' => e = .returned (.int .i64 (opP (bsOf x))) ∧ w' = w := by
 have := Tryz.slices_Index_string cb 0 7 7 [bA [], bA [103, 101, 116], bA [112, 117, 116], bA [100, 101, 108], bA [99, 97, 115], bA [97, 100, 100], bA [109, 97, 120]] x w (by decide) (by decide) h
 rw [idx_op] at this
 exact this
set_option maxRecDepth 100000 in
set_option maxHeartbeats 1000000 in
theorem s_read (s : ByteArray) (w : World) (hg : Glb w) (hs : s.size ≤ 100000) : Calls Tryz.prog 6 #[.string s] w (ReadOut w (readP s) (.int .i64 0) (.int .i64 16)) := by
 obtain ⟨b, hb⟩ : ∃ b, w.heap.size = b := ⟨_, rfl⟩
 obtain ⟨x0, ws, hws⟩ : ∃ x0 ws, wordsB s = x0 :: ws := by
  rcases h : wordsB s with _ | ⟨x, r⟩
  · exact absurd h (wordsB_ne s)
  exact ⟨x, r, rfl⟩
 have hsz : ∀ x ∈ ws, x.size ≤ 100000 := fun x hx => by have := wordsB_size (s := s) (x := x) (by rw [hws]; exact List.mem_cons_of_mem _ hx); omega
 have hsp := fun W hW => c_split s W hW hs
 rw [hws] at hsp
 simp only [List.length_cons, List.map_cons] at hsp
 obtain ⟨n, hn⟩ : ∃ n, ws.length = n := ⟨_, rfl⟩
 rw [hn] at hsp
 have hszn : n + 1 ≤ 100001 := by have := wordsB_len s; rw [hws, List.length_cons, hn] at this; omega
 have Hsp := Lib.hid hsp
 have Hn := Lib.hid hn
 have Hsz := Lib.hid hsz
 have Hg := Lib.hid hg
 have Hws := Lib.hid hws
 clear hsp hn hsz hws hg
 go_enter Tryz.func6, Tryz.ntmps6
 go_wp2_with fail
 obtain ⟨W1, hW1⟩ : ∃ W1, w.alloc (.cells #[.int .i64 0, .int .i64 0, .int .i64 0, .int .i64 0, .int .i64 0, .int .i64 0, .string ⟨#[]⟩, .int .i64 0, .float .f64 0, .string ⟨#[]⟩, .int .i64 0, .float .f64 0, .string ⟨#[]⟩, .int .i64 0, .int .i64 0, .int .i64 0, .int .i64 0, .slice none 0 0] 31) = W1 := ⟨_, rfl⟩
 have hE1 : Ext w W1 := hW1 ▸ ((Mod.refl _ w).alloc _)
 have hb1 : W1.heap[b]? = some (.cells (AAct.zero.cells (.slice none 0 0)).toArray 31 (0, 0)) := hb ▸ hW1 ▸ heap_new _ _
 rw [hW1]
 clear hW1
 refine (Hsp.out W1 (Hg.out.ext hE1)).mono ?_
 obtain ⟨sb, hsb⟩ : ∃ sb, W1.heap.size = sb := ⟨_, rfl⟩
 rw [hsb]
 rintro e w2 ⟨rfl, hw2⟩
 have hE2 : Ext W1 w2 := hw2 ▸ ((Mod.refl _ W1).alloc _)
 have hS2 : Sl w2 (fun g => g = sb) 1 (.slice (some ⟨sb, 0, none⟩) (n + 1) (n + 1)) (n + 1) (.string x0 :: ws.map Value.string) := by
  have hl : (Value.string x0 :: ws.map Value.string).length = n + 1 := by simp [Hn.out]
  have h := Sl.lit W1 (.string x0 :: ws.map Value.string) 9 (by rw [hl]; simp only [maxLen]; omega)
  rw [hl, ← hw2, hsb] at h
  exact h
 have hx0 : w2.cell? ⟨sb, 0, none⟩ = some (.string x0) := by
  obtain ⟨_, A, c, e, _, _, hx⟩ := hS2
  injection e with e1 e2 e3
  obtain ⟨g, off, hA, hg, hcell⟩ := hx (by omega)
  rw [hA] at e1
  injection e1 with e1; injection e1 with e1 e2
  subst e1; subst e2
  exact hcell 0 _ rfl
 have HS2 := Lib.hid hS2
 have hEw2 := hE1.ext hE2
 have hb2 := hE2.blk hb1 id
 have hbl : b < sb := by rw [← hsb]; exact (Array.getElem?_eq_some_iff.1 hb1).1
 have hsb2 : sb < w2.heap.size := World.block_lt_of_cell? _ _ hx0
 clear hw2 hS2 hE2 hE1 hb1
 obtain ⟨rb, hrb⟩ : ∃ rb, w2.heap.size = rb := ⟨_, rfl⟩
 go_upto_region 3 with fail
 have hR3 : RdM (w2.alloc (.cells #[.slice (cutA (some ⟨sb, 0, none⟩) 1 (n + 1) 1) n n, .bool false] 51)) rb sb (ws, false) := by
  refine ⟨by omega, cutA (some ⟨sb, 0, none⟩) 1 (n + 1) 1, n, ?_, ?_⟩
  · rw [← hrb]; show _ = some (Obj.cells #[Value.slice _ ws.length _, _] _ _); rw [Hn.out]; exact heap_new _ _
  · have h := (HS2.out.cutA (m := 1) (by omega)).ext ((Mod.refl _ w2).alloc (.cells #[.slice (cutA (some ⟨sb, 0, none⟩) 1 (n + 1) 1) n n, .bool false] 51))
    show Sl _ _ _ (.slice _ ws.length _) ws.length _
    rw [Hn.out]
    exact h
 obtain ⟨W3, hW3⟩ : ∃ W3, w2.alloc (.cells #[.slice (cutA (some ⟨sb, 0, none⟩) 1 (n + 1) 1) n n, .bool false] 51) = W3 := ⟨_, rfl⟩
 have hE3 : Ext w2 W3 := hW3 ▸ ((Mod.refl _ w2).alloc _)
 have hs3 : W3.heap.size = rb + 1 := by rw [← hW3, ← hrb]; simp
 rw [hW3] at hR3 ⊢
 clear hW3
 have HR3 := Lib.hid hR3
 have hb3 := hE3.blk hb2 id
 have hx3 := hE3.cell hx0 id
 have HEw3 := Lib.hid (hEw2.ext hE3)
 clear hE3 hb2 hx0 hEw2 hR3
 have Hs3 := Lib.hid hs3
 clear hs3
 obtain ⟨ab, hab⟩ : ∃ ab, W3.heap.size = ab := ⟨_, rfl⟩
 have hn3 : (W3.alloc (.cells (AAct.zero.cells (.slice none 0 0)).toArray 31)).heap[ab]? = some (.cells (AAct.zero.cells (.slice none 0 0)).toArray 31 (0, 0)) := hab ▸ heap_new W3 _
 obtain ⟨k, hk⟩ : ∃ k, kindP (bsOf x0) = k := ⟨_, rfl⟩
 have hki := c_kinds x0
 rw [hk] at hki
 go_upto_region 4 with (first
   | (go_at_call 16; refine (hki _).mono ?_; rintro e w4 ⟨rfl, h4⟩; rw [h4]; clear h4)
   | (refine wpList_stR rfl 31 _ _ rfl 18 ab 0 (AAct.cells { AAct.zero with kind := k } (.slice none 0 0)) rfl rfl str_act _ _ (AAct.cells { AAct.zero with kind := k } (.slice none 0 0)) hn3 rfl (by simp) (by simp [Value.oneCell']) rfl ?_; intro W4 ha4 hm4 hs4))
 have hX4 : Ext W3 W4 := Mod.toExt (((Mod.refl (Since W3.heap.size) W3).alloc _).trans hm4 (fun k hk e => by unfold Since; omega))
 have hb4 := hX4.blk hb3 id
 have hx4 := hX4.cell hx3 id
 have HR4 := Lib.hid (HR3.out.ext hX4)
 have HEw4 := Lib.hid (HEw3.out.ext hX4)
 have Hb4 := Lib.hid hb4
 have Ha4 := Lib.hid ha4
 have Hs4 : Hid (ab = rb + 1) := Lib.hid (by rw [← hab]; exact Hs3.out)
 clear hX4 hm4 hs4 hb3 hx3 hb4 ha4 hn3 hki
 simp only [Act.put]
 go_cut [7] (fun s7 wx => s7 = .int .i64 (opP (bsOf x0)) ∧ Ext W4 wx)
 case first =>
  go_region_held3 (fun w' => w'.cell? ⟨sb, 0, none⟩ = some (.string x0)) (first | go_keep | exact hk5)
   (first
    | (go_at_call 18; refine (c_cmds _).mono ?_; rintro e w5 ⟨cb, rfl, hC, hE5⟩; have hk5 : w5.cell? ⟨sb, 0, none⟩ = some (.string x0) := hE5.cell (p := ⟨sb, 0, none⟩) hx4 id)
    | (go_at_call 17; refine (c_index x0 _ cb (by exact hC)).mono ?_; rintro e w6 ⟨rfl, rfl⟩))
  all_goals
   go_wp2_with fail
   go_meet
   exact ⟨rfl, ((Mod.refl _ W4).drew).ext hE5⟩
 case rest =>
  obtain ⟨rfl, hX⟩ := hcut
  obtain ⟨W5, hW5⟩ : ∃ W5, W5 = wc := ⟨_, rfl⟩
  subst hW5
  obtain ⟨op, hop⟩ : ∃ op, opP (bsOf x0) = op := ⟨_, rfl⟩
  have HrP : Hid (readP s = if 0 < k then otherP k ws else if 0 < op then callP op ws else none) := Lib.hid (by unfold readP; rw [Hws.out]; simp only [hk, hop])
  have hkc := kindP_cases (bsOf x0)
  have hoc := opP_cases (bsOf x0)
  rw [hk] at hkc
  rw [hop] at hoc ⊢
  have HR5 := Lib.hid (HR4.out.ext hX)
  have HG5 := Lib.hid (Hg.out.ext (HEw4.out.ext hX))
  have HE5 := Lib.hid (HEw4.out.ext hX)
  have Hb5 := Lib.hid (hX.blk Hb4.out id)
  have Ha5 := Lib.hid (hX.blk Ha4.out id)
  have hab5 : ab < W5.heap.size := (Array.getElem?_eq_some_iff.1 Ha5.out).1
  have hgs := Hg.out.size
  have hrb5 : rb < ab := by have := Hs4.out; omega
  have hbsb : b < sb := by have := hbl; omega
  have c0 : W5.cell? ⟨ab, 0, none⟩ = some (.int .i64 k) := blk_cell Ha5.out rfl
  clear hX hx4 Hb4 Ha4 HR4 HEw4 hk hop
  go_upto_block 0 with fail
  go_cut [23] from 24 to 56 (fun _ wx => ∃ (a : AAct) (st : RSt) (A : Option Addr) (m c : Nat), wx.heap[ab]? = some (.cells (a.cells (.slice A m c)).toArray 31 (0, 0)) ∧ RdM wx rb sb st ∧ Mod (fun k => k = rb ∨ k = ab) W5 wx ∧ FinO b s wx a st (.slice A m c))
  case first =>
   rcases hkc with rfl | rfl | rfl | rfl | rfl | rfl | rfl | rfl | rfl | rfl | rfl | rfl | rfl | rfl
   · rcases hoc with hop0 | rfl | rfl | rfl | rfl | rfl | rfl
     · have hop : ¬ 0 < op := by omega
       obtain ⟨w1c, f1, hR6⟩ := RdM.wrong HR5.out
       have hm6 : Mod (fun k => k = rb) W5 (W5.setCell ⟨rb, 1, none⟩ (.bool true)) := mod_same (Mod.refl _ _) _ _
       have ha6 := hm6.blk Ha5.out (by omega)
       have hrn : readP s = none := by rw [HrP.out, if_neg (by decide), if_neg hop]
       have HrN := Lib.hid hrn
       have HR6 := Lib.hid hR6
       have Hm6 := Lib.hid hm6
       have Ha6 := Lib.hid ha6
       clear hR6 hm6 ha6 hrn
       simp only at w1c
       go_wp2
       go_meet
       exact ⟨{ AAct.zero with kind := 0 }, _, _, _, _, Ha6.out, HR6.out, Hm6.out.mono (fun _ _ h => .inl h), fin_bad HrN.out⟩
     · have f0 := blk_free 0 Ha5.out
       have f5 := blk_free 5 Ha5.out
       have c5 : W5.cell? ⟨ab, 5, none⟩ = some (.int .i64 0) := blk_cell Ha5.out rfl
       obtain ⟨W6, hW6⟩ : ∃ W6, (W5.setCell ⟨ab, 0, none⟩ (.int .i64 10)).setCell ⟨ab, 5, none⟩ (.int .i64 1) = W6 := ⟨_, rfl⟩
       have ha6 : W6.heap[ab]? = some (.cells ((act10 1).cells (.slice none 0 0)).toArray 31 (0, 0)) := hW6 ▸ blk_set (blk_set Ha5.out 0 (.int .i64 10)) 5 (.int .i64 1)
       have hm6 : Mod (fun k => k = ab) W5 W6 := hW6 ▸ mod_same (mod_same (Mod.refl _ _) 0 (.int .i64 10)) 5 (.int .i64 1)
       have hR6 := HR5.out.mod hm6 (by omega) (by omega)
       have hG6 := HG5.out.mod hm6 (by intro k hk e; omega)
       have hi := s_intoA hR6 hG6 Hsz.out ha6 (by omega) (by omega) (by omega) (by omega) [2, 1] (by decide) (by decide) 58
       simp only [List.map_cons, List.map_nil, List.length_cons, List.length_nil] at hi
       have Hm6 := Lib.hid hm6
       clear hm6 hR6 hG6 ha6
       go_upto_region 10 with fail
       clear hW6 f0 f5 c5 c0
       go_upto_region 11 with (go_at_call 20; refine hi.mono ?_; rintro e w7 ⟨rfl, hR7, ha7, hm7⟩)
       have hsub := intoS_sub [2, 1] (act10 1) (ws, false)
       obtain ⟨a7, s7, h7⟩ : ∃ a7 s7, intoS [2, 1] (act10 1) (ws, false) = (a7, s7) := ⟨_, _, rfl⟩
       rw [h7] at hR7 ha7 hsub
       simp only at hR7 ha7 hsub
       have hF := fun w' => fin_call (b := b) (s := s) (w := w') (by rw [HrP.out, if_neg (by decide), if_pos (by decide)]) h7
       have HM7 : Hid (Mod (fun k => k = rb ∨ k = ab) W5 w7) := Lib.hid ((Hm6.out.mono (fun _ _ h => .inr h)).self hm7)
       have hs7 : ∀ x ∈ s7.1, x.size ≤ 100000 := fun x hx => Hsz.out x (hsub x hx)
       have hG7 := Lib.hid (HG5.out.mod HM7.out (by rintro k hk (e | e) <;> omega))
       have hi8 := s_key w7 rb sb s7 hR7 hs7
       have Ha7 := Lib.hid ha7
       have HF := Lib.hid hF
       have Hs7 := Lib.hid hs7
       clear hi hm7 hR7 ha7 h7 hF hs7 hsub
       go_wp2_with fail
       refine hi8.mono ?_
       rintro e w8 ⟨rfl, hR8, hm8⟩
       have ha8 := hm8.blk Ha7.out (by omega)
       have q6 : w8.cell? ⟨ab, 6, none⟩ = some (.string a7.cmd.key) := blk_cell ha8 rfl
       have f6 := blk_free 6 ha8
       obtain ⟨ky, s8, h8⟩ : ∃ ky s8, keyS s7 = (ky, s8) := ⟨_, _, rfl⟩
       have hsub := keyS_sub s7
       rw [h8] at hR8 hsub ⊢
       simp only at hR8 hsub
       have HF8 : Hid (∀ w', FinO b s w' (callV 1 { a7 with cmd := { a7.cmd with key := ky } } s8).1 (callV 1 { a7 with cmd := { a7.cmd with key := ky } } s8).2 (.slice none 0 0)) := Lib.hid (by have h := HF.out; rw [h8] at h; exact h)
       obtain ⟨W9, hW9⟩ : ∃ W9, w8.setCell ⟨ab, 6, none⟩ (.string ky) = W9 := ⟨_, rfl⟩
       obtain ⟨a9, ha9e⟩ : ∃ a9 : AAct, { a7 with cmd := { a7.cmd with key := ky } } = a9 := ⟨_, rfl⟩
       rw [ha9e] at HF8
       have ha9 : W9.heap[ab]? = some (.cells (a9.cells (.slice none 0 0)).toArray 31 (0, 0)) := ha9e ▸ hW9 ▸ blk_set ha8 6 (.string ky)
       have hm9 : Mod (fun k => k = ab) w8 W9 := hW9 ▸ mod_same (Mod.refl _ _) 6 (.string ky)
       have hR9 := hR8.mod hm9 (by omega) (by omega)
       have HM9 : Hid (Mod (fun k => k = rb ∨ k = ab) W5 W9) := Lib.hid ((HM7.out.trans hm8 (fun _ _ h => .inl h)).trans hm9 (fun _ _ h => .inr h))
       have hs9 : ∀ x ∈ s8.1, x.size ≤ 100000 := fun x hx => Hs7.out x (hsub x hx)
       have hG9 := Lib.hid (HG5.out.mod HM9.out (by rintro k hk (e | e) <;> omega))
       have hsb9 : sb < W9.heap.size := by have := HM9.out.size; omega
       have Hs9 := Lib.hid hs9
       have HR9 := Lib.hid hR9
       have Ha9 := Lib.hid ha9
       clear ha8 hR8 hm8 hm9 hR9 hs9 ha9 h8 hsub ha9e hi8
       go_upto_region 12 with fail
       clear hW9 q6 f6
       
       go_wp2
       go_meet
       refine ⟨a9, s8, _, _, _, Ha9.out, HR9.out, HM9.out, ?_⟩
       have h := HF8.out W9
       simp only [callV, show ¬ ((1 : Int) = 4) by decide, if_false, show ((1 : Int) = 1 ∨ (1 : Int) = 3) by decide, if_true] at h
       exact h
     · have f0 := blk_free 0 Ha5.out
       have f5 := blk_free 5 Ha5.out
       have c5 : W5.cell? ⟨ab, 5, none⟩ = some (.int .i64 0) := blk_cell Ha5.out rfl
       obtain ⟨W6, hW6⟩ : ∃ W6, (W5.setCell ⟨ab, 0, none⟩ (.int .i64 10)).setCell ⟨ab, 5, none⟩ (.int .i64 2) = W6 := ⟨_, rfl⟩
       have ha6 : W6.heap[ab]? = some (.cells ((act10 2).cells (.slice none 0 0)).toArray 31 (0, 0)) := hW6 ▸ blk_set (blk_set Ha5.out 0 (.int .i64 10)) 5 (.int .i64 2)
       have hm6 : Mod (fun k => k = ab) W5 W6 := hW6 ▸ mod_same (mod_same (Mod.refl _ _) 0 (.int .i64 10)) 5 (.int .i64 2)
       have hR6 := HR5.out.mod hm6 (by omega) (by omega)
       have hG6 := HG5.out.mod hm6 (by intro k hk e; omega)
       have hi := s_intoA hR6 hG6 Hsz.out ha6 (by omega) (by omega) (by omega) (by omega) [2, 1] (by decide) (by decide) 58
       simp only [List.map_cons, List.map_nil, List.length_cons, List.length_nil] at hi
       have Hm6 := Lib.hid hm6
       clear hm6 hR6 hG6 ha6
       go_upto_region 10 with fail
       clear hW6 f0 f5 c5 c0
       go_upto_region 11 with (go_at_call 20; refine hi.mono ?_; rintro e w7 ⟨rfl, hR7, ha7, hm7⟩)
       have hsub := intoS_sub [2, 1] (act10 2) (ws, false)
       obtain ⟨a7, s7, h7⟩ : ∃ a7 s7, intoS [2, 1] (act10 2) (ws, false) = (a7, s7) := ⟨_, _, rfl⟩
       rw [h7] at hR7 ha7 hsub
       simp only at hR7 ha7 hsub
       have hF := fun w' => fin_call (b := b) (s := s) (w := w') (by rw [HrP.out, if_neg (by decide), if_pos (by decide)]) h7
       have HM7 : Hid (Mod (fun k => k = rb ∨ k = ab) W5 w7) := Lib.hid ((Hm6.out.mono (fun _ _ h => .inr h)).self hm7)
       have hs7 : ∀ x ∈ s7.1, x.size ≤ 100000 := fun x hx => Hsz.out x (hsub x hx)
       have hG7 := Lib.hid (HG5.out.mod HM7.out (by rintro k hk (e | e) <;> omega))
       have hi8 := s_key w7 rb sb s7 hR7 hs7
       have Ha7 := Lib.hid ha7
       have HF := Lib.hid hF
       have Hs7 := Lib.hid hs7
       clear hi hm7 hR7 ha7 h7 hF hs7 hsub
       go_wp2_with fail
       refine hi8.mono ?_
       rintro e w8 ⟨rfl, hR8, hm8⟩
       have ha8 := hm8.blk Ha7.out (by omega)
       have q6 : w8.cell? ⟨ab, 6, none⟩ = some (.string a7.cmd.key) := blk_cell ha8 rfl
       have f6 := blk_free 6 ha8
       obtain ⟨ky, s8, h8⟩ : ∃ ky s8, keyS s7 = (ky, s8) := ⟨_, _, rfl⟩
       have hsub := keyS_sub s7
       rw [h8] at hR8 hsub ⊢
       simp only at hR8 hsub
       have HF8 : Hid (∀ w', FinO b s w' (callV 2 { a7 with cmd := { a7.cmd with key := ky } } s8).1 (callV 2 { a7 with cmd := { a7.cmd with key := ky } } s8).2 (.slice none 0 0)) := Lib.hid (by have h := HF.out; rw [h8] at h; exact h)
       obtain ⟨W9, hW9⟩ : ∃ W9, w8.setCell ⟨ab, 6, none⟩ (.string ky) = W9 := ⟨_, rfl⟩
       obtain ⟨a9, ha9e⟩ : ∃ a9 : AAct, { a7 with cmd := { a7.cmd with key := ky } } = a9 := ⟨_, rfl⟩
       rw [ha9e] at HF8
       have ha9 : W9.heap[ab]? = some (.cells (a9.cells (.slice none 0 0)).toArray 31 (0, 0)) := ha9e ▸ hW9 ▸ blk_set ha8 6 (.string ky)
       have hm9 : Mod (fun k => k = ab) w8 W9 := hW9 ▸ mod_same (Mod.refl _ _) 6 (.string ky)
       have hR9 := hR8.mod hm9 (by omega) (by omega)
       have HM9 : Hid (Mod (fun k => k = rb ∨ k = ab) W5 W9) := Lib.hid ((HM7.out.trans hm8 (fun _ _ h => .inl h)).trans hm9 (fun _ _ h => .inr h))
       have hs9 : ∀ x ∈ s8.1, x.size ≤ 100000 := fun x hx => Hs7.out x (hsub x hx)
       have hG9 := Lib.hid (HG5.out.mod HM9.out (by rintro k hk (e | e) <;> omega))
       have hsb9 : sb < W9.heap.size := by have := HM9.out.size; omega
       have Hs9 := Lib.hid hs9
       have HR9 := Lib.hid hR9
       have Ha9 := Lib.hid ha9
       clear ha8 hR8 hm8 hm9 hR9 hs9 ha9 h8 hsub ha9e hi8
       go_upto_region 12 with fail
       clear hW9 q6 f6
       
       have hv := s_value W9 rb sb s8 HR9.out hG9.out (by omega) hsb9 Hs9.out
       go_upto_region 15 with fail
       go_wp2_with fail
       refine hv.mono ?_
       rintro e wa ⟨rfl, hRa, hma⟩
       have haa := hma.blk Ha9.out (by omega)
       obtain ⟨va, sa, hea⟩ : ∃ va sa, valS s8 = (va, sa) := ⟨_, _, rfl⟩
       rw [hea] at hRa ⊢
       simp only at hRa
       have h := HF8.out
       simp only [callV, show ¬ ((2 : Int) = 4) by decide, show ¬ ((2 : Int) = 1 ∨ (2 : Int) = 3) by decide, if_false, hea] at h
       have HFa := Lib.hid h
       have HRa := Lib.hid hRa
       have HMa := Lib.hid (HM9.out.trans hma (fun _ _ h => .inl h))
       obtain ⟨vk, vx, vt⟩ := va
       clear h hRa hma hea HF8
       simp only
       go_wp2_with (refine wpList_stR rfl 24 _ _ rfl 3 ab 10 [.int .i64 vk, .float .f64 vx, .string vt] rfl rfl str_val _ _ (AAct.cells { a9 with cmd := { a9.cmd with val := ⟨vk, vx, vt⟩ } } (.slice none 0 0)) haa rfl (by simp) (by simp [Value.oneCell']) rfl ?_; intro wb hab2 hmb hsb2)
       go_meet
       exact ⟨_, _, _, _, _, hab2, HRa.out.mod hmb (by omega) (by omega), HMa.out.trans hmb (fun _ _ h => .inr h), HFa.out wb⟩
     · have f0 := blk_free 0 Ha5.out
       have f5 := blk_free 5 Ha5.out
       have c5 : W5.cell? ⟨ab, 5, none⟩ = some (.int .i64 0) := blk_cell Ha5.out rfl
       obtain ⟨W6, hW6⟩ : ∃ W6, (W5.setCell ⟨ab, 0, none⟩ (.int .i64 10)).setCell ⟨ab, 5, none⟩ (.int .i64 3) = W6 := ⟨_, rfl⟩
       have ha6 : W6.heap[ab]? = some (.cells ((act10 3).cells (.slice none 0 0)).toArray 31 (0, 0)) := hW6 ▸ blk_set (blk_set Ha5.out 0 (.int .i64 10)) 5 (.int .i64 3)
       have hm6 : Mod (fun k => k = ab) W5 W6 := hW6 ▸ mod_same (mod_same (Mod.refl _ _) 0 (.int .i64 10)) 5 (.int .i64 3)
       have hR6 := HR5.out.mod hm6 (by omega) (by omega)
       have hG6 := HG5.out.mod hm6 (by intro k hk e; omega)
       have hi := s_intoA hR6 hG6 Hsz.out ha6 (by omega) (by omega) (by omega) (by omega) [2, 1] (by decide) (by decide) 58
       simp only [List.map_cons, List.map_nil, List.length_cons, List.length_nil] at hi
       have Hm6 := Lib.hid hm6
       clear hm6 hR6 hG6 ha6
       go_upto_region 10 with fail
       clear hW6 f0 f5 c5 c0
       go_upto_region 11 with (go_at_call 20; refine hi.mono ?_; rintro e w7 ⟨rfl, hR7, ha7, hm7⟩)
       have hsub := intoS_sub [2, 1] (act10 3) (ws, false)
       obtain ⟨a7, s7, h7⟩ : ∃ a7 s7, intoS [2, 1] (act10 3) (ws, false) = (a7, s7) := ⟨_, _, rfl⟩
       rw [h7] at hR7 ha7 hsub
       simp only at hR7 ha7 hsub
       have hF := fun w' => fin_call (b := b) (s := s) (w := w') (by rw [HrP.out, if_neg (by decide), if_pos (by decide)]) h7
       have HM7 : Hid (Mod (fun k => k = rb ∨ k = ab) W5 w7) := Lib.hid ((Hm6.out.mono (fun _ _ h => .inr h)).self hm7)
       have hs7 : ∀ x ∈ s7.1, x.size ≤ 100000 := fun x hx => Hsz.out x (hsub x hx)
       have hG7 := Lib.hid (HG5.out.mod HM7.out (by rintro k hk (e | e) <;> omega))
       have hi8 := s_key w7 rb sb s7 hR7 hs7
       have Ha7 := Lib.hid ha7
       have HF := Lib.hid hF
       have Hs7 := Lib.hid hs7
       clear hi hm7 hR7 ha7 h7 hF hs7 hsub
       go_wp2_with fail
       refine hi8.mono ?_
       rintro e w8 ⟨rfl, hR8, hm8⟩
       have ha8 := hm8.blk Ha7.out (by omega)
       have q6 : w8.cell? ⟨ab, 6, none⟩ = some (.string a7.cmd.key) := blk_cell ha8 rfl
       have f6 := blk_free 6 ha8
       obtain ⟨ky, s8, h8⟩ : ∃ ky s8, keyS s7 = (ky, s8) := ⟨_, _, rfl⟩
       have hsub := keyS_sub s7
       rw [h8] at hR8 hsub ⊢
       simp only at hR8 hsub
       have HF8 : Hid (∀ w', FinO b s w' (callV 3 { a7 with cmd := { a7.cmd with key := ky } } s8).1 (callV 3 { a7 with cmd := { a7.cmd with key := ky } } s8).2 (.slice none 0 0)) := Lib.hid (by have h := HF.out; rw [h8] at h; exact h)
       obtain ⟨W9, hW9⟩ : ∃ W9, w8.setCell ⟨ab, 6, none⟩ (.string ky) = W9 := ⟨_, rfl⟩
       obtain ⟨a9, ha9e⟩ : ∃ a9 : AAct, { a7 with cmd := { a7.cmd with key := ky } } = a9 := ⟨_, rfl⟩
       rw [ha9e] at HF8
       have ha9 : W9.heap[ab]? = some (.cells (a9.cells (.slice none 0 0)).toArray 31 (0, 0)) := ha9e ▸ hW9 ▸ blk_set ha8 6 (.string ky)
       have hm9 : Mod (fun k => k = ab) w8 W9 := hW9 ▸ mod_same (Mod.refl _ _) 6 (.string ky)
       have hR9 := hR8.mod hm9 (by omega) (by omega)
       have HM9 : Hid (Mod (fun k => k = rb ∨ k = ab) W5 W9) := Lib.hid ((HM7.out.trans hm8 (fun _ _ h => .inl h)).trans hm9 (fun _ _ h => .inr h))
       have hs9 : ∀ x ∈ s8.1, x.size ≤ 100000 := fun x hx => Hs7.out x (hsub x hx)
       have hG9 := Lib.hid (HG5.out.mod HM9.out (by rintro k hk (e | e) <;> omega))
       have hsb9 : sb < W9.heap.size := by have := HM9.out.size; omega
       have Hs9 := Lib.hid hs9
       have HR9 := Lib.hid hR9
       have Ha9 := Lib.hid ha9
       clear ha8 hR8 hm8 hm9 hR9 hs9 ha9 h8 hsub ha9e hi8
       go_upto_region 12 with fail
       clear hW9 q6 f6
       
       go_wp2
       go_meet
       refine ⟨a9, s8, _, _, _, Ha9.out, HR9.out, HM9.out, ?_⟩
       have h := HF8.out W9
       simp only [callV, show ¬ ((3 : Int) = 4) by decide, if_false, show ((3 : Int) = 1 ∨ (3 : Int) = 3) by decide, if_true] at h
       exact h
     · have f0 := blk_free 0 Ha5.out
       have f5 := blk_free 5 Ha5.out
       have c5 : W5.cell? ⟨ab, 5, none⟩ = some (.int .i64 0) := blk_cell Ha5.out rfl
       obtain ⟨W6, hW6⟩ : ∃ W6, (W5.setCell ⟨ab, 0, none⟩ (.int .i64 10)).setCell ⟨ab, 5, none⟩ (.int .i64 4) = W6 := ⟨_, rfl⟩
       have ha6 : W6.heap[ab]? = some (.cells ((act10 4).cells (.slice none 0 0)).toArray 31 (0, 0)) := hW6 ▸ blk_set (blk_set Ha5.out 0 (.int .i64 10)) 5 (.int .i64 4)
       have hm6 : Mod (fun k => k = ab) W5 W6 := hW6 ▸ mod_same (mod_same (Mod.refl _ _) 0 (.int .i64 10)) 5 (.int .i64 4)
       have hR6 := HR5.out.mod hm6 (by omega) (by omega)
       have hG6 := HG5.out.mod hm6 (by intro k hk e; omega)
       have hi := s_intoA hR6 hG6 Hsz.out ha6 (by omega) (by omega) (by omega) (by omega) [2, 1] (by decide) (by decide) 58
       simp only [List.map_cons, List.map_nil, List.length_cons, List.length_nil] at hi
       have Hm6 := Lib.hid hm6
       clear hm6 hR6 hG6 ha6
       go_upto_region 10 with fail
       clear hW6 f0 f5 c5 c0
       go_upto_region 11 with (go_at_call 20; refine hi.mono ?_; rintro e w7 ⟨rfl, hR7, ha7, hm7⟩)
       have hsub := intoS_sub [2, 1] (act10 4) (ws, false)
       obtain ⟨a7, s7, h7⟩ : ∃ a7 s7, intoS [2, 1] (act10 4) (ws, false) = (a7, s7) := ⟨_, _, rfl⟩
       rw [h7] at hR7 ha7 hsub
       simp only at hR7 ha7 hsub
       have hF := fun w' => fin_call (b := b) (s := s) (w := w') (by rw [HrP.out, if_neg (by decide), if_pos (by decide)]) h7
       have HM7 : Hid (Mod (fun k => k = rb ∨ k = ab) W5 w7) := Lib.hid ((Hm6.out.mono (fun _ _ h => .inr h)).self hm7)
       have hs7 : ∀ x ∈ s7.1, x.size ≤ 100000 := fun x hx => Hsz.out x (hsub x hx)
       have hG7 := Lib.hid (HG5.out.mod HM7.out (by rintro k hk (e | e) <;> omega))
       have hi8 := s_key w7 rb sb s7 hR7 hs7
       have Ha7 := Lib.hid ha7
       have HF := Lib.hid hF
       have Hs7 := Lib.hid hs7
       clear hi hm7 hR7 ha7 h7 hF hs7 hsub
       go_wp2_with fail
       refine hi8.mono ?_
       rintro e w8 ⟨rfl, hR8, hm8⟩
       have ha8 := hm8.blk Ha7.out (by omega)
       have q6 : w8.cell? ⟨ab, 6, none⟩ = some (.string a7.cmd.key) := blk_cell ha8 rfl
       have f6 := blk_free 6 ha8
       obtain ⟨ky, s8, h8⟩ : ∃ ky s8, keyS s7 = (ky, s8) := ⟨_, _, rfl⟩
       have hsub := keyS_sub s7
       rw [h8] at hR8 hsub ⊢
       simp only at hR8 hsub
       have HF8 : Hid (∀ w', FinO b s w' (callV 4 { a7 with cmd := { a7.cmd with key := ky } } s8).1 (callV 4 { a7 with cmd := { a7.cmd with key := ky } } s8).2 (.slice none 0 0)) := Lib.hid (by have h := HF.out; rw [h8] at h; exact h)
       obtain ⟨W9, hW9⟩ : ∃ W9, w8.setCell ⟨ab, 6, none⟩ (.string ky) = W9 := ⟨_, rfl⟩
       obtain ⟨a9, ha9e⟩ : ∃ a9 : AAct, { a7 with cmd := { a7.cmd with key := ky } } = a9 := ⟨_, rfl⟩
       rw [ha9e] at HF8
       have ha9 : W9.heap[ab]? = some (.cells (a9.cells (.slice none 0 0)).toArray 31 (0, 0)) := ha9e ▸ hW9 ▸ blk_set ha8 6 (.string ky)
       have hm9 : Mod (fun k => k = ab) w8 W9 := hW9 ▸ mod_same (Mod.refl _ _) 6 (.string ky)
       have hR9 := hR8.mod hm9 (by omega) (by omega)
       have HM9 : Hid (Mod (fun k => k = rb ∨ k = ab) W5 W9) := Lib.hid ((HM7.out.trans hm8 (fun _ _ h => .inl h)).trans hm9 (fun _ _ h => .inr h))
       have hs9 : ∀ x ∈ s8.1, x.size ≤ 100000 := fun x hx => Hs7.out x (hsub x hx)
       have hG9 := Lib.hid (HG5.out.mod HM9.out (by rintro k hk (e | e) <;> omega))
       have hsb9 : sb < W9.heap.size := by have := HM9.out.size; omega
       have Hs9 := Lib.hid hs9
       have HR9 := Lib.hid hR9
       have Ha9 := Lib.hid ha9
       clear ha8 hR8 hm8 hm9 hR9 hs9 ha9 h8 hsub ha9e hi8
       go_upto_region 12 with fail
       clear hW9 q6 f6
       
       have hv := s_value W9 rb sb s8 HR9.out hG9.out (by omega) hsb9 Hs9.out
       go_upto_region 13 with fail
       go_wp2_with fail
       refine hv.mono ?_
       rintro e wa ⟨rfl, hRa, hma⟩
       have haa := hma.blk Ha9.out (by omega)
       have hsub := valS_sub s8
       obtain ⟨va, sa, hea⟩ : ∃ va sa, valS s8 = (va, sa) := ⟨_, _, rfl⟩
       rw [hea] at hRa hsub ⊢
       simp only at hRa hsub
       have h := HF8.out
       simp only [callV, if_true, hea] at h
       have HFa := Lib.hid h
       have HRa := Lib.hid hRa
       have HMa := Lib.hid (HM9.out.trans hma (fun _ _ h => .inl h))
       have Hsa : Hid (∀ x ∈ sa.1, x.size ≤ 100000) := Lib.hid (fun x hx => Hs9.out x (hsub x hx))
       obtain ⟨vk, vx, vt⟩ := va
       clear h hRa hma hea HF8 hsub
       simp only
       go_upto_region 14 with (refine wpList_stR rfl 24 _ _ rfl 3 ab 7 [.int .i64 vk, .float .f64 vx, .string vt] rfl rfl str_val _ _ (AAct.cells { a9 with cmd := { a9.cmd with old := ⟨vk, vx, vt⟩ } } (.slice none 0 0)) haa rfl (by simp) (by simp [Value.oneCell']) rfl ?_; intro wb hab2 hmb hsb2)
       have HRb := Lib.hid (HRa.out.mod hmb (by omega) (by omega))
       have HMb := Lib.hid (HMa.out.trans hmb (fun _ _ h => .inr h))
       have hGb := Lib.hid (HG5.out.mod HMb.out (by rintro k hk (e | e) <;> omega))
       have hv2 := s_value wb rb sb sa HRb.out hGb.out (by omega) (by have := HMb.out.size; omega) Hsa.out
       clear hmb hsb2 haa
       go_upto_region 15 with fail
       go_wp2_with fail
       refine hv2.mono ?_
       rintro e wd ⟨rfl, hRd, hmd⟩
       have had := hmd.blk hab2 (by omega)
       obtain ⟨vd, sd, hed⟩ : ∃ vd sd, valS sa = (vd, sd) := ⟨_, _, rfl⟩
       rw [hed] at hRd ⊢
       simp only at hRd
       have h := HFa.out
       simp only [hed] at h
       have HFd := Lib.hid h
       have HRd := Lib.hid hRd
       have HMd := Lib.hid (HMb.out.trans hmd (fun _ _ h => .inl h))
       obtain ⟨vk2, vx2, vt2⟩ := vd
       clear h hRd hmd hed HFa
       simp only
       go_wp2_with (refine wpList_stR rfl 24 _ _ rfl 3 ab 10 [.int .i64 vk2, .float .f64 vx2, .string vt2] rfl rfl str_val _ _ (AAct.cells { a9 with cmd := { a9.cmd with old := ⟨vk, vx, vt⟩, val := ⟨vk2, vx2, vt2⟩ } } (.slice none 0 0)) had rfl (by simp) (by simp [Value.oneCell']) rfl ?_; intro we hae hme hse)
       go_meet
       exact ⟨_, _, _, _, _, hae, HRd.out.mod hme (by omega) (by omega), HMd.out.trans hme (fun _ _ h => .inr h), HFd.out we⟩
     · have f0 := blk_free 0 Ha5.out
       have f5 := blk_free 5 Ha5.out
       have c5 : W5.cell? ⟨ab, 5, none⟩ = some (.int .i64 0) := blk_cell Ha5.out rfl
       obtain ⟨W6, hW6⟩ : ∃ W6, (W5.setCell ⟨ab, 0, none⟩ (.int .i64 10)).setCell ⟨ab, 5, none⟩ (.int .i64 5) = W6 := ⟨_, rfl⟩
       have ha6 : W6.heap[ab]? = some (.cells ((act10 5).cells (.slice none 0 0)).toArray 31 (0, 0)) := hW6 ▸ blk_set (blk_set Ha5.out 0 (.int .i64 10)) 5 (.int .i64 5)
       have hm6 : Mod (fun k => k = ab) W5 W6 := hW6 ▸ mod_same (mod_same (Mod.refl _ _) 0 (.int .i64 10)) 5 (.int .i64 5)
       have hR6 := HR5.out.mod hm6 (by omega) (by omega)
       have hG6 := HG5.out.mod hm6 (by intro k hk e; omega)
       have hi := s_intoA hR6 hG6 Hsz.out ha6 (by omega) (by omega) (by omega) (by omega) [2, 1] (by decide) (by decide) 58
       simp only [List.map_cons, List.map_nil, List.length_cons, List.length_nil] at hi
       have Hm6 := Lib.hid hm6
       clear hm6 hR6 hG6 ha6
       go_upto_region 10 with fail
       clear hW6 f0 f5 c5 c0
       go_upto_region 11 with (go_at_call 20; refine hi.mono ?_; rintro e w7 ⟨rfl, hR7, ha7, hm7⟩)
       have hsub := intoS_sub [2, 1] (act10 5) (ws, false)
       obtain ⟨a7, s7, h7⟩ : ∃ a7 s7, intoS [2, 1] (act10 5) (ws, false) = (a7, s7) := ⟨_, _, rfl⟩
       rw [h7] at hR7 ha7 hsub
       simp only at hR7 ha7 hsub
       have hF := fun w' => fin_call (b := b) (s := s) (w := w') (by rw [HrP.out, if_neg (by decide), if_pos (by decide)]) h7
       have HM7 : Hid (Mod (fun k => k = rb ∨ k = ab) W5 w7) := Lib.hid ((Hm6.out.mono (fun _ _ h => .inr h)).self hm7)
       have hs7 : ∀ x ∈ s7.1, x.size ≤ 100000 := fun x hx => Hsz.out x (hsub x hx)
       have hG7 := Lib.hid (HG5.out.mod HM7.out (by rintro k hk (e | e) <;> omega))
       have hi8 := s_key w7 rb sb s7 hR7 hs7
       have Ha7 := Lib.hid ha7
       have HF := Lib.hid hF
       have Hs7 := Lib.hid hs7
       clear hi hm7 hR7 ha7 h7 hF hs7 hsub
       go_wp2_with fail
       refine hi8.mono ?_
       rintro e w8 ⟨rfl, hR8, hm8⟩
       have ha8 := hm8.blk Ha7.out (by omega)
       have q6 : w8.cell? ⟨ab, 6, none⟩ = some (.string a7.cmd.key) := blk_cell ha8 rfl
       have f6 := blk_free 6 ha8
       obtain ⟨ky, s8, h8⟩ : ∃ ky s8, keyS s7 = (ky, s8) := ⟨_, _, rfl⟩
       have hsub := keyS_sub s7
       rw [h8] at hR8 hsub ⊢
       simp only at hR8 hsub
       have HF8 : Hid (∀ w', FinO b s w' (callV 5 { a7 with cmd := { a7.cmd with key := ky } } s8).1 (callV 5 { a7 with cmd := { a7.cmd with key := ky } } s8).2 (.slice none 0 0)) := Lib.hid (by have h := HF.out; rw [h8] at h; exact h)
       obtain ⟨W9, hW9⟩ : ∃ W9, w8.setCell ⟨ab, 6, none⟩ (.string ky) = W9 := ⟨_, rfl⟩
       obtain ⟨a9, ha9e⟩ : ∃ a9 : AAct, { a7 with cmd := { a7.cmd with key := ky } } = a9 := ⟨_, rfl⟩
       rw [ha9e] at HF8
       have ha9 : W9.heap[ab]? = some (.cells (a9.cells (.slice none 0 0)).toArray 31 (0, 0)) := ha9e ▸ hW9 ▸ blk_set ha8 6 (.string ky)
       have hm9 : Mod (fun k => k = ab) w8 W9 := hW9 ▸ mod_same (Mod.refl _ _) 6 (.string ky)
       have hR9 := hR8.mod hm9 (by omega) (by omega)
       have HM9 : Hid (Mod (fun k => k = rb ∨ k = ab) W5 W9) := Lib.hid ((HM7.out.trans hm8 (fun _ _ h => .inl h)).trans hm9 (fun _ _ h => .inr h))
       have hs9 : ∀ x ∈ s8.1, x.size ≤ 100000 := fun x hx => Hs7.out x (hsub x hx)
       have hG9 := Lib.hid (HG5.out.mod HM9.out (by rintro k hk (e | e) <;> omega))
       have hsb9 : sb < W9.heap.size := by have := HM9.out.size; omega
       have Hs9 := Lib.hid hs9
       have HR9 := Lib.hid hR9
       have Ha9 := Lib.hid ha9
       clear ha8 hR8 hm8 hm9 hR9 hs9 ha9 h8 hsub ha9e hi8
       go_upto_region 12 with fail
       clear hW9 q6 f6
       
       have hv := s_value W9 rb sb s8 HR9.out hG9.out (by omega) hsb9 Hs9.out
       go_upto_region 15 with fail
       go_wp2_with fail
       refine hv.mono ?_
       rintro e wa ⟨rfl, hRa, hma⟩
       have haa := hma.blk Ha9.out (by omega)
       obtain ⟨va, sa, hea⟩ : ∃ va sa, valS s8 = (va, sa) := ⟨_, _, rfl⟩
       rw [hea] at hRa ⊢
       simp only at hRa
       have h := HF8.out
       simp only [callV, show ¬ ((5 : Int) = 4) by decide, show ¬ ((5 : Int) = 1 ∨ (5 : Int) = 3) by decide, if_false, hea] at h
       have HFa := Lib.hid h
       have HRa := Lib.hid hRa
       have HMa := Lib.hid (HM9.out.trans hma (fun _ _ h => .inl h))
       obtain ⟨vk, vx, vt⟩ := va
       clear h hRa hma hea HF8
       simp only
       go_wp2_with (refine wpList_stR rfl 24 _ _ rfl 3 ab 10 [.int .i64 vk, .float .f64 vx, .string vt] rfl rfl str_val _ _ (AAct.cells { a9 with cmd := { a9.cmd with val := ⟨vk, vx, vt⟩ } } (.slice none 0 0)) haa rfl (by simp) (by simp [Value.oneCell']) rfl ?_; intro wb hab2 hmb hsb2)
       go_meet
       exact ⟨_, _, _, _, _, hab2, HRa.out.mod hmb (by omega) (by omega), HMa.out.trans hmb (fun _ _ h => .inr h), HFa.out wb⟩
     · have f0 := blk_free 0 Ha5.out
       have f5 := blk_free 5 Ha5.out
       have c5 : W5.cell? ⟨ab, 5, none⟩ = some (.int .i64 0) := blk_cell Ha5.out rfl
       obtain ⟨W6, hW6⟩ : ∃ W6, (W5.setCell ⟨ab, 0, none⟩ (.int .i64 10)).setCell ⟨ab, 5, none⟩ (.int .i64 6) = W6 := ⟨_, rfl⟩
       have ha6 : W6.heap[ab]? = some (.cells ((act10 6).cells (.slice none 0 0)).toArray 31 (0, 0)) := hW6 ▸ blk_set (blk_set Ha5.out 0 (.int .i64 10)) 5 (.int .i64 6)
       have hm6 : Mod (fun k => k = ab) W5 W6 := hW6 ▸ mod_same (mod_same (Mod.refl _ _) 0 (.int .i64 10)) 5 (.int .i64 6)
       have hR6 := HR5.out.mod hm6 (by omega) (by omega)
       have hG6 := HG5.out.mod hm6 (by intro k hk e; omega)
       have hi := s_intoA hR6 hG6 Hsz.out ha6 (by omega) (by omega) (by omega) (by omega) [2, 1] (by decide) (by decide) 58
       simp only [List.map_cons, List.map_nil, List.length_cons, List.length_nil] at hi
       have Hm6 := Lib.hid hm6
       clear hm6 hR6 hG6 ha6
       go_upto_region 10 with fail
       clear hW6 f0 f5 c5 c0
       go_upto_region 11 with (go_at_call 20; refine hi.mono ?_; rintro e w7 ⟨rfl, hR7, ha7, hm7⟩)
       have hsub := intoS_sub [2, 1] (act10 6) (ws, false)
       obtain ⟨a7, s7, h7⟩ : ∃ a7 s7, intoS [2, 1] (act10 6) (ws, false) = (a7, s7) := ⟨_, _, rfl⟩
       rw [h7] at hR7 ha7 hsub
       simp only at hR7 ha7 hsub
       have hF := fun w' => fin_call (b := b) (s := s) (w := w') (by rw [HrP.out, if_neg (by decide), if_pos (by decide)]) h7
       have HM7 : Hid (Mod (fun k => k = rb ∨ k = ab) W5 w7) := Lib.hid ((Hm6.out.mono (fun _ _ h => .inr h)).self hm7)
       have hs7 : ∀ x ∈ s7.1, x.size ≤ 100000 := fun x hx => Hsz.out x (hsub x hx)
       have hG7 := Lib.hid (HG5.out.mod HM7.out (by rintro k hk (e | e) <;> omega))
       have hi8 := s_key w7 rb sb s7 hR7 hs7
       have Ha7 := Lib.hid ha7
       have HF := Lib.hid hF
       have Hs7 := Lib.hid hs7
       clear hi hm7 hR7 ha7 h7 hF hs7 hsub
       go_wp2_with fail
       refine hi8.mono ?_
       rintro e w8 ⟨rfl, hR8, hm8⟩
       have ha8 := hm8.blk Ha7.out (by omega)
       have q6 : w8.cell? ⟨ab, 6, none⟩ = some (.string a7.cmd.key) := blk_cell ha8 rfl
       have f6 := blk_free 6 ha8
       obtain ⟨ky, s8, h8⟩ : ∃ ky s8, keyS s7 = (ky, s8) := ⟨_, _, rfl⟩
       have hsub := keyS_sub s7
       rw [h8] at hR8 hsub ⊢
       simp only at hR8 hsub
       have HF8 : Hid (∀ w', FinO b s w' (callV 6 { a7 with cmd := { a7.cmd with key := ky } } s8).1 (callV 6 { a7 with cmd := { a7.cmd with key := ky } } s8).2 (.slice none 0 0)) := Lib.hid (by have h := HF.out; rw [h8] at h; exact h)
       obtain ⟨W9, hW9⟩ : ∃ W9, w8.setCell ⟨ab, 6, none⟩ (.string ky) = W9 := ⟨_, rfl⟩
       obtain ⟨a9, ha9e⟩ : ∃ a9 : AAct, { a7 with cmd := { a7.cmd with key := ky } } = a9 := ⟨_, rfl⟩
       rw [ha9e] at HF8
       have ha9 : W9.heap[ab]? = some (.cells (a9.cells (.slice none 0 0)).toArray 31 (0, 0)) := ha9e ▸ hW9 ▸ blk_set ha8 6 (.string ky)
       have hm9 : Mod (fun k => k = ab) w8 W9 := hW9 ▸ mod_same (Mod.refl _ _) 6 (.string ky)
       have hR9 := hR8.mod hm9 (by omega) (by omega)
       have HM9 : Hid (Mod (fun k => k = rb ∨ k = ab) W5 W9) := Lib.hid ((HM7.out.trans hm8 (fun _ _ h => .inl h)).trans hm9 (fun _ _ h => .inr h))
       have hs9 : ∀ x ∈ s8.1, x.size ≤ 100000 := fun x hx => Hs7.out x (hsub x hx)
       have hG9 := Lib.hid (HG5.out.mod HM9.out (by rintro k hk (e | e) <;> omega))
       have hsb9 : sb < W9.heap.size := by have := HM9.out.size; omega
       have Hs9 := Lib.hid hs9
       have HR9 := Lib.hid hR9
       have Ha9 := Lib.hid ha9
       clear ha8 hR8 hm8 hm9 hR9 hs9 ha9 h8 hsub ha9e hi8
       go_upto_region 12 with fail
       clear hW9 q6 f6
       
       have hv := s_value W9 rb sb s8 HR9.out hG9.out (by omega) hsb9 Hs9.out
       go_upto_region 15 with fail
       go_wp2_with fail
       refine hv.mono ?_
       rintro e wa ⟨rfl, hRa, hma⟩
       have haa := hma.blk Ha9.out (by omega)
       obtain ⟨va, sa, hea⟩ : ∃ va sa, valS s8 = (va, sa) := ⟨_, _, rfl⟩
       rw [hea] at hRa ⊢
       simp only at hRa
       have h := HF8.out
       simp only [callV, show ¬ ((6 : Int) = 4) by decide, show ¬ ((6 : Int) = 1 ∨ (6 : Int) = 3) by decide, if_false, hea] at h
       have HFa := Lib.hid h
       have HRa := Lib.hid hRa
       have HMa := Lib.hid (HM9.out.trans hma (fun _ _ h => .inl h))
       obtain ⟨vk, vx, vt⟩ := va
       clear h hRa hma hea HF8
       simp only
       go_wp2_with (refine wpList_stR rfl 24 _ _ rfl 3 ab 10 [.int .i64 vk, .float .f64 vx, .string vt] rfl rfl str_val _ _ (AAct.cells { a9 with cmd := { a9.cmd with val := ⟨vk, vx, vt⟩ } } (.slice none 0 0)) haa rfl (by simp) (by simp [Value.oneCell']) rfl ?_; intro wb hab2 hmb hsb2)
       go_meet
       exact ⟨_, _, _, _, _, hab2, HRa.out.mod hmb (by omega) (by omega), HMa.out.trans hmb (fun _ _ h => .inr h), HFa.out wb⟩
   rotate_left 5
   · have hi := s_act6 (a := { AAct.zero with kind := 6 }) rfl HR5.out Hsz.out Ha5.out (by omega) (by omega)
     go_wp2_with (go_at_call 19; refine hi.mono ?_; rintro e w6 ⟨A, m, c, rfl, hR6, ha6, hm6, hB6⟩)
     go_meet
     obtain ⟨bs, hF⟩ := fin_raw (b := b) (s := s) (w := w6) (ws := ws) (v := .slice A m c) (by rw [HrP.out, if_pos (by decide)]) (fun b' hb' => (hB6 b' hb').mono fun g hg => by omega)
     exact ⟨{ AAct.zero with kind := 6, bytes := bs }, _, _, _, _, ha6, hR6, hm6, hF⟩
   rotate_right 5
   · have hi := s_act1 (a := { AAct.zero with kind := 1 }) rfl HR5.out HG5.out Hsz.out Ha5.out (by omega) (by omega) (by omega) (by omega)
     go_wp2_with (go_at_call 19; refine hi.mono ?_; rintro e w6 ⟨rfl, hR6, ha6, hm6⟩)
     go_meet
     exact ⟨_, _, _, _, _, ha6, hR6, hm6, fin_other (by rw [HrP.out, if_pos (by decide)]) (by decide)⟩
   · have hi := s_act2 (a := { AAct.zero with kind := 2 }) rfl HR5.out HG5.out Hsz.out Ha5.out (by omega) (by omega) (by omega) (by omega)
     go_wp2_with (go_at_call 19; refine hi.mono ?_; rintro e w6 ⟨rfl, hR6, ha6, hm6⟩)
     go_meet
     exact ⟨_, _, _, _, _, ha6, hR6, hm6, fin_other (by rw [HrP.out, if_pos (by decide)]) (by decide)⟩
   · have hi := s_act3 (a := { AAct.zero with kind := 3 }) rfl HR5.out HG5.out Hsz.out Ha5.out (by omega) (by omega) (by omega) (by omega)
     go_wp2_with (go_at_call 19; refine hi.mono ?_; rintro e w6 ⟨rfl, hR6, ha6, hm6⟩)
     go_meet
     exact ⟨_, _, _, _, _, ha6, hR6, hm6, fin_other (by rw [HrP.out, if_pos (by decide)]) (by decide)⟩
   · have hi := s_act4 (a := { AAct.zero with kind := 4 }) rfl HR5.out HG5.out Hsz.out Ha5.out (by omega) (by omega) (by omega) (by omega)
     go_wp2_with (go_at_call 19; refine hi.mono ?_; rintro e w6 ⟨rfl, hR6, ha6, hm6⟩)
     go_meet
     exact ⟨_, _, _, _, _, ha6, hR6, hm6, fin_other (by rw [HrP.out, if_pos (by decide)]) (by decide)⟩
   · have hi := s_act5 (a := { AAct.zero with kind := 5 }) rfl HR5.out HG5.out Hsz.out Ha5.out (by omega) (by omega) (by omega) (by omega)
     go_wp2_with (go_at_call 19; refine hi.mono ?_; rintro e w6 ⟨rfl, hR6, ha6, hm6⟩)
     go_meet
     exact ⟨_, _, _, _, _, ha6, hR6, hm6, fin_other (by rw [HrP.out, if_pos (by decide)]) (by decide)⟩
   · have hi := s_act7 (a := { AAct.zero with kind := 7 }) rfl HR5.out HG5.out Hsz.out Ha5.out (by omega) (by omega) (by omega) (by omega)
     go_wp2_with (go_at_call 19; refine hi.mono ?_; rintro e w6 ⟨rfl, hR6, ha6, hm6⟩)
     go_meet
     exact ⟨_, _, _, _, _, ha6, hR6, hm6, fin_other (by rw [HrP.out, if_pos (by decide)]) (by decide)⟩
   · have hi := s_act8 (a := { AAct.zero with kind := 8 }) rfl HR5.out HG5.out Hsz.out Ha5.out (by omega) (by omega) (by omega) (by omega)
     go_wp2_with (go_at_call 19; refine hi.mono ?_; rintro e w6 ⟨rfl, hR6, ha6, hm6⟩)
     go_meet
     exact ⟨_, _, _, _, _, ha6, hR6, hm6, fin_other (by rw [HrP.out, if_pos (by decide)]) (by decide)⟩
   · have hi := s_act9 (a := { AAct.zero with kind := 9 }) rfl HR5.out HG5.out Hsz.out Ha5.out (by omega) (by omega) (by omega) (by omega)
     go_wp2_with (go_at_call 19; refine hi.mono ?_; rintro e w6 ⟨rfl, hR6, ha6, hm6⟩)
     go_meet
     exact ⟨_, _, _, _, _, ha6, hR6, hm6, fin_other (by rw [HrP.out, if_pos (by decide)]) (by decide)⟩
   · have hi := s_act11 (a := { AAct.zero with kind := 11 }) rfl HR5.out HG5.out Hsz.out Ha5.out (by omega) (by omega) (by omega) (by omega)
     go_wp2_with (go_at_call 19; refine hi.mono ?_; rintro e w6 ⟨rfl, hR6, ha6, hm6⟩)
     go_meet
     exact ⟨_, _, _, _, _, ha6, hR6, hm6, fin_other (by rw [HrP.out, if_pos (by decide)]) (by decide)⟩
   · have hi := s_act12 (a := { AAct.zero with kind := 12 }) rfl HR5.out HG5.out Hsz.out Ha5.out (by omega) (by omega) (by omega) (by omega)
     go_wp2_with (go_at_call 19; refine hi.mono ?_; rintro e w6 ⟨rfl, hR6, ha6, hm6⟩)
     go_meet
     exact ⟨_, _, _, _, _, ha6, hR6, hm6, fin_other (by rw [HrP.out, if_pos (by decide)]) (by decide)⟩
   · have hi := s_act13 (a := { AAct.zero with kind := 13 }) rfl HR5.out HG5.out Hsz.out Ha5.out (by omega) (by omega) (by omega) (by omega)
     go_wp2_with (go_at_call 19; refine hi.mono ?_; rintro e w6 ⟨rfl, hR6, ha6, hm6⟩)
     go_meet
     exact ⟨_, _, _, _, _, ha6, hR6, hm6, fin_other (by rw [HrP.out, if_pos (by decide)]) (by decide)⟩
   · have hi := s_act14 (a := { AAct.zero with kind := 14 }) rfl HR5.out HG5.out Hsz.out Ha5.out (by omega) (by omega) (by omega) (by omega)
     go_wp2_with (go_at_call 19; refine hi.mono ?_; rintro e w6 ⟨rfl, hR6, ha6, hm6⟩)
     go_meet
     exact ⟨_, _, _, _, _, ha6, hR6, hm6, fin_other (by rw [HrP.out, if_pos (by decide)]) (by decide)⟩
  case rest =>
   obtain ⟨a, st, A, m, c, haa, hR, hM, hF⟩ := hcut
   have hb6 := hM.blk Hb5.out (by omega)
   have HEc : Hid (Mod (Since w.heap.size) w wc) := Lib.hid ((Ext.mod HE5.out (Since w.heap.size)).trans hM (fun k hk e => by unfold Since; omega))
   obtain ⟨l, f⟩ := st
   obtain ⟨h0, A2, c2, hrb6, hS⟩ := hR
   simp only at hrb6 hS
   obtain ⟨nl, hnl⟩ : ∃ nl, l.length = nl := ⟨_, rfl⟩
   rw [hnl] at hrb6
   have hrb6' : wc.heap[rb]? = some (.cells [.slice A2 nl c2, .bool f].toArray 51 (0, 0)) := hrb6
   have r0 : wc.cell? ⟨rb, 0, none⟩ = some (.slice A2 nl c2) := blk_cell hrb6' rfl
   have r1 : wc.cell? ⟨rb, 1, none⟩ = some (.bool f) := blk_cell hrb6' rfl
   have Haa := Lib.hid haa
   clear hM hrb6 hrb6' hS haa
   rcases f with _ | _
   · rcases nl with _ | nl
     · obtain rfl : l = [] := List.eq_nil_of_length_eq_zero hnl
       obtain ⟨hY, hB⟩ := hF.2 rfl rfl
       have HY := Lib.hid hY
       have HB := Lib.hid hB
       clear hF hY hB hnl
       go_wp2_with (first
         | (refine wpList_ld rfl 31 _ rfl (.pointer (some ⟨ab, 0, none⟩)) (.agg (a.cells (.slice A m c)).toArray) rfl (load_row (o := 0) str_act Haa.out rfl (fun j u hu => by rw [Nat.zero_add]; exact hu)) ?_)
         | (refine wpList_stR rfl 31 _ _ rfl 18 b 0 (a.cells (.slice A m c)) rfl rfl str_act _ _ (a.cells (.slice A m c)) hb6 rfl (by simp) (by simp [Value.oneCell']) rfl ?_; intro w8 hb8 hm8 hs8))
       exact bodyPost_ret (results_row2 rfl _ _ b 31 (a.cells (.slice A m c)) str_act rfl hb8 rfl) rfl ⟨A, m, c, by rw [HY.out]; rfl, by rw [HY.out]; exact (HB.out.mono (fun g hg => hg)).mod hm8 (fun g hg e => by omega) |>.mono (fun g hg => by omega), Mod.toExt (Mod.trans HEc.out hm8 (fun k hk e => by unfold Since; omega))⟩
     have HN := Lib.hid (hF.1 (.inr (by intro e; rw [show l = [] from e] at hnl; simp at hnl)))
     clear hF hnl
     go_wp2_with (refine wpList_stR rfl 31 _ _ rfl 18 b 0 (AAct.cells AAct.zero (.slice none 0 0)) rfl rfl str_act _ _ (AAct.cells AAct.zero (.slice none 0 0)) hb6 rfl (by simp) (by simp [Value.oneCell']) rfl ?_; intro w8 hb8 hm8 hs8)
     exact bodyPost_ret (results_row2 rfl _ _ b 31 (AAct.cells AAct.zero (.slice none 0 0)) str_act rfl hb8 rfl) rfl ⟨none, 0, 0, by rw [HN.out]; rfl, by rw [HN.out]; exact Sl.nil _ _ _, Mod.toExt (Mod.trans HEc.out hm8 (fun k hk e => by unfold Since; omega))⟩
   have HN := Lib.hid (hF.1 (.inl rfl))
   clear hF hnl
   go_wp2_with (refine wpList_stR rfl 31 _ _ rfl 18 b 0 (AAct.cells AAct.zero (.slice none 0 0)) rfl rfl str_act _ _ (AAct.cells AAct.zero (.slice none 0 0)) hb6 rfl (by simp) (by simp [Value.oneCell']) rfl ?_; intro w8 hb8 hm8 hs8)
   exact bodyPost_ret (results_row2 rfl _ _ b 31 (AAct.cells AAct.zero (.slice none 0 0)) str_act rfl hb8 rfl) rfl ⟨none, 0, 0, by rw [HN.out]; rfl, by rw [HN.out]; exact Sl.nil _ _ _, Mod.toExt (Mod.trans HEc.out hm8 (fun k hk e => by unfold Since; omega))⟩
end Go.Proofs.YtmebipnljkopgaaGreatDoor
