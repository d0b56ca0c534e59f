/-
 Layer 27 (script): values as words: value.Parse and the page's Parse: valP. Conditions: the text is no longer than 100000 bytes; the package variables are as start-up lays them (Glb).
-/
import Derived.Test.YtmebipnljkopgaaGreatDoorScrV
import Derived.Test.YtmebipnljkopgaaGreatDoorCopy
import Derived.Test.YtmebipnljkopgaaGreatDoorScrW
import Derived.Laws.ResultCell
namespace Go.Proofs.YtmebipnljkopgaaGreatDoor
set_option linter.unusedSimpArgs false
set_option linter.unusedVariables false
open Go.RowKit
theorem str_val : Str Tryz.prog 24 3 := ⟨⟨_, Tryz.underlying24⟩, by kernel_rfl⟩
theorem results_row2 {P : Program} {fn : Func} {p u : Tmp} {ty : TypeId} {k : Nat} (h : fn.results = #[.cell p ty, .tmp u]) (tmps : Array Value) (w : World) (g : Nat) (t : TypeId) (cs : List Value) (hs : Str P ty k)
    (hp : tmps.getD p undef = .pointer (some ⟨g, 0, none⟩)) (hg : w.heap[g]? = some (.cells cs.toArray t (0, 0))) (hc : cs.length = k) : (results fn tmps).run P w = .ok (.tuple #[.agg cs.toArray, tmps.getD u undef]) w := by
  have hl := load_row (P := P) (o := 0) (cs := cs) hs hg hc (fun j u hu => by rw [Nat.zero_add]; exact hu)
  have hv : (loadVar ty ⟨g, 0, none⟩).run P w = .ok (.agg cs.toArray) w := by simpa [Instr.loadAt, Instr.sureAddr] using hl
  rw [results_cell_tmp h]
  simp [hp, asAddr, hv, Result.andThen]
def ValOut (w : World) (s : ByteArray) (yes no : Value) (e : Ending) (w' : World) : Prop := (e = match valP s with
  | some v => .returned (.tuple #[.agg #[.int .i64 v.kind, .float .f64 v.num, .string v.text], yes])
  | none => .returned (.tuple #[.agg #[.int .i64 AVal.zero.kind, .float .f64 AVal.zero.num, .string AVal.zero.text], no])) ∧ Ext w w'
theorem heap_new (w : World) (o : Obj) : (w.alloc o).heap[w.heap.size]? = some o := by show (w.heap.push o)[w.heap.size]? = some o; simp
theorem heap_new2 (w : World) (o o' : Obj) : ((w.alloc o).alloc o').heap[w.heap.size]? = some o := by show ((w.heap.push o).push o')[w.heap.size]? = some o; simp [Array.getElem?_push]
theorem c_numbered (x : Nat) (n : Int) (w : World) : Calls Tryz.prog 75 #[.float .f64 x, .int .i64 n] w fun e w' => (e = if n = 0 then .returned (.tuple #[.agg #[.int .i64 1, .float .f64 x, .string ⟨#[]⟩], .int .i64 0]) else .returned (.tuple #[.agg #[.int .i64 AVal.zero.kind, .float .f64 AVal.zero.num, .string AVal.zero.text], .int .i64 n])) ∧ Ext w w' := by
 by_cases hn : n = 0
 · subst hn
   go_enter Tryz.func75, Tryz.ntmps75
   go_wp2
   exact bodyPost_ret (results_row2 rfl _ _ w.heap.size 24 [.int .i64 1, .float .f64 x, .string ⟨#[]⟩] str_val rfl (heap_new _ _) rfl) rfl ⟨rfl, (Mod.refl _ w).alloc _⟩
 rw [if_neg hn]
 go_enter Tryz.func75, Tryz.ntmps75
 go_wp2
 exact bodyPost_ret (results_row2 rfl _ _ w.heap.size 24 [.int .i64 AVal.zero.kind, .float .f64 AVal.zero.num, .string AVal.zero.text] str_val rfl (heap_new _ _) rfl) rfl ⟨rfl, (Mod.refl _ w).alloc _⟩
def hpB (s : ByteArray) (k : UInt8) : Bool := match bsOf s with
  | [] => false
  | c :: _ => c == k
theorem c_hp (s : ByteArray) (k : UInt8) (w : World) : Calls Tryz.prog 73 #[.string s, .string (bA [k])] w fun e w' => e = .returned (.bool (hpB s k)) ∧ w' = w := by
 have h := Tryz.strings_HasPrefix s (bA [k]) w
 have e : Lib.hasPrefix s.data.toList (bA [k]).data.toList = hpB s k := by
  unfold hpB
  show Lib.hasPrefix (bsOf s) [k] = _
  rcases bsOf s with _ | ⟨c, r⟩
  · simp [Lib.hasPrefix]
  · simp [Lib.hasPrefix, List.isPrefixOf, Bool.beq_comm]
 rw [e] at h
 exact h
theorem hp_eq {s : ByteArray} {c : UInt8} {r : List UInt8} (h : bsOf s = c :: r) (k : UInt8) : hpB s k = (c == k) := by unfold hpB; rw [h]
theorem hp_nil {s : ByteArray} (h : bsOf s = []) (k : UInt8) : hpB s k = false := by unfold hpB; rw [h]
theorem run_tl {s : ByteArray} {c : UInt8} {r : List UInt8} (h : bsOf s = c :: r) (W : World) : (Instr.slice 9 (.string s) (some (.int .i64 1)) none none).run Tryz.prog W = .ok (.string (bA r)) W := by
 have hsz : s.size = r.length + 1 := by have : s.size = (bsOf s).length := rfl; rw [this, h]; rfl
 rw [run_slice_string_from_if W _ s _ _ Tryz.underlying9, if_pos ⟨by omega, by omega⟩]
 have e : s.extract (1 : Int).toNat s.size = bA r := bsOf_inj ((bs_cut _ _ _).trans (by rw [h, bA_bs]; simp [hsz]))
 rw [e]
theorem valP_other {s : ByteArray} {c : UInt8} {r : List UInt8} (h : bsOf s = c :: r) (h0 : s ≠ bA [45]) (h1 : c ≠ 110) (h2 : c ≠ 116) : valP s = none := by
 unfold valP
 rw [if_neg (fun e => h0 (bsOf_inj (e.trans (bA_bs _).symm))), h]
 simp only [h1, h2, if_false]
theorem valP_n {s : ByteArray} {r : List UInt8} (h : bsOf s = 110 :: r) : valP s = (parseF (bA r)).map fun x => ⟨1, x, ⟨#[]⟩⟩ := by
 unfold valP
 rw [if_neg (by rw [h]; simp), h]
 simp
theorem valP_t {s : ByteArray} {r : List UInt8} (h : bsOf s = 116 :: r) : valP s = match unhexL r with
      | some t => if t.length ≤ 32 then some ⟨2, 0, bA t⟩ else none
      | none => none := by
 unfold valP
 rw [if_neg (by rw [h]; simp), h]
 simp only [show (116 : UInt8) ≠ 110 by decide, if_false, if_true]
 rfl
theorem valP_dash : valP (bA [45]) = some AVal.zero := by unfold valP; rw [bA_bs]; simp
theorem valP_empty {s : ByteArray} (h : bsOf s = []) : valP s = none := by unfold valP; rw [h]; simp
theorem chk_t (t : ByteArray) : chk ⟨2, 0, t⟩ = if 32 < t.size then 2 else 0 := by
 rw [chk2]; rw [if_pos (show sameNum 0 0 = true by kernel_rfl)]
set_option maxRecDepth 100000 in
set_option maxHeartbeats 1000000 in
theorem v_parse (s : ByteArray) (w : World) (hg : Glb w) (hs : s.size ≤ 100000) : Calls Tryz.prog 49 #[.string s] w (ValOut w s (.int .i64 0) (.int .i64 3)) := by
 obtain ⟨b, hb⟩ : ∃ b, w.heap.size = b := ⟨_, rfl⟩
 by_cases h45 : s = bA [45]
 · subst h45
   go_enter Tryz.func49, Tryz.ntmps49
   go_wp2
   exact bodyPost_ret (results_row2 rfl _ _ w.heap.size 24 [.int .i64 AVal.zero.kind, .float .f64 AVal.zero.num, .string AVal.zero.text] str_val (by rw [hb]; rfl) (heap_new2 _ _ _) rfl) rfl ⟨by rw [valP_dash]; rfl, ((Mod.refl _ w).alloc _).alloc _⟩
 have d45 : (s.toList == [45]) = false := by
  have := bs_ne h45
  rwa [show (bA [45]).toList = [45] by rw [ByteArray.toList_eq]] at this
 rcases hl : bsOf s with _ | ⟨c, r⟩
 · have c1 := c_hp s 110
   have c2 := c_hp s 116
   rw [hp_nil hl] at c1 c2
   have Hp := Lib.hid (valP_empty hl)
   clear hl
   go_enter Tryz.func49, Tryz.ntmps49
   go_wp2_with (first
     | (go_at_call 73; refine (c1 _).mono ?_; rintro e w1 ⟨rfl, rfl⟩)
     | (go_at_call 73; refine (c2 _).mono ?_; rintro e w1 ⟨rfl, rfl⟩))
   exact bodyPost_ret (results_row2 rfl _ _ w.heap.size 24 [.int .i64 AVal.zero.kind, .float .f64 AVal.zero.num, .string AVal.zero.text] str_val (by rw [hb]; rfl) (heap_new2 _ _ _) rfl) rfl ⟨by rw [Hp.out]; rfl, ((Mod.refl _ w).alloc _).alloc _⟩
 have hsz : s.size = r.length + 1 := by have : s.size = (bsOf s).length := rfl; rw [this, hl]; rfl
 have hrs : (bA r).size ≤ 100000 := by have : (bA r).size = r.length := by simp [bA, ByteArray.size]
                                       omega
 have c1 := c_hp s 110
 have c2 := c_hp s 116
 rw [hp_eq hl] at c1 c2
 have htl := fun W => run_tl hl W
 by_cases h110 : c = 110
 · subst h110
   rw [show ((110 : UInt8) == 110) = true by decide] at c1
   have Hp := Lib.hid (valP_n hl)
   clear hl c2 h45
   have hnp := fun W hW => n_parse (bA r) W hW hrs
   obtain ⟨q, hq⟩ : ∃ q, bA r = q := ⟨_, rfl⟩
   rw [hq] at hnp htl Hp
   have Hnp := Lib.hid hnp
   have Hg := Lib.hid hg
   clear hnp hg hq hrs
   go_enter Tryz.func49, Tryz.ntmps49
   go_wp2_with (go_at_call 73; refine (c1 _).mono ?_; rintro e w1 ⟨rfl, rfl⟩)
   obtain ⟨W2, hW2⟩ : ∃ W2, (w.alloc (.cells #[.int .i64 0, .float .f64 0, .string ⟨#[]⟩] 24)).alloc (.cells #[.int .i64 0, .float .f64 0, .string ⟨#[]⟩] 24) = W2 := ⟨_, rfl⟩
   have hE2 : Ext w W2 := hW2 ▸ (((Mod.refl _ w).alloc _).alloc _)
   have hb2 : W2.heap[b]? = some (.cells [.int .i64 AVal.zero.kind, .float .f64 AVal.zero.num, .string AVal.zero.text].toArray 24 (0, 0)) := hb ▸ hW2 ▸ heap_new2 _ _ _
   have hc2 : W2.heap[b + 1]? = some (.cells [.int .i64 AVal.zero.kind, .float .f64 AVal.zero.num, .string AVal.zero.text].toArray 24 (0, 0)) := by have := heap_new (w.alloc (.cells #[.int .i64 0, .float .f64 0, .string ⟨#[]⟩] 24)) (.cells #[.int .i64 0, .float .f64 0, .string ⟨#[]⟩] 24); rw [hW2] at this; rw [← show (w.alloc (.cells #[.int .i64 0, .float .f64 0, .string ⟨#[]⟩] 24)).heap.size = b + 1 by simp [hb]]; exact this
   rw [hW2]
   clear hW2
   refine (Hnp.out W2 (Hg.out.ext hE2)).mono ?_
   rintro e w3 ⟨he, hE3⟩
   have hb3 := hE3.blk hb2 id
   have hEw3 := hE2.ext hE3
   clear hE3 hc2
   rcases hpf : parseF q with _ | n
   · rw [hpf] at he Hp
     subst he
     have hcn := fun W => c_numbered 0 3 W
     rw [if_neg (by decide : ¬ (3 : Int) = 0)] at hcn
     go_wp2_with (first
       | (go_at_call 75; refine (hcn _).mono ?_; rintro e w4 ⟨rfl, hE4⟩; have hb4 := hE4.blk hb3 id; have hEw4 := hEw3.ext hE4)
       | (refine wpList_stR rfl 24 _ _ rfl 3 b 0 [.int .i64 AVal.zero.kind, .float .f64 AVal.zero.num, .string AVal.zero.text] rfl rfl str_val _ _ [.int .i64 AVal.zero.kind, .float .f64 AVal.zero.num, .string AVal.zero.text] hb4 rfl (by simp) (by simp [Value.oneCell']) rfl ?_; intro w5 hb5 hm5 hs5))
     exact bodyPost_ret (results_row2 rfl _ _ b 24 [.int .i64 AVal.zero.kind, .float .f64 AVal.zero.num, .string AVal.zero.text] str_val rfl hb5 rfl) rfl ⟨by rw [Hp.out]; rfl, Mod.toExt ((Ext.mod hEw4 (Since w.heap.size)).trans hm5 (fun k hk e => by unfold Since; omega))⟩
   rw [hpf] at he Hp
   subst he
   have hcn := fun W => c_numbered n 0 W
   rw [if_pos rfl] at hcn
   go_wp2_with (first
     | (go_at_call 75; refine (hcn _).mono ?_; rintro e w4 ⟨rfl, hE4⟩; have hb4 := hE4.blk hb3 id; have hEw4 := hEw3.ext hE4)
     | (refine wpList_stR rfl 24 _ _ rfl 3 b 0 [.int .i64 1, .float .f64 n, .string ⟨#[]⟩] rfl rfl str_val _ _ [.int .i64 1, .float .f64 n, .string ⟨#[]⟩] hb4 rfl (by simp) (by simp [Value.oneCell']) rfl ?_; intro w5 hb5 hm5 hs5))
   exact bodyPost_ret (results_row2 rfl _ _ b 24 [.int .i64 1, .float .f64 n, .string ⟨#[]⟩] str_val rfl hb5 rfl) rfl ⟨by rw [Hp.out]; rfl, Mod.toExt ((Ext.mod hEw4 (Since w.heap.size)).trans hm5 (fun k hk e => by unfold Since; omega))⟩
 rw [show (c == 110) = false by simp [h110]] at c1
 by_cases h116 : c = 116
 · subst h116
   rw [show ((116 : UInt8) == 116) = true by decide] at c2
   have Hp := Lib.hid (valP_t hl)
   clear hl h45
   have hvt := fun W => v_text (bA r) W hrs
   rw [bA_bs] at hvt
   obtain ⟨q, hq⟩ : ∃ q, bA r = q := ⟨_, rfl⟩
   rw [hq] at hvt htl
   clear hq hrs hg
   go_enter Tryz.func49, Tryz.ntmps49
   go_wp2_with (first
     | (go_at_call 73; refine (c1 _).mono ?_; rintro e w1 ⟨rfl, rfl⟩)
     | (go_at_call 73; refine (c2 _).mono ?_; rintro e w1 ⟨rfl, rfl⟩))
   obtain ⟨W2, hW2⟩ : ∃ W2, (w.alloc (.cells #[.int .i64 0, .float .f64 0, .string ⟨#[]⟩] 24)).alloc (.cells #[.int .i64 0, .float .f64 0, .string ⟨#[]⟩] 24) = W2 := ⟨_, rfl⟩
   have hE2 : Ext w W2 := hW2 ▸ (((Mod.refl _ w).alloc _).alloc _)
   have hb2 : W2.heap[b]? = some (.cells [.int .i64 AVal.zero.kind, .float .f64 AVal.zero.num, .string AVal.zero.text].toArray 24 (0, 0)) := hb ▸ hW2 ▸ heap_new2 _ _ _
   have hc2 : W2.heap[b + 1]? = some (.cells [.int .i64 AVal.zero.kind, .float .f64 AVal.zero.num, .string AVal.zero.text].toArray 24 (0, 0)) := by have := heap_new (w.alloc (.cells #[.int .i64 0, .float .f64 0, .string ⟨#[]⟩] 24)) (.cells #[.int .i64 0, .float .f64 0, .string ⟨#[]⟩] 24); rw [hW2] at this; rw [← show (w.alloc (.cells #[.int .i64 0, .float .f64 0, .string ⟨#[]⟩] 24)).heap.size = b + 1 by simp [hb]]; exact this
   rw [hW2]
   clear hW2
   refine (hvt W2).mono ?_
   rintro e w3 ⟨rfl, hE3⟩
   have hb3 := hE3.blk hb2 id
   have hc3 := hE3.blk hc2 id
   have hEw3 := hE2.ext hE3
   clear hE3 hb2 hc2
   rcases hu : unhexL r with _ | t
   · rw [hu] at Hp
     simp only [Option.getD_none, Option.isSome_none]
     go_wp2_with (first
       | (refine wpList_stR rfl 24 _ _ rfl 3 (b + 1) 0 [.int .i64 2, .float .f64 0, .string (bA [])] rfl rfl str_val _ _ [.int .i64 2, .float .f64 0, .string (bA [])] hc3 rfl (by simp) (by simp [Value.oneCell']) rfl ?_; intro w4 hc4 hm4 hs4; have hb4 := hm4.blk hb3 (by omega))
       | (refine wpList_stR rfl 24 _ _ rfl 3 b 0 [.int .i64 AVal.zero.kind, .float .f64 AVal.zero.num, .string AVal.zero.text] rfl rfl str_val _ _ [.int .i64 AVal.zero.kind, .float .f64 AVal.zero.num, .string AVal.zero.text] hb4 rfl (by simp) (by simp [Value.oneCell']) rfl ?_; intro w5 hb5 hm5 hs5))
     exact bodyPost_ret (results_row2 rfl _ _ b 24 [.int .i64 AVal.zero.kind, .float .f64 AVal.zero.num, .string AVal.zero.text] str_val rfl hb5 rfl) rfl ⟨by rw [Hp.out]; rfl, Mod.toExt (((Ext.mod hEw3 (Since w.heap.size)).trans hm4 (fun k hk e => by unfold Since; omega)).trans hm5 (fun k hk e => by unfold Since; omega))⟩
   rw [hu] at Hp
   simp only [Option.getD_some, Option.isSome_some]
   have htz : (bA t).size = t.length := by simp [bA, ByteArray.size]
   obtain ⟨z, hz⟩ : ∃ z, bA t = z := ⟨_, rfl⟩
   have hck : ∀ W, Calls Tryz.prog 77 #[.agg #[.int .i64 2, .float .f64 0, .string z]] W fun e w' => e = .returned (.int .i64 (if 32 < t.length then 2 else 0)) ∧ Ext W w' := by
    intro W
    have h := v_check ⟨2, 0, bA t⟩ W
    rw [chk_t, htz, hz] at h
    exact h
   simp only [hz] at Hp
   rw [hz]
   clear htz hz
   go_upto_region 10 with (refine wpList_stR rfl 24 _ _ rfl 3 (b + 1) 0 [.int .i64 2, .float .f64 0, .string z] rfl rfl str_val _ _ [.int .i64 2, .float .f64 0, .string z] hc3 rfl (by simp) (by simp [Value.oneCell']) rfl ?_; intro w4 hc4 hm4 hs4)
   have hb4 := hm4.blk hb3 (by omega)
   have hM4 := (Ext.mod hEw3 (Since w.heap.size)).trans hm4 (fun k hk e => by unfold Since; omega)
   have k0 : w4.cell? ⟨b + 1, 0, none⟩ = some (.int .i64 2) := blk_cell hc4 rfl
   have k1 : w4.cell? ⟨b + 1, 1, none⟩ = some (.float .f64 0) := blk_cell hc4 rfl
   have k2 : w4.cell? ⟨b + 1, 2, none⟩ = some (.string z) := blk_cell hc4 rfl
   clear hm4 hb3 hc3 hEw3
   by_cases ht : t.length ≤ 32
   · simp only [if_pos ht] at Hp
     rw [if_neg (by omega)] at hck
     have HM4 := Lib.hid hM4
     clear hM4
     go_upto_region 11 with (go_at_call 77; refine (hck _).mono ?_; rintro e w5 ⟨rfl, hE5⟩)
     have hb5 := hE5.blk hb4 id
     have hc5 := hE5.blk hc4 id
     have HM5 := Lib.hid (HM4.out.trans hE5 (fun _ _ h => h.elim))
     clear hb4 hc4 hE5
     have k0 : w5.cell? ⟨b + 1, 0, none⟩ = some (.int .i64 2) := blk_cell hc5 rfl
     have k1 : w5.cell? ⟨b + 1, 1, none⟩ = some (.float .f64 0) := blk_cell hc5 rfl
     have k2 : w5.cell? ⟨b + 1, 2, none⟩ = some (.string z) := blk_cell hc5 rfl
     go_wp2_with (refine wpList_stR rfl 24 _ _ rfl 3 b 0 [.int .i64 2, .float .f64 0, .string z] rfl rfl str_val _ _ [.int .i64 2, .float .f64 0, .string z] hb5 rfl (by simp) (by simp [Value.oneCell']) rfl ?_; intro w6 hb6 hm6 hs6)
     exact bodyPost_ret (results_row2 rfl _ _ b 24 [.int .i64 2, .float .f64 0, .string z] str_val rfl hb6 rfl) rfl ⟨by rw [Hp.out]; rfl, Mod.toExt (HM5.out.trans hm6 (fun k hk e => by unfold Since; omega))⟩
   simp only [if_neg ht] at Hp
   rw [if_pos (by omega)] at hck
   have HM4 := Lib.hid hM4
   clear hM4
   go_upto_region 12 with (go_at_call 77; refine (hck _).mono ?_; rintro e w5 ⟨rfl, hE5⟩)
   have hb5 := hE5.blk hb4 id
   have HM5 := Lib.hid (HM4.out.trans hE5 (fun _ _ h => h.elim))
   clear hb4 hc4 hE5
   go_wp2_with (refine wpList_stR rfl 24 _ _ rfl 3 b 0 [.int .i64 AVal.zero.kind, .float .f64 AVal.zero.num, .string AVal.zero.text] rfl rfl str_val _ _ [.int .i64 AVal.zero.kind, .float .f64 AVal.zero.num, .string AVal.zero.text] hb5 rfl (by simp) (by simp [Value.oneCell']) rfl ?_; intro w6 hb6 hm6 hs6)
   exact bodyPost_ret (results_row2 rfl _ _ b 24 [.int .i64 AVal.zero.kind, .float .f64 AVal.zero.num, .string AVal.zero.text] str_val rfl hb6 rfl) rfl ⟨by rw [Hp.out]; rfl, Mod.toExt (HM5.out.trans hm6 (fun k hk e => by unfold Since; omega))⟩
 rw [show (c == 116) = false by simp [h116]] at c2
 have Hp := Lib.hid (valP_other hl h45 h110 h116)
 clear hl hrs htl
 go_enter Tryz.func49, Tryz.ntmps49
 go_wp2_with (first
   | (go_at_call 73; refine (c1 _).mono ?_; rintro e w1 ⟨rfl, rfl⟩)
   | (go_at_call 73; refine (c2 _).mono ?_; rintro e w1 ⟨rfl, rfl⟩))
 exact bodyPost_ret (results_row2 rfl _ _ w.heap.size 24 [.int .i64 AVal.zero.kind, .float .f64 AVal.zero.num, .string AVal.zero.text] str_val (by rw [hb]; rfl) (heap_new2 _ _ _) rfl) rfl ⟨by rw [Hp.out]; rfl, ((Mod.refl _ w).alloc _).alloc _⟩
theorem run_hd {s : ByteArray} {c : UInt8} {r : List UInt8} (h : bsOf s = c :: r) (W : World) : (Instr.index 9 (.string s) (.int .i64 0)).run Tryz.prog W = .ok (.int .u8 (c.toNat : Int)) W :=
 run_ix (i := 0) h rfl .i64 W
set_option maxRecDepth 100000 in
set_option maxHeartbeats 1000000 in
theorem r_vparse (s : ByteArray) (w : World) (hg : Glb w) (hs : s.size ≤ 100000) : Calls Tryz.prog 53 #[.string s] w (ValOut w s (.bool true) (.bool false)) := by
 obtain ⟨b, hb⟩ : ∃ b, w.heap.size = b := ⟨_, rfl⟩
 by_cases h45 : s = bA [45]
 · subst h45
   go_enter Tryz.func53, Tryz.ntmps53
   go_wp2
   exact bodyPost_ret (results_row2 rfl _ _ w.heap.size 24 [.int .i64 AVal.zero.kind, .float .f64 AVal.zero.num, .string AVal.zero.text] str_val (by rw [hb]; rfl) (heap_new _ _) rfl) rfl ⟨by rw [valP_dash]; rfl, (Mod.refl _ w).alloc _⟩
 have d45 : (s.toList == [45]) = false := by
  have := bs_ne h45
  rwa [show (bA [45]).toList = [45] by rw [ByteArray.toList_eq]] at this
 rcases hl : bsOf s with _ | ⟨c, r⟩
 · have Hp := Lib.hid (valP_empty hl)
   obtain rfl : s = ⟨#[]⟩ := bsOf_inj hl
   clear hl
   go_enter Tryz.func53, Tryz.ntmps53
   go_wp2
   exact bodyPost_ret (results_row2 rfl _ _ w.heap.size 24 [.int .i64 AVal.zero.kind, .float .f64 AVal.zero.num, .string AVal.zero.text] str_val (by rw [hb]; rfl) (heap_new _ _) rfl) rfl ⟨by rw [Hp.out]; rfl, (Mod.refl _ w).alloc _⟩
 have hsz : s.size = r.length + 1 := by have : s.size = (bsOf s).length := rfl; rw [this, hl]; rfl
 have hrz : (bA r).size = r.length := by simp [bA, ByteArray.size]
 have hrs : (bA r).size ≤ 100000 := by omega
 have hlen : ¬ ((s.size : Int) < 1) := by omega
 have htl := fun W => run_tl hl W
 have hhd := fun W => run_hd hl W
 by_cases h110 : c = 110
 · subst h110
   have hhd' : ∀ W, (Instr.index 9 (.string s) (.int .i64 0)).run Tryz.prog W = .ok (.int .u8 110) W := hhd
   have Hp := Lib.hid (valP_n hl)
   clear hl h45 hhd hsz hrz
   have hnp := fun W hW => r_parse (bA r) W hW hrs
   obtain ⟨q, hq⟩ : ∃ q, bA r = q := ⟨_, rfl⟩
   rw [hq] at hnp htl Hp
   have Hnp := Lib.hid hnp
   have Hg := Lib.hid hg
   clear hnp hg hq hrs
   go_enter Tryz.func53, Tryz.ntmps53
   go_wp2_with fail
   obtain ⟨W2, hW2⟩ : ∃ W2, w.alloc (.cells #[.int .i64 0, .float .f64 0, .string ⟨#[]⟩] 24) = W2 := ⟨_, rfl⟩
   have hE2 : Ext w W2 := hW2 ▸ ((Mod.refl _ w).alloc _)
   have hb2 : W2.heap[b]? = some (.cells [.int .i64 AVal.zero.kind, .float .f64 AVal.zero.num, .string AVal.zero.text].toArray 24 (0, 0)) := hb ▸ hW2 ▸ heap_new _ _
   rw [hW2]
   clear hW2
   refine (Hnp.out W2 (Hg.out.ext hE2)).mono ?_
   rintro e w3 ⟨he, hE3⟩
   have hb3 := hE3.blk hb2 id
   have hEw3 := hE2.ext hE3
   clear hE3
   rcases hpf : parseF q with _ | n
   · rw [hpf] at he Hp
     subst he
     go_wp2_with (refine wpList_stR rfl 24 _ _ rfl 3 b 0 [.int .i64 AVal.zero.kind, .float .f64 AVal.zero.num, .string AVal.zero.text] rfl rfl str_val _ _ [.int .i64 AVal.zero.kind, .float .f64 AVal.zero.num, .string AVal.zero.text] hb3 rfl (by simp) (by simp [Value.oneCell']) rfl ?_; intro w5 hb5 hm5 hs5)
     exact bodyPost_ret (results_row2 rfl _ _ b 24 [.int .i64 AVal.zero.kind, .float .f64 AVal.zero.num, .string AVal.zero.text] str_val rfl hb5 rfl) rfl ⟨by rw [Hp.out]; rfl, Mod.toExt ((Ext.mod hEw3 (Since w.heap.size)).trans hm5 (fun k hk e => by unfold Since; omega))⟩
   rw [hpf] at he Hp
   subst he
   go_wp2_with (refine wpList_stR rfl 24 _ _ rfl 3 b 0 [.int .i64 1, .float .f64 n, .string ⟨#[]⟩] rfl rfl str_val _ _ [.int .i64 1, .float .f64 n, .string ⟨#[]⟩] hb3 rfl (by simp) (by simp [Value.oneCell']) rfl ?_; intro w5 hb5 hm5 hs5)
   exact bodyPost_ret (results_row2 rfl _ _ b 24 [.int .i64 1, .float .f64 n, .string ⟨#[]⟩] str_val rfl hb5 rfl) rfl ⟨by rw [Hp.out]; rfl, Mod.toExt ((Ext.mod hEw3 (Since w.heap.size)).trans hm5 (fun k hk e => by unfold Since; omega))⟩
 obtain ⟨y, hy⟩ : ∃ y, c.toNat = y := ⟨_, rfl⟩
 rw [hy] at hhd
 have d110 : ((y : Int) == 110) = false := by
  have : y ≠ 110 := fun e => h110 (UInt8.toNat_inj.1 (by rw [hy, e]; rfl))
  simp; omega
 have hvt := fun W => r_unhex (bA r) W hrs
 rw [bA_bs] at hvt
 obtain ⟨q, hq⟩ : ∃ q, bA r = q := ⟨_, rfl⟩
 rw [hq] at hvt htl
 by_cases h116 : c = 116
 · subst h116
   obtain rfl : y = 116 := by rw [← hy]; rfl
   have Hp := Lib.hid (valP_t hl)
   clear hl h45 hq hrs hsz hrz hg hy
   go_enter Tryz.func53, Tryz.ntmps53
   go_wp2_with fail
   obtain ⟨W2, hW2⟩ : ∃ W2, w.alloc (.cells #[.int .i64 0, .float .f64 0, .string ⟨#[]⟩] 24) = W2 := ⟨_, rfl⟩
   have hE2 : Ext w W2 := hW2 ▸ ((Mod.refl _ w).alloc _)
   have hb2 : W2.heap[b]? = some (.cells [.int .i64 AVal.zero.kind, .float .f64 AVal.zero.num, .string AVal.zero.text].toArray 24 (0, 0)) := hb ▸ hW2 ▸ heap_new _ _
   rw [hW2]
   clear hW2
   refine (hvt W2).mono ?_
   rintro e w3 ⟨rfl, hE3⟩
   have hb3 := hE3.blk hb2 id
   have hEw3 := hE2.ext hE3
   clear hE3 hb2
   rcases hu : unhexL r with _ | t
   · rw [hu] at Hp
     simp only [Option.getD_none, Option.isSome_none]
     go_wp2_with (refine wpList_stR rfl 24 _ _ rfl 3 b 0 [.int .i64 AVal.zero.kind, .float .f64 AVal.zero.num, .string AVal.zero.text] rfl rfl str_val _ _ [.int .i64 AVal.zero.kind, .float .f64 AVal.zero.num, .string AVal.zero.text] hb3 rfl (by simp) (by simp [Value.oneCell']) rfl ?_; intro w5 hb5 hm5 hs5)
     exact bodyPost_ret (results_row2 rfl _ _ b 24 [.int .i64 AVal.zero.kind, .float .f64 AVal.zero.num, .string AVal.zero.text] str_val rfl hb5 rfl) rfl ⟨by rw [Hp.out]; rfl, Mod.toExt ((Ext.mod hEw3 (Since w.heap.size)).trans hm5 (fun k hk e => by unfold Since; omega))⟩
   rw [hu] at Hp
   simp only [Option.getD_some, Option.isSome_some]
   have htz : (bA t).size = t.length := by simp [bA, ByteArray.size]
   obtain ⟨z, hz⟩ : ∃ z, bA t = z := ⟨_, rfl⟩
   simp only [hz] at Hp
   rw [hz] at htz ⊢
   obtain ⟨n, hn⟩ : ∃ n, t.length = n := ⟨_, rfl⟩
   rw [hn] at htz
   simp only [hn] at Hp
   clear hz hu hn
   by_cases ht : n ≤ 32
   · simp only [if_pos ht] at Hp
     go_wp2_with (refine wpList_stR rfl 24 _ _ rfl 3 b 0 [.int .i64 2, .float .f64 0, .string z] rfl rfl str_val _ _ [.int .i64 2, .float .f64 0, .string z] hb3 rfl (by simp) (by simp [Value.oneCell']) rfl ?_; intro w6 hb6 hm6 hs6)
     exact bodyPost_ret (results_row2 rfl _ _ b 24 [.int .i64 2, .float .f64 0, .string z] str_val rfl hb6 rfl) rfl ⟨by rw [Hp.out]; rfl, Mod.toExt ((Ext.mod hEw3 (Since w.heap.size)).trans hm6 (fun k hk e => by unfold Since; omega))⟩
   simp only [if_neg ht] at Hp
   have ht2 : 32 < n := by omega
   go_wp2_with (refine wpList_stR rfl 24 _ _ rfl 3 b 0 [.int .i64 AVal.zero.kind, .float .f64 AVal.zero.num, .string AVal.zero.text] rfl rfl str_val _ _ [.int .i64 AVal.zero.kind, .float .f64 AVal.zero.num, .string AVal.zero.text] hb3 rfl (by simp) (by simp [Value.oneCell']) rfl ?_; intro w6 hb6 hm6 hs6)
   exact bodyPost_ret (results_row2 rfl _ _ b 24 [.int .i64 AVal.zero.kind, .float .f64 AVal.zero.num, .string AVal.zero.text] str_val rfl hb6 rfl) rfl ⟨by rw [Hp.out]; rfl, Mod.toExt ((Ext.mod hEw3 (Since w.heap.size)).trans hm6 (fun k hk e => by unfold Since; omega))⟩
 have d116 : ((y : Int) != 116) = true := by
  have : y ≠ 116 := fun e => h116 (UInt8.toNat_inj.1 (by rw [hy, e]; rfl))
  simp; omega
 have Hp := Lib.hid (valP_other hl h45 h110 h116)
 clear hl h45 hq hrs hsz hrz hg hy h110 h116
 go_enter Tryz.func53, Tryz.ntmps53
 go_wp2_with fail
 obtain ⟨W2, hW2⟩ : ∃ W2, w.alloc (.cells #[.int .i64 0, .float .f64 0, .string ⟨#[]⟩] 24) = W2 := ⟨_, rfl⟩
 have hE2 : Ext w W2 := hW2 ▸ ((Mod.refl _ w).alloc _)
 have hb2 : W2.heap[b]? = some (.cells [.int .i64 AVal.zero.kind, .float .f64 AVal.zero.num, .string AVal.zero.text].toArray 24 (0, 0)) := hb ▸ hW2 ▸ heap_new _ _
 rw [hW2]
 clear hW2
 refine (hvt W2).mono ?_
 rintro e w3 ⟨rfl, hE3⟩
 have hb3 := hE3.blk hb2 id
 have hEw3 := hE2.ext hE3
 clear hE3 hb2
 go_wp2_with (refine wpList_stR rfl 24 _ _ rfl 3 b 0 [.int .i64 AVal.zero.kind, .float .f64 AVal.zero.num, .string AVal.zero.text] rfl rfl str_val _ _ [.int .i64 AVal.zero.kind, .float .f64 AVal.zero.num, .string AVal.zero.text] hb3 rfl (by simp) (by simp [Value.oneCell']) rfl ?_; intro w5 hb5 hm5 hs5)
 exact bodyPost_ret (results_row2 rfl _ _ b 24 [.int .i64 AVal.zero.kind, .float .f64 AVal.zero.num, .string AVal.zero.text] str_val rfl hb5 rfl) rfl ⟨by rw [Hp.out]; rfl, Mod.toExt ((Ext.mod hEw3 (Since w.heap.size)).trans hm5 (fun k hk e => by unfold Since; omega))⟩
end Go.Proofs.YtmebipnljkopgaaGreatDoor
