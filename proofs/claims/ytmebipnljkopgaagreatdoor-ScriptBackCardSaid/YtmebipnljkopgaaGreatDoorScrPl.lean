/-
 Layer 27 (script): the page's Line: lineP. Conditions: the act is not heavy (ALt); the package variables are as start-up lays them (Glb).
-/
import Derived.Test.YtmebipnljkopgaaGreatDoorScrCk
import Derived.Test.YtmebipnljkopgaaGreatDoorScrLq
import Derived.Test.YtmebipnljkopgaaGreatDoorScrEg
namespace Go.Proofs.YtmebipnljkopgaaGreatDoor
set_option linter.unusedSimpArgs false
set_option linter.unusedVariables false
open Go.RowKit
theorem eqAct_comm (a b : AAct) : eqAct a b = eqAct b a := by
 have hv : ∀ x y : AVal, eqVal x y = eqVal y x := fun x y => by
  have h1 : sameF x.num y.num = sameF y.num x.num := by unfold sameF; rw [Bool.and_comm, Bool.beq_comm]
  have h2 : eqT x.text y.text = eqT y.text x.text := Bool.beq_comm
  unfold eqVal; rw [h1, h2, Bool.beq_comm]
 have h3 : eqT a.cmd.key b.cmd.key = eqT b.cmd.key a.cmd.key := Bool.beq_comm
 unfold eqAct eqCmd eqConf
 rw [hv, hv a.cmd.val, h3, @Bool.beq_comm _ _ _ a.kind, @Bool.beq_comm _ _ _ a.node, @Bool.beq_comm _ _ _ a.client, @Bool.beq_comm _ _ _ a.n, @Bool.beq_comm _ _ _ a.m, @Bool.beq_comm _ _ _ a.cmd.kind, @Bool.beq_comm _ _ _ a.conf.full, @Bool.beq_comm _ _ _ a.conf.wit, @Bool.beq_comm _ _ _ a.conf.learn, @Bool.beq_comm _ _ _ a.conf.learnWit, @Bool.beq_comm _ _ _ a.bytes]
theorem ALt.ok' {a : AAct} (h : ALt a) : ∀ x ∈ [a.node, a.client, a.n, a.m, a.conf.full, a.conf.wit, a.conf.learn, a.conf.learnWit], -9223372036854775808 ≤ x ∧ x ≤ 9223372036854775807 := by
 intro x hx
 simp only [List.mem_cons, List.not_mem_nil, or_false] at hx
 rcases hx with rfl | rfl | rfl | rfl | rfl | rfl | rfl | rfl
 · exact h.node
 · exact h.client
 · exact h.n
 · exact h.m
 all_goals exact h.conf _ (by simp)
/-- The words of one letter of a form. -/
def charW (a : AAct) (c : UInt8) : List (List UInt8) := if c = 105 then [Lib.itoa a.node] else if c = 99 then [Lib.itoa a.client] else if c = 110 then [Lib.itoa a.n] else if c = 109 then [Lib.itoa a.m] else if c = 102 then [Lib.itoa a.conf.full, Lib.itoa a.conf.wit, Lib.itoa a.conf.learn, Lib.itoa a.conf.learnWit] else [rawW a.bytes]
theorem wordsA_form (a : AAct) (j : Nat) (hj : j < 14) (h9 : j ≠ 9) (hk : a.kind = (j : Int) + 1) : wordsA a = bsOf (namesL.getD j ByteArray.empty) :: (bsOf (lettL.getD j ByteArray.empty)).flatMap (charW a) := by
 unfold wordsA
 rw [hk]
 rcases j with _ | _ | _ | _ | _ | _ | _ | _ | _ | _ | _ | _ | _ | _ | j
 all_goals first | omega | rfl
theorem line_step {m l : List UInt8} (a : AAct) {k : Nat} {c : UInt8} {ws : List (List UInt8)} (hc : l[k]? = some c) (hw : charW a c = ws) : bA (m ++ tailW ((l.take (k + 1)).flatMap (charW a))) = bA (bsOf (bA (m ++ tailW ((l.take k).flatMap (charW a)))) ++ tailW ws) := by
 rw [bA_bs, take_at hc, List.flatMap_append, tailW_app, List.flatMap_cons, List.flatMap_nil, List.append_nil, hw, List.append_assoc]
theorem lett_size (j : Nat) : (bsOf (lettL.getD j ByteArray.empty)).length ≤ 10 := by
 rcases j with _ | _ | _ | _ | _ | _ | _ | _ | _ | _ | _ | _ | _ | _ | j
 all_goals first | decide | (show (0 : Nat) ≤ 10; omega)
def LineOut (w : World) (a : AAct) (e : Ending) (w' : World) : Prop := e = .returned (.tuple #[.string ((lineP a).getD ⟨#[]⟩), .bool (lineP a).isSome]) ∧ Ext w w'
set_option maxRecDepth 100000 in
set_option maxHeartbeats 2000000 in
theorem r_line_none (a : AAct) (bv : Value) (w : World) (hg : Glb w) (hlt : ALt a) (hB : Byt w (fun g => g < w.heap.size) bv a.bytes) (hk : a.kind < 1 ∨ 14 < a.kind) :
  Calls Tryz.prog 13 #[.agg (a.cells bv).toArray] w (LineOut w a) := by
 have Hn : Hid (lineP a = none) := Lib.hid (line_none (by unfold wordsA; rw [if_neg (by omega), if_neg (by omega), if_neg (by omega), if_neg (by omega), if_neg (by omega), if_neg (by omega), if_neg (by omega), if_neg (by omega), if_neg (by omega), if_neg (by omega), if_neg (by omega), if_neg (by omega), if_neg (by omega), if_neg (by omega)]))
 obtain ⟨k, hkk⟩ : ∃ k, a.kind = k := ⟨_, rfl⟩
 rw [hkk] at hk
 obtain ⟨b, hb⟩ : ∃ b, w.heap.size = b := ⟨_, rfl⟩
 have hll := line_len hlt
 have Hg := Lib.hid hg
 have Hlt := Lib.hid hlt
 have Hll := Lib.hid hll
 have HB := Lib.hid hB
 clear hg hlt hll hB
 go_enter Tryz.func13, Tryz.ntmps13
 go_upto_region 1 with fail
 obtain ⟨W1, hW1⟩ : ∃ W1, w.alloc (.cells (a.cells bv).toArray 31) = W1 := ⟨_, rfl⟩
 have hE1 : Ext w W1 := hW1 ▸ ((Mod.refl _ w).alloc _)
 have hb1 : W1.heap[b]? = some (.cells (a.cells bv).toArray 31 (0, 0)) := hb ▸ hW1 ▸ heap_new _ _
 rw [hW1]
 clear hW1
 have p0 : W1.cell? ⟨b, 0, none⟩ = some (.int .i64 a.kind) := blk_cell hb1 rfl
 have Hb1 := Lib.hid hb1
 have HE1 := Lib.hid hE1
 clear hb1 hE1
 rw [hkk] at p0
 clear hkk
 rcases hk with hk | hk
 all_goals
  go_wp2
  go_ret2
  exact ⟨by rw [Hn.out]; rfl, HE1.out⟩
set_option maxRecDepth 100000 in
set_option maxHeartbeats 2000000 in
theorem r_line_other (a : AAct) (bv : Value) (w : World) (hg : Glb w) (hlt : ALt a) (hB : Byt w (fun g => g < w.heap.size) bv a.bytes) (hk : 1 ≤ a.kind ∧ a.kind ≤ 14) (h10 : a.kind ≠ 10) :
  Calls Tryz.prog 13 #[.agg (a.cells bv).toArray] w (LineOut w a) := by
 obtain ⟨j, hj⟩ : ∃ j : Nat, a.kind = (j : Int) + 1 := ⟨(a.kind - 1).toNat, by omega⟩
 have h14 : j < 14 := by omega
 have h9 : j ≠ 9 := by omega
 have hwA := wordsA_form a j h14 h9 hj
 obtain ⟨f, hf⟩ : ∃ f, formsL.getD j ByteArray.empty = f := ⟨_, rfl⟩
 have hwf := fun W => r_words f W (by rw [← hf]; exact forms_size j)
 rw [show wordsB f = [namesL.getD j ByteArray.empty, lettL.getD j ByteArray.empty] by rw [← hf]; exact forms_words j h14 h9] at hwf
 obtain ⟨nm, hnm⟩ : ∃ nm, namesL.getD j ByteArray.empty = nm := ⟨_, rfl⟩
 obtain ⟨lt, hlt2⟩ : ∃ lt, lettL.getD j ByteArray.empty = lt := ⟨_, rfl⟩
 have hls := lett_size j
 rw [hlt2] at hls
 rw [hnm, hlt2] at hwf
 rw [hnm, hlt2] at hwA
 obtain ⟨l, hl⟩ : ∃ l, bsOf lt = l := ⟨_, rfl⟩
 rw [hl] at hwA hls
 have hltz : lt.size = l.length := by rw [← hl]; rfl
 obtain ⟨F, hF⟩ : ∃ F, lt.size = F := ⟨_, rfl⟩
 rw [hF] at hltz
 have HFl := Lib.hid hltz
 have hF10 : F ≤ 10 := by omega
 have Hl := Lib.hid hl
 have HwA := Lib.hid hwA
 have Hwf := Lib.hid hwf
 have Hf := Lib.hid hf
 clear hwA hwf hf hnm hlt2 hls hl hltz hk h10
 obtain ⟨K, hK⟩ : ∃ K, a.kind = K := ⟨_, rfl⟩
 have hjd : (K == 10) = false := by simp; omega
 have hK1 : 1 ≤ K := by omega
 have hK14 : K ≤ 14 := by omega
 have hw1 : IntKind.i64.wrap (K - 1) = (j : Int) := by rw [IntKind.wrap_i64]; omega
 obtain ⟨b, hb⟩ : ∃ b, w.heap.size = b := ⟨_, rfl⟩
 have hll := line_len hlt
 have Hg := Lib.hid hg
 have Hlt := Lib.hid hlt
 have Hll := Lib.hid hll
 have HB := Lib.hid hB
 clear hg hlt hll hB
 go_enter Tryz.func13, Tryz.ntmps13
 go_upto_region 1 with fail
 obtain ⟨W1, hW1⟩ : ∃ W1, w.alloc (.cells (a.cells bv).toArray 31) = W1 := ⟨_, rfl⟩
 have hE1 : Ext w W1 := hW1 ▸ ((Mod.refl _ w).alloc _)
 have hb1 : W1.heap[b]? = some (.cells (a.cells bv).toArray 31 (0, 0)) := hb ▸ hW1 ▸ heap_new _ _
 rw [hW1]
 clear hW1
 have p0 : W1.cell? ⟨b, 0, none⟩ = some (.int .i64 a.kind) := blk_cell hb1 rfl
 have Hb1 := Lib.hid hb1
 have HE1 := Lib.hid hE1
 clear hb1 hE1
 rw [hK] at p0
 clear hj hK
 go_upto_region 15 with fail
 go_cut [6] from 91 to 97 (fun s6 wx => (∃ g off c2, s6 = .slice (some ⟨g, off, none⟩) 2 c2 ∧ wx.cell? ⟨g, off, none⟩ = some (.string nm) ∧ wx.cell? ⟨g, off + 1, none⟩ = some (.string lt)) ∧ Ext W1 wx)
 case first =>
  go_region_with (first
   | (go_at_call 24; refine (c_forms _).mono ?_; rintro e w5 ⟨cb, rfl, hC, hE5⟩; have hE25 : Ext W1 w5 := (by first | exact ((Mod.refl _ W1).drew).ext hE5 | exact hE5); have p0 : w5.cell? ⟨b, 0, none⟩ = some (.int .i64 K) := hE25.cell (p := ⟨b, 0, none⟩) p0 id; have hck : w5.cell? ⟨cb, j, none⟩ = some (.string f) := (by rw [hC j h14, Hf.out]); clear hC)
   | (go_at_call 23; refine (Hwf.out _).mono ?_; rintro e w6 ⟨v2, rfl, hN6, hE6⟩))
  all_goals
   go_wp2_with fail
   go_meet
   have hS6 := hN6.sl
   simp only [List.map_cons, List.map_nil, List.length_cons, List.length_nil] at hS6
   obtain ⟨_, A', c', rfl, _, _, hx'⟩ := hS6
   obtain ⟨g, off, rfl, hg, hcell⟩ := hx' (by omega)
   exact ⟨⟨g, off, c', rfl, hcell 0 _ rfl, hcell 1 _ rfl⟩, hE25.ext hE6⟩
 case rest =>
  obtain ⟨⟨g2, off2, c2, rfl, y0, y1⟩, hEc⟩ := hcut
  have HEc := Lib.hid hEc
  have Hy1 := Lib.hid y1
  clear hEc hw1
  go_wp2
  go_loopw [4, 7] (fun sv iv wr => ∃ (k : Nat), iv = .int .i64 k ∧ k ≤ F ∧ sv = .string (bA (bsOf nm ++ tailW ((l.take k).flatMap (charW a)))) ∧ Ext wc wr) (fun _ iv _ => F - (intOf iv).toNat)
  case atStart => exact ⟨0, rfl, by omega, by simp [tailW, bs_bA], Mod.refl _ _⟩
  case round =>
   obtain ⟨k, rfl, hk, rfl, hE⟩ := hrel
   obtain ⟨S, hS⟩ : ∃ S, bA (bsOf nm ++ tailW ((l.take k).flatMap (charW a))) = S := ⟨_, rfl⟩
   have HS := Lib.hid hS
   rw [hS]
   have z1 : wr.cell? ⟨g2, off2 + 1, none⟩ = some (.string lt) := hE.cell (p := ⟨g2, off2 + 1, none⟩) Hy1.out id
   have HEr := Lib.hid hE
   have HE1r := Lib.hid (HEc.out.ext hE)
   have HGr := Lib.hid (Hg.out.ext (HE1.out.ext HE1r.out))
   have HBr := Lib.hid (HE1r.out.blk Hb1.out id)
   have hSz : S.size ≤ 100000 := by
    rw [← hS]; show (bsOf nm ++ tailW ((l.take k).flatMap (charW a))).length ≤ 100000
    have h1 := Hll.out
    rw [HwA.out, joinL_tail, ← List.take_append_drop k l, List.flatMap_append, tailW_app, List.length_append, List.length_append] at h1
    rw [List.length_append]; omega
   clear hS hE y0 y1 p0
   by_cases hlt : k < F
   · obtain ⟨c, hc⟩ : ∃ c, l[k]? = some c := ⟨_, List.getElem?_eq_getElem (by rw [← HFl.out]; exact hlt)⟩
     have x1 := run_ix Hl.out hc .i64
     have Hc := Lib.hid hc
     clear hc
     by_cases hc105 : c = 105
     · subst hc105
       have hsy := r_say S [a.node] (.slice (some ⟨wr.heap.size, 0, none⟩) 1 1) (fun g => g = wr.heap.size) (wr.alloc (.cells #[.int .i64 a.node] 3)) (HGr.out.ext ((Mod.refl _ wr).alloc _)) (Sl.lit wr [.int .i64 a.node] 3 (by simp [maxLen])) (by intro x hx; exact Hlt.out.ok' x (by simp only [List.mem_cons, List.not_mem_nil, or_false] at hx ⊢; omega)) (by simp) hSz
       have q1 : wr.cell? ⟨b, 1, none⟩ = some (.int .i64 a.node) := blk_cell HBr.out rfl
       obtain ⟨S', hS'⟩ : ∃ S', bA (bsOf S ++ tailW (List.map Lib.itoa [a.node])) = S' := ⟨_, rfl⟩
       rw [hS'] at hsy
       have HS' : Hid (bA (bsOf nm ++ tailW ((l.take (k + 1)).flatMap (charW a))) = S') := Lib.hid (by rw [line_step a Hc.out (ws := List.map Lib.itoa [a.node]) (by unfold charW; simp), ← hS', HS.out])
       clear hS'
       go_wp2_with fail
       refine hsy.mono ?_
       rintro e w8 ⟨rfl, hE8⟩
       go_wp2_with fail
       exact ⟨⟨k + 1, by push_cast; rfl, by omega, by rw [HS'.out], HEr.out.ext (((Mod.refl _ wr).alloc _).ext hE8)⟩, by simp [intOf] <;> omega⟩
     by_cases hc99 : c = 99
     · subst hc99
       have hsy := r_say S [a.client] (.slice (some ⟨wr.heap.size, 0, none⟩) 1 1) (fun g => g = wr.heap.size) (wr.alloc (.cells #[.int .i64 a.client] 3)) (HGr.out.ext ((Mod.refl _ wr).alloc _)) (Sl.lit wr [.int .i64 a.client] 3 (by simp [maxLen])) (by intro x hx; exact Hlt.out.ok' x (by simp only [List.mem_cons, List.not_mem_nil, or_false] at hx ⊢; omega)) (by simp) hSz
       have q2 : wr.cell? ⟨b, 2, none⟩ = some (.int .i64 a.client) := blk_cell HBr.out rfl
       obtain ⟨S', hS'⟩ : ∃ S', bA (bsOf S ++ tailW (List.map Lib.itoa [a.client])) = S' := ⟨_, rfl⟩
       rw [hS'] at hsy
       have HS' : Hid (bA (bsOf nm ++ tailW ((l.take (k + 1)).flatMap (charW a))) = S') := Lib.hid (by rw [line_step a Hc.out (ws := List.map Lib.itoa [a.client]) (by unfold charW; simp), ← hS', HS.out])
       clear hS'
       go_wp2_with fail
       refine hsy.mono ?_
       rintro e w8 ⟨rfl, hE8⟩
       go_wp2_with fail
       exact ⟨⟨k + 1, by push_cast; rfl, by omega, by rw [HS'.out], HEr.out.ext (((Mod.refl _ wr).alloc _).ext hE8)⟩, by simp [intOf] <;> omega⟩
     by_cases hc110 : c = 110
     · subst hc110
       have hsy := r_say S [a.n] (.slice (some ⟨wr.heap.size, 0, none⟩) 1 1) (fun g => g = wr.heap.size) (wr.alloc (.cells #[.int .i64 a.n] 3)) (HGr.out.ext ((Mod.refl _ wr).alloc _)) (Sl.lit wr [.int .i64 a.n] 3 (by simp [maxLen])) (by intro x hx; exact Hlt.out.ok' x (by simp only [List.mem_cons, List.not_mem_nil, or_false] at hx ⊢; omega)) (by simp) hSz
       have q3 : wr.cell? ⟨b, 3, none⟩ = some (.int .i64 a.n) := blk_cell HBr.out rfl
       obtain ⟨S', hS'⟩ : ∃ S', bA (bsOf S ++ tailW (List.map Lib.itoa [a.n])) = S' := ⟨_, rfl⟩
       rw [hS'] at hsy
       have HS' : Hid (bA (bsOf nm ++ tailW ((l.take (k + 1)).flatMap (charW a))) = S') := Lib.hid (by rw [line_step a Hc.out (ws := List.map Lib.itoa [a.n]) (by unfold charW; simp), ← hS', HS.out])
       clear hS'
       go_wp2_with fail
       refine hsy.mono ?_
       rintro e w8 ⟨rfl, hE8⟩
       go_wp2_with fail
       exact ⟨⟨k + 1, by push_cast; rfl, by omega, by rw [HS'.out], HEr.out.ext (((Mod.refl _ wr).alloc _).ext hE8)⟩, by simp [intOf] <;> omega⟩
     by_cases hc109 : c = 109
     · subst hc109
       have hsy := r_say S [a.m] (.slice (some ⟨wr.heap.size, 0, none⟩) 1 1) (fun g => g = wr.heap.size) (wr.alloc (.cells #[.int .i64 a.m] 3)) (HGr.out.ext ((Mod.refl _ wr).alloc _)) (Sl.lit wr [.int .i64 a.m] 3 (by simp [maxLen])) (by intro x hx; exact Hlt.out.ok' x (by simp only [List.mem_cons, List.not_mem_nil, or_false] at hx ⊢; omega)) (by simp) hSz
       have q4 : wr.cell? ⟨b, 4, none⟩ = some (.int .i64 a.m) := blk_cell HBr.out rfl
       obtain ⟨S', hS'⟩ : ∃ S', bA (bsOf S ++ tailW (List.map Lib.itoa [a.m])) = S' := ⟨_, rfl⟩
       rw [hS'] at hsy
       have HS' : Hid (bA (bsOf nm ++ tailW ((l.take (k + 1)).flatMap (charW a))) = S') := Lib.hid (by rw [line_step a Hc.out (ws := List.map Lib.itoa [a.m]) (by unfold charW; simp), ← hS', HS.out])
       clear hS'
       go_wp2_with fail
       refine hsy.mono ?_
       rintro e w8 ⟨rfl, hE8⟩
       go_wp2_with fail
       exact ⟨⟨k + 1, by push_cast; rfl, by omega, by rw [HS'.out], HEr.out.ext (((Mod.refl _ wr).alloc _).ext hE8)⟩, by simp [intOf] <;> omega⟩
     by_cases hc102 : c = 102
     · subst hc102
       have hsy := r_say S [a.conf.full, a.conf.wit, a.conf.learn, a.conf.learnWit] (.slice (some ⟨wr.heap.size, 0, none⟩) 4 4) (fun g => g = wr.heap.size) (wr.alloc (.cells #[.int .i64 a.conf.full, .int .i64 a.conf.wit, .int .i64 a.conf.learn, .int .i64 a.conf.learnWit] 3)) (HGr.out.ext ((Mod.refl _ wr).alloc _)) (Sl.lit wr [.int .i64 a.conf.full, .int .i64 a.conf.wit, .int .i64 a.conf.learn, .int .i64 a.conf.learnWit] 3 (by simp [maxLen])) (by intro x hx; exact Hlt.out.ok' x (by simp only [List.mem_cons, List.not_mem_nil, or_false] at hx ⊢; omega)) (by simp) hSz
       have q13 : wr.cell? ⟨b, 13, none⟩ = some (.int .i64 a.conf.full) := blk_cell HBr.out rfl
       have q14 : wr.cell? ⟨b, 14, none⟩ = some (.int .i64 a.conf.wit) := blk_cell HBr.out rfl
       have q15 : wr.cell? ⟨b, 15, none⟩ = some (.int .i64 a.conf.learn) := blk_cell HBr.out rfl
       have q16 : wr.cell? ⟨b, 16, none⟩ = some (.int .i64 a.conf.learnWit) := blk_cell HBr.out rfl
       obtain ⟨S', hS'⟩ : ∃ S', bA (bsOf S ++ tailW (List.map Lib.itoa [a.conf.full, a.conf.wit, a.conf.learn, a.conf.learnWit])) = S' := ⟨_, rfl⟩
       rw [hS'] at hsy
       have HS' : Hid (bA (bsOf nm ++ tailW ((l.take (k + 1)).flatMap (charW a))) = S') := Lib.hid (by rw [line_step a Hc.out (ws := List.map Lib.itoa [a.conf.full, a.conf.wit, a.conf.learn, a.conf.learnWit]) (by unfold charW; simp), ← hS', HS.out])
       clear hS'
       go_wp2_with fail
       refine hsy.mono ?_
       rintro e w8 ⟨rfl, hE8⟩
       go_wp2_with fail
       exact ⟨⟨k + 1, by push_cast; rfl, by omega, by rw [HS'.out], HEr.out.ext (((Mod.refl _ wr).alloc _).ext hE8)⟩, by simp [intOf] <;> omega⟩
     have hcw : charW a c = [rawW a.bytes] := by unfold charW; simp [hc105, hc99, hc110, hc109, hc102]
     obtain ⟨y, hy⟩ : ∃ y, c.toNat = y := ⟨_, rfl⟩
     rw [hy] at x1
     have d105 : ((y : Int) == 105) = false := by
      have : y ≠ 105 := fun e => hc105 (UInt8.toNat_inj.1 (by rw [hy, e]; rfl))
      simp; omega
     have d99 : ((y : Int) == 99) = false := by
      have : y ≠ 99 := fun e => hc99 (UInt8.toNat_inj.1 (by rw [hy, e]; rfl))
      simp; omega
     have d110 : ((y : Int) == 110) = false := by
      have : y ≠ 110 := fun e => hc110 (UInt8.toNat_inj.1 (by rw [hy, e]; rfl))
      simp; omega
     have d109 : ((y : Int) == 109) = false := by
      have : y ≠ 109 := fun e => hc109 (UInt8.toNat_inj.1 (by rw [hy, e]; rfl))
      simp; omega
     have d102 : ((y : Int) == 102) = false := by
      have : y ≠ 102 := fun e => hc102 (UInt8.toNat_inj.1 (by rw [hy, e]; rfl))
      simp; omega
     have Hstp := Lib.hid (line_step (m := bsOf nm) a Hc.out hcw)
     have hBr := HB.out.ext (HE1.out.ext HE1r.out)
     have q17 : wr.cell? ⟨b, 17, none⟩ = some bv := blk_cell HBr.out rfl
     clear hy hc105 hc99 hc110 hc109 hc102 hcw
     obtain ⟨A, n, cp, rfl⟩ : ∃ A n cp, bv = .slice A n cp := by obtain ⟨A, c, e⟩ := Sl.form hBr; exact ⟨A, _, c, e⟩
     have hnl : n = a.bytes.length := by obtain ⟨A', c', e⟩ := Sl.form hBr; injection e
     have hcv := conv_bs hBr
     have hhx := r_hex (bA a.bytes) wr (by have := Hlt.out.bytes; show a.bytes.length ≤ 100000; omega)
     rw [bA_bs] at hhx
     have HBy := Lib.hid hBr
     clear hBr
     by_cases hn0 : n = 0
     · have hnil : a.bytes = [] := List.length_eq_zero_iff.1 (by omega)
       have HS' : Hid (bA (bsOf nm ++ tailW ((l.take (k + 1)).flatMap (charW a))) = S ++ ⟨#[32, 45]⟩) := Lib.hid (by rw [Hstp.out, HS.out, show (⟨#[32, 45]⟩ : ByteArray) = bA [32, 45] from rfl, ← bs_bA S, bA_app, bA_bs]; simp [rawW, hnil, tailW])
       subst hn0
       clear hnl hnil hcv hhx
       go_wp2
       exact ⟨⟨k + 1, by push_cast; rfl, by omega, by rw [HS'.out], HEr.out⟩, by simp [intOf] <;> omega⟩
     have hnn : a.bytes ≠ [] := fun e => hn0 (by rw [hnl, e]; rfl)
     obtain ⟨z, hz⟩ : ∃ z, bA (hexB a.bytes) = z := ⟨_, rfl⟩
     have HS' : Hid (bA (bsOf nm ++ tailW ((l.take (k + 1)).flatMap (charW a))) = S ++ ⟨#[32]⟩ ++ z) := Lib.hid (by rw [Hstp.out, HS.out, ← hz, show (⟨#[32]⟩ : ByteArray) = bA [32] from rfl, ← bs_bA S, bA_app, bA_app, bA_bs]; simp [rawW, hnn, tailW])
     have hzz : z.size ≤ 12000 := by rw [← hz]; show (hexB a.bytes).length ≤ 12000; rw [hexB_len]; have := Hlt.out.bytes; omega
     rw [hz] at hhx
     rw [show bA a.bytes = ⟨a.bytes.toArray⟩ from rfl] at hhx
     obtain ⟨u, hu⟩ : ∃ u, (⟨a.bytes.toArray⟩ : ByteArray) = u := ⟨_, rfl⟩
     rw [hu] at hhx hcv
     have hnz : ((n : Int) == 0) = false := by simp; omega
     clear hnl hz hu hnn hn0
     go_wp2_with (go_at_call 38; refine hhx.mono ?_; rintro e w8 ⟨rfl, hE8⟩)
     exact ⟨⟨k + 1, by push_cast; rfl, by omega, by rw [HS'.out], HEr.out.ext hE8⟩, by simp [intOf] <;> omega⟩
   obtain rfl : k = F := by omega
   have Hln : Hid (bA (joinL (wordsA a)) = S) := Lib.hid (by rw [← HS.out, HwA.out, joinL_tail, List.take_of_length_le (by rw [← HFl.out]; exact Nat.le_refl _)])
   have hls : S.size ≤ 100000 := by rw [← Hln.out]; show (joinL (wordsA a)).length ≤ 100000; have := Hll.out; omega
   obtain ⟨ln, hln⟩ : ∃ ln, S = ln := ⟨_, rfl⟩
   subst hln
   obtain ⟨wt, hwt⟩ : ∃ x, x = wr := ⟨_, rfl⟩
   subst hwt
   have HEt := Lib.hid (HE1.out.ext HE1r.out)
   have Hbt := Lib.hid HBr.out
   have HBt := Lib.hid (HB.out.ext HEt.out)
   have hrd := r_read S wt (Hg.out.ext HEt.out) hls
   obtain ⟨res, hres⟩ : ∃ res, readP S = res := ⟨_, rfl⟩
   rw [hres] at hrd
   have HlP : Hid (lineP a = lineR a S res) := Lib.hid (by rw [← hres]; exact lineP_eq Hln.out)
   clear hres
   unfold ReadOut at hrd
   go_wp2_with fail
   refine hrd.mono ?_
   rintro e w5 ⟨A, n, c, rfl, HB5, hE5⟩
   have HB5 := Lib.hid HB5
   have hbt5 := hE5.blk Hbt.out id
   have Hbt5 := Lib.hid hbt5
   have HE5 := Lib.hid hE5
   clear hbt5 hE5 hrd
   obtain ⟨d, hd⟩ : ∃ d, w5.heap.size = d := ⟨_, rfl⟩
   have hn5 : (w5.alloc (.cells (AAct.zero.cells (.slice none 0 0)).toArray 31)).heap[d]? = some (.cells (AAct.zero.cells (.slice none 0 0)).toArray 31 (0, 0)) := hd ▸ heap_new w5 _
   rcases res with _ | y
   · simp only [Option.getD_none, Option.isSome_none]
     have hN : Hid (lineP a = none) := Lib.hid HlP.out
     go_upto_region 35 with (refine wpList_stR rfl 31 _ _ rfl 18 d 0 (AAct.zero.cells (.slice A n c)) rfl rfl str_act _ _ (AAct.zero.cells (.slice A n c)) hn5 rfl (by simp) (by simp [Value.oneCell']) rfl ?_; intro W6 ha6 hm6 hs6)
     have HX := Lib.hid ((HEt.out.ext HE5.out).ext (Mod.toExt (((Mod.refl (Since w5.heap.size) w5).alloc _).trans hm6 (fun k hk e => by unfold Since; omega))))
     clear hn5 ha6 hm6 hs6
     go_wp2
     go_ret2
     exact ⟨by rw [hN.out]; rfl, HX.out⟩
   simp only [Option.getD_some, Option.isSome_some, if_true] at HB5 ⊢
   go_upto_region 35 with (refine wpList_stR rfl 31 _ _ rfl 18 d 0 (y.cells (.slice A n c)) rfl rfl str_act _ _ (y.cells (.slice A n c)) hn5 rfl (by simp) (by simp [Value.oneCell']) rfl ?_; intro W6 ha6 hm6 hs6)
   have hX6 : Ext w5 W6 := Mod.toExt (((Mod.refl (Since w5.heap.size) w5).alloc _).trans hm6 (fun k hk e => by unfold Since; omega))
   have hb6 := hX6.blk Hbt5.out id
   have hl1 : (Instr.loadAt 31 (.pointer (some ⟨b, 0, none⟩))).run Tryz.prog W6 = .ok (.agg (a.cells bv).toArray) W6 := load_row str_act hb6 rfl (fun j u hu => by rw [Nat.zero_add]; exact hu)
   have hl2 : (Instr.loadAt 31 (.pointer (some ⟨d, 0, none⟩))).run Tryz.prog W6 = .ok (.agg (y.cells (.slice A n c)).toArray) W6 := load_row str_act ha6 rfl (fun j u hu => by rw [Nat.zero_add]; exact hu)
   have hka := k_actG a y W6 _ _ _ _ (HBt.out.ext (HE5.out.ext hX6)) (HB5.out.ext hX6)
   have HX := Lib.hid ((HEt.out.ext HE5.out).ext hX6)
   clear hn5 ha6 hm6 hs6 hX6 hb6
   obtain ⟨q, hq⟩ : ∃ q, eqAct a y = q := ⟨_, rfl⟩
   rw [hq] at hka
   have Hq : Hid (eqAct y a = q) := Lib.hid (by rw [eqAct_comm]; exact hq)
   clear hq
   rcases q with _ | _
   · have hN : Hid (lineP a = none) := Lib.hid (by rw [HlP.out]; unfold lineR; simp only [Hq.out, Bool.false_eq_true, if_false])
     go_wp2_with (first
       | (refine wpList_ldW (by kernel_rfl) 31 _ rfl (.pointer (some ⟨b, 0, none⟩)) _ rfl hl1 ?_)
       | (refine wpList_ldW (by kernel_rfl) 31 _ rfl (.pointer (some ⟨d, 0, none⟩)) _ rfl hl2 ?_)
       | (go_at_call 8; refine hka.mono ?_; rintro e w7 ⟨rfl, hE7⟩; clear hl1 hl2))
     go_ret2
     exact ⟨by rw [hN.out]; rfl, HX.out.ext hE7⟩
   have hN : Hid (lineP a = some S) := Lib.hid (by rw [HlP.out]; unfold lineR; simp only [Hq.out, if_true])
   go_wp2_with (first
     | (refine wpList_ldW (by kernel_rfl) 31 _ rfl (.pointer (some ⟨b, 0, none⟩)) _ rfl hl1 ?_)
     | (refine wpList_ldW (by kernel_rfl) 31 _ rfl (.pointer (some ⟨d, 0, none⟩)) _ rfl hl2 ?_)
     | (go_at_call 8; refine hka.mono ?_; rintro e w7 ⟨rfl, hE7⟩; clear hl1 hl2))
   go_ret2
   exact ⟨by rw [hN.out]; rfl, HX.out.ext hE7⟩
end Go.Proofs.YtmebipnljkopgaaGreatDoor
