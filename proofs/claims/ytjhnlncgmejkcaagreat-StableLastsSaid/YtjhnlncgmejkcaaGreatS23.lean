/-
 Contracts of stable's write and Save (printed by stbsv.py). Conditions: as each theorem names them.
 The contract of stable's Save (printed by stbsa.py). Conditions: as each theorem names them.
-/
import Derived.Test.YtjhnlncgmejkcaaGreatStbMo
namespace Go.Proofs.YtjhnlncgmejkcaaGreat
set_option linter.unusedSimpArgs false
open Go.RowKit

theorem conf_neq (a b c d a' b' c' d' : Int) (w : World) : (binOp .neq 23 (.agg #[.int .i64 a, .int .i64 b, .int .i64 c, .int .i64 d]) (.agg #[.int .i64 a', .int .i64 b', .int .i64 c', .int .i64 d'])).run Tryz.prog w = .ok (.bool (!eqConf ⟨a, b, c, d⟩ ⟨a', b', c', d'⟩)) w := by
 by_cases h1 : a = a' <;> by_cases h2 : b = b' <;> by_cases h3 : c = c' <;> by_cases h4 : d = d' <;> go_simp <;> simp [eqConf, h1, h2, h3, h4]
attribute [local go_sem high] conf_neq
/-- What a call leaves of a disk and of the store's box. -/
theorem StB.dm {w w' : World} {s d : Nat} {g : AHard} {gs gl fv : Value} {D : ADisk} (h : StB w s d g gs gl) (hD : Dsk w d fv D) (hM : Mod (fun k => k = d ∨ fv.ownBlock = some k) w w') : StB w' s d g gs gl :=
 hM.blk h (fun e => by
  rcases e with e | e
  ·
   exact hD.ne h (by decide) e
  ·
   exact own_apart hD.2.1 e h (by decide) rfl)
set_option maxRecDepth 100000 in
set_option maxHeartbeats 2000000 in
theorem st_write (w : World) (T U : Nat → Prop) (s d : Nat) (g h : AHard) (Bs : Option Addr) (gn bs : Nat) (Bl : Option Addr) (gg bl : Nat) (As : Option Addr) (sl cs : Nat) (Al : Option Addr) (ll cl : Nat) (fv : Value) (D : ADisk) (hS : StB w s d g (.slice Bs gn bs) (.slice Bl gg bl)) (hD : Dsk w d fv D) (hg : HardM w T (.slice Bs gn bs) (.slice Bl gg bl) g) (hgn : g.snap.length = gn) (hgl : g.log.length = gg) (hv : HardM w U (.slice As sl cs) (.slice Al ll cl) h) (hsn : h.snap.length = sl) (hll : h.log.length = ll) (hU : ∀ k, U k → k ≠ d ∧ fv.ownBlock ≠ some k) (hr : Right h) (hl : ll ≤ 12700) (hgl2 : gg ≤ 1000000) :
  Calls Tryz.prog 42 #[.pointer (some ⟨s, 0, none⟩), .agg #[.int .i64 h.term, .int .i64 h.vote, .int .i64 h.base, .int .i64 h.baseTerm, .int .i64 h.conf.full, .int .i64 h.conf.wit, .int .i64 h.conf.learn, .int .i64 h.conf.learnWit, .slice As sl cs, .slice Al ll cl]] w fun e w' => e = .returned (.int .i64 (writeP D g h).2) ∧ DM w d fv (writeP D g h).1 w' := by
 obtain ⟨W, hW⟩ : ∃ W, w.alloc (.cells #[.int .i64 h.term, .int .i64 h.vote, .int .i64 h.base, .int .i64 h.baseTerm, .int .i64 h.conf.full, .int .i64 h.conf.wit, .int .i64 h.conf.learn, .int .i64 h.conf.learnWit, .slice As sl cs, .slice Al ll cl] 34) = W := ⟨_, rfl⟩
 have hE : Ext w W := by rw [← hW]; exact (Mod.refl _ w).alloc _
 obtain ⟨b, hb⟩ : ∃ b, w.heap.size = b := ⟨_, rfl⟩
 have hA : W.heap[b]? = some (.cells #[.int .i64 h.term, .int .i64 h.vote, .int .i64 h.base, .int .i64 h.baseTerm, .int .i64 h.conf.full, .int .i64 h.conf.wit, .int .i64 h.conf.learn, .int .i64 h.conf.learnWit, .slice As sl cs, .slice Al ll cl] 34 (0, 0)) := by rw [← hW, ← hb]; exact heap_alloc_new w _
 have hSW : StB W s d g (.slice Bs gn bs) (.slice Bl gg bl) := hE.blk hS id
 have HW := Lib.hid hW
 have HE := Lib.hid hE
 have Hb := Lib.hid hb
 have HA := Lib.hid hA
 have HSW := Lib.hid hSW
 have HD := Lib.hid hD
 have HgW := Lib.hid (hg.mod hE (fun _ _ => id))
 have HvW := Lib.hid (hv.mod hE (fun _ _ => id))
 have Hv := Lib.hid hv
 have HU := Lib.hid hU
 have Hll := Lib.hid hll
 have Hgl := Lib.hid hgl
 have Hsn := Lib.hid hsn
 have Hgn := Lib.hid hgn
 obtain ⟨R, hR⟩ : ∃ R, writeP D g h = R := ⟨_, rfl⟩
 rw [hR]
 have HR := Lib.hid hR
 have c0 : W.cell? ⟨b, 2, none⟩ = some (.int .i64 h.base) := blk_cell (cs := [.int .i64 h.term, .int .i64 h.vote, .int .i64 h.base, .int .i64 h.baseTerm, .int .i64 h.conf.full, .int .i64 h.conf.wit, .int .i64 h.conf.learn, .int .i64 h.conf.learnWit, .slice As sl cs, .slice Al ll cl]) hA rfl
 have c1 : W.cell? ⟨b, 3, none⟩ = some (.int .i64 h.baseTerm) := blk_cell (cs := [.int .i64 h.term, .int .i64 h.vote, .int .i64 h.base, .int .i64 h.baseTerm, .int .i64 h.conf.full, .int .i64 h.conf.wit, .int .i64 h.conf.learn, .int .i64 h.conf.learnWit, .slice As sl cs, .slice Al ll cl]) hA rfl
 have c2 : W.cell? ⟨b, 4, none⟩ = some (.int .i64 h.conf.full) := blk_cell (cs := [.int .i64 h.term, .int .i64 h.vote, .int .i64 h.base, .int .i64 h.baseTerm, .int .i64 h.conf.full, .int .i64 h.conf.wit, .int .i64 h.conf.learn, .int .i64 h.conf.learnWit, .slice As sl cs, .slice Al ll cl]) hA rfl
 have c3 : W.cell? ⟨b, 5, none⟩ = some (.int .i64 h.conf.wit) := blk_cell (cs := [.int .i64 h.term, .int .i64 h.vote, .int .i64 h.base, .int .i64 h.baseTerm, .int .i64 h.conf.full, .int .i64 h.conf.wit, .int .i64 h.conf.learn, .int .i64 h.conf.learnWit, .slice As sl cs, .slice Al ll cl]) hA rfl
 have c4 : W.cell? ⟨b, 6, none⟩ = some (.int .i64 h.conf.learn) := blk_cell (cs := [.int .i64 h.term, .int .i64 h.vote, .int .i64 h.base, .int .i64 h.baseTerm, .int .i64 h.conf.full, .int .i64 h.conf.wit, .int .i64 h.conf.learn, .int .i64 h.conf.learnWit, .slice As sl cs, .slice Al ll cl]) hA rfl
 have c5 : W.cell? ⟨b, 7, none⟩ = some (.int .i64 h.conf.learnWit) := blk_cell (cs := [.int .i64 h.term, .int .i64 h.vote, .int .i64 h.base, .int .i64 h.baseTerm, .int .i64 h.conf.full, .int .i64 h.conf.wit, .int .i64 h.conf.learn, .int .i64 h.conf.learnWit, .slice As sl cs, .slice Al ll cl]) hA rfl
 have c6 : W.cell? ⟨b, 8, none⟩ = some (.slice As sl cs) := blk_cell (cs := [.int .i64 h.term, .int .i64 h.vote, .int .i64 h.base, .int .i64 h.baseTerm, .int .i64 h.conf.full, .int .i64 h.conf.wit, .int .i64 h.conf.learn, .int .i64 h.conf.learnWit, .slice As sl cs, .slice Al ll cl]) hA rfl
 have s0 : W.cell? ⟨s, 3, none⟩ = some (.int .i64 g.base) := blk_cell (cs := [.pointer (some ⟨d, 0, none⟩), .int .i64 g.term, .int .i64 g.vote, .int .i64 g.base, .int .i64 g.baseTerm, .int .i64 g.conf.full, .int .i64 g.conf.wit, .int .i64 g.conf.learn, .int .i64 g.conf.learnWit, .slice Bs gn bs, .slice Bl gg bl]) hSW rfl
 have s1 : W.cell? ⟨s, 4, none⟩ = some (.int .i64 g.baseTerm) := blk_cell (cs := [.pointer (some ⟨d, 0, none⟩), .int .i64 g.term, .int .i64 g.vote, .int .i64 g.base, .int .i64 g.baseTerm, .int .i64 g.conf.full, .int .i64 g.conf.wit, .int .i64 g.conf.learn, .int .i64 g.conf.learnWit, .slice Bs gn bs, .slice Bl gg bl]) hSW rfl
 have s2 : W.cell? ⟨s, 5, none⟩ = some (.int .i64 g.conf.full) := blk_cell (cs := [.pointer (some ⟨d, 0, none⟩), .int .i64 g.term, .int .i64 g.vote, .int .i64 g.base, .int .i64 g.baseTerm, .int .i64 g.conf.full, .int .i64 g.conf.wit, .int .i64 g.conf.learn, .int .i64 g.conf.learnWit, .slice Bs gn bs, .slice Bl gg bl]) hSW rfl
 have s3 : W.cell? ⟨s, 6, none⟩ = some (.int .i64 g.conf.wit) := blk_cell (cs := [.pointer (some ⟨d, 0, none⟩), .int .i64 g.term, .int .i64 g.vote, .int .i64 g.base, .int .i64 g.baseTerm, .int .i64 g.conf.full, .int .i64 g.conf.wit, .int .i64 g.conf.learn, .int .i64 g.conf.learnWit, .slice Bs gn bs, .slice Bl gg bl]) hSW rfl
 have s4 : W.cell? ⟨s, 7, none⟩ = some (.int .i64 g.conf.learn) := blk_cell (cs := [.pointer (some ⟨d, 0, none⟩), .int .i64 g.term, .int .i64 g.vote, .int .i64 g.base, .int .i64 g.baseTerm, .int .i64 g.conf.full, .int .i64 g.conf.wit, .int .i64 g.conf.learn, .int .i64 g.conf.learnWit, .slice Bs gn bs, .slice Bl gg bl]) hSW rfl
 have s5 : W.cell? ⟨s, 8, none⟩ = some (.int .i64 g.conf.learnWit) := blk_cell (cs := [.pointer (some ⟨d, 0, none⟩), .int .i64 g.term, .int .i64 g.vote, .int .i64 g.base, .int .i64 g.baseTerm, .int .i64 g.conf.full, .int .i64 g.conf.wit, .int .i64 g.conf.learn, .int .i64 g.conf.learnWit, .slice Bs gn bs, .slice Bl gg bl]) hSW rfl
 have s6 : W.cell? ⟨s, 9, none⟩ = some (.slice Bs gn bs) := blk_cell (cs := [.pointer (some ⟨d, 0, none⟩), .int .i64 g.term, .int .i64 g.vote, .int .i64 g.base, .int .i64 g.baseTerm, .int .i64 g.conf.full, .int .i64 g.conf.wit, .int .i64 g.conf.learn, .int .i64 g.conf.learnWit, .slice Bs gn bs, .slice Bl gg bl]) hSW rfl
 clear hW hE hb hA hSW hg hv hll hgl hsn hgn hS hD hU hR
 go_enter Tryz.func42, Tryz.ntmps42
 go_upto_region 1 with fail
 rw [HW.out, Hb.out]
 obtain ⟨tv, htv⟩ : ∃ tv, nearB g h = tv := ⟨_, rfl⟩
 go_cut [45] (fun s45 wx => s45 = .bool (!tv) ∧ Ext W wx)
 case first =>
  rcases e1 : (h.base != g.base) with _ | _
  rotate_left
  ·
   have Htv : Hid (tv = false) := Lib.hid (by rw [← htv]; unfold nearB; rw [show (h.base == g.base) = false by simpa using e1]; rfl)
   clear htv
   go_quiet (fail)
   go_wp2_with fail
   go_meet
   exact ⟨by rw [Htv.out]; rfl, (Mod.refl _ W).drewN _⟩
  rcases e2 : (h.baseTerm != g.baseTerm) with _ | _
  rotate_left
  ·
   have Htv : Hid (tv = false) := Lib.hid (by rw [← htv]; unfold nearB; rw [show (h.baseTerm == g.baseTerm) = false by simpa using e2]; simp)
   clear htv
   go_quiet (fail)
   go_wp2_with fail
   go_meet
   exact ⟨by rw [Htv.out]; rfl, (Mod.refl _ W).drewN _⟩
  rcases e3 : eqConf h.conf g.conf with _ | _
  ·
   have Htv : Hid (tv = false) := Lib.hid (by rw [← htv]; unfold nearB; rw [e3]; simp)
   clear htv
   go_quiet (fail)
   go_wp2_with fail
   go_meet
   exact ⟨by rw [Htv.out]; rfl, (Mod.refl _ W).drewN _⟩
  have Htv : Hid (tv = (h.snap == g.snap)) := Lib.hid (by rw [← htv]; unfold nearB; rw [show (h.base == g.base) = true by simpa using e1, show (h.baseTerm == g.baseTerm) = true by simpa using e2, e3]; rfl)
  clear htv
  rcases e4 : (h.snap == g.snap) with _ | _
  all_goals
   go_quiet ((go_at_call 74; exact Calls.quiet_of_same ((b_equal _ U T _ _ h.snap g.snap (by have h1 := HvW.out.1; exact h1) (by have h1 := HgW.out.1; exact h1)).mono (fun _ _ hh => ⟨hh.1, hh.2.symm⟩))))
   go_wp2_with fail
   go_meet
   exact ⟨by rw [Htv.out, e4]; rfl, (Mod.refl _ W).drewN _⟩
 obtain ⟨rfl, hX⟩ := hcut
 have HX := Lib.hid (HE.out.ext hX)
 have HA2 := Lib.hid (hX.blk HA.out id)
 have HS2 : Hid (StB wc s d g (.slice Bs gn bs) (.slice Bl gg bl)) := Lib.hid (hX.blk HSW.out id)
 have Hg2 := Lib.hid (HgW.out.mod hX (fun _ _ => id))
 have Hv2 := Lib.hid (HvW.out.mod hX (fun _ _ => id))
 have Htv := Lib.hid htv
 have Hl := Lib.hid hl
 clear htv hX c0 c1 c2 c3 c4 c5 c6 s0 s1 s2 s3 s4 s5 s6 HSW HgW HvW HA hl
 have hlog : h.log.length ≤ 12700 := by rw [Hll.out]; exact Hl.out
 have Hlog := Lib.hid hlog
 clear hlog
 have hldb := load_row (P := Tryz.prog) (o := 0) (cs := h.cells (.slice As sl cs) (.slice Al ll cl)) str_hard HA2.out rfl (fun j u hu => by rw [Nat.zero_add]; exact hu)
 rcases tv with _ | _
 ·
  have HRq : Hid (R = anewP D h) := Lib.hid (by rw [← HR.out]; unfold writeP; rw [Htv.out, if_pos rfl])
  rw [show (!false) = true from rfl]
  go_wp2_with (refine wpList_ld rfl 34 _ rfl _ _ rfl hldb ?_)
  clear hldb
  refine (st_anew wc U s d g h _ _ _ _ fv D HS2.out (HD.out.ext HX.out) Hv2.out hr Hlog.out).mono ?_
  rintro e w2 ⟨rfl, hM⟩
  have HM := Lib.hid (DM.trans (Ext.mod HX.out _) (fun g hg => .inl hg) hM)
  rw [← HRq.out] at HM ⊢
  clear hM
  go_wp2
  go_ret
  exact ⟨rfl, HM.out⟩
 rw [show (!true) = false from rfl]
 obtain ⟨M, hM0⟩ : ∃ M, moreP g h = M := ⟨_, rfl⟩
 have HRq : Hid (R = if M.length = 0 then (D, 0) else if (D.append M).2 = 0 then (D.append M).1.sync else if (D.append M).2 = 5 then anewP (D.append M).1 h else D.append M) := Lib.hid (by rw [← HR.out]; unfold writeP; rw [Htv.out, if_neg (by simp), hM0])
 have HM0 := Lib.hid hM0
 clear hM0
 go_wp2_with (refine wpList_ld rfl 34 _ rfl _ _ rfl hldb ?_)
 clear hldb
 refine (st_more wc T U s d g h _ Bl gg bl As sl cs Al ll cl HS2.out Hg2.out.2 Hgl.out Hv2.out Hll.out hr Hl.out hgl2).mono ?_
 rintro e w2 ⟨v2, rfl, hN2, hE2⟩
 rw [HM0.out] at hN2
 obtain ⟨A2, c2, rfl⟩ := own_form hN2.1
 have hb2 : Byt w2 (Since wc.heap.size) (.slice A2 M.length c2) M := NewB.sl (w := wc) hN2
 obtain ⟨n, hn⟩ : ∃ n, M.length = n := ⟨_, rfl⟩
 have hMl : M.length ≤ 100000000 := by
  rw [← HM0.out]
  unfold moreP recsP recsV recsC
  rw [List.flatMap_append, List.flatMap_append, List.length_append, List.length_append]
  have h1 := more_len (h.log.drop (comN h.log g.log)) (fun x hx => ⟨row_all hr.r x (List.mem_of_mem_drop hx), Hv.out.2.2 x (List.mem_of_mem_drop hx)⟩)
  have h2 : (h.log.drop (comN h.log g.log)).length ≤ 12700 := by rw [List.length_drop]; have := Hlog.out; omega
  have h3 : (h.log.drop (comN h.log g.log)).length * 400 ≤ 12700 * 400 := Nat.mul_le_mul_right _ h2
  have h4 : ((if h.term = g.term ∧ h.vote = g.vote then [] else [recV h]).flatMap frameP).length ≤ 200 := by
   split
   ·
    simp
   ·
    rw [List.flatMap_cons, List.flatMap_nil, List.append_nil, frame_len]
    unfold recV
    have := encInts_len [h.term, h.vote]
    simp only [List.length_cons, List.length_nil] at this ⊢
    omega
  have h5 : ((if comN h.log g.log < g.log.length then [recC (h.base + ((comN h.log g.log : Nat) : Int) + 1)] else []).flatMap frameP).length ≤ 200 := by
   split
   ·
    rw [List.flatMap_cons, List.flatMap_nil, List.append_nil, frame_len]
    unfold recC
    have := encInts_len [h.base + ((comN h.log g.log : Nat) : Int) + 1]
    simp only [List.length_cons, List.length_nil] at this ⊢
    omega
   ·
    simp
  omega
 rw [hn] at hb2 HRq
 simp only [hn]
 have Hb2 := Lib.hid hb2
 have Hn := Lib.hid hn
 have HMl := Lib.hid hMl
 have HX2 := Lib.hid (HX.out.ext hE2)
 have HA3 := Lib.hid (hE2.blk HA2.out id)
 have HS3 : Hid (StB w2 s d g (.slice Bs gn bs) (.slice Bl gg bl)) := Lib.hid (hE2.blk HS2.out id)
 have Hv3 := Lib.hid (Hv2.out.mod hE2 (fun _ _ => id))
 clear hN2 hE2 hb2 hn hMl HA2 HS2 Hv2 Hg2
 have t0 : w2.cell? ⟨s, 0, none⟩ = some (.pointer (some ⟨d, 0, none⟩)) := HS3.out.c0
 by_cases hn0 : n = 0
 ·
  have hnz : ((n : Int) == 0) = true := by simp; omega
  have hnz2 : (n == 0) = true := by simp; omega
  have HRr : Hid (R = (D, 0)) := Lib.hid (by rw [HRq.out, if_pos hn0])
  go_wp2
  go_ret
  rw [HRr.out]
  exact ⟨rfl, DM.same HD.out HX2.out⟩
 have hnz : ((n : Int) == 0) = false := by simp; omega
 have hnz2 : (n == 0) = false := by simp; omega
 have HRr : Hid (R = if (D.append M).2 = 0 then (D.append M).1.sync else if (D.append M).2 = 5 then anewP (D.append M).1 h else D.append M) := Lib.hid (by rw [HRq.out, if_neg hn0])
 clear HRq
 go_wp2_with fail
 refine (d_append w2 d fv D (HD.out.ext HX2.out) _ _ M (by have h1 := Hb2.out; exact h1) HMl.out).mono ?_
 rintro e w3 ⟨rfl, hM3⟩
 have hM3w := DM.trans (Ext.mod HX2.out _) (fun g hg => .inl hg) hM3
 obtain ⟨fv1, hD1, hm1, hf1⟩ := hM3
 have hU3 : ∀ k, U k → ¬ (k = d ∨ fv.ownBlock = some k) := fun k hk e => by
  have := HU.out k hk
  rcases e with e | e
  ·
   exact this.1 e
  ·
   exact this.2 e
 have HS4 := Lib.hid (HS3.out.dm (HD.out.ext HX2.out) hm1)
 have Hv4 := Lib.hid (Hv3.out.mod hm1 hU3)
 have HA4 : Hid (w3.heap[b]? = some (.cells #[.int .i64 h.term, .int .i64 h.vote, .int .i64 h.base, .int .i64 h.baseTerm, .int .i64 h.conf.full, .int .i64 h.conf.wit, .int .i64 h.conf.learn, .int .i64 h.conf.learnWit, .slice As sl cs, .slice Al ll cl] 34 (0, 0))) := Lib.hid (hm1.blk HA3.out (fun e => by
  rcases e with e | e
  ·
   exact (HD.out.ext HX2.out).ne HA3.out (by decide) e
  ·
   exact own_apart (HD.out.ext HX2.out).2.1 e HA3.out (by decide) rfl))
 have u0 : w3.cell? ⟨s, 0, none⟩ = some (.pointer (some ⟨d, 0, none⟩)) := HS4.out.c0
 have HM3w := Lib.hid hM3w
 have HD1 := Lib.hid hD1
 have Hm1 := Lib.hid hm1
 have Hf1 := Lib.hid hf1
 obtain ⟨D1, hD1e⟩ : ∃ D1, (D.append M).1 = D1 := ⟨_, rfl⟩
 obtain ⟨cd, hcd⟩ : ∃ cd, (D.append M).2 = cd := ⟨_, rfl⟩
 have hap : D.append M = (D1, cd) := by rw [← hD1e, ← hcd]
 rw [hap] at HRr
 simp only at HRr
 rw [hD1e] at HD1 HM3w
 rw [hcd]
 clear hM3w hD1 hm1 hf1 hU3 hD1e hcd hap t0 HA3 HS3 Hv3
 rcases e0 : (cd == 0) with _ | _
 rotate_left
 ·
  have hc0 : cd = 0 := by simpa using e0
  have HRs : Hid (R = D1.sync) := Lib.hid (by rw [HRr.out, if_pos hc0])
  subst hc0
  clear HRr e0
  go_wp2_with fail
  refine (d_sync w3 d fv1 D1 HD1.out).mono ?_
  rintro e w4 ⟨rfl, hM4⟩
  have HM4 := Lib.hid (DM.trans (fv := fv) ((Ext.mod HX2.out _).self Hm1.out) (fun g hg => by
   rcases Hf1.out g hg with e | e
   ·
    exact .inl e
   ·
    exact .inr (Nat.le_trans HX2.out.size e)) hM4)
  rw [← HRs.out] at HM4 ⊢
  clear hM4
  go_wp2
  go_ret
  exact ⟨rfl, HM4.out⟩
 have hc0 : ¬ cd = 0 := by simpa using e0
 rcases e5 : (cd == 5) with _ | _
 ·
  have hc5 : ¬ cd = 5 := by simpa using e5
  have HRs : Hid (R = (D1, cd)) := Lib.hid (by rw [HRr.out, if_neg hc0, if_neg hc5])
  go_wp2
  go_ret
  rw [HRs.out]
  exact ⟨rfl, HM3w.out⟩
 ·
  have hc5 : cd = 5 := by simpa using e5
  have HRs : Hid (R = anewP D1 h) := Lib.hid (by rw [HRr.out, if_neg hc0, if_pos hc5])
  subst hc5
  have hldb := load_row (P := Tryz.prog) (o := 0) (cs := h.cells (.slice As sl cs) (.slice Al ll cl)) str_hard HA4.out rfl (fun j u hu => by rw [Nat.zero_add]; exact hu)
  clear HRr hc0 e0 e5
  go_wp2_with (refine wpList_ld rfl 34 _ rfl _ _ rfl hldb ?_)
  clear hldb
  refine (st_anew w3 U s d g h _ _ _ _ fv1 D1 HS4.out HD1.out Hv4.out hr Hlog.out).mono ?_
  rintro e w4 ⟨rfl, hM4⟩
  have HM4 := Lib.hid (DM.trans (fv := fv) ((Ext.mod HX2.out _).self Hm1.out) (fun g hg => by
   rcases Hf1.out g hg with e | e
   ·
    exact .inl e
   ·
    exact .inr (Nat.le_trans HX2.out.size e)) hM4)
  rw [← HRs.out] at HM4 ⊢
  clear hM4
  go_wp2
  go_ret
  exact ⟨rfl, HM4.out⟩
end Go.Proofs.YtjhnlncgmejkcaaGreat
namespace Go.Proofs.YtjhnlncgmejkcaaGreat
set_option linter.unusedSimpArgs false
open Go.RowKit

theorem NewH.base {W w0 w1 : World} {sv lv : Value} {h : AHard} (hh : NewH w0 w1 sv lv h) (hs : W.heap.size ≤ w0.heap.size) : NewH W w1 sv lv h := ⟨⟨hh.1.1, fun g hg => Nat.le_trans hs (hh.1.2 g hg)⟩, newE_up hh.2 hs⟩
/-- What Save leaves. -/
def SaveO (w : World) (s d : Nat) (fv gs gl : Value) (R : ADisk × AHard × Int) (e : Ending) (w' : World) : Prop := e = .returned (.int .i64 R.2.2) ∧ ∃ fv' gs' gl', Dsk w' d fv' R.1 ∧ StB w' s d R.2.1 gs' gl' ∧ Mod (fun k => k = d ∨ fv.ownBlock = some k ∨ k = s) w w' ∧
 (∀ k, fv'.ownBlock = some k → fv.ownBlock = some k ∨ w.heap.size ≤ k) ∧ ((gs' = gs ∧ gl' = gl ∧ R.2.2 ≠ 0) ∨ (NewH w w' gs' gl' R.2.1 ∧ ∀ k, gs'.ownBlock = some k → fv'.ownBlock ≠ some k))
theorem SaveO.same {w w' : World} {s d : Nat} {fv gs gl : Value} {D D' : ADisk} {g : AHard} {R : ADisk × AHard × Int} {c : Int} {e : Ending} (hR : R = (D', g, c)) (hS : StB w s d g gs gl) (hD : Dsk w d fv D) (hM : DM w d fv D' w') (he : e = .returned (.int .i64 c)) (hc : c ≠ 0) : SaveO w s d fv gs gl R e w' := by
 subst hR
 obtain ⟨fv', h1, h2, h3⟩ := hM
 exact ⟨he, fv', gs, gl, h1, hS.dm hD h2, h2.mono (fun k _ hk => by rcases hk with e | e; exact .inl e; exact .inr (.inl e)), h3, .inl ⟨rfl, rfl, hc⟩⟩
set_option maxRecDepth 100000 in
set_option maxHeartbeats 2000000 in
theorem st_save (w : World) (T U : Nat → Prop) (s d : Nat) (g h : AHard) (Bs : Option Addr) (gn bs : Nat) (Bl : Option Addr) (gg bl : Nat) (As : Option Addr) (sl cs : Nat) (Al : Option Addr) (ll cl : Nat) (fv : Value) (D : ADisk) (hS : StB w s d g (.slice Bs gn bs) (.slice Bl gg bl)) (hD : Dsk w d fv D) (hg : HardM w T (.slice Bs gn bs) (.slice Bl gg bl) g) (hgn : g.snap.length = gn) (hgl : g.log.length = gg) (hv : HardM w U (.slice As sl cs) (.slice Al ll cl) h) (hsn : h.snap.length = sl) (hll : h.log.length = ll) (hU : ∀ k, U k → k ≠ d ∧ fv.ownBlock ≠ some k) (hl : ll ≤ 12700) (hgl2 : gg ≤ 1000000) (hsl : sl ≤ 1000000) :
  Calls Tryz.prog 13 #[.pointer (some ⟨s, 0, none⟩), .agg #[.int .i64 h.term, .int .i64 h.vote, .int .i64 h.base, .int .i64 h.baseTerm, .int .i64 h.conf.full, .int .i64 h.conf.wit, .int .i64 h.conf.learn, .int .i64 h.conf.learnWit, .slice As sl cs, .slice Al ll cl]] w (SaveO w s d fv (.slice Bs gn bs) (.slice Bl gg bl) (saveP D g h)) := by
 obtain ⟨W, hW⟩ : ∃ W, w.alloc (.cells #[.int .i64 h.term, .int .i64 h.vote, .int .i64 h.base, .int .i64 h.baseTerm, .int .i64 h.conf.full, .int .i64 h.conf.wit, .int .i64 h.conf.learn, .int .i64 h.conf.learnWit, .slice As sl cs, .slice Al ll cl] 34) = W := ⟨_, rfl⟩
 have hE : Ext w W := by rw [← hW]; exact (Mod.refl _ w).alloc _
 obtain ⟨b, hb⟩ : ∃ b, w.heap.size = b := ⟨_, rfl⟩
 have hA : W.heap[b]? = some (.cells #[.int .i64 h.term, .int .i64 h.vote, .int .i64 h.base, .int .i64 h.baseTerm, .int .i64 h.conf.full, .int .i64 h.conf.wit, .int .i64 h.conf.learn, .int .i64 h.conf.learnWit, .slice As sl cs, .slice Al ll cl] 34 (0, 0)) := by rw [← hW, ← hb]; exact heap_alloc_new w _
 have hSW : StB W s d g (.slice Bs gn bs) (.slice Bl gg bl) := hE.blk hS id
 have HW := Lib.hid hW
 have HE := Lib.hid hE
 have Hb := Lib.hid hb
 have HA := Lib.hid hA
 have HS := Lib.hid hS
 have HSW := Lib.hid hSW
 have HD := Lib.hid hD
 have Hg := Lib.hid hg
 have HvW := Lib.hid (hv.mod hE (fun _ _ => id))
 have Hv := Lib.hid hv
 have HU := Lib.hid hU
 have Hll := Lib.hid hll
 have Hgl := Lib.hid hgl
 have Hsn := Lib.hid hsn
 have Hgn := Lib.hid hgn
 have Hl := Lib.hid hl
 obtain ⟨R, hR⟩ : ∃ R, saveP D g h = R := ⟨_, rfl⟩
 rw [hR]
 have HR := Lib.hid hR
 have t0 : W.cell? ⟨s, 0, none⟩ = some (.pointer (some ⟨d, 0, none⟩)) := StB.c0 hSW
 rw [← hW] at t0
 clear hW hE hb hA hSW hg hv hll hgl hsn hgn hS hD hU hR hl
 go_enter Tryz.func13, Tryz.ntmps13
 go_wp2_with fail
 rw [HW.out, Hb.out]
 refine (d_off W d fv D (HD.out.ext HE.out)).mono ?_
 rintro e w1 ⟨rfl, rfl⟩
 clear t0
 rcases hoff : D.off with _ | _
 rotate_left
 ·
  have HRq : Hid (R = (D, g, 4)) := Lib.hid (by rw [← HR.out]; unfold saveP; rw [hoff]; rfl)
  clear hoff
  go_wp2
  go_ret
  exact SaveO.same HRq.out HS.out HD.out (DM.same HD.out HE.out) rfl (by omega)
 have Hoff := Lib.hid hoff
 clear hoff
 have c0 : W.cell? ⟨b, 0, none⟩ = some (.int .i64 h.term) := blk_cell (cs := [.int .i64 h.term, .int .i64 h.vote, .int .i64 h.base, .int .i64 h.baseTerm, .int .i64 h.conf.full, .int .i64 h.conf.wit, .int .i64 h.conf.learn, .int .i64 h.conf.learnWit, .slice As sl cs, .slice Al ll cl]) HA.out rfl
 have c2 : W.cell? ⟨b, 2, none⟩ = some (.int .i64 h.base) := blk_cell (cs := [.int .i64 h.term, .int .i64 h.vote, .int .i64 h.base, .int .i64 h.baseTerm, .int .i64 h.conf.full, .int .i64 h.conf.wit, .int .i64 h.conf.learn, .int .i64 h.conf.learnWit, .slice As sl cs, .slice Al ll cl]) HA.out rfl
 have s1 : W.cell? ⟨s, 1, none⟩ = some (.int .i64 g.term) := blk_cell (cs := [.pointer (some ⟨d, 0, none⟩), .int .i64 g.term, .int .i64 g.vote, .int .i64 g.base, .int .i64 g.baseTerm, .int .i64 g.conf.full, .int .i64 g.conf.wit, .int .i64 g.conf.learn, .int .i64 g.conf.learnWit, .slice Bs gn bs, .slice Bl gg bl]) HSW.out rfl
 have s3 : W.cell? ⟨s, 3, none⟩ = some (.int .i64 g.base) := blk_cell (cs := [.pointer (some ⟨d, 0, none⟩), .int .i64 g.term, .int .i64 g.vote, .int .i64 g.base, .int .i64 g.baseTerm, .int .i64 g.conf.full, .int .i64 g.conf.wit, .int .i64 g.conf.learn, .int .i64 g.conf.learnWit, .slice Bs gn bs, .slice Bl gg bl]) HSW.out rfl
 have hbl : b < W.heap.size := (Array.getElem?_eq_some_iff.1 HA.out).1
 have hsL : s < W.heap.size := (Array.getElem?_eq_some_iff.1 HSW.out).1
 obtain ⟨tv, htv⟩ : ∃ tv, (!checkH h || decide (h.term < g.term) || decide (h.base < g.base)) = tv := ⟨_, rfl⟩
 have Htv := Lib.hid htv
 clear htv
 go_upto_region 3 with fail
 go_cut [12] (fun s12 wx => s12 = .bool tv ∧ Ext W wx)
 case first =>
  rcases hck : checkH h with _ | _
  ·
   have Ht : Hid (tv = true) := Lib.hid (by rw [← Htv.out, hck]; rfl)
   refine wp_region_held_drew (S := fun W' => Ext W W') (by kernel_rfl) (Mod.refl _ W).drew (fun hS => ?_)
   refine takeH (i := 0) (v := .agg (h.cells (.slice As sl cs) (.slice Al ll cl)).toArray) (some 13) rfl rfl (by kernel_rfl) (by kernel_rfl) (by kernel_rfl) (fun _ _ _ h => h) (Or.inl ⟨by kernel_rfl, ?_⟩) hS ?_
   ·
    rintro W' hW'
    obtain ⟨hbc, hbf⟩ := bcell hW'
    exact exec_ld _ _ rfl (.pointer (some ⟨b, 0, none⟩)) _ rfl (load_row (P := Tryz.prog) (o := 0) (cs := h.cells (.slice As sl cs) (.slice Al ll cl)) str_hard (hW'.blk HA.out id) rfl (fun j u hu => by rw [Nat.zero_add]; exact hu))
   try simp only [pL]
   refine wpAnyH_ready (rs := [1]) (by kernel_rfl) (by simp) ?_
   refine AllReadyH.cons rfl (fun K hK => ?_) AllReadyH.nil
   go_simp
   go_wp2_with fail
   refine (l_check W.drew U h _ _ (by have h1 := HvW.out; exact h1) (by rw [Hll.out]; have := Hl.out; omega)).mono ?_
   rintro e w6 ⟨rfl, hE6⟩
   rw [hck, if_neg (by simp)]
   have hX := (hS.ext hE6)
   go_simp
   refine hK.out _ _ hX (fun hS => ?_)
   clear hK K hX
   try simp only [pL]
   refine tkE 2 (some 15) rfl rfl ?_ hS ?_ ?_; rotate_left; · rintro W' _ _; go_simp; try with_reducible rfl
   try simp only [pL]
   refine tkE 3 (some 16) rfl rfl ?_ hS ?_ ?_; rotate_left; · rintro W' _ _; go_simp; try with_reducible rfl
   try simp only [pL]
   refine tuH 4 (some 17) rfl rfl hS ?_
   try simp only [pL]
   refine tuH 5 (some 18) rfl rfl hS ?_
   try simp only [pL]
   refine tuH 6 (some 19) rfl rfl hS ?_
   try simp only [pL]
   refine tuH 7 (some 20) rfl rfl hS ?_
   try simp only [pL]
   refine tuH 8 (some 21) rfl rfl hS ?_
   try simp only [pL]
   refine tuH 9 (some 22) rfl rfl hS ?_
   try simp only [pL]
   refine tuH 10 (some 23) rfl rfl hS ?_
   try simp only [pL]
   refine tuH 11 (some 24) rfl rfl hS ?_
   try simp only [pL]
   refine tkE 12 (some 25) rfl rfl ?_ hS ?_ ?_; rotate_left; · rintro W' _ _; go_simp; try with_reducible rfl
   try simp only [pL]
   refine tkE 13 (some 26) rfl rfl ?_ hS ?_ ?_; rotate_left; · rintro W' _ _; go_simp; try with_reducible rfl
   try simp only [pL]
   refine tuH 14 (some 27) rfl rfl hS ?_
   try simp only [pL]
   refine tuH 15 (some 28) rfl rfl hS ?_
   try simp only [pL]
   refine tuH 16 (some 29) rfl rfl hS ?_
   try simp only [pL]
   refine tuH 17 (some 30) rfl rfl hS ?_
   try simp only [pL]
   refine tuH 18 (some 31) rfl rfl hS ?_
   try simp only [pL]
   refine tuH 19 (some 32) rfl rfl hS ?_
   try simp only [pL]
   refine tuH 20 (some 33) rfl rfl hS ?_
   try simp only [pL]
   refine tuH 21 (some 34) rfl rfl hS ?_
   try simp only [pL]
   refine tkE 22 (some 35) rfl rfl ?_ hS ?_ ?_; rotate_left; · rintro W' _ _; go_simp; try with_reducible rfl
   try simp only [pL]
   refine tkE 23 (some 12) rfl rfl ?_ hS ?_ ?_; rotate_left; · rintro W' _ _; go_simp; try with_reducible rfl
   try simp only [pL]
   refine wpAnyH_done (by kernel_rfl) ?_ _
   go_wp2_with fail
   go_meet
   exact ⟨by first | (rw [Ht.out]; done) | (rw [Ht.out]; rfl) | (rw [Ht.out]; simp; omega), hS⟩
  by_cases h1 : h.term < g.term
  ·
   have Ht : Hid (tv = true) := Lib.hid (by rw [← Htv.out, decide_eq_true h1]; simp)
   have d1 : decide (h.term < g.term) = true := decide_eq_true h1
   refine wp_region_held_drew (S := fun W' => Ext W W') (by kernel_rfl) (Mod.refl _ W).drew (fun hS => ?_)
   refine takeH (i := 0) (v := .agg (h.cells (.slice As sl cs) (.slice Al ll cl)).toArray) (some 13) rfl rfl (by kernel_rfl) (by kernel_rfl) (by kernel_rfl) (fun _ _ _ h => h) (Or.inl ⟨by kernel_rfl, ?_⟩) hS ?_
   ·
    rintro W' hW'
    obtain ⟨hbc, hbf⟩ := bcell hW'
    exact exec_ld _ _ rfl (.pointer (some ⟨b, 0, none⟩)) _ rfl (load_row (P := Tryz.prog) (o := 0) (cs := h.cells (.slice As sl cs) (.slice Al ll cl)) str_hard (hW'.blk HA.out id) rfl (fun j u hu => by rw [Nat.zero_add]; exact hu))
   try simp only [pL]
   refine wpAnyH_ready (rs := [1]) (by kernel_rfl) (by simp) ?_
   refine AllReadyH.cons rfl (fun K hK => ?_) AllReadyH.nil
   go_simp
   go_wp2_with fail
   refine (l_check W.drew U h _ _ (by have h1 := HvW.out; exact h1) (by rw [Hll.out]; have := Hl.out; omega)).mono ?_
   rintro e w6 ⟨rfl, hE6⟩
   rw [hck, if_pos rfl]
   have hX := (hS.ext hE6)
   go_simp
   refine hK.out _ _ hX (fun hS => ?_)
   clear hK K hX
   try simp only [pL]
   refine tkE 2 (some 15) rfl rfl ?_ hS ?_ ?_; rotate_left; · rintro W' _ _; go_simp; try with_reducible rfl
   try simp only [pL]
   refine tkE 3 (some 16) rfl rfl ?_ hS ?_ ?_; rotate_left; · rintro W' _ _; go_simp; try with_reducible rfl
   try simp only [pL]
   refine tkE 4 (some 17) rfl rfl ?_ hS ?_ ?_; rotate_left; · rintro W' _ _; go_simp; try with_reducible rfl
   try simp only [pL]
   refine tkE 5 (some 18) rfl rfl ?_ hS ?_ ?_; rotate_left; · rintro W' _ _; go_simp; try with_reducible rfl
   try simp only [pL]
   refine tkE 6 (some 19) rfl rfl ?_ hS ?_ ?_; rotate_left; · rintro W' _ _; go_simp; try with_reducible rfl
   try simp only [pL]
   refine tkE 7 (some 20) rfl rfl ?_ hS ?_ ?_; rotate_left; · rintro W' _ _; go_simp; try with_reducible rfl
   try simp only [pL]
   refine tkE 8 (some 21) rfl rfl ?_ hS ?_ ?_; rotate_left; · rintro W' _ _; go_simp; try with_reducible rfl
   try simp only [pL]
   refine tkE 9 (some 22) rfl rfl ?_ hS ?_ ?_; rotate_left; · rintro W' _ _; go_simp; try with_reducible rfl
   try simp only [pL]
   refine tkE 10 (some 23) rfl rfl ?_ hS ?_ ?_; rotate_left; · rintro W' _ _; go_simp; try with_reducible rfl
   try simp only [pL]
   refine tkE 11 (some 24) rfl rfl ?_ hS ?_ ?_; rotate_left; · rintro W' _ _; go_simp; try with_reducible rfl
   try simp only [pL]
   refine tkE 12 (some 25) rfl rfl ?_ hS ?_ ?_; rotate_left; · rintro W' _ _; go_simp; try with_reducible rfl
   try simp only [pL]
   refine tkE 13 (some 26) rfl rfl ?_ hS ?_ ?_; rotate_left; · rintro W' _ _; go_simp; try with_reducible rfl
   try simp only [pL]
   refine tuH 14 (some 27) rfl rfl hS ?_
   try simp only [pL]
   refine tuH 15 (some 28) rfl rfl hS ?_
   try simp only [pL]
   refine tuH 16 (some 29) rfl rfl hS ?_
   try simp only [pL]
   refine tuH 17 (some 30) rfl rfl hS ?_
   try simp only [pL]
   refine tuH 18 (some 31) rfl rfl hS ?_
   try simp only [pL]
   refine tuH 19 (some 32) rfl rfl hS ?_
   try simp only [pL]
   refine tuH 20 (some 33) rfl rfl hS ?_
   try simp only [pL]
   refine tuH 21 (some 34) rfl rfl hS ?_
   try simp only [pL]
   refine tkE 22 (some 35) rfl rfl ?_ hS ?_ ?_; rotate_left; · rintro W' _ _; go_simp; try with_reducible rfl
   try simp only [pL]
   refine tkE 23 (some 12) rfl rfl ?_ hS ?_ ?_; rotate_left; · rintro W' _ _; go_simp; try with_reducible rfl
   try simp only [pL]
   refine wpAnyH_done (by kernel_rfl) ?_ _
   go_wp2_with fail
   go_meet
   exact ⟨by first | (rw [Ht.out]; done) | (rw [Ht.out]; rfl) | (rw [Ht.out]; simp; omega), hS⟩
  have d1 : decide (h.term < g.term) = false := decide_eq_false h1
  by_cases h2 : h.base < g.base
  ·
   have Ht : Hid (tv = true) := Lib.hid (by rw [← Htv.out, decide_eq_true h2]; simp)
   have d2 : decide (h.base < g.base) = true := decide_eq_true h2
   refine wp_region_held_drew (S := fun W' => Ext W W') (by kernel_rfl) (Mod.refl _ W).drew (fun hS => ?_)
   refine takeH (i := 0) (v := .agg (h.cells (.slice As sl cs) (.slice Al ll cl)).toArray) (some 13) rfl rfl (by kernel_rfl) (by kernel_rfl) (by kernel_rfl) (fun _ _ _ h => h) (Or.inl ⟨by kernel_rfl, ?_⟩) hS ?_
   ·
    rintro W' hW'
    obtain ⟨hbc, hbf⟩ := bcell hW'
    exact exec_ld _ _ rfl (.pointer (some ⟨b, 0, none⟩)) _ rfl (load_row (P := Tryz.prog) (o := 0) (cs := h.cells (.slice As sl cs) (.slice Al ll cl)) str_hard (hW'.blk HA.out id) rfl (fun j u hu => by rw [Nat.zero_add]; exact hu))
   try simp only [pL]
   refine wpAnyH_ready (rs := [1]) (by kernel_rfl) (by simp) ?_
   refine AllReadyH.cons rfl (fun K hK => ?_) AllReadyH.nil
   go_simp
   go_wp2_with fail
   refine (l_check W.drew U h _ _ (by have h1 := HvW.out; exact h1) (by rw [Hll.out]; have := Hl.out; omega)).mono ?_
   rintro e w6 ⟨rfl, hE6⟩
   rw [hck, if_pos rfl]
   have hX := (hS.ext hE6)
   go_simp
   refine hK.out _ _ hX (fun hS => ?_)
   clear hK K hX
   try simp only [pL]
   refine tkE 2 (some 15) rfl rfl ?_ hS ?_ ?_; rotate_left; · rintro W' _ _; go_simp; try with_reducible rfl
   try simp only [pL]
   refine tkE 3 (some 16) rfl rfl ?_ hS ?_ ?_; rotate_left; · rintro W' _ _; go_simp; try with_reducible rfl
   try simp only [pL]
   refine tkE 4 (some 17) rfl rfl ?_ hS ?_ ?_; rotate_left; · rintro W' _ _; go_simp; try with_reducible rfl
   try simp only [pL]
   refine tkE 5 (some 18) rfl rfl ?_ hS ?_ ?_; rotate_left; · rintro W' _ _; go_simp; try with_reducible rfl
   try simp only [pL]
   refine tkE 6 (some 19) rfl rfl ?_ hS ?_ ?_; rotate_left; · rintro W' _ _; go_simp; try with_reducible rfl
   try simp only [pL]
   refine tkE 7 (some 20) rfl rfl ?_ hS ?_ ?_; rotate_left; · rintro W' _ _; go_simp; try with_reducible rfl
   try simp only [pL]
   refine tkE 8 (some 21) rfl rfl ?_ hS ?_ ?_; rotate_left; · rintro W' _ _; go_simp; try with_reducible rfl
   try simp only [pL]
   refine tkE 9 (some 22) rfl rfl ?_ hS ?_ ?_; rotate_left; · rintro W' _ _; go_simp; try with_reducible rfl
   try simp only [pL]
   refine tkE 10 (some 23) rfl rfl ?_ hS ?_ ?_; rotate_left; · rintro W' _ _; go_simp; try with_reducible rfl
   try simp only [pL]
   refine tkE 11 (some 24) rfl rfl ?_ hS ?_ ?_; rotate_left; · rintro W' _ _; go_simp; try with_reducible rfl
   try simp only [pL]
   refine tkE 12 (some 25) rfl rfl ?_ hS ?_ ?_; rotate_left; · rintro W' _ _; go_simp; try with_reducible rfl
   try simp only [pL]
   refine tkE 13 (some 26) rfl rfl ?_ hS ?_ ?_; rotate_left; · rintro W' _ _; go_simp; try with_reducible rfl
   try simp only [pL]
   refine tkE 14 (some 27) rfl rfl ?_ hS ?_ ?_; rotate_left; · rintro W' _ _; go_simp; try with_reducible rfl
   try simp only [pL]
   refine tkE 15 (some 28) rfl rfl ?_ hS ?_ ?_; rotate_left; · rintro W' _ _; go_simp; try with_reducible rfl
   try simp only [pL]
   refine tkE 16 (some 29) rfl rfl ?_ hS ?_ ?_; rotate_left; · rintro W' _ _; go_simp; try with_reducible rfl
   try simp only [pL]
   refine tkE 17 (some 30) rfl rfl ?_ hS ?_ ?_; rotate_left; · rintro W' _ _; go_simp; try with_reducible rfl
   try simp only [pL]
   refine tkE 18 (some 31) rfl rfl ?_ hS ?_ ?_; rotate_left; · rintro W' _ _; go_simp; try with_reducible rfl
   try simp only [pL]
   refine tkE 19 (some 32) rfl rfl ?_ hS ?_ ?_; rotate_left; · rintro W' _ _; go_simp; try with_reducible rfl
   try simp only [pL]
   refine tkE 20 (some 33) rfl rfl ?_ hS ?_ ?_; rotate_left; · rintro W' _ _; go_simp; try with_reducible rfl
   try simp only [pL]
   refine tkE 21 (some 34) rfl rfl ?_ hS ?_ ?_; rotate_left; · rintro W' _ _; go_simp; try with_reducible rfl
   try simp only [pL]
   refine tkE 22 (some 35) rfl rfl ?_ hS ?_ ?_; rotate_left; · rintro W' _ _; go_simp; try with_reducible rfl
   try simp only [pL]
   refine tkE 23 (some 12) rfl rfl ?_ hS ?_ ?_; rotate_left; · rintro W' _ _; go_simp; try with_reducible rfl
   try simp only [pL]
   refine wpAnyH_done (by kernel_rfl) ?_ _
   go_wp2_with fail
   go_meet
   exact ⟨by first | (rw [Ht.out]; done) | (rw [Ht.out]; rfl) | (rw [Ht.out]; simp; omega), hS⟩
  ·
   have Ht : Hid (tv = false) := Lib.hid (by rw [← Htv.out, hck, decide_eq_false h1, decide_eq_false h2]; rfl)
   have d2 : decide (h.base < g.base) = false := decide_eq_false h2
   refine wp_region_held_drew (S := fun W' => Ext W W') (by kernel_rfl) (Mod.refl _ W).drew (fun hS => ?_)
   refine takeH (i := 0) (v := .agg (h.cells (.slice As sl cs) (.slice Al ll cl)).toArray) (some 13) rfl rfl (by kernel_rfl) (by kernel_rfl) (by kernel_rfl) (fun _ _ _ h => h) (Or.inl ⟨by kernel_rfl, ?_⟩) hS ?_
   ·
    rintro W' hW'
    obtain ⟨hbc, hbf⟩ := bcell hW'
    exact exec_ld _ _ rfl (.pointer (some ⟨b, 0, none⟩)) _ rfl (load_row (P := Tryz.prog) (o := 0) (cs := h.cells (.slice As sl cs) (.slice Al ll cl)) str_hard (hW'.blk HA.out id) rfl (fun j u hu => by rw [Nat.zero_add]; exact hu))
   try simp only [pL]
   refine wpAnyH_ready (rs := [1]) (by kernel_rfl) (by simp) ?_
   refine AllReadyH.cons rfl (fun K hK => ?_) AllReadyH.nil
   go_simp
   go_wp2_with fail
   refine (l_check W.drew U h _ _ (by have h1 := HvW.out; exact h1) (by rw [Hll.out]; have := Hl.out; omega)).mono ?_
   rintro e w6 ⟨rfl, hE6⟩
   rw [hck, if_pos rfl]
   have hX := (hS.ext hE6)
   go_simp
   refine hK.out _ _ hX (fun hS => ?_)
   clear hK K hX
   try simp only [pL]
   refine tkE 2 (some 15) rfl rfl ?_ hS ?_ ?_; rotate_left; · rintro W' _ _; go_simp; try with_reducible rfl
   try simp only [pL]
   refine tkE 3 (some 16) rfl rfl ?_ hS ?_ ?_; rotate_left; · rintro W' _ _; go_simp; try with_reducible rfl
   try simp only [pL]
   refine tkE 4 (some 17) rfl rfl ?_ hS ?_ ?_; rotate_left; · rintro W' _ _; go_simp; try with_reducible rfl
   try simp only [pL]
   refine tkE 5 (some 18) rfl rfl ?_ hS ?_ ?_; rotate_left; · rintro W' _ _; go_simp; try with_reducible rfl
   try simp only [pL]
   refine tkE 6 (some 19) rfl rfl ?_ hS ?_ ?_; rotate_left; · rintro W' _ _; go_simp; try with_reducible rfl
   try simp only [pL]
   refine tkE 7 (some 20) rfl rfl ?_ hS ?_ ?_; rotate_left; · rintro W' _ _; go_simp; try with_reducible rfl
   try simp only [pL]
   refine tkE 8 (some 21) rfl rfl ?_ hS ?_ ?_; rotate_left; · rintro W' _ _; go_simp; try with_reducible rfl
   try simp only [pL]
   refine tkE 9 (some 22) rfl rfl ?_ hS ?_ ?_; rotate_left; · rintro W' _ _; go_simp; try with_reducible rfl
   try simp only [pL]
   refine tkE 10 (some 23) rfl rfl ?_ hS ?_ ?_; rotate_left; · rintro W' _ _; go_simp; try with_reducible rfl
   try simp only [pL]
   refine tkE 11 (some 24) rfl rfl ?_ hS ?_ ?_; rotate_left; · rintro W' _ _; go_simp; try with_reducible rfl
   try simp only [pL]
   refine tkE 12 (some 25) rfl rfl ?_ hS ?_ ?_; rotate_left; · rintro W' _ _; go_simp; try with_reducible rfl
   try simp only [pL]
   refine tkE 13 (some 26) rfl rfl ?_ hS ?_ ?_; rotate_left; · rintro W' _ _; go_simp; try with_reducible rfl
   try simp only [pL]
   refine tkE 14 (some 27) rfl rfl ?_ hS ?_ ?_; rotate_left; · rintro W' _ _; go_simp; try with_reducible rfl
   try simp only [pL]
   refine tkE 15 (some 28) rfl rfl ?_ hS ?_ ?_; rotate_left; · rintro W' _ _; go_simp; try with_reducible rfl
   try simp only [pL]
   refine tkE 16 (some 29) rfl rfl ?_ hS ?_ ?_; rotate_left; · rintro W' _ _; go_simp; try with_reducible rfl
   try simp only [pL]
   refine tkE 17 (some 30) rfl rfl ?_ hS ?_ ?_; rotate_left; · rintro W' _ _; go_simp; try with_reducible rfl
   try simp only [pL]
   refine tkE 18 (some 31) rfl rfl ?_ hS ?_ ?_; rotate_left; · rintro W' _ _; go_simp; try with_reducible rfl
   try simp only [pL]
   refine tkE 19 (some 32) rfl rfl ?_ hS ?_ ?_; rotate_left; · rintro W' _ _; go_simp; try with_reducible rfl
   try simp only [pL]
   refine tkE 20 (some 33) rfl rfl ?_ hS ?_ ?_; rotate_left; · rintro W' _ _; go_simp; try with_reducible rfl
   try simp only [pL]
   refine tkE 21 (some 34) rfl rfl ?_ hS ?_ ?_; rotate_left; · rintro W' _ _; go_simp; try with_reducible rfl
   try simp only [pL]
   refine tkE 22 (some 35) rfl rfl ?_ hS ?_ ?_; rotate_left; · rintro W' _ _; go_simp; try with_reducible rfl
   try simp only [pL]
   refine tkE 23 (some 12) rfl rfl ?_ hS ?_ ?_; rotate_left; · rintro W' _ _; go_simp; try with_reducible rfl
   try simp only [pL]
   refine wpAnyH_done (by kernel_rfl) ?_ _
   go_wp2_with fail
   go_meet
   exact ⟨by first | (rw [Ht.out]; done) | (rw [Ht.out]; rfl) | (rw [Ht.out]; simp; omega), hS⟩
 obtain ⟨rfl, hX⟩ := hcut
 have HX := Lib.hid (HE.out.ext hX)
 have HA2 := Lib.hid (hX.blk HA.out id)
 have HS2 : Hid (StB wc s d g (.slice Bs gn bs) (.slice Bl gg bl)) := Lib.hid (hX.blk HSW.out id)
 have Hv2 := Lib.hid (HvW.out.mod hX (fun _ _ => id))
 clear hX c0 c2 s1 s3 hbl hsL HSW HvW HA
 rcases tv with _ | _
 rotate_left
 ·
  have HRq : Hid (R = (D, g, 6)) := Lib.hid (by
   rw [← HR.out]
   unfold saveP
   have h1 := Htv.out
   simp only [Bool.or_eq_true, Bool.not_eq_true', decide_eq_true_eq] at h1
   rw [Hoff.out, if_neg (by simp), if_pos (by rcases h1 with (h1 | h1) | h1; exact .inl h1; exact .inr (.inl h1); exact .inr (.inr h1))])
  go_wp2
  go_ret
  exact SaveO.same HRq.out HS.out HD.out (DM.same HD.out HX.out) rfl (by omega)
 have hf := Htv.out
 simp only [Bool.or_eq_false_iff, Bool.not_eq_false', decide_eq_false_iff_not] at hf
 have hr := (checkH_iff h).1 hf.1.1
 have HRq : Hid (R = ((writeP D g h).1, if (writeP D g h).2 = 0 then h else g, (writeP D g h).2)) := Lib.hid (by
  rw [← HR.out]
  unfold saveP
  rw [Hoff.out, if_neg (by simp), if_neg (by rintro (e | e | e); rw [hf.1.1] at e; cases e; exact hf.1.2 e; exact hf.2 e)])
 clear hf Htv
 have hldb := load_row (P := Tryz.prog) (o := 0) (cs := h.cells (.slice As sl cs) (.slice Al ll cl)) str_hard HA2.out rfl (fun j u hu => by rw [Nat.zero_add]; exact hu)
 go_wp2_with (refine wpList_ld rfl 34 _ rfl _ _ rfl hldb ?_)
 clear hldb
 refine (st_write wc T U s d g h Bs gn bs Bl gg bl As sl cs Al ll cl fv D HS2.out (HD.out.ext HX.out) (Hg.out.mod HX.out (fun _ _ => id)) Hgn.out Hgl.out Hv2.out Hsn.out Hll.out HU.out hr Hl.out hgl2).mono ?_
 rintro e w2 ⟨rfl, hM2⟩
 have hM2w := DM.trans (Ext.mod HX.out _) (fun g hg => .inl hg) hM2
 obtain ⟨fv1, hD1, hm1, hf1⟩ := hM2
 have hU3 : ∀ k, U k → ¬ (k = d ∨ fv.ownBlock = some k) := fun k hk e => by
  have := HU.out k hk
  rcases e with e | e
  ·
   exact this.1 e
  ·
   exact this.2 e
 have HS3 := Lib.hid (HS2.out.dm (HD.out.ext HX.out) hm1)
 have Hv3 := Lib.hid (Hv2.out.mod hm1 hU3)
 have HA3 : Hid (w2.heap[b]? = some (.cells #[.int .i64 h.term, .int .i64 h.vote, .int .i64 h.base, .int .i64 h.baseTerm, .int .i64 h.conf.full, .int .i64 h.conf.wit, .int .i64 h.conf.learn, .int .i64 h.conf.learnWit, .slice As sl cs, .slice Al ll cl] 34 (0, 0))) := Lib.hid (hm1.blk HA2.out (fun e => by
  rcases e with e | e
  ·
   exact (HD.out.ext HX.out).ne HA2.out (by decide) e
  ·
   exact own_apart (HD.out.ext HX.out).2.1 e HA2.out (by decide) rfl))
 have HD1 := Lib.hid hD1
 have Hm1 := Lib.hid ((Ext.mod HX.out (fun k => k = d ∨ fv.ownBlock = some k)).self hm1)
 have Hf1 : Hid (∀ g, fv1.ownBlock = some g → fv.ownBlock = some g ∨ w.heap.size ≤ g) := Lib.hid (fun g hg => by
  rcases hf1 g hg with e | e
  ·
   exact .inl e
  ·
   exact .inr (Nat.le_trans HX.out.size e))
 have HM2w := Lib.hid hM2w
 obtain ⟨D1, hD1e⟩ : ∃ D1, (writeP D g h).1 = D1 := ⟨_, rfl⟩
 obtain ⟨cd, hcd⟩ : ∃ cd, (writeP D g h).2 = cd := ⟨_, rfl⟩
 rw [hD1e, hcd] at HRq
 rw [hD1e] at HD1 HM2w
 rw [hcd]
 clear hM2w hD1 hm1 hf1 hU3 hD1e hcd
 rcases e0 : (cd == 0) with _ | _
 ·
  have hc0 : ¬ cd = 0 := by simpa using e0
  have HRs : Hid (R = (D1, g, cd)) := Lib.hid (by rw [HRq.out, if_neg hc0])
  go_wp2
  go_ret
  exact SaveO.same HRs.out HS.out HD.out HM2w.out rfl hc0
 have hc0 : cd = 0 := by simpa using e0
 have HRs : Hid (R = (D1, h, 0)) := Lib.hid (by rw [HRq.out, if_pos hc0, hc0])
 subst hc0
 clear HRq e0
 have hldb := load_row (P := Tryz.prog) (o := 0) (cs := h.cells (.slice As sl cs) (.slice Al ll cl)) str_hard HA3.out rfl (fun j u hu => by rw [Nat.zero_add]; exact hu)
 go_wp2_with (refine wpList_ld rfl 34 _ rfl _ _ rfl hldb ?_)
 clear hldb
 refine (st_twin w2 U h _ _ Hv3.out (by rw [Hll.out]; have := Hl.out; omega) (by rw [Hsn.out]; exact hsl)).mono ?_
 rintro e w3 ⟨gs', gl', rfl, hN3, hX3⟩
 have HS4 : Hid (StB w3 s d g (.slice Bs gn bs) (.slice Bl gg bl)) := Lib.hid (hX3.blk HS3.out id)
 have hone := cells_one hN3
 have HN3 := Lib.hid hN3
 have HX3 := Lib.hid hX3
 clear hN3 hX3
 go_wp2_with (refine wpList_stR rfl 34 _ _ rfl 10 s 1 (h.cells gs' gl') rfl rfl str_hard _ (stCells d g (.slice Bs gn bs) (.slice Bl gg bl)) (stCells d h gs' gl') HS4.out rfl (by simp) hone rfl ?_)
 intro w4 hb4 hm4 hs4
 have hD3 := HD1.out.ext HX3.out
 have hD4 : Dsk w4 d fv1 D1 := hD3.mod hm4 (fun e => hD3.ne HS4.out (by decide) e.symm) (fun k hk e => own_apart hD3.2.1 hk HS4.out (by decide) e)
 have hN4 : NewH w w4 gs' gl' h := (HN3.out.box HS4.out hm4 (by decide) (by decide)).base Hm1.out.size
 have hM4 : Mod (fun k => k = d ∨ fv.ownBlock = some k ∨ k = s) w w4 := ((Hm1.out.mono (T := fun k => k = d ∨ fv.ownBlock = some k ∨ k = s) (fun k _ hk => by rcases hk with e | e; exact .inl e; exact .inr (.inl e))).ext HX3.out).trans hm4 (fun k _ e => .inr (.inr e))
 have hap : ∀ k, gs'.ownBlock = some k → fv1.ownBlock ≠ some k := fun k hk e => by
  have h1 := HN3.out.1.2 k hk
  have h2 := own_lt HD1.out.2.1 e
  omega
 have HF : Hid (SaveO w s d fv (.slice Bs gn bs) (.slice Bl gg bl) R (.returned (.int .i64 0)) w4) := Lib.hid (by
  rw [HRs.out]
  exact ⟨rfl, fv1, gs', gl', hD4, hb4, hM4, Hf1.out, .inr ⟨hN4, hap⟩⟩)
 clear hD3 hD4 hN4 hM4 hap hm4 hs4 hb4
 go_wp2
 go_ret
 exact HF.out
end Go.Proofs.YtjhnlncgmejkcaaGreat
