/-
 Contracts of stable's Hard and Open (printed by stbop.py). Conditions: as each theorem names them.
-/
import Derived.Test.YtjhnlncgmejkcaaGreatS22
namespace Go.Proofs.YtjhnlncgmejkcaaGreat
set_option linter.unusedSimpArgs false
open Go.RowKit

/-- A store's cells. -/
abbrev stCells (d : Nat) (g : AHard) (gs gl : Value) : List Value := .pointer (some ⟨d, 0, none⟩) :: g.cells gs gl
theorem StB.ld {w : World} {s d : Nat} {g : AHard} {gs gl : Value} (h : StB w s d g gs gl) : (Instr.loadAt 34 (.pointer (some ⟨s, 1, none⟩))).run Tryz.prog w = .ok (.agg (g.cells gs gl).toArray) w :=
 load_row (P := Tryz.prog) (o := 1) (cs := g.cells gs gl) str_hard h rfl (fun j u hu => by rw [Nat.add_comm]; exact hu)
theorem StB.c0 {w : World} {s d : Nat} {g : AHard} {gs gl : Value} (h : StB w s d g gs gl) : w.cell? ⟨s, 0, none⟩ = some (.pointer (some ⟨d, 0, none⟩)) := blk_cell (cs := stCells d g gs gl) h rfl
theorem scan_all (b : List UInt8) : (∀ p ∈ (scanP b).1, p.length ≤ 16384) ∧ (scanP b).1.length ≤ b.length := by
 obtain ⟨n, hn⟩ : ∃ n, b.length = n := ⟨_, rfl⟩
 induction n using Nat.strongRecOn generalizing b with
 | _ n ih =>
  rcases h : firstP b with _ | ⟨p, m⟩
  ·
   rw [scan_none h]; exact ⟨by simp, by simp⟩
  ·
   obtain ⟨h1, h2, h3⟩ := first_size h
   rw [scan_step h]
   have := ih (b.drop m).length (by rw [List.length_drop]; omega) (b.drop m) rfl
   refine ⟨fun q hq => ?_, ?_⟩
   ·
    rcases List.mem_cons.1 hq with rfl | hq
    ·
     exact h3
    ·
     exact this.1 q hq
   ·
    have h4 := this.2
    simp only [List.length_cons, List.length_drop] at h4 ⊢
    omega
set_option maxRecDepth 100000 in
set_option maxHeartbeats 2000000 in
theorem st_hard (w : World) (T : Nat → Prop) (s d : Nat) (g : AHard) (gs gl : Value) (hS : StB w s d g gs gl) (hv : HardM w T gs gl g) (hl : g.log.length ≤ 1000000) (hsl : g.snap.length ≤ 1000000) :
  Calls Tryz.prog 15 #[.pointer (some ⟨s, 0, none⟩)] w fun e w' => ∃ sv lv, e = .returned (.agg (g.cells sv lv).toArray) ∧ NewH w w' sv lv g ∧ Ext w w' := by
 obtain ⟨W, hW⟩ : ∃ W, w.alloc (.cells #[.int .i64 0, .int .i64 0, .int .i64 0, .int .i64 0, .int .i64 0, .int .i64 0, .int .i64 0, .int .i64 0, .slice none 0 0, .slice none 0 0] 34) = W := ⟨_, rfl⟩
 have hE : Ext w W := by rw [← hW]; exact (Mod.refl _ w).alloc _
 have hA : W.heap[w.heap.size]? = some (.cells #[.int .i64 0, .int .i64 0, .int .i64 0, .int .i64 0, .int .i64 0, .int .i64 0, .int .i64 0, .int .i64 0, .slice none 0 0, .slice none 0 0] 34 (0, 0)) := by rw [← hW]; exact heap_alloc_new w _
 have hld := StB.ld (hE.blk hS id)
 have hv1 := hv.mod hE (fun _ _ => id)
 have HW := Lib.hid hW
 have HE := Lib.hid hE
 have HA := Lib.hid hA
 have Hv1 := Lib.hid hv1
 clear hW hE hA hS hv hv1
 go_enter Tryz.func15, Tryz.ntmps15
 go_wp2_with (rw [HW.out]; refine wpList_ld rfl 34 _ rfl _ _ rfl hld ?_)
 clear hld
 refine (st_twin W T g gs gl Hv1.out hl hsl).mono ?_
 rintro e w1 ⟨sv, lv, rfl, hN1, hE1⟩
 have HA1 := Lib.hid (hE1.blk HA.out id)
 have HE1 := Lib.hid (HE.out.ext hE1)
 have HN1 := Lib.hid (hN1.up HE.out)
 have hone := cells_one hN1
 clear hN1 hE1
 go_wp2_with (refine wpList_stR rfl 34 _ _ rfl 10 w.heap.size 0 (g.cells sv lv) rfl rfl str_hard _ [.int .i64 0, .int .i64 0, .int .i64 0, .int .i64 0, .int .i64 0, .int .i64 0, .int .i64 0, .int .i64 0, .slice none 0 0, .slice none 0 0] (g.cells sv lv) HA1.out rfl (by simp) hone rfl ?_)
 intro w5 hb5 hm5 hs5
 have HE5 := Lib.hid (HE1.out.trans hm5 (fun k hk e => by omega))
 have HN5 := Lib.hid (HN1.out.box HA1.out hm5 (by decide) (by decide))
 clear hm5 hs5
 go_wp2_with fail
 exact bodyPost_ret (v := .agg (g.cells sv lv).toArray) (results_cell_row rfl _ _ _ _ _ (0, 0) _ rfl hb5 Tryz.underlying34 rfl (by kernel_rfl)) rfl ⟨_, _, rfl, HN5.out, HE5.out⟩
/-- What Open leaves. -/
def OpenO (w : World) (d : Nat) (fv : Value) (R : ADisk × Option AHard × Int) (e : Ending) (w' : World) : Prop := ∃ fv', Dsk w' d fv' R.1 ∧ Mod (fun k => k = d ∨ fv.ownBlock = some k) w w' ∧ (∀ g, fv'.ownBlock = some g → fv.ownBlock = some g ∨ w.heap.size ≤ g) ∧
 match R.2.1 with
 | none => e = .returned (.tuple #[.pointer none, .int .i64 R.2.2]) ∧ R.2.2 ≠ 0
 | some g => ∃ s gs gl, e = .returned (.tuple #[.pointer (some ⟨s, 0, none⟩), .int .i64 R.2.2]) ∧ R.2.2 = 0 ∧ StB w' s d g gs gl ∧ NewH w w' gs gl g ∧ (∀ k, gs.ownBlock = some k → fv'.ownBlock ≠ some k) ∧ w.heap.size ≤ s
theorem OpenO.no {w : World} {d : Nat} {fv : Value} {D : ADisk} {R : ADisk × Option AHard × Int} {e : Ending} {w' : World} {c : Int} (hR : R = (D, none, c)) (hM : DM w d fv D w') (he : e = .returned (.tuple #[.pointer none, .int .i64 c])) (hc : c ≠ 0) : OpenO w d fv R e w' := by
 subst hR
 obtain ⟨fv', h1, h2, h3⟩ := hM
 exact ⟨fv', h1, h2, h3, he, hc⟩
theorem own_lt {w : World} {e : TypeId} {k n g : Nat} {v : Value} {xs : List Value} (h : w.ownsRow 0 e k v n xs) (hg : v.ownBlock = some g) : g < w.heap.size := by
 rcases row_of_own h with ⟨rfl, _⟩ | ⟨g', cap, cur, rfl, hR, _⟩
 ·
  simp [Value.ownBlock] at hg
 ·
  simp [Value.ownBlock] at hg
  subst hg
  exact (Array.getElem?_eq_some_iff.1 hR).1
/-- Behind the last step of an opening. -/
theorem open_fin {w W4 w5 : World} {s d : Nat} {fv gs gl : Value} {D D' : ADisk} {g : AHard} {c : Int} (hs : w.heap.size ≤ s) (hS : StB W4 s d g gs gl) (hN : NewH w W4 gs gl g) (hX : Ext w W4) (hD : Dsk w d fv D) (hM : DM W4 d fv D' w5) :
  OpenO w d fv (D', if c = 0 then some g else none, c) (.returned (.tuple #[if c = 0 then .pointer (some ⟨s, 0, none⟩) else .pointer none, .int .i64 c])) w5 := by
 have hdl := hD.lt
 have hfl : ∀ k, fv.ownBlock = some k → k < w.heap.size := fun k hk => own_lt hD.2.1 hk
 obtain ⟨fv', h1, h2, h3⟩ := DM.trans (Ext.mod hX _) (fun g hg => .inl hg) hM
 obtain ⟨fv2, k1, k2, k3⟩ := hM
 refine ⟨fv2, k1, (Ext.mod hX _).trans k2 (fun i hi e => e), fun g hg => ?_, ?_⟩
 ·
  rcases k3 g hg with e | e
  ·
   exact .inl e
  ·
   exact .inr (Nat.le_trans hX.size e)
 by_cases hc : c = 0
 ·
  subst hc
  simp only [if_true]
  refine ⟨s, gs, gl, by simp, by simp, k2.blk hS (fun e => ?_), hN.mod k2 (fun k hk e => ?_) (fun k hk e => ?_), fun k hk e => ?_, hs⟩
  ·
   rcases e with e | e
   ·
    omega
   ·
    have := hfl s e; omega
  ·
   have h4 := hN.1.2 k hk
   rcases e with e | e
   ·
    omega
   ·
    have := hfl k e; omega
  ·
   have h4 := hN.2.2.2 k hk
   rcases e with e | e
   ·
    omega
   ·
    have := hfl k e; omega
  ·
   have h4 := hN.1.2 k hk
   have h5 := own_lt hN.1.1 hk
   rcases k3 k e with h6 | h6
   ·
    have := hfl k h6; omega
   ·
    omega
 ·
  simp only [if_neg hc]
  exact ⟨by simp, hc⟩
theorem disk_len {w : World} {d : Nat} {fv : Value} {D : ADisk} (h : Dsk w d fv D) : D.file.length ≤ 65536 := by
 have h1 := h.2.2
 unfold ADisk.ok at h1
 omega
set_option maxRecDepth 100000 in
set_option maxHeartbeats 2000000 in
theorem st_open (w : World) (T : Nat → Prop) (d : Nat) (fi : AHard) (sv lv fv : Value) (D : ADisk) (hD : Dsk w d fv D) (hv : HardM w T sv lv fi) (hl : fi.log.length ≤ 12700) :
  Calls Tryz.prog 12 #[.pointer (some ⟨d, 0, none⟩), .agg #[.int .i64 fi.term, .int .i64 fi.vote, .int .i64 fi.base, .int .i64 fi.baseTerm, .int .i64 fi.conf.full, .int .i64 fi.conf.wit, .int .i64 fi.conf.learn, .int .i64 fi.conf.learnWit, sv, lv]] w (OpenO w d fv (openP D fi)) := by
 obtain ⟨W, hW⟩ : ∃ W, w.alloc (.cells #[.int .i64 fi.term, .int .i64 fi.vote, .int .i64 fi.base, .int .i64 fi.baseTerm, .int .i64 fi.conf.full, .int .i64 fi.conf.wit, .int .i64 fi.conf.learn, .int .i64 fi.conf.learnWit, sv, lv] 34) = W := ⟨_, rfl⟩
 have hE : Ext w W := by rw [← hW]; exact (Mod.refl _ w).alloc _
 have hA : W.heap[w.heap.size]? = some (.cells #[.int .i64 fi.term, .int .i64 fi.vote, .int .i64 fi.base, .int .i64 fi.baseTerm, .int .i64 fi.conf.full, .int .i64 fi.conf.wit, .int .i64 fi.conf.learn, .int .i64 fi.conf.learnWit, sv, lv] 34 (0, 0)) := by rw [← hW]; exact heap_alloc_new w _
 obtain ⟨b, hb⟩ : ∃ b, w.heap.size = b := ⟨_, rfl⟩
 rw [hb] at hA
 have HW := Lib.hid hW
 have HE := Lib.hid hE
 have HA := Lib.hid hA
 have HD := Lib.hid hD
 have Hb := Lib.hid hb
 have Hv := Lib.hid hv
 have hll : fi.log.length ≤ 1000000 := by omega
 have hfl := disk_len hD
 have Hl := Lib.hid hl
 have Hll := Lib.hid hll
 have Hfl := Lib.hid hfl
 have hfo := hv.forms
 clear hW hE hA hD hb hv hl hll hfl
 obtain ⟨As, cs, Al, cl, rfl, rfl⟩ := hfo
 obtain ⟨sl, hsl⟩ : ∃ n, fi.snap.length = n := ⟨_, rfl⟩
 obtain ⟨ll, hll⟩ : ∃ n, fi.log.length = n := ⟨_, rfl⟩
 have Hsl := Lib.hid hsl
 have Hle := Lib.hid hll
 rw [hsl, hll] at Hv HW HA ⊢
 clear hsl hll
 rcases hoff : D.off with _ | _
 rotate_left
 ·
  have Hp : Hid (openP D fi = (D, none, 4)) := Lib.hid (by unfold openP; rw [hoff]; rfl)
  have Hoff := Lib.hid hoff
  clear hoff
  go_enter Tryz.func12, Tryz.ntmps12
  go_wp2_with fail
  rw [HW.out]
  refine (d_read_off W d fv D (HD.out.ext HE.out) Hoff.out).mono ?_
  rintro e w1 ⟨rfl, rfl⟩
  go_wp2
  go_ret2
  exact OpenO.no Hp.out (DM.same HD.out HE.out) rfl (by decide)
 go_enter Tryz.func12, Tryz.ntmps12
 go_wp2_with fail
 rw [HW.out, Hb.out]
 refine (d_read W d fv D (HD.out.ext HE.out) hoff).mono ?_
 rintro e w1 ⟨v1, rfl, hN1, hX1⟩
 have HA1 := Lib.hid (hX1.blk HA.out id)
 have HX1 := Lib.hid (HE.out.ext hX1)
 obtain ⟨A1, c1, rfl⟩ := own_form hN1.1
 obtain ⟨n, hn⟩ : ∃ n, D.file.length = n := ⟨_, rfl⟩
 have hfb := hN1
 rw [hn] at hfb Hfl ⊢
 have Hn := Lib.hid hn
 have Hfb := Lib.hid hfb
 have Hoff := Lib.hid hoff
 clear hN1 hX1 hn hfb hoff
 have hld := load_row (P := Tryz.prog) (o := 0) (cs := fi.cells (.slice As sl cs) (.slice Al ll cl)) str_hard HA1.out rfl (fun j u hu => by rw [Nat.zero_add]; exact hu)
 go_wp2_with (refine wpList_ld rfl 34 _ rfl _ _ rfl hld ?_)
 clear hld
 refine (l_check w1 T fi _ _ (Hv.out.mod HX1.out (fun _ _ => id)) Hll.out).mono ?_
 rintro e w2 ⟨rfl, hX2⟩
 have HA2 := Lib.hid (hX2.blk HA1.out id)
 have HX2 := Lib.hid (HX1.out.ext hX2)
 have Hfb2 := Lib.hid (Hfb.out.ext hX2)
 clear hX2 HA1 Hfb
 rcases hck : checkH fi with _ | _
 ·
  have Hp : Hid (openP D fi = (D, none, 6)) := Lib.hid (by unfold openP; rw [Hoff.out, hck]; rfl)
  clear hck
  rw [if_neg (by simp)]
  go_wp2
  go_ret2
  exact OpenO.no Hp.out (DM.same HD.out HX2.out) rfl (by decide)
 rw [if_pos rfl]
 have hri := (checkH_iff fi).1 hck
 have hld := load_row (P := Tryz.prog) (o := 0) (cs := fi.cells (.slice As sl cs) (.slice Al ll cl)) str_hard HA2.out rfl (fun j u hu => by rw [Nat.zero_add]; exact hu)
 have Hck := Lib.hid hck
 clear hck
 go_wp2_with (refine wpList_ld rfl 34 _ rfl _ _ rfl hld ?_)
 clear hld
 refine (st_twin w2 T fi _ _ (Hv.out.mod HX2.out (fun _ _ => id)) Hll.out (by have := hri.s; omega)).mono ?_
 rintro e w3 ⟨gs, gl, rfl, hN3, hX3⟩
 have HA3 := Lib.hid (hX3.blk HA2.out id)
 have HX3 := Lib.hid (HX2.out.ext hX3)
 have Hfb3 := Lib.hid (Hfb2.out.ext hX3)
 have HN3 := Lib.hid (hN3.up HX2.out)
 clear hX3 hN3 HA2 Hfb2
 obtain ⟨s, hs⟩ : ∃ s, w3.heap.size = s := ⟨_, rfl⟩
 obtain ⟨W4, hW4⟩ : ∃ W4, w3.alloc (.cells #[.pointer (some ⟨d, 0, none⟩), .int .i64 fi.term, .int .i64 fi.vote, .int .i64 fi.base, .int .i64 fi.baseTerm, .int .i64 fi.conf.full, .int .i64 fi.conf.wit, .int .i64 fi.conf.learn, .int .i64 fi.conf.learnWit, gs, gl] 88) = W4 := ⟨_, rfl⟩
 have hE4 : Ext w3 W4 := by rw [← hW4]; exact (Mod.refl _ w3).alloc _
 have hS4 : StB W4 s d fi gs gl := by unfold StB; rw [← hW4, ← hs]; exact heap_alloc_new w3 _
 have HA4 := Lib.hid (hE4.blk HA3.out id)
 have HX4 := Lib.hid (HX3.out.ext hE4)
 have HN4 := Lib.hid (HN3.out.ext hE4)
 have Hfb4 := Lib.hid (Hfb3.out.ext hE4)
 have Hsw : Hid (w.heap.size ≤ s) := Lib.hid (by rw [← hs]; exact HX3.out.size)
 have HS4 := Lib.hid hS4
 have Hs := Lib.hid hs
 have HW4 := Lib.hid hW4
 clear hs hW4 hE4 hS4 HA3 HX3 HN3 Hfb3
 have hld := load_row (P := Tryz.prog) (o := 0) (cs := fi.cells (.slice As sl cs) (.slice Al ll cl)) str_hard HA4.out rfl (fun j u hu => by rw [Nat.zero_add]; exact hu)
 by_cases hn0 : n = 0
 ·
  have hp : openP D fi = ((anewP D fi).1, if (anewP D fi).2 = 0 then some fi else none, (anewP D fi).2) := by
   unfold openP
   rw [Hoff.out, Hck.out, if_neg (by simp), if_neg (by simp), if_pos (by rw [Hn.out]; exact hn0)]
  have Hp := Lib.hid hp
  clear hp
  subst hn0
  go_wp2_with (rw [HW4.out, Hs.out]; refine wpList_ld rfl 34 _ rfl _ _ rfl hld ?_)
  clear hld
  refine (st_anew W4 T s d fi fi gs gl _ _ fv D HS4.out (HD.out.ext HX4.out) (Hv.out.mod HX4.out (fun _ _ => id)) hri Hl.out).mono ?_
  rintro e w5 ⟨rfl, hM5⟩
  have HF := Lib.hid (open_fin (c := (anewP D fi).2) Hsw.out HS4.out HN4.out HX4.out HD.out hM5)
  clear hM5
  obtain ⟨cd, hcd⟩ : ∃ cd, (anewP D fi).2 = cd := ⟨_, rfl⟩
  rw [hcd] at HF Hp ⊢
  clear hcd
  go_wp2_with fail
  refine (st_opened w5 _ cd).mono ?_
  rintro e w6 ⟨rfl, rfl⟩
  by_cases hc0 : cd = 0
  ·
   have HF2 := HF.out
   have Hp2 := Hp.out
   rw [if_pos hc0] at HF2 Hp2 ⊢
   rw [if_pos hc0] at HF2
   have HF3 := Lib.hid HF2
   have Hp3 := Lib.hid Hp2
   clear HF2 Hp2 hc0
   go_wp2
   go_ret2
   rw [Hp3.out]
   exact HF3.out
  ·
   have HF2 := HF.out
   have Hp2 := Hp.out
   rw [if_neg hc0] at HF2 Hp2 ⊢
   rw [if_neg hc0] at HF2
   have HF3 := Lib.hid HF2
   have Hp3 := Lib.hid Hp2
   clear HF2 Hp2 hc0
   go_wp2
   go_ret2
   rw [Hp3.out]
   exact HF3.out
 clear hld
 have hnz : ((n : Int) == 0) = false := by simp; omega
 have hnz2 : (n == 0) = false := by simp; omega
 have hp0 : openP D fi = match madeP (scanP D.file).1 with
   | none => (D, none, 6)
   | some h => if (scanP D.file).2 < D.file.length then ((D.replace (D.file.take (scanP D.file).2)).1, if (D.replace (D.file.take (scanP D.file).2)).2 = 0 then some h else none, (D.replace (D.file.take (scanP D.file).2)).2) else (D, some h, 0) := by
  unfold openP
  rw [Hoff.out, Hck.out, if_neg (by simp), if_neg (by simp), if_neg (by rw [Hn.out]; exact hn0)]
  rfl
 have Hp0 := Lib.hid hp0
 clear hp0
 have HB4 : Hid (Byt W4 (Since W.heap.size) (.slice A1 n c1) D.file) := Lib.hid (NewB.sl (w := W) Hfb4.out)
 go_wp2_with fail
 rw [HW4.out, Hs.out]
 refine (fr_scan W4 _ A1 n c1 D.file HB4.out Hn.out (by have := Hfl.out; omega)).mono ?_
 rintro e w5 ⟨v5, xs, rfl, hB5, hX5⟩
 obtain ⟨A5, c5, rfl⟩ := own_form hB5.1
 obtain ⟨m, hm⟩ : ∃ m, (scanP D.file).1.length = m := ⟨_, rfl⟩
 obtain ⟨k, hk⟩ : ∃ k, (scanP D.file).2 = k := ⟨_, rfl⟩
 have hsa := scan_all D.file
 have hkn : k ≤ n := by rw [← hk, ← Hn.out]; exact scan_le _
 have hmn : m ≤ 100000 := by have h1 := hsa.2; rw [hm, Hn.out] at h1; have := Hfl.out; omega
 rw [hm] at hB5 ⊢
 rw [hk] at Hp0 ⊢
 have HB5 : Hid (NewBs W4 w5 (.slice A5 m c5) xs (scanP D.file).1) := Lib.hid hB5
 have HA5 := Lib.hid (hX5.blk HA4.out id)
 have HS5 : Hid (StB w5 s d fi gs gl) := Lib.hid (hX5.blk HS4.out id)
 have HX5 := Lib.hid (HX4.out.ext hX5)
 have HN5 := Lib.hid (HN4.out.ext hX5)
 have Hfb5 := Lib.hid (Hfb4.out.ext hX5)
 have Hm := Lib.hid hm
 have Hsa := Lib.hid hsa.1
 clear hX5 hB5 hm hk hsa
 go_wp2_with fail
 refine (st_made w5 W4 A5 m c5 xs _ HB5.out Hm.out hmn (fun p hp => by have := Hsa.out p hp; omega)).mono ?_
 rintro e w6 ⟨hX6, hO6⟩
 have HS6 : Hid (StB w6 s d fi gs gl) := Lib.hid (hX6.blk HS5.out id)
 have HX6 := Lib.hid (HX5.out.ext hX6)
 have Hfb6 := Lib.hid (Hfb5.out.ext hX6)
 have hX56 := hX6
 obtain ⟨q, hq⟩ : ∃ q, w6.heap.size = q := ⟨_, rfl⟩
 have hsq : s < q := by rw [← hq]; exact (Array.getElem?_eq_some_iff.1 HS6.out).1
 have hz : (w6.alloc (.cells #[.int .i64 0, .int .i64 0, .int .i64 0, .int .i64 0, .int .i64 0, .int .i64 0, .int .i64 0, .int .i64 0, .slice none 0 0, .slice none 0 0] 34)).heap[w6.heap.size]? = some (.cells #[.int .i64 0, .int .i64 0, .int .i64 0, .int .i64 0, .int .i64 0, .int .i64 0, .int .i64 0, .int .i64 0, .slice none 0 0, .slice none 0 0] 34 (0, 0)) := heap_alloc_new w6 _
 rw [hq] at hz
 have Hq := Lib.hid hq
 rcases hmd : madeP (scanP D.file).1 with _ | h
 ·
  rw [hmd] at hO6
  obtain ⟨cs6, hc6, hone6, rfl⟩ := hO6
  have Hp : Hid (openP D fi = (D, none, 6)) := Lib.hid (by rw [Hp0.out, hmd])
  clear hmd hX6 hX56 hq
  go_wp2_with (rw [Hq.out]; refine wpList_stR rfl 34 _ _ rfl 10 q 0 cs6 rfl rfl str_hard _ [.int .i64 0, .int .i64 0, .int .i64 0, .int .i64 0, .int .i64 0, .int .i64 0, .int .i64 0, .int .i64 0, .slice none 0 0, .slice none 0 0] cs6 hz hc6 (by simp) hone6 (by unfold put; simp [hc6]) ?_)
  intro w7 hb7 hm7 hs7
  have HX7 := Lib.hid (HX6.out.ext (((Mod.refl (fun _ => False) w6).alloc (.cells #[.int .i64 0, .int .i64 0, .int .i64 0, .int .i64 0, .int .i64 0, .int .i64 0, .int .i64 0, .int .i64 0, .slice none 0 0, .slice none 0 0] 34)).trans hm7 (fun k hk e => by have := Hq.out; omega)))
  clear hb7 hm7 hs7
  go_wp2
  go_ret2
  exact OpenO.no Hp.out (DM.same HD.out HX7.out) rfl (by decide)
 rw [hmd] at hO6
 obtain ⟨hsv, hlv, rfl, hN6⟩ := hO6
 have hone := cells_one hN6
 have HN6 : Hid (NewH w w6 hsv hlv h) := Lib.hid (hN6.up HX5.out)
 have Hp : Hid (openP D fi = if k < n then ((D.replace (D.file.take k)).1, if (D.replace (D.file.take k)).2 = 0 then some h else none, (D.replace (D.file.take k)).2) else (D, some h, 0)) := Lib.hid (by rw [Hp0.out, hmd]; simp only; rw [Hn.out])
 clear hmd hX6 hX56 hq hN6 Hp0
 go_wp2_with (rw [Hq.out]; refine wpList_stR rfl 34 _ _ rfl 10 q 0 (h.cells hsv hlv) rfl rfl str_hard _ [.int .i64 0, .int .i64 0, .int .i64 0, .int .i64 0, .int .i64 0, .int .i64 0, .int .i64 0, .int .i64 0, .slice none 0 0, .slice none 0 0] (h.cells hsv hlv) hz rfl (by simp) hone rfl ?_)
 intro w7 hb7 hm7 hs7
 have hX67 : Ext w6 w7 := ((Mod.refl (fun _ => False) w6).alloc (.cells #[.int .i64 0, .int .i64 0, .int .i64 0, .int .i64 0, .int .i64 0, .int .i64 0, .int .i64 0, .int .i64 0, .slice none 0 0, .slice none 0 0] 34)).trans hm7 (fun k hk e => by have := Hq.out; omega)
 have HS7 : Hid (StB w7 s d fi gs gl) := Lib.hid (hX67.blk HS6.out id)
 have HX7 := Lib.hid (HX6.out.ext hX67)
 have HN7 := Lib.hid (HN6.out.ext hX67)
 have Hfb7 := Lib.hid (Hfb6.out.ext hX67)
 have hld := load_row (P := Tryz.prog) (o := 0) (cs := h.cells hsv hlv) str_hard hb7 rfl (fun j u hu => by rw [Nat.zero_add]; exact hu)
 clear hz hm7 hs7 hX67 hb7
 go_wp2_with (first | (refine wpList_ld rfl 34 _ rfl _ _ rfl hld ?_) | (refine wpList_stR rfl 34 _ _ rfl 10 s 1 (h.cells hsv hlv) rfl rfl str_hard _ (stCells d fi gs gl) (stCells d h hsv hlv) HS7.out rfl (by simp) hone rfl ?_))
 intro w8 hb8 hm8 hs8
 have HS8 : Hid (StB w8 s d h hsv hlv) := Lib.hid hb8
 have HX8 := Lib.hid (HX7.out.trans hm8 (fun k hk e => by have := Hsw.out; omega))
 have HN8 := Lib.hid (HN7.out.box HS7.out hm8 (by decide) (by decide))
 have hnb8 : NewB W w8 (.slice A1 n c1) D.file := ⟨own_mod Hfb7.out.1 hm8 (fun g hg => own_apart Hfb7.out.1 hg HS7.out (by decide)), Hfb7.out.2⟩
 have hb8s : Byt w8 (Since W.heap.size) (.slice A1 n c1) D.file := NewB.sl (w := W) hnb8
 obtain ⟨_, hnc1, _, _⟩ := byt_cap' hb8s
 have hbk : Byt w8 (Since W.heap.size) (.slice A1 k c1) (D.file.take k) := by
  have h1 : Sl w8 (Since W.heap.size) 1 (.slice A1 n c1) n (D.file.map B) := by unfold Byt at hb8s; rw [Hn.out] at hb8s; exact hb8s
  have h2 := Sl.upto h1 (m := k) hkn
  rw [Nat.mul_one, ← List.map_take] at h2
  unfold Byt
  rw [List.length_take, Hn.out, Nat.min_eq_left hkn]
  exact h2
 have Hbk := Lib.hid hbk
 clear hld hb8 hm8 hs8 hnb8 hb8s hbk
 by_cases hkl : k < n
 ·
  have hd : decide ((k : Int) < (n : Int)) = true := decide_eq_true (by omega)
  have hd2 : decide (k < n) = true := decide_eq_true hkl
  have k0 : (0 : Int) ≤ (k : Int) := by omega
  have k1 : (k : Int) ≤ (c1 : Int) := by omega
  have Hp2 : Hid (openP D fi = ((D.replace (D.file.take k)).1, if (D.replace (D.file.take k)).2 = 0 then some h else none, (D.replace (D.file.take k)).2)) := Lib.hid (by rw [Hp.out, if_pos hkl])
  have hdW : d < W.heap.size := Nat.lt_of_lt_of_le HD.out.lt HE.out.size
  go_wp2_with fail
  refine (d_replace w8 d fv D (HD.out.ext HX8.out) _ _ (D.file.take k) Hbk.out (by rw [List.length_take, Hn.out]; have := Hfl.out; omega) (fun g hg e => by unfold Since at hg; omega)).mono ?_
  rintro e w9 ⟨rfl, hM9⟩
  have HF := Lib.hid (open_fin (c := (D.replace (D.file.take k)).2) Hsw.out HS8.out HN8.out HX8.out HD.out hM9)
  clear hM9
  obtain ⟨cd, hcd⟩ : ∃ cd, (D.replace (D.file.take k)).2 = cd := ⟨_, rfl⟩
  rw [hcd] at HF Hp2 ⊢
  clear hcd
  go_wp2_with fail
  refine (st_opened w9 _ cd).mono ?_
  rintro e w10 ⟨rfl, rfl⟩
  by_cases hc0 : cd = 0
  ·
   have HF2 := HF.out
   have Hq2 := Hp2.out
   rw [if_pos hc0] at HF2 Hq2 ⊢
   rw [if_pos hc0] at HF2
   have HF3 := Lib.hid HF2
   have Hp3 := Lib.hid Hq2
   clear HF2 Hq2 hc0
   go_wp2
   go_ret2
   rw [Hp3.out]
   exact HF3.out
  ·
   have HF2 := HF.out
   have Hq2 := Hp2.out
   rw [if_neg hc0] at HF2 Hq2 ⊢
   rw [if_neg hc0] at HF2
   have HF3 := Lib.hid HF2
   have Hp3 := Lib.hid Hq2
   clear HF2 Hq2 hc0
   go_wp2
   go_ret2
   rw [Hp3.out]
   exact HF3.out
 ·
  have hd : decide ((k : Int) < (n : Int)) = false := decide_eq_false (by omega)
  have hd2 : decide (k < n) = false := decide_eq_false hkl
  have Hp2 : Hid (openP D fi = (D, some h, 0)) := Lib.hid (by rw [Hp.out, if_neg hkl])
  go_wp2_with fail
  refine (st_opened w8 _ 0).mono ?_
  rintro e w9 ⟨rfl, rfl⟩
  have HF := Lib.hid (open_fin (c := 0) Hsw.out HS8.out HN8.out HX8.out HD.out (DM.same (HD.out.ext HX8.out) (Mod.refl _ _)))
  go_wp2
  go_ret2
  rw [Hp2.out]
  exact HF.out
end Go.Proofs.YtjhnlncgmejkcaaGreat
