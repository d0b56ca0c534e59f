/-
 Contracts of the page's disk (layer 4; printed by stbed.py from DiskM and DiskM2). Conditions: as each theorem names them.
-/
import Derived.Test.YtjhnlncgmejkcaaGreatS21
set_option maxRecDepth 100000
set_option maxHeartbeats 1000000
namespace Go.Proofs.YtjhnlncgmejkcaaGreat
set_option linter.unusedSimpArgs false
open Go.RowKit
def Qsk (w : World) (d : Nat) (fv : Value) (D : zJ) : Prop :=
 w.heap[d]? = some (.cells #[.int .i64 D.room, fv, .int .i64 (D.synced : Int), .bool D.off, .int .i64 (D.trip : Int), .int .i64 D.keep] 67 (0, 0)) ∧ w.ownsRow 0 5 1 fv D.file.length (D.file.map B) ∧ D.ok
theorem Qsk.mod {w w' : World} {S : Nat → Prop} {d : Nat} {fv : Value} {D : zJ} (h : Qsk w d fv D) (hm : Mod S w w') (hd : ¬ S d) (hf : ∀ g, fv.ownBlock = some g → ¬ S g) : Qsk w' d fv D := ⟨hm.blk h.1 hd, zU h.2.1 hm hf, h.2.2⟩
theorem Qsk.ext {w w' : World} {d : Nat} {fv : Value} {D : zJ} (h : Qsk w d fv D) (hm : Ext w w') : Qsk w' d fv D := h.mod hm id (fun _ _ => id)
theorem Qsk.apart {w : World} {d : Nat} {fv : Value} {D : zJ} (h : Qsk w d fv D) : fv.ownBlock ≠ some d := fun e => zT h.2.1 e h.1 (by decide) rfl
theorem Qsk.lt {w : World} {d : Nat} {fv : Value} {D : zJ} (h : Qsk w d fv D) : d < w.heap.size := (Array.getElem?_eq_some_iff.1 h.1).1
def QM (w : World) (d : Nat) (fv : Value) (D' : zJ) (w' : World) : Prop :=
 ∃ fv', Qsk w' d fv' D' ∧ Mod (fun k => k = d ∨ fv.ownBlock = some k) w w' ∧ ∀ g, fv'.ownBlock = some g → fv.ownBlock = some g ∨ w.heap.size ≤ g
theorem QM.same {w w' : World} {d : Nat} {fv : Value} {D : zJ} (h : Qsk w d fv D) (hE : Ext w w') : QM w d fv D w' := ⟨fv, h.ext hE, hE.mod _, fun _ h => .inl h⟩
theorem QM.trans {w w1 w' : World} {d : Nat} {fv fv1 : Value} {D' : zJ} (hm : Mod (fun k => k = d ∨ fv.ownBlock = some k) w w1) (hf : ∀ g, fv1.ownBlock = some g → fv.ownBlock = some g ∨ w.heap.size ≤ g) (h : QM w1 d fv1 D' w') : QM w d fv D' w' := by
 obtain ⟨fv', h1, h2, h3⟩ := h
 refine ⟨fv', h1, hm.trans h2 (fun i hi e => ?_), fun g hg => ?_⟩
 ·
  rcases e with e | e
  · exact .inl e
  rcases hf i e with e | e
  · exact .inr e
  omega
 rcases h3 g hg with e | e
 · exact hf g e
 exact .inr (by have := hm.size; omega)
theorem Qsk.cells {w : World} {d : Nat} {fv : Value} {D : zJ} (h : Qsk w d fv D) : w.cell? ⟨d, 0, none⟩ = some (.int .i64 D.room) ∧ w.cell? ⟨d, 1, none⟩ = some fv ∧ w.cell? ⟨d, 2, none⟩ = some (.int .i64 (D.synced : Int)) ∧ w.cell? ⟨d, 3, none⟩ = some (.bool D.off) ∧ w.cell? ⟨d, 4, none⟩ = some (.int .i64 (D.trip : Int)) ∧ w.cell? ⟨d, 5, none⟩ = some (.int .i64 D.keep) := by
 simp [World.cell?, h.1]
theorem q_start (w : World) (d : Nat) (fv : Value) (D : zJ) (h : Qsk w d fv D) : Calls Tryz.prog 60 #[.pointer (some ⟨d, 0, none⟩)] w fun e w' => e = .returned (.tuple #[]) ∧ Qsk w' d fv D.start ∧ Mod (fun k => k = d) w w' := by
 obtain ⟨c0, c1, c2, c3, c4, c5⟩ := h.cells
 have f3 : w.frozen? ⟨d, 3, none⟩ = false := zK 3 h.1
 have hm : Mod (fun k => k = d) w (w.setCell ⟨d, 3, none⟩ (.bool false)) := zO (Mod.refl _ _) _ _
 have hR : Qsk (w.setCell ⟨d, 3, none⟩ (.bool false)) d fv D.start := ⟨yC h.1 3 (.bool false), zU h.2.1 hm (fun g h1 h2 => h.apart (h2 ▸ h1)), h.2.2⟩
 have HR := hJ hR
 have HM := hJ hm
 clear hR hm h
 go_enter Tryz.func60, Tryz.ntmps60
 go_wp2
 go_end0
 exact ⟨rfl, HR.out, HM.out⟩
theorem zpY (w : World) (d : Nat) (fv : Value) (D : zJ) (h : Qsk w d fv D) : Calls Tryz.prog 95 #[.pointer (some ⟨d, 0, none⟩)] w fun e w' => e = .returned (.bool D.count.2) ∧ Qsk w' d fv D.count.1 ∧ Mod (fun k => k = d) w w' := by
 obtain ⟨c0, c1, c2, c3, c4, c5⟩ := h.cells
 have hok := zJ.count_ok h.2.2
 have htl := h.2.2.2.2.2.2.1
 have f4 : w.frozen? ⟨d, 4, none⟩ = false := zK 4 h.1
 have H := hJ h
 obtain ⟨t, ht⟩ : ∃ t, D.trip = t := ⟨_, rfl⟩
 rw [ht] at c4 htl
 by_cases h0 : t = 0
 ·
  have hc : D.count = (D, false) := by unfold zJ.count; rw [if_pos (by omega)]
  have d0 : decide ((t : Int) < 1) = true := decide_eq_true (by omega)
  have Hc := hJ hc
  clear hc h0 ht hok
  go_enter Tryz.func95, Tryz.ntmps95
  go_wp2
  go_ret
  rw [Hc.out]
  exact ⟨rfl, H.out, Mod.refl _ _⟩
 have hc : D.count = ({ D with trip := t - 1 }, t == 1) := by unfold zJ.count; rw [if_neg (by omega), ht]
 have d0 : decide ((t : Int) < 1) = false := decide_eq_false (by omega)
 have hm : Mod (fun k => k = d) w (w.setCell ⟨d, 4, none⟩ (.int .i64 ((t : Int) - 1))) := zO (Mod.refl _ _) _ _
 have hR : Qsk (w.setCell ⟨d, 4, none⟩ (.int .i64 ((t : Int) - 1))) d fv D.count.1 := by
  rw [hc] at hok ⊢
  refine ⟨?_, zU h.2.1 hm (fun g h1 h2 => h.apart (h2 ▸ h1)), hok⟩
  have h3 := yC h.1 4 (.int .i64 ((t : Int) - 1))
  rw [show ((t : Int) - 1) = ((t - 1 : Nat) : Int) by omega] at h3 ⊢
  exact h3
 have HR := hJ hR
 have HM := hJ hm
 have hb : (((t : Int) - 1) == 0) = (t == 1) := by rw [Bool.eq_iff_iff]; simp; omega
 have Hc := hJ hc
 have Hb := hJ hb
 have h0' : 1 ≤ t := by omega
 clear hR hm hc hok ht hb h h0
 rcases hq : (((t : Int) - 1) == 0) with _ | _
 all_goals
  go_enter Tryz.func95, Tryz.ntmps95
  go_wp2
  go_ret
  exact ⟨zP (by rw [Hc.out, ← hq, Hb.out]), HR.out, HM.out⟩
theorem q_trip (w : World) (d : Nat) (fv : Value) (D : zJ) (h : Qsk w d fv D) (n k : Int) (hn : n ≤ 9223372036854775807) (hk : -9223372036854775808 ≤ k ∧ k ≤ 9223372036854775807) : Calls Tryz.prog 54 #[.pointer (some ⟨d, 0, none⟩), .int .i64 n, .int .i64 k] w fun e w' => e = .returned (.tuple #[]) ∧ Qsk w' d fv (D.arm n k) ∧ Mod (fun k => k = d) w w' := by
 obtain ⟨c0, c1, c2, c3, c4, c5⟩ := h.cells
 have hok := zJ.arm_ok h.2.2 hn hk
 have f4 : w.frozen? ⟨d, 4, none⟩ = false := zK 4 h.1
 have f5 : w.frozen? ⟨d, 5, none⟩ = false := zK 5 h.1
 rcases ho : D.off with _ | _
 ·
  rw [ho] at c3
  have ha : D.arm n k = { D with trip := (max n 0).toNat, keep := k } := by unfold zJ.arm; rw [ho]; rfl
  rw [ha] at hok ⊢
  obtain ⟨t, ht⟩ : ∃ t : Nat, max n 0 = (t : Int) := ⟨(max n 0).toNat, by omega⟩
  have hm : Mod (fun k => k = d) w ((w.setCell ⟨d, 4, none⟩ (.int .i64 (t : Int))).setCell ⟨d, 5, none⟩ (.int .i64 k)) := zO (zO (Mod.refl _ _) _ _) _ _
  have hR : Qsk ((w.setCell ⟨d, 4, none⟩ (.int .i64 (t : Int))).setCell ⟨d, 5, none⟩ (.int .i64 k)) d fv { D with trip := (max n 0).toNat, keep := k } := by
   refine ⟨?_, zU h.2.1 hm (fun g h1 h2 => h.apart (h2 ▸ h1)), hok⟩
   have h3 := yC (yC h.1 4 (.int .i64 (t : Int))) 5 (.int .i64 k)
   rw [ht]
   exact h3
  have HR := hJ hR
  have HM := hJ hm
  clear hR hm hok h ha
  rcases Int.lt_or_le n 0 with hn0 | hn0
  focus
   obtain rfl : t = 0 := by omega
  rotate_left
  focus
   obtain rfl : n = (t : Int) := by omega
  all_goals
   clear ht
   go_enter Tryz.func54, Tryz.ntmps54
   go_wp2
   all_goals first
    | (go_end0; exact ⟨rfl, HR.out, HM.out⟩)
    | (exfalso; omega)
 rw [ho] at c3
 have ha : D.arm n k = D := by unfold zJ.arm; rw [ho]; rfl
 rw [ha]
 have H := hJ h
 clear hok ha h
 go_enter Tryz.func54, Tryz.ntmps54
 go_wp2
 go_end0
 exact ⟨rfl, H.out, Mod.refl _ _⟩
theorem ziF (w : World) (d : Nat) (fv : Value) (D : zJ) (h : Qsk w d fv D) (k : Int) (hk : -9223372036854775808 ≤ k ∧ k ≤ 9223372036854775807) : Calls Tryz.prog 59 #[.pointer (some ⟨d, 0, none⟩), .int .i64 k] w fun e w' => e = .returned (.tuple #[]) ∧ QM w d fv (D.crash k) w' := by
 obtain ⟨A, c, rfl⟩ := zN h.2.1
 obtain ⟨c0, c1, c2, c3, c4, c5⟩ := h.cells
 have hok := zJ.crash_ok h.2.2 k
 obtain ⟨r0, r1, sy, rl, t1, k0, k1⟩ := h.2.2
 have f1 : w.frozen? ⟨d, 1, none⟩ = false := zK 1 h.1
 have f2 : w.frozen? ⟨d, 2, none⟩ = false := zK 2 h.1
 have f3 : w.frozen? ⟨d, 3, none⟩ = false := zK 3 h.1
 have f4 : w.frozen? ⟨d, 4, none⟩ = false := zK 4 h.1
 rcases ho : D.off with _ | _
 rotate_left
 ·
  rw [ho] at c3
  have ha : D.crash k = { D with trip := 0 } := by unfold zJ.crash; rw [ho]; rfl
  rw [ha] at hok ⊢
  have hm : Mod (fun k => k = d) w (w.setCell ⟨d, 4, none⟩ (.int .i64 0)) := zO (Mod.refl _ _) _ _
  have hR : QM w d (.slice A D.file.length c) { D with trip := 0 } (w.setCell ⟨d, 4, none⟩ (.int .i64 0)) :=
   ⟨_, ⟨yC h.1 4 (.int .i64 0), zU h.2.1 hm (fun g h1 h2 => h.apart (h2 ▸ h1)), hok⟩, hm.mono (fun _ _ e => .inl e), fun _ h => .inl h⟩
  have HR := hJ hR
  clear hR hm hok ha h
  go_enter Tryz.func59, Tryz.ntmps59
  go_wp2
  refine bodyPost_ret (v := .tuple #[]) (by simp [results, Tryz.results59]) rfl ?_
  exact ⟨rfl, HR.out⟩
 rw [ho] at c3
 have ha : D.crash k = { D with trip := 0, off := true, file := D.file.take (D.left k), synced := D.left k } := by unfold zJ.crash; rw [ho]; rfl
 rw [ha] at hok ⊢
 obtain ⟨L, hL⟩ : ∃ L, D.left k = L := ⟨_, rfl⟩
 have hle := zkK D k sy
 rw [hL] at hok hle ⊢
 have hlen : (D.file.take L).length = L := by rw [List.length_take]; omega
 have hown : w.ownsRow 0 5 1 (.slice A L c) (D.file.take L).length ((D.file.take L).map B) := by
  have h1 := ziE h.2.1 hle.2
  rw [zmB] at h1
  rw [hlen]
  exact h1
 have hob : ∀ g, (Value.slice A L c).ownBlock = some g ↔ (Value.slice A D.file.length c).ownBlock = some g := fun g => by cases A <;> simp [Value.ownBlock]
 have hR : ∀ (q : Nat) (x : Int), x = (L : Int) → QM w d (.slice A D.file.length c) { D with trip := 0, off := true, file := D.file.take L, synced := L } (((((w.setCell ⟨d, 4, none⟩ (.int .i64 0)).setCell ⟨d, 3, none⟩ (.bool true)).drewN q).setCell ⟨d, 1, none⟩ (.slice A L c)).setCell ⟨d, 2, none⟩ (.int .i64 x)) := by
  rintro q x rfl
  have hm : Mod (fun k => k = d) w (((((w.setCell ⟨d, 4, none⟩ (.int .i64 0)).setCell ⟨d, 3, none⟩ (.bool true)).drewN q).setCell ⟨d, 1, none⟩ (.slice A L c)).setCell ⟨d, 2, none⟩ (.int .i64 (L : Int))) := zO (zO (Mod.drewN (zO (zO (Mod.refl _ _) _ _) _ _) q) _ _) _ _
  refine ⟨.slice A L c, ⟨?_, zU hown hm (fun g h1 h2 => h.apart (by rw [← h2]; exact (hob g).1 h1)), hok⟩, hm.mono (fun _ _ e => .inl e), fun g hg => .inl ((hob g).1 hg)⟩
  exact yC (yC (w := ((w.setCell ⟨d, 4, none⟩ (.int .i64 0)).setCell ⟨d, 3, none⟩ (.bool true)).drewN q) (yC (yC h.1 4 (.int .i64 0)) 3 (.bool true)) 1 (.slice A L c)) 2 (.int .i64 (L : Int))
 obtain ⟨n, hn⟩ : ∃ n, D.file.length = n := ⟨_, rfl⟩
 obtain ⟨s, hs⟩ : ∃ s, D.synced = s := ⟨_, rfl⟩
 have hL2 : (L : Int) = (s : Int) + max (min k ((n : Int) - (s : Int))) 0 := by rw [← hL, zJ.left, hn, hs]; omega
 have hcap : L ≤ c := by
  rcases h.2.1.2 with ⟨h1, h2⟩ | ⟨g, cap, cur, h1, hb, hh, hnc, hcm, hsz, htk⟩
  · omega
  injection h1 with e1 e2 e3; omega
 have hcap2 : n ≤ c := by
  rw [← hn]
  rcases h.2.1.2 with ⟨h1, h2⟩ | ⟨g, cap, cur, h1, hb, hh, hnc, hcm, hsz, htk⟩
  · omega
  injection h1 with e1 e2 e3; omega
 rw [hn] at c1 rl hle sy hR ⊢
 rw [hs] at c2 sy hle
 have HR := hJ hR
 clear hR hok ha h hown hlen hL hn hs hob
 obtain ⟨m, rfl⟩ : ∃ m, n = s + m := ⟨n - s, by omega⟩
 have hsub : IntKind.i64.wrap (((s + m : Nat) : Int) - (s : Int)) = (m : Int) := by rw [IntWalk.i64_in _ (by omega)]; omega
 rcases Int.lt_or_le k 0 with hk0 | hk0
 ·
  obtain rfl : L = s := by omega
  clear hL2
  go_enter Tryz.func59, Tryz.ntmps59
  go_wp2
  go_quiet (fail)
  go_wp2
  all_goals first
   | (exfalso; omega)
   | skip
  go_end0
  exact ⟨rfl, HR.out _ _ (by omega)⟩
 obtain ⟨j, rfl⟩ := Int.eq_ofNat_of_zero_le hk0
 rcases Nat.lt_or_ge m j with hj | hj
 focus
  obtain rfl : L = s + m := by omega
 rotate_left
 focus
  obtain rfl : L = s + j := by omega
 all_goals
  clear hL2
  go_enter Tryz.func59, Tryz.ntmps59
  go_wp2
  go_quiet (fail)
  go_wp2
  all_goals first
   | (exfalso; omega)
   | skip
  go_end0
  exact ⟨rfl, HR.out _ _ (by omega)⟩
theorem qm_of {w w1 : World} {d : Nat} {fv : Value} {D' : zJ} (h : Qsk w1 d fv D') (hm : Mod (fun k => k = d) w w1) : QM w d fv D' w1 := ⟨fv, h, hm.mono (fun _ _ e => .inl e), fun _ h => .inl h⟩
theorem q_sync (w : World) (d : Nat) (fv : Value) (D : zJ) (h : Qsk w d fv D) : Calls Tryz.prog 57 #[.pointer (some ⟨d, 0, none⟩)] w fun e w' => e = .returned (.int .i64 D.sync.2) ∧ QM w d fv D.sync.1 w' := by
 have H := hJ h
 have hokS := zJ.sync_ok h.2.2
 obtain ⟨c0, c1, c2, c3, c4, c5⟩ := h.cells
 rcases ho : D.off with _ | _
 rotate_left
 ·
  have hs : D.sync = (D, 4) := by unfold zJ.sync; rw [ho]; rfl
  have Hs := hJ hs
  rw [ho] at c3
  clear h hs hokS
  go_enter Tryz.func57, Tryz.ntmps57
  go_wp2
  go_ret
  rw [Hs.out]
  exact ⟨rfl, QM.same H.out (Mod.refl _ _)⟩
 rw [ho] at c3
 have Hok := hJ hokS
 have Ho := hJ ho
 clear h hokS ho
 go_enter Tryz.func57, Tryz.ntmps57
 go_wp2_with fail
 refine (zpY w d fv D H.out).mono ?_
 rintro e w1 ⟨rfl, hD, hm⟩
 obtain ⟨e1, e2, e3, e4, e5⟩ := zbD D
 have hs : D.sync = if D.count.2 then (D.count.1.crash D.keep, 4) else ({ D.count.1 with synced := D.file.length }, 0) := by unfold zJ.sync; rw [Ho.out]; rfl
 obtain ⟨D1, hD1⟩ : ∃ D1, D.count.1 = D1 := ⟨_, rfl⟩
 rw [hD1] at hD e1 e2 e3 e4 e5 hs
 have HD := hJ hD
 have HM := hJ hm
 clear c0 c1 c2 c3 c4 c5 hm hD1
 obtain ⟨A, c, rfl⟩ := zN hD.2.1
 obtain ⟨c0, c1, c2, c3, c4, c5⟩ := hD.cells
 have f2 : w1.frozen? ⟨d, 2, none⟩ = false := zK 2 hD.1
 rcases hb : D.count.2 with _ | _
 ·
  rw [hb] at hs
  have Hs := hJ hs
  obtain ⟨n, hn⟩ : ∃ n, D1.file.length = n := ⟨_, rfl⟩
  have hm2 : Mod (fun k => k = d) w1 (w1.setCell ⟨d, 2, none⟩ (.int .i64 (n : Int))) := zO (Mod.refl _ _) _ _
  have hok2 := Hok.out
  rw [hs] at hok2
  have hR : QM w d (.slice A D1.file.length c) D.sync.1 (w1.setCell ⟨d, 2, none⟩ (.int .i64 (n : Int))) := by
   rw [hs]
   refine qm_of (w1 := (w1.setCell ⟨d, 2, none⟩ (.int .i64 (n : Int)))) ⟨?_, zU hD.2.1 hm2 (fun g h1 h2 => hD.apart (h2 ▸ h1)), hok2⟩ (HM.out.self hm2)
   have h3 := yC hD.1 2 (.int .i64 (n : Int))
   rw [← hn, e1] at h3 ⊢
   exact h3
  rw [hn] at c1
  have HR := hJ hR
  clear hR hm2 hok2 hn hs hD hb e1 e2 e3 e4 e5
  go_wp2
  go_ret
  exact ⟨by rw [Hs.out]; rfl, HR.out⟩
 rw [hb] at hs
 have Hs := hJ hs
 have hkb : -9223372036854775808 ≤ D1.keep ∧ D1.keep ≤ 9223372036854775807 := by have h1 := hD.2.2; unfold zJ.ok at h1; omega
 have E4 := hJ e4
 clear hs hD hb e1 e2 e3 e4 e5
 go_wp2_with fail
 refine (ziF w1 d _ D1 HD.out D1.keep hkb).mono ?_
 rintro e w2 ⟨rfl, hX⟩
 have HX : Hid (QM w d (.slice A D1.file.length c) D.sync.1 w2) := hJ (by
  rw [Hs.out]
  simp only [if_true]
  rw [← E4.out]
  exact QM.trans (HM.out.mono (fun _ _ e => .inl e)) (fun _ h => .inl h) hX)
 clear hX
 go_wp2
 go_ret
 exact ⟨by rw [Hs.out]; rfl, HX.out⟩
theorem q_add (w : World) (T U : Nat → Prop) (a b : Value) (xs ys : List UInt8) (ha : Byt w T a xs) (hb : Byt w U b ys) (hx : xs.length ≤ 100000000) (hy : ys.length ≤ 100000000) :
  Calls Tryz.prog 94 #[a, b] w fun e w' => ∃ A c, e = .returned (.slice A (xs ++ ys).length c) ∧ yO w w' (.slice A (xs ++ ys).length c) (xs ++ ys) ∧ Ext w w' := by
 obtain ⟨A1, c1, rfl⟩ := ha.form
 obtain ⟨A2, c2, rfl⟩ := hb.form
 have HN0 : Hid (yO w w (.slice none 0 0) []) := hJ ⟨World.ownsRow_nil _ _ _ _, by simp [Value.ownBlock]⟩
 obtain ⟨n, hn⟩ : ∃ n, xs.length = n := ⟨_, rfl⟩
 obtain ⟨m, hm⟩ : ∃ m, ys.length = m := ⟨_, rfl⟩
 rw [hn] at ha
 rw [hm] at hb
 have Ha := hJ ha
 have Hb := hJ hb
 have Hn := hJ hn
 have Hm := hJ hm
 rw [hn] at hx ⊢
 rw [hm] at hy ⊢
 clear ha hb hn hm
 go_enter Tryz.func94, Tryz.ntmps94
 go_wp2_with (at_builtin; refine zW rfl _ _ rfl (.slice none 0 0) [] w rfl HN0.out (Mod.refl _ w) T (.slice A1 n c1) xs rfl Ha.out (by rw [Hn.out]; simp; omega) ?_)
 rintro A3 n3 c3 w3 hn3 hN3 hX3 _ _
 obtain rfl : n3 = n := by rw [hn3]; exact Hn.out
 have HN3 := hJ hN3
 have HX3 := hJ hX3
 clear hn3 hN3 hX3
 go_wp2_with (at_builtin; refine zW rfl _ _ rfl (.slice A3 n3 c3) xs w rfl HN3.out HX3.out U (.slice A2 m c2) ys rfl (Hb.out.ext HX3.out) (by rw [Hn.out, Hm.out]; omega) ?_)
 rintro A4 n4 c4 w4 hn4 hN4 hX4 _ _
 subst hn4
 have HN4 := hJ hN4
 have HX4 := hJ hX4
 clear hN4 hX4
 go_wp2
 go_ret
 simp only [List.length_append]
 exact ⟨A4, c4, rfl, HN4.out, HX4.out⟩
theorem zgD (w : World) (d : Nat) (fv : Value) (D : zJ) (h : Qsk w d fv D) (T : Nat → Prop) (bv : Value) (bs : List UInt8) (hb : Byt w T bv bs) (hbl : bs.length ≤ 100000000) (hT : ∀ g, T g → g ≠ d) :
  Calls Tryz.prog 91 #[.pointer (some ⟨d, 0, none⟩), bv] w fun e w' => e = .returned (.int .i64 (D.replace bs).2) ∧ QM w d fv (D.replace bs).1 w' := by
 have H := hJ h
 have hokS := zJ.replace_ok h.2.2 bs
 obtain ⟨c0, c1, c2, c3, c4, c5⟩ := h.cells
 obtain ⟨r0, r1, sy, rl, t1, k0, k1⟩ := h.2.2
 obtain ⟨m, hm⟩ : ∃ m, bs.length = m := ⟨_, rfl⟩
 obtain ⟨A2, c2', rfl⟩ := hb.form
 have Hb := hJ hb
 have Hm := hJ hm
 rw [hm] at hbl ⊢
 rcases ho : D.off with _ | _
 rotate_left
 ·
  have hs : D.replace bs = (D, 4) := by unfold zJ.replace; rw [ho]; rfl
  have Hs := hJ hs
  rw [ho] at c3
  clear h hs hb hm hokS
  go_enter Tryz.func91, Tryz.ntmps91
  go_wp2
  go_ret
  rw [Hs.out]
  exact ⟨rfl, QM.same H.out (Mod.refl _ _)⟩
 rw [ho] at c3
 by_cases hf : D.room < (m : Int)
 ·
  have df : decide (D.room < (m : Int)) = true := by simpa using hf
  have hs : D.replace bs = (D, 5) := by unfold zJ.replace; rw [ho, hm]; simp [hf]
  have Hs := hJ hs
  clear h hs hb hm hokS
  go_enter Tryz.func91, Tryz.ntmps91
  go_wp2
  go_ret
  rw [Hs.out]
  exact ⟨rfl, QM.same H.out (Mod.refl _ _)⟩
 have df : decide (D.room < (m : Int)) = false := by simp; omega
 have hs : D.replace bs = if D.count.2 then (D.count.1.crash D.keep, 4) else ({ D.count.1 with file := bs, synced := bs.length }, 0) := by
  unfold zJ.replace
  rw [if_neg (by rw [ho]; simp), if_neg (by rw [hm]; exact hf)]
 have Hok := hJ hokS
 have HT := hJ hT
 clear h hokS hb hm hf ho
 go_enter Tryz.func91, Tryz.ntmps91
 go_wp2_with fail
 refine (zpY w d fv D H.out).mono ?_
 rintro e w1 ⟨rfl, hD, hmm⟩
 obtain ⟨e1, e2, e3, e4, e5⟩ := zbD D
 obtain ⟨D1, hD1⟩ : ∃ D1, D.count.1 = D1 := ⟨_, rfl⟩
 rw [hD1] at hD e1 e2 e3 e4 e5 hs
 have HD := hJ hD
 have HM := hJ hmm
 clear c0 c1 c2 c3 c4 c5 hD1
 obtain ⟨c0, c1, c2, c3, c4, c5⟩ := hD.cells
 rcases hb : D.count.2 with _ | _
 ·
  rw [hb] at hs
  have Hs := hJ hs
  have hbb := Hb.out.mod hmm (fun g hg e => HT.out g hg e)
  have hml := Hm.out
  rw [hml] at hbb
  clear hs hb hmm
  go_wp2_with fail
  refine (q_add w1 (fun _ => False) T (.slice none 0 0) _ [] bs (Sl.nil _ _ _) (by unfold Byt; rw [hml]; exact hbb) (by simp) (by rw [Hm.out]; exact hbl)).mono ?_
  rintro e w4 ⟨A4, c4', rfl, hN4, hX4⟩
  rw [List.nil_append] at hN4 ⊢
  rw [hml] at hN4 ⊢
  obtain ⟨n4, hn4⟩ : ∃ n4, n4 = m := ⟨_, rfl⟩
  rw [← hn4] at hN4 ⊢
  subst hn4
  have hD4 := hX4.blk hD.1 id
  have hm4 : Mod (fun k => k = d) w4 ((w4.setCell ⟨d, 1, none⟩ (.slice A4 n4 c4')).setCell ⟨d, 2, none⟩ (.int .i64 (n4 : Int))) := zO (zO (Mod.refl _ _) _ _) _ _
  have f1 : w4.frozen? ⟨d, 1, none⟩ = false := zK 1 hD4
  have f2 : w4.frozen? ⟨d, 2, none⟩ = false := zK 2 hD4
  have b1 : w4.cell? ⟨d, 1, none⟩ = some _ := zB hD4 rfl
  have b2 : w4.cell? ⟨d, 2, none⟩ = some _ := zB hD4 rfl
  have hR : QM w d fv (D.replace bs).1 ((w4.setCell ⟨d, 1, none⟩ (.slice A4 n4 c4')).setCell ⟨d, 2, none⟩ (.int .i64 (n4 : Int))) := by
   have hok2 := Hok.out
   rw [Hs.out] at hok2 ⊢
   refine ⟨.slice A4 n4 c4', ⟨?_, zU ?_ hm4 (fun g h1 h2 => zT hN4.1 h1 hD4 (by decide) h2), hok2⟩, ?_, fun g hg => .inr (Nat.le_trans HM.out.size (hN4.2 g hg))⟩
   · have h3 := yC (yC hD4 1 (.slice A4 n4 c4')) 2 (.int .i64 (n4 : Int))
     simp only [Bool.false_eq_true, if_false]
     rw [hml]
     exact h3
   · simp only [Bool.false_eq_true, if_false]
     exact hN4.1
   exact ((HM.out.ext hX4).self hm4).mono (fun _ _ e => .inl e)
  have HR := hJ hR
  clear hR hm4 hD4 hN4 hX4 hbb hD e1 e2 e3 e4 e5 hml
  go_wp2
  go_ret
  exact ⟨by rw [Hs.out]; rfl, HR.out⟩
 rw [hb] at hs
 have Hs := hJ hs
 have hkb : -9223372036854775808 ≤ D1.keep ∧ D1.keep ≤ 9223372036854775807 := by have h1 := hD.2.2; unfold zJ.ok at h1; omega
 have E4 := hJ e4
 clear hs hD hb e1 e2 e3 e4 e5 hmm
 go_wp2_with fail
 refine (ziF w1 d _ D1 HD.out D1.keep hkb).mono ?_
 rintro e w2 ⟨rfl, hX⟩
 have HX : Hid (QM w d fv (D.replace bs).1 w2) := hJ (by
  rw [Hs.out]
  simp only [if_true]
  rw [← E4.out]
  exact QM.trans (HM.out.mono (fun _ _ e => .inl e)) (fun _ h => .inl h) hX)
 clear hX
 go_wp2
 go_ret
 exact ⟨by rw [Hs.out]; rfl, HX.out⟩
end Go.Proofs.YtjhnlncgmejkcaaGreat
set_option maxRecDepth 100000
set_option maxHeartbeats 1000000
namespace Go.Proofs.YtjhnlncgmejkcaaGreat
set_option linter.unusedSimpArgs false
open Go.RowKit
theorem zmD (w : World) (d : Nat) (fv : Value) (D : zJ) (h : Qsk w d fv D) (T : Nat → Prop) (bv : Value) (bs : List UInt8) (hb : Byt w T bv bs) (hbl : bs.length ≤ 100000000) :
  Calls Tryz.prog 55 #[.pointer (some ⟨d, 0, none⟩), bv] w fun e w' => e = .returned (.int .i64 (D.append bs).2) ∧ QM w d fv (D.append bs).1 w' := by
 have H := hJ h
 have hokS := zJ.append_ok h.2.2 bs
 obtain ⟨A, c, rfl⟩ := zN h.2.1
 obtain ⟨c0, c1, c2, c3, c4, c5⟩ := h.cells
 obtain ⟨r0, r1, sy, rl, t1, k0, k1⟩ := h.2.2
 obtain ⟨m, hm⟩ : ∃ m, bs.length = m := ⟨_, rfl⟩
 obtain ⟨n, hn⟩ : ∃ n, D.file.length = n := ⟨_, rfl⟩
 obtain ⟨A2, c2', rfl⟩ := hb.form
 have hb' := hb
 rw [hm] at hb' hbl ⊢
 have Hb := hJ hb'
 have Hm := hJ hm
 have Hn := hJ hn
 have hf1 := h.1
 rw [hn] at c1 rl hf1 ⊢
 have HF := hJ hf1
 clear hf1
 rcases ho : D.off with _ | _
 rotate_left
 ·
  have hs : D.append bs = (D, 4) := by unfold zJ.append; rw [ho]; rfl
  have Hs := hJ hs
  have HR : Hid (QM w d (.slice A n c) D w) := hJ (by have h1 := QM.same H.out (Mod.refl _ _); rw [Hn.out] at h1; exact h1)
  rw [ho] at c3
  clear h hs hb hb' hm hn hokS
  go_enter Tryz.func55, Tryz.ntmps55
  go_wp2
  go_ret
  rw [Hs.out]
  exact ⟨rfl, HR.out⟩
 rw [ho] at c3
 have iw : IntKind.i64.wrap ((n : Int) + (m : Int)) = (n : Int) + (m : Int) := IntWalk.i64_in _ (by omega)
 by_cases hf : D.room < (n : Int) + (m : Int)
 ·
  have df : decide (D.room < (n : Int) + (m : Int)) = true := by simpa using hf
  have hs : D.append bs = (D, 5) := by unfold zJ.append; rw [ho, hm, hn]; rw [if_neg (by simp), if_pos (by omega)]
  have Hs := hJ hs
  have HR : Hid (QM w d (.slice A n c) D w) := hJ (by have h1 := QM.same H.out (Mod.refl _ _); rw [Hn.out] at h1; exact h1)
  clear h hs hb hb' hm hn hokS
  go_enter Tryz.func55, Tryz.ntmps55
  go_wp2
  go_quiet (fail)
  go_wp2
  go_ret
  rw [Hs.out]
  obtain ⟨fv', x1, x2, x3⟩ := HR.out
  exact ⟨rfl, fv', x1, Mod.drewN x2 _, x3⟩
 have df : decide (D.room < (n : Int) + (m : Int)) = false := by simp; omega
 obtain ⟨D', hD'⟩ : ∃ D' : zJ, { D with file := D.file ++ bs } = D' := ⟨_, rfl⟩
 have hs : D.append bs = if D'.count.2 then (D'.count.1.crash D.keep, 4) else (D'.count.1, 0) := by
  unfold zJ.append
  rw [if_neg (by rw [ho]; simp), if_neg (by rw [hm, hn]; omega), hD']
 have hfl : D'.file = D.file ++ bs := by rw [← hD']
 have hkp : D'.keep = D.keep := by rw [← hD']
 have hok' : D'.ok := by rw [← hD']; exact ⟨r0, r1, by simp only [List.length_append]; omega, by simp only [List.length_append]; omega, t1, k0, k1⟩
 have hce : ([.int .i64 D'.room, .slice A n c, .int .i64 (D'.synced : Int), .bool D'.off, .int .i64 (D'.trip : Int), .int .i64 D'.keep] : List Value) = [.int .i64 D.room, .slice A n c, .int .i64 (D.synced : Int), .bool D.off, .int .i64 (D.trip : Int), .int .i64 D.keep] := by rw [← hD']
 have Hs := hJ hs
 have Hfl := hJ hfl
 have Hkp := hJ hkp
 have Hok := hJ hok'
 have Hce := hJ hce
 have hwn : n ≤ 65536 := by omega
 clear h hs hb hb' hm hn hokS hD' hfl hkp hok' hce ho hf
 go_enter Tryz.func55, Tryz.ntmps55
 go_wp2
 go_quiet (fail)
 obtain ⟨wq, hwq⟩ : ∃ wq, w.drewN nq = wq := ⟨_, rfl⟩
 have hEq : Ext w wq := by rw [← hwq]; exact (Mod.refl _ w).drewN _
 have HFq := hJ (hEq.blk HF.out id)
 have HXq := hJ hEq
 have q1 : wq.cell? ⟨d, 1, none⟩ = some (.slice A n c) := hEq.cell c1 id
 rw [hwq]
 clear hwq hEq c0 c1 c2 c3 c4 c5
 go_wp2_with fail
 refine (q_add wq (fun _ => True) T (.slice A n c) (.slice A2 m c2') D.file bs (by have h1 := (Sl.of_own (zU H.out.2.1 HXq.out (fun _ _ => id)) (fun _ _ => trivial) : Sl wq (fun _ => True) 1 _ _ _); rw [Hn.out] at h1; unfold Byt; rw [Hn.out]; exact h1) (by have h1 := Hb.out.mod HXq.out (fun _ _ => id); exact h1) (by rw [Hn.out]; omega) (by rw [Hm.out]; exact hbl)).mono ?_
 rintro e w4 ⟨A4, c4', rfl, hN4, hX4⟩
 obtain ⟨L, hL⟩ : ∃ L, (D.file ++ bs).length = L := ⟨_, rfl⟩
 rw [hL] at hN4 ⊢
 have hD4 := hX4.blk HFq.out id
 have f1 : w4.frozen? ⟨d, 1, none⟩ = false := zK 1 hD4
 have b1 : w4.cell? ⟨d, 1, none⟩ = some (.slice A n c) := zB (cs := [.int .i64 D.room, .slice A n c, .int .i64 (D.synced : Int), .bool D.off, .int .i64 (D.trip : Int), .int .i64 D.keep]) hD4 rfl
 obtain ⟨w5, hw5⟩ : ∃ w5, w4.setCell ⟨d, 1, none⟩ (.slice A4 L c4') = w5 := ⟨_, rfl⟩
 have hm5 : Mod (fun k => k = d) w4 w5 := by rw [← hw5]; exact zO (Mod.refl _ _) _ _
 have hQ5 : Qsk w5 d (.slice A4 L c4') D' := by
  refine ⟨?_, ?_, Hok.out⟩
  ·
   have h3 := yC hD4 1 (.slice A4 L c4')
   rw [hw5] at h3
   have h4 := Hce.out
   simp only [List.cons.injEq, and_true] at h4
   obtain ⟨e0, e1, e2, e3, e4, e5⟩ := h4
   rw [e0, e2, e3, e4, e5]
   exact h3
  rw [Hfl.out]
  exact zU hN4.1 hm5 (fun g h1 h2 => zT hN4.1 h1 hD4 (by decide) h2)
 have HM5 : Hid (Mod (fun k => k = d) w w5) := hJ (((HXq.out.mod _).ext hX4).self hm5)
 have HQ5 := hJ hQ5
 have HN4 : Hid (∀ g, (Value.slice A4 L c4').ownBlock = some g → w.heap.size ≤ g) := hJ (fun g hg => Nat.le_trans HXq.out.size (hN4.2 g hg))
 have Hw5 := hJ hw5
 clear hN4 hX4 hD4 hm5 hQ5 hw5 hL q1
 go_wp2_with fail
 try rw [Hw5.out]
 refine (zpY w5 d _ D' HQ5.out).mono ?_
 rintro e w6 ⟨rfl, hD, hmm⟩
 obtain ⟨e1, e2, e3, e4, e5⟩ := zbD D'
 obtain ⟨D1, hD1⟩ : ∃ D1, D'.count.1 = D1 := ⟨_, rfl⟩
 rw [hD1] at hD e4
 have hs2 := Hs.out
 rw [hD1] at hs2
 have HD := hJ hD
 have HM := hJ (HM5.out.self hmm)
 have E4 := hJ e4
 obtain ⟨c0, c1, c2, c3, c4, c5⟩ := hD.cells
 clear hD1 e1 e2 e3 e4 e5 hmm f1 b1
 rcases hb : D'.count.2 with _ | _
 ·
  rw [hb] at hs2
  have Hs2 := hJ hs2
  clear hs2 hb hD c0 c1 c2 c3 c4 c5
  go_wp2
  go_ret
  rw [Hs2.out]
  exact ⟨rfl, _, HD.out, HM.out.mono (fun _ _ e => .inl e), fun g hg => .inr (HN4.out g hg)⟩
 rw [hb] at hs2
 have Hs2 := hJ hs2
 have hkb : -9223372036854775808 ≤ D1.keep ∧ D1.keep ≤ 9223372036854775807 := by have h1 := hD.2.2; unfold zJ.ok at h1; omega
 clear hs2 hb hD
 go_wp2_with fail
 refine (ziF w6 d _ D1 HD.out D1.keep hkb).mono ?_
 rintro e w7 ⟨rfl, hX⟩
 have HX : Hid (QM w d (.slice A n c) (D.append bs).1 w7) := hJ (by
  rw [Hs2.out]
  simp only [if_true]
  rw [← Hkp.out, ← E4.out]
  exact QM.trans (HM.out.mono (fun _ _ e => .inl e)) (fun _ h => .inr (HN4.out _ h)) hX)
 clear hX
 go_wp2
 go_ret
 exact ⟨by rw [Hs2.out]; rfl, HX.out⟩
end Go.Proofs.YtjhnlncgmejkcaaGreat
