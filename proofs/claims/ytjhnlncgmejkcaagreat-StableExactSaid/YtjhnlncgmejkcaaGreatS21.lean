/-
  Contracts of package disk. Conditions: as each theorem names them.
-/
import Derived.Test.YtjhnlncgmejkcaaGreatS14
import Derived.Test.YtjhnlncgmejkcaaGreatS13
import Derived.Test.YtjhnlncgmejkcaaGreatS10
import Derived.Test.YtjhnlncgmejkcaaGreatS8
import Derived.Deep.QuietTactic
import Derived.BigQuiet
import Derived.Test.YtjhnlncgmejkcaaGreatS16
import Derived.Test.YtjhnlncgmejkcaaGreatS11
import Derived.Test.YtjhnlncgmejkcaaGreatS17
import Derived.Test.YtjhnlncgmejkcaaGreatS20
import Derived.Laws.ResultCell
set_option maxRecDepth 100000
set_option maxHeartbeats 2000000
namespace Go.Proofs.YtjhnlncgmejkcaaGreat
set_option linter.unusedSimpArgs false
open Go.RowKit
theorem ziE {w : World} {e : TypeId} {k n m c : Nat} {A : Option Addr} {xs : List Value} (h : w.ownsRow 0 e k (.slice A n c) n xs) (hm : m ≤ n) : w.ownsRow 0 e k (.slice A m c) m (xs.take (m * k)) := by
 refine ⟨by rw [List.length_take, h.1]; exact Nat.min_eq_left (Nat.mul_le_mul_right k hm), ?_⟩
 rcases h.2 with ⟨h1, h2⟩ | ⟨g, cap, cur, h1, hb, hh, hnc, hcm, hsz, htk⟩
 ·
  injection h1 with e1 e2 e3
  subst e1; subst e3
  have : m = 0 := by omega
  subst this
  exact .inl ⟨rfl, rfl⟩
 injection h1 with e1 e2 e3
 subst e1; subst e3
 refine .inr ⟨g, c, cur, rfl, hb, hh, by omega, hcm, hsz, ?_⟩
 rw [← htk, List.take_take]
 congr 1
 exact (Nat.min_eq_left (Nat.mul_le_mul_right k hm)).symm
def Dsk (w : World) (d : Nat) (fv : Value) (D : zJ) : Prop :=
 w.heap[d]? = some (.cells #[.int .i64 D.room, fv, .int .i64 (D.synced : Int), .bool D.off, .int .i64 (D.trip : Int), .int .i64 D.keep] 85 (0, 0)) ∧ w.ownsRow 0 5 1 fv D.file.length (D.file.map B) ∧ D.ok
theorem Dsk.mod {w w' : World} {S : Nat → Prop} {d : Nat} {fv : Value} {D : zJ} (h : Dsk w d fv D) (hm : Mod S w w') (hd : ¬ S d) (hf : ∀ g, fv.ownBlock = some g → ¬ S g) : Dsk w' d fv D := ⟨hm.blk h.1 hd, zU h.2.1 hm hf, h.2.2⟩
theorem Dsk.ext {w w' : World} {d : Nat} {fv : Value} {D : zJ} (h : Dsk w d fv D) (hm : Ext w w') : Dsk w' d fv D := h.mod hm id (fun _ _ => id)
theorem Dsk.apart {w : World} {d : Nat} {fv : Value} {D : zJ} (h : Dsk w d fv D) : fv.ownBlock ≠ some d := fun e => zT h.2.1 e h.1 (by decide) rfl
theorem Dsk.lt {w : World} {d : Nat} {fv : Value} {D : zJ} (h : Dsk w d fv D) : d < w.heap.size := (Array.getElem?_eq_some_iff.1 h.1).1
def DM (w : World) (d : Nat) (fv : Value) (D' : zJ) (w' : World) : Prop :=
 ∃ fv', Dsk w' d fv' D' ∧ Mod (fun k => k = d ∨ fv.ownBlock = some k) w w' ∧ ∀ g, fv'.ownBlock = some g → fv.ownBlock = some g ∨ w.heap.size ≤ g
theorem DM.same {w w' : World} {d : Nat} {fv : Value} {D : zJ} (h : Dsk w d fv D) (hE : Ext w w') : DM w d fv D w' := ⟨fv, h.ext hE, hE.mod _, fun _ h => .inl h⟩
theorem DM.trans {w w1 w' : World} {d : Nat} {fv fv1 : Value} {D' : zJ} (hm : Mod (fun k => k = d ∨ fv.ownBlock = some k) w w1) (hf : ∀ g, fv1.ownBlock = some g → fv.ownBlock = some g ∨ w.heap.size ≤ g) (h : DM w1 d fv1 D' w') : DM w d fv D' w' := by
 obtain ⟨fv', h1, h2, h3⟩ := h
 refine ⟨fv', h1, hm.trans h2 (fun i hi e => ?_), fun g hg => ?_⟩
 ·
  rcases e with e | e
  · exact .inl e
  rcases hf i e with e | e
  · exact .inr e
  omega
 rcases h3 g hg with e | e
 · exact hf g e
 exact .inr (by have := hm.size; omega)
theorem Dsk.cells {w : World} {d : Nat} {fv : Value} {D : zJ} (h : Dsk w d fv D) : w.cell? ⟨d, 0, none⟩ = some (.int .i64 D.room) ∧ w.cell? ⟨d, 1, none⟩ = some fv ∧ w.cell? ⟨d, 2, none⟩ = some (.int .i64 (D.synced : Int)) ∧ w.cell? ⟨d, 3, none⟩ = some (.bool D.off) ∧ w.cell? ⟨d, 4, none⟩ = some (.int .i64 (D.trip : Int)) ∧ w.cell? ⟨d, 5, none⟩ = some (.int .i64 D.keep) := by
 simp [World.cell?, h.1]
theorem d_new (room : Int) (h0 : 0 ≤ room) (h1 : room ≤ 65536) (w : World) : Calls Tryz.prog 10 #[.int .i64 room] w fun e w' => e = .returned (.tuple #[.pointer (some ⟨w.heap.size, 0, none⟩), .int .i64 0]) ∧ Dsk w' w.heap.size (.slice none 0 0) (zJ.new room) ∧ Ext w w' := by
 have d0 : decide (room < 0) = false := by simp; omega
 have d1 : decide (65536 < room) = false := by simp; omega
 have hok : (zJ.new room).ok := ⟨h0, h1, Nat.le_refl _, h0, by simp [zJ.new], by simp [zJ.new], by simp [zJ.new]⟩
 have Hok := hJ hok
 clear hok
 go_enter Tryz.func10, Tryz.ntmps10
 go_wp2
 go_ret2
 exact ⟨rfl, ⟨heap_alloc_new w _, World.ownsRow_nil _ _ _ _, Hok.out⟩, (Mod.refl _ w).alloc _⟩
theorem d_off (w : World) (d : Nat) (fv : Value) (D : zJ) (h : Dsk w d fv D) : Calls Tryz.prog 26 #[.pointer (some ⟨d, 0, none⟩)] w fun e w' => e = .returned (.bool D.off) ∧ w = w' := by
 obtain ⟨c0, c1, c2, c3, c4, c5⟩ := h.cells
 clear h
 go_enter Tryz.func26, Tryz.ntmps26
 go_wp2
 go_ret
 exact ⟨rfl, rfl⟩
theorem zpW (w : World) (d : Nat) (fv : Value) (D : zJ) (h : Dsk w d fv D) : Calls Tryz.prog 22 #[.pointer (some ⟨d, 0, none⟩)] w fun e w' => e = .returned (.tuple #[]) ∧ Dsk w' d fv D.start ∧ Mod (fun k => k = d) w w' := by
 obtain ⟨c0, c1, c2, c3, c4, c5⟩ := h.cells
 have f3 : w.frozen? ⟨d, 3, none⟩ = false := zK 3 h.1
 have hm : Mod (fun k => k = d) w (w.setCell ⟨d, 3, none⟩ (.bool false)) := zO (Mod.refl _ _) _ _
 have hR : Dsk (w.setCell ⟨d, 3, none⟩ (.bool false)) d fv D.start := ⟨yC h.1 3 (.bool false), zU h.2.1 hm (fun g h1 h2 => h.apart (h2 ▸ h1)), h.2.2⟩
 have HR := hJ hR
 have HM := hJ hm
 clear hR hm h
 go_enter Tryz.func22, Tryz.ntmps22
 go_wp2
 go_end0
 exact ⟨rfl, HR.out, HM.out⟩
theorem zpX (w : World) (d : Nat) (fv : Value) (D : zJ) (h : Dsk w d fv D) : Calls Tryz.prog 50 #[.pointer (some ⟨d, 0, none⟩)] w fun e w' => e = .returned (.bool D.count.2) ∧ Dsk w' d fv D.count.1 ∧ Mod (fun k => k = d) w w' := by
 obtain ⟨c0, c1, c2, c3, c4, c5⟩ := h.cells
 have hok := zJ.count_ok h.2.2
 have htl := h.2.2.2.2.2.2.1
 have f4 : w.frozen? ⟨d, 4, none⟩ = false := zK 4 h.1
 have H := hJ h
 obtain ⟨t, ht⟩ : ∃ t, D.trip = t := ⟨_, rfl⟩
 rw [ht] at c4 htl
 by_cases h0 : t = 0
 ·
  have hc : D.count = (D, false) := by unfold zJ.count; rw [if_pos (by omega)]
  have d0 : ((t : Int) == 0) = true := by simp [h0]
  have Hc := hJ hc
  clear hc h0 ht hok
  go_enter Tryz.func50, Tryz.ntmps50
  go_wp2
  go_ret
  rw [Hc.out]
  exact ⟨rfl, H.out, Mod.refl _ _⟩
 have hc : D.count = ({ D with trip := t - 1 }, t == 1) := by unfold zJ.count; rw [if_neg (by omega), ht]
 have d0 : ((t : Int) == 0) = false := by simp [h0]
 have hm : Mod (fun k => k = d) w (w.setCell ⟨d, 4, none⟩ (.int .i64 ((t : Int) - 1))) := zO (Mod.refl _ _) _ _
 have hR : Dsk (w.setCell ⟨d, 4, none⟩ (.int .i64 ((t : Int) - 1))) d fv D.count.1 := by
  rw [hc] at hok ⊢
  refine ⟨?_, zU h.2.1 hm (fun g h1 h2 => h.apart (h2 ▸ h1)), hok⟩
  have h3 := yC h.1 4 (.int .i64 ((t : Int) - 1))
  rw [show ((t : Int) - 1) = ((t - 1 : Nat) : Int) by omega] at h3 ⊢
  exact h3
 have HR := hJ hR
 have HM := hJ hm
 have hb : (((t : Int) - 1) == 0) = (t == 1) := by rw [Bool.eq_iff_iff]; simp; omega
 have Hc := hJ hc
 have Hb := hJ hb
 have h0' : 1 ≤ t := by omega
 clear hR hm hc hok ht hb h h0
 rcases hq : (((t : Int) - 1) == 0) with _ | _
 all_goals
  go_enter Tryz.func50, Tryz.ntmps50
  go_wp2
  go_ret
  exact ⟨zP (by rw [Hc.out, ← hq, Hb.out]), HR.out, HM.out⟩
theorem d_trip (w : World) (d : Nat) (fv : Value) (D : zJ) (h : Dsk w d fv D) (n k : Int) (hn : n ≤ 9223372036854775807) (hk : -9223372036854775808 ≤ k ∧ k ≤ 9223372036854775807) : Calls Tryz.prog 31 #[.pointer (some ⟨d, 0, none⟩), .int .i64 n, .int .i64 k] w fun e w' => e = .returned (.tuple #[]) ∧ Dsk w' d fv (D.arm n k) ∧ Mod (fun k => k = d) w w' := by
 obtain ⟨c0, c1, c2, c3, c4, c5⟩ := h.cells
 have hok := zJ.arm_ok h.2.2 hn hk
 have f4 : w.frozen? ⟨d, 4, none⟩ = false := zK 4 h.1
 have f5 : w.frozen? ⟨d, 5, none⟩ = false := zK 5 h.1
 rcases ho : D.off with _ | _
 ·
  rw [ho] at c3
  have ha : D.arm n k = { D with trip := (max n 0).toNat, keep := k } := by unfold zJ.arm; rw [ho]; rfl
  rw [ha] at hok ⊢
  obtain ⟨t, ht⟩ : ∃ t : Nat, max n 0 = (t : Int) := ⟨(max n 0).toNat, by omega⟩
  have hm : Mod (fun k => k = d) w ((w.setCell ⟨d, 4, none⟩ (.int .i64 (t : Int))).setCell ⟨d, 5, none⟩ (.int .i64 k)) := zO (zO (Mod.refl _ _) _ _) _ _
  have hR : Dsk ((w.setCell ⟨d, 4, none⟩ (.int .i64 (t : Int))).setCell ⟨d, 5, none⟩ (.int .i64 k)) d fv { D with trip := (max n 0).toNat, keep := k } := by
   refine ⟨?_, zU h.2.1 hm (fun g h1 h2 => h.apart (h2 ▸ h1)), hok⟩
   have h3 := yC (yC h.1 4 (.int .i64 (t : Int))) 5 (.int .i64 k)
   rw [ht]
   exact h3
  have HR := hJ hR
  have HM := hJ hm
  clear hR hm hok h ha
  rcases Int.lt_or_le n 0 with hn0 | hn0
  focus
   obtain rfl : t = 0 := by omega
  rotate_left
  focus
   obtain rfl : n = (t : Int) := by omega
  all_goals
   clear ht
   go_enter Tryz.func31, Tryz.ntmps31
   go_wp2
   all_goals first
    | (go_end0; exact ⟨rfl, HR.out, HM.out⟩)
    | (exfalso; omega)
 rw [ho] at c3
 have ha : D.arm n k = D := by unfold zJ.arm; rw [ho]; rfl
 rw [ha]
 have H := hJ h
 clear hok ha h
 go_enter Tryz.func31, Tryz.ntmps31
 go_wp2
 go_end0
 exact ⟨rfl, H.out, Mod.refl _ _⟩
theorem zmB {l : List UInt8} (n : Nat) : (l.map B).take (n * 1) = (l.take n).map B := by rw [Nat.mul_one, List.map_take]
theorem zgB (w : World) (d : Nat) (fv : Value) (D : zJ) (h : Dsk w d fv D) (k : Int) (hk : -9223372036854775808 ≤ k ∧ k ≤ 9223372036854775807) : Calls Tryz.prog 21 #[.pointer (some ⟨d, 0, none⟩), .int .i64 k] w fun e w' => e = .returned (.tuple #[]) ∧ DM w d fv (D.crash k) w' := by
 obtain ⟨A, c, rfl⟩ := zN h.2.1
 obtain ⟨c0, c1, c2, c3, c4, c5⟩ := h.cells
 have hok := zJ.crash_ok h.2.2 k
 obtain ⟨r0, r1, sy, rl, t1, k0, k1⟩ := h.2.2
 have f1 : w.frozen? ⟨d, 1, none⟩ = false := zK 1 h.1
 have f2 : w.frozen? ⟨d, 2, none⟩ = false := zK 2 h.1
 have f3 : w.frozen? ⟨d, 3, none⟩ = false := zK 3 h.1
 have f4 : w.frozen? ⟨d, 4, none⟩ = false := zK 4 h.1
 rcases ho : D.off with _ | _
 rotate_left
 ·
  rw [ho] at c3
  have ha : D.crash k = { D with trip := 0 } := by unfold zJ.crash; rw [ho]; rfl
  rw [ha] at hok ⊢
  have hm : Mod (fun k => k = d) w (w.setCell ⟨d, 4, none⟩ (.int .i64 0)) := zO (Mod.refl _ _) _ _
  have hR : DM w d (.slice A D.file.length c) { D with trip := 0 } (w.setCell ⟨d, 4, none⟩ (.int .i64 0)) :=
   ⟨_, ⟨yC h.1 4 (.int .i64 0), zU h.2.1 hm (fun g h1 h2 => h.apart (h2 ▸ h1)), hok⟩, hm.mono (fun _ _ e => .inl e), fun _ h => .inl h⟩
  have HR := hJ hR
  clear hR hm hok ha h
  go_enter Tryz.func21, Tryz.ntmps21
  go_wp2
  refine bodyPost_ret (v := .tuple #[]) (by simp [results, Tryz.results21]) rfl ?_
  exact ⟨rfl, HR.out⟩
 rw [ho] at c3
 have ha : D.crash k = { D with trip := 0, off := true, file := D.file.take (D.left k), synced := D.left k } := by unfold zJ.crash; rw [ho]; rfl
 rw [ha] at hok ⊢
 obtain ⟨L, hL⟩ : ∃ L, D.left k = L := ⟨_, rfl⟩
 have hle := zkK D k sy
 rw [hL] at hok hle ⊢
 have hlen : (D.file.take L).length = L := by rw [List.length_take]; omega
 have hown : w.ownsRow 0 5 1 (.slice A L c) (D.file.take L).length ((D.file.take L).map B) := by
  have h1 := ziE h.2.1 hle.2
  rw [zmB] at h1
  rw [hlen]
  exact h1
 have hob : ∀ g, (Value.slice A L c).ownBlock = some g ↔ (Value.slice A D.file.length c).ownBlock = some g := fun g => by cases A <;> simp [Value.ownBlock]
 have hR : ∀ (q : Nat) (x : Int), x = (L : Int) → DM w d (.slice A D.file.length c) { D with trip := 0, off := true, file := D.file.take L, synced := L } (((((w.setCell ⟨d, 4, none⟩ (.int .i64 0)).setCell ⟨d, 3, none⟩ (.bool true)).drewN q).setCell ⟨d, 1, none⟩ (.slice A L c)).setCell ⟨d, 2, none⟩ (.int .i64 x)) := by
  rintro q x rfl
  have hm : Mod (fun k => k = d) w (((((w.setCell ⟨d, 4, none⟩ (.int .i64 0)).setCell ⟨d, 3, none⟩ (.bool true)).drewN q).setCell ⟨d, 1, none⟩ (.slice A L c)).setCell ⟨d, 2, none⟩ (.int .i64 (L : Int))) := zO (zO (Mod.drewN (zO (zO (Mod.refl _ _) _ _) _ _) q) _ _) _ _
  refine ⟨.slice A L c, ⟨?_, zU hown hm (fun g h1 h2 => h.apart (by rw [← h2]; exact (hob g).1 h1)), hok⟩, hm.mono (fun _ _ e => .inl e), fun g hg => .inl ((hob g).1 hg)⟩
  exact yC (yC (w := ((w.setCell ⟨d, 4, none⟩ (.int .i64 0)).setCell ⟨d, 3, none⟩ (.bool true)).drewN q) (yC (yC h.1 4 (.int .i64 0)) 3 (.bool true)) 1 (.slice A L c)) 2 (.int .i64 (L : Int))
 obtain ⟨n, hn⟩ : ∃ n, D.file.length = n := ⟨_, rfl⟩
 obtain ⟨s, hs⟩ : ∃ s, D.synced = s := ⟨_, rfl⟩
 have hL2 : (L : Int) = (s : Int) + max (min k ((n : Int) - (s : Int))) 0 := by rw [← hL, zJ.left, hn, hs]; omega
 have hcap : L ≤ c := by
  rcases h.2.1.2 with ⟨h1, h2⟩ | ⟨g, cap, cur, h1, hb, hh, hnc, hcm, hsz, htk⟩
  · omega
  injection h1 with e1 e2 e3; omega
 have hcap2 : n ≤ c := by
  rw [← hn]
  rcases h.2.1.2 with ⟨h1, h2⟩ | ⟨g, cap, cur, h1, hb, hh, hnc, hcm, hsz, htk⟩
  · omega
  injection h1 with e1 e2 e3; omega
 rw [hn] at c1 rl hle sy hR ⊢
 rw [hs] at c2 sy hle
 have HR := hJ hR
 clear hR hok ha h hown hlen hL hn hs hob
 obtain ⟨m, rfl⟩ : ∃ m, n = s + m := ⟨n - s, by omega⟩
 have hsub : IntKind.i64.wrap (((s + m : Nat) : Int) - (s : Int)) = (m : Int) := by rw [IntWalk.i64_in _ (by omega)]; omega
 rcases Int.lt_or_le k 0 with hk0 | hk0
 ·
  obtain rfl : L = s := by omega
  clear hL2
  go_enter Tryz.func21, Tryz.ntmps21
  go_wp2
  go_quiet (fail)
  go_wp2
  go_region
  all_goals go_wp2
  all_goals first
   | (exfalso; omega)
   | skip
  go_end0
  exact ⟨rfl, HR.out _ _ (by omega)⟩
 obtain ⟨j, rfl⟩ := Int.eq_ofNat_of_zero_le hk0
 rcases Nat.lt_or_ge m j with hj | hj
 focus
  obtain rfl : L = s + m := by omega
 rotate_left
 focus
  obtain rfl : L = s + j := by omega
 all_goals
  clear hL2
  go_enter Tryz.func21, Tryz.ntmps21
  go_wp2
  go_quiet (fail)
  go_wp2
  go_region
  all_goals go_wp2
  all_goals first
   | (exfalso; omega)
   | skip
  go_end0
  exact ⟨rfl, HR.out _ _ (by omega)⟩
theorem zbD (D : zJ) : D.count.1.file = D.file ∧ D.count.1.room = D.room ∧ D.count.1.off = D.off ∧ D.count.1.keep = D.keep ∧ D.count.1.synced = D.synced := by unfold zJ.count; split <;> exact ⟨rfl, rfl, rfl, rfl, rfl⟩
theorem dm_of {w w1 : World} {d : Nat} {fv : Value} {D' : zJ} (h : Dsk w1 d fv D') (hm : Mod (fun k => k = d) w w1) : DM w d fv D' w1 := ⟨fv, h, hm.mono (fun _ _ e => .inl e), fun _ h => .inl h⟩
theorem d_read (w : World) (d : Nat) (fv : Value) (D : zJ) (h : Dsk w d fv D) (ho : D.off = false) : Calls Tryz.prog 28 #[.pointer (some ⟨d, 0, none⟩)] w fun e w' => ∃ v, e = .returned (.tuple #[v, .int .i64 0]) ∧ yO w w' v D.file ∧ Ext w w' := by
 obtain ⟨A, c, rfl⟩ := zN h.2.1
 obtain ⟨c0, c1, c2, c3, c4, c5⟩ := h.cells
 have hlt := h.lt
 have hrl : (D.file.length : Int) ≤ 65536 := by have h1 := h.2.2; unfold zJ.ok at h1; omega
 rw [ho] at c3
 have hb : Byt (w.alloc (.cells #[] 5)) (fun _ => True) (.slice A D.file.length c) D.file := ((Sl.of_own h.2.1 (fun _ _ => trivial)).alloc _)
 have hN : yO w (w.alloc (.cells #[] 5)) (.slice (some ⟨w.heap.size, 0, none⟩) 0 0) [] := ⟨World.ownsRow_made w #[] 0 (Nat.zero_le _) (by simp [maxLen]) rfl, fun g hg => by simp [Value.ownBlock] at hg; omega⟩
 have hE : Ext w (w.alloc (.cells #[] 5)) := (Mod.refl _ w).alloc _
 clear h
 go_enter Tryz.func28, Tryz.ntmps28
 go_wp2_with (at_builtin; refine zW rfl _ _ rfl (.slice (some ⟨w.heap.size, 0, none⟩) 0 0) [] w rfl hN hE _ _ D.file rfl hb (by simp only [List.length_nil]; omega) ?_)
 intro A4 n4 c4 w4 hn4 hN4 hX4 _ _
 have HN4 := hJ hN4
 have HX4 := hJ hX4
 clear hn4 hN4 hX4 hN hE hb
 go_wp2
 go_ret2
 exact ⟨_, rfl, by simpa using HN4.out, HX4.out⟩
theorem znC (w : World) (d : Nat) (fv : Value) (D : zJ) (h : Dsk w d fv D) (ho : D.off = true) : Calls Tryz.prog 28 #[.pointer (some ⟨d, 0, none⟩)] w fun e w' => e = .returned (.tuple #[.slice none 0 0, .int .i64 4]) ∧ w = w' := by
 obtain ⟨c0, c1, c2, c3, c4, c5⟩ := h.cells
 rw [ho] at c3
 clear h
 go_enter Tryz.func28, Tryz.ntmps28
 go_wp2
 go_ret2
 exact ⟨rfl, rfl⟩
theorem d_sync (w : World) (d : Nat) (fv : Value) (D : zJ) (h : Dsk w d fv D) : Calls Tryz.prog 56 #[.pointer (some ⟨d, 0, none⟩)] w fun e w' => e = .returned (.int .i64 D.sync.2) ∧ DM w d fv D.sync.1 w' := by
 have H := hJ h
 have hokS := zJ.sync_ok h.2.2
 obtain ⟨c0, c1, c2, c3, c4, c5⟩ := h.cells
 rcases ho : D.off with _ | _
 rotate_left
 ·
  have hs : D.sync = (D, 4) := by unfold zJ.sync; rw [ho]; rfl
  have Hs := hJ hs
  rw [ho] at c3
  clear h hs hokS
  go_enter Tryz.func56, Tryz.ntmps56
  go_wp2
  go_ret
  rw [Hs.out]
  exact ⟨rfl, DM.same H.out (Mod.refl _ _)⟩
 rw [ho] at c3
 have Hok := hJ hokS
 have Ho := hJ ho
 clear h hokS ho
 go_enter Tryz.func56, Tryz.ntmps56
 go_wp2_with fail
 refine (zpX w d fv D H.out).mono ?_
 rintro e w1 ⟨rfl, hD, hm⟩
 obtain ⟨e1, e2, e3, e4, e5⟩ := zbD D
 have hs : D.sync = if D.count.2 then (D.count.1.crash D.keep, 4) else ({ D.count.1 with synced := D.file.length }, 0) := by unfold zJ.sync; rw [Ho.out]; rfl
 obtain ⟨D1, hD1⟩ : ∃ D1, D.count.1 = D1 := ⟨_, rfl⟩
 rw [hD1] at hD e1 e2 e3 e4 e5 hs
 have HD := hJ hD
 have HM := hJ hm
 clear c0 c1 c2 c3 c4 c5 hm hD1
 obtain ⟨A, c, rfl⟩ := zN hD.2.1
 obtain ⟨c0, c1, c2, c3, c4, c5⟩ := hD.cells
 have f2 : w1.frozen? ⟨d, 2, none⟩ = false := zK 2 hD.1
 rcases hb : D.count.2 with _ | _
 ·
  rw [hb] at hs
  have Hs := hJ hs
  obtain ⟨n, hn⟩ : ∃ n, D1.file.length = n := ⟨_, rfl⟩
  have hm2 : Mod (fun k => k = d) w1 (w1.setCell ⟨d, 2, none⟩ (.int .i64 (n : Int))) := zO (Mod.refl _ _) _ _
  have hok2 := Hok.out
  rw [hs] at hok2
  have hR : DM w d (.slice A D1.file.length c) D.sync.1 (w1.setCell ⟨d, 2, none⟩ (.int .i64 (n : Int))) := by
   rw [hs]
   refine dm_of (w1 := (w1.setCell ⟨d, 2, none⟩ (.int .i64 (n : Int)))) ⟨?_, zU hD.2.1 hm2 (fun g h1 h2 => hD.apart (h2 ▸ h1)), hok2⟩ (HM.out.self hm2)
   have h3 := yC hD.1 2 (.int .i64 (n : Int))
   rw [← hn, e1] at h3 ⊢
   exact h3
  rw [hn] at c1
  have HR := hJ hR
  clear hR hm2 hok2 hn hs hD hb e1 e2 e3 e4 e5
  go_wp2
  go_ret
  exact ⟨by rw [Hs.out]; rfl, HR.out⟩
 rw [hb] at hs
 have Hs := hJ hs
 have hkb : -9223372036854775808 ≤ D1.keep ∧ D1.keep ≤ 9223372036854775807 := by have h1 := hD.2.2; unfold zJ.ok at h1; omega
 have E4 := hJ e4
 clear hs hD hb e1 e2 e3 e4 e5
 go_wp2_with fail
 refine (zgB w1 d _ D1 HD.out D1.keep hkb).mono ?_
 rintro e w2 ⟨rfl, hX⟩
 have HX : Hid (DM w d (.slice A D1.file.length c) D.sync.1 w2) := hJ (by
  rw [Hs.out]
  simp only [if_true]
  rw [← E4.out]
  exact DM.trans (HM.out.mono (fun _ _ e => .inl e)) (fun _ h => .inl h) hX)
 clear hX
 go_wp2
 go_ret
 exact ⟨by rw [Hs.out]; rfl, HX.out⟩
theorem zmC (w : World) (d : Nat) (fv : Value) (D : zJ) (h : Dsk w d fv D) (T : Nat → Prop) (bv : Value) (bs : List UInt8) (hb : Byt w T bv bs) (hbl : bs.length ≤ 100000000) :
  Calls Tryz.prog 18 #[.pointer (some ⟨d, 0, none⟩), bv] w fun e w' => e = .returned (.int .i64 (D.append bs).2) ∧ DM w d fv (D.append bs).1 w' := by
 obtain ⟨i0, hi, hz0, hz1, hz2⟩ := info_parts jN
 have H := hJ h
 obtain ⟨A, c, rfl⟩ := zN h.2.1
 obtain ⟨c0, c1, c2, c3, c4, c5⟩ := h.cells
 obtain ⟨r0, r1, sy, rl, t1, k0, k1⟩ := h.2.2
 obtain ⟨m, hm⟩ : ∃ m, bs.length = m := ⟨_, rfl⟩
 obtain ⟨n, hn⟩ : ∃ n, D.file.length = n := ⟨_, rfl⟩
 obtain ⟨A2, c2', rfl⟩ := hb.form
 have Hb := hJ hb
 have Hm := hJ hm
 have Hn := hJ hn
 rw [hm] at hbl ⊢
 rw [hn] at c1 rl sy ⊢
 rcases ho : D.off with _ | _
 rotate_left
 ·
  have hs : D.append bs = (D, 4) := by unfold zJ.append; rw [ho]; rfl
  have Hs := hJ hs
  rw [ho] at c3
  clear h hs hb hm hn
  go_enter Tryz.func18, Tryz.ntmps18
  go_wp2
  go_ret
  rw [Hs.out]
  have h1 := H.out
  rw [Hn.out] at h1
  exact ⟨rfl, DM.same h1 (Mod.refl _ _)⟩
 rw [ho] at c3
 obtain ⟨q, hq⟩ : ∃ q, D.room - (n : Int) = q := ⟨_, rfl⟩
 have hsub : IntKind.i64.wrap (D.room - (n : Int)) = q := by rw [IntWalk.i64_in _ (by omega)]; exact hq
 have Ho := hJ ho
 have Hq := hJ hq
 clear hb hm hn ho hq
 by_cases hf : q < (m : Int)
 ·
  have df : decide (q < (m : Int)) = true := by simpa using hf
  have hs : D.append bs = (D, 5) := by unfold zJ.append; rw [Ho.out, Hn.out, Hm.out, Hq.out]; simp [hf]
  have Hs := hJ hs
  clear h hs
  go_enter Tryz.func18, Tryz.ntmps18
  go_wp2
  go_quiet (fail)
  go_wp2
  go_ret
  rw [Hs.out]
  have h1 := H.out
  rw [Hn.out] at h1
  exact ⟨rfl, DM.same h1 ((Mod.refl _ _).drewN _)⟩
 have df : decide (q < (m : Int)) = false := by simp; omega
 obtain ⟨E, hE⟩ : ∃ E : zJ, { D with file := D.file ++ bs } = E := ⟨_, rfl⟩
 have hs : D.append bs = if E.count.2 then (E.count.1.crash D.keep, 4) else (E.count.1, 0) := by
  unfold zJ.append
  rw [if_neg (by rw [Ho.out]; simp), if_neg (by rw [Hn.out, Hm.out, Hq.out]; exact hf), ← hE]
 have hEok : E.ok := by
  rw [← hE]
  have h1 := Hn.out
  have h2 := Hm.out
  have h3 := Hq.out
  exact ⟨r0, r1, by simp only [List.length_append]; omega, by simp only [List.length_append]; omega, t1, k0, k1⟩
 have hEk : E.keep = D.keep := by rw [← hE]
 have hEf : E.file = D.file ++ bs := by rw [← hE]
 have hEc : E.room = D.room ∧ E.synced = D.synced ∧ E.off = D.off ∧ E.trip = D.trip := by rw [← hE]; exact ⟨rfl, rfl, rfl, rfl⟩
 have Hs := hJ hs
 have HEok := hJ hEok
 have HEk := hJ hEk
 have HEf := hJ hEf
 have HEc := hJ hEc
 have hown := h.2.1
 rw [Hn.out] at hown
 have Hown := hJ hown
 have hbb := Hb.out
 unfold Byt at hbb
 rw [Hm.out] at hbb
 have Hbb := hJ hbb
 have hnm : (n : Int) + (m : Int) ≤ 65536 := by have := Hq.out; omega
 clear h hs hE hEok hEk hEf hEc hf hown hbb
 go_enter Tryz.func18, Tryz.ntmps18
 go_wp2
 go_quiet (fail)
 go_wp2_with (at_builtin; refine yA _ rfl _ _ 25 rfl 5 i0 _ 1 1 Tryz.underlying25 hi hz0 hz1 hz2 rfl (by omega) (.slice A n c) n (D.file.map B) rfl (zU Hown.out ((Mod.refl (fun _ => False) w).drewN _) (fun _ _ => id)) T _ m (bs.map B) rfl Hbb.out (zdL bs) (by simp only [maxLen]; omega) (by omega) ?_)
 intro v' w1 ho hgr hat
 have H2 : Dsk w d (.slice A n c) D := by
  have h1 := H.out
  rw [Hn.out] at h1
  exact h1
 have hmA : Mod (fun k => (Value.slice A n c).ownBlock = some k) w w1 := ((Mod.refl _ w).drewN _).grown hgr (fun k e => .inr e)
 have hD1 := hmA.blk H2.1 H2.apart
 have hm2 : Mod (fun k => k = d) w1 (w1.setCell ⟨d, 1, none⟩ v') := zO (Mod.refl _ _) _ _
 have hel : E.file.length = n + m := by rw [HEf.out, List.length_append, Hn.out, Hm.out]
 have hDE : Dsk (w1.setCell ⟨d, 1, none⟩ v') d v' E := by
  refine ⟨?_, zU ?_ hm2 (fun g h1 h2 => zT ho h1 hD1 (by decide) h2), HEok.out⟩
  · have h3 := yC hD1 1 v'
    rw [HEc.out.1, HEc.out.2.1, HEc.out.2.2.1, HEc.out.2.2.2, HEk.out]
    exact h3
  rw [hel, HEf.out, List.map_append]
  exact ho
 have hfar : ∀ g, v'.ownBlock = some g → (Value.slice A n c).ownBlock = some g ∨ w.heap.size ≤ g := fun g hg => by
  rcases hat with e | e <;> rw [e] at hg
  · exact .inl hg
  injection hg with hg
  exact .inr (by omega)
 have hM2 : Mod (fun k => k = d ∨ (Value.slice A n c).ownBlock = some k) w (w1.setCell ⟨d, 1, none⟩ v') := (hmA.mono (fun _ _ e => .inr e)).trans hm2 (fun _ _ e => .inl e)
 have f1 : w1.frozen? ⟨d, 1, none⟩ = false := zK 1 hD1
 have b1 : w1.cell? ⟨d, 1, none⟩ = some _ := zB hD1 rfl
 obtain ⟨A7, c7, hv7⟩ := zN ho
 have HDE := hJ hDE
 have Hfar := hJ hfar
 have HM2 := hJ hM2
 clear hDE hfar hM2 hm2 hmA hD1 H2 ho hgr hat c0 c1 c2 c3 c4 c5 hel
 subst hv7
 go_wp2_with fail
 refine (zpX _ d _ E HDE.out).mono ?_
 rintro e w2 ⟨rfl, hD, hm⟩
 obtain ⟨e1, e2, e3, e4, e5⟩ := zbD E
 obtain ⟨D1, hD1⟩ : ∃ D1, E.count.1 = D1 := ⟨_, rfl⟩
 have hs := Hs.out
 rw [hD1] at hD e4 hs
 have HM := hJ (HM2.out.trans hm (fun _ _ e => .inl e))
 have HD := hJ hD
 clear hm hD1 e1 e2 e3 e5 f1 b1
 obtain ⟨c0, c1, c2, c3, c4, c5⟩ := hD.cells
 rcases hb : E.count.2 with _ | _
 ·
  rw [hb] at hs
  have Hs2 := hJ hs
  clear hb hs hD
  go_wp2
  go_ret
  rw [Hs2.out]
  exact ⟨rfl, _, HD.out, HM.out, Hfar.out⟩
 rw [hb] at hs
 have Hs2 := hJ hs
 have hkb : -9223372036854775808 ≤ D1.keep ∧ D1.keep ≤ 9223372036854775807 := by have h1 := hD.2.2; unfold zJ.ok at h1; omega
 have E4 := hJ (e4.trans HEk.out)
 clear hb hs hD e4
 go_wp2_with fail
 refine (zgB w2 d _ D1 HD.out D1.keep hkb).mono ?_
 rintro e w3 ⟨rfl, hX⟩
 have HX : Hid (DM w d (.slice A n c) (D.append bs).1 w3) := hJ (by
  rw [Hs2.out]
  simp only [if_true]
  rw [← E4.out]
  exact DM.trans HM.out Hfar.out hX)
 clear hX
 go_wp2
 go_ret
 exact ⟨by rw [Hs2.out]; rfl, HX.out⟩
theorem zjI (w : World) (d : Nat) (fv : Value) (D : zJ) (h : Dsk w d fv D) (T : Nat → Prop) (bv : Value) (bs : List UInt8) (hb : Byt w T bv bs) (hbl : bs.length ≤ 100000000) (hT : ∀ g, T g → g ≠ d) :
  Calls Tryz.prog 41 #[.pointer (some ⟨d, 0, none⟩), bv] w fun e w' => e = .returned (.int .i64 (D.replace bs).2) ∧ DM w d fv (D.replace bs).1 w' := by
 have H := hJ h
 have hokS := zJ.replace_ok h.2.2 bs
 obtain ⟨c0, c1, c2, c3, c4, c5⟩ := h.cells
 obtain ⟨r0, r1, sy, rl, t1, k0, k1⟩ := h.2.2
 obtain ⟨m, hm⟩ : ∃ m, bs.length = m := ⟨_, rfl⟩
 obtain ⟨A2, c2', rfl⟩ := hb.form
 have Hb := hJ hb
 have Hm := hJ hm
 rw [hm] at hbl ⊢
 rcases ho : D.off with _ | _
 rotate_left
 ·
  have hs : D.replace bs = (D, 4) := by unfold zJ.replace; rw [ho]; rfl
  have Hs := hJ hs
  rw [ho] at c3
  clear h hs hb hm hokS
  go_enter Tryz.func41, Tryz.ntmps41
  go_wp2
  go_ret
  rw [Hs.out]
  exact ⟨rfl, DM.same H.out (Mod.refl _ _)⟩
 rw [ho] at c3
 by_cases hf : D.room < (m : Int)
 ·
  have df : decide (D.room < (m : Int)) = true := by simpa using hf
  have hs : D.replace bs = (D, 5) := by unfold zJ.replace; rw [ho, hm]; simp [hf]
  have Hs := hJ hs
  clear h hs hb hm hokS
  go_enter Tryz.func41, Tryz.ntmps41
  go_wp2
  go_ret
  rw [Hs.out]
  exact ⟨rfl, DM.same H.out (Mod.refl _ _)⟩
 have df : decide (D.room < (m : Int)) = false := by simp; omega
 have hs : D.replace bs = if D.count.2 then (D.count.1.crash D.keep, 4) else ({ D.count.1 with file := bs, synced := bs.length }, 0) := by
  unfold zJ.replace
  rw [if_neg (by rw [ho]; simp), if_neg (by rw [hm]; exact hf)]
 have Hok := hJ hokS
 have HT := hJ hT
 clear h hokS hb hm hf ho
 go_enter Tryz.func41, Tryz.ntmps41
 go_wp2_with fail
 refine (zpX w d fv D H.out).mono ?_
 rintro e w1 ⟨rfl, hD, hmm⟩
 obtain ⟨e1, e2, e3, e4, e5⟩ := zbD D
 obtain ⟨D1, hD1⟩ : ∃ D1, D.count.1 = D1 := ⟨_, rfl⟩
 rw [hD1] at hD e1 e2 e3 e4 e5 hs
 have HD := hJ hD
 have HM := hJ hmm
 clear c0 c1 c2 c3 c4 c5 hD1
 obtain ⟨c0, c1, c2, c3, c4, c5⟩ := hD.cells
 rcases hb : D.count.2 with _ | _
 ·
  rw [hb] at hs
  have Hs := hJ hs
  have hbb := Hb.out.mod hmm (fun g hg e => HT.out g hg e)
  have hE0 : Ext w1 (w1.alloc (.cells #[] 5)) := (Mod.refl _ _).alloc _
  have hN : yO w1 (w1.alloc (.cells #[] 5)) (.slice (some ⟨w1.heap.size, 0, none⟩) 0 0) [] := ⟨World.ownsRow_made w1 #[] 0 (Nat.zero_le _) (by simp [maxLen]) rfl, fun g hg => by simp [Value.ownBlock] at hg; omega⟩
  have hbb2 := hbb.ext hE0
  have hml := Hm.out
  rw [Hm.out] at hbb2
  clear hs hb hmm
  go_wp2_with (at_builtin; refine zW rfl _ _ rfl (.slice (some ⟨w1.heap.size, 0, none⟩) 0 0) [] w1 rfl hN hE0 T _ bs rfl (by unfold Byt; rw [Hm.out]; exact hbb2) (by simp only [List.length_nil]; omega) ?_)
  intro A4 n4 c4' w4 hn4 hN4 hX4 _ _
  obtain rfl : n4 = m := by simpa [hml] using hn4
  have hD4 := hX4.blk hD.1 id
  have hm4 : Mod (fun k => k = d) w4 ((w4.setCell ⟨d, 1, none⟩ (.slice A4 n4 c4')).setCell ⟨d, 2, none⟩ (.int .i64 (n4 : Int))) := zO (zO (Mod.refl _ _) _ _) _ _
  have f1 : w4.frozen? ⟨d, 1, none⟩ = false := zK 1 hD4
  have f2 : w4.frozen? ⟨d, 2, none⟩ = false := zK 2 hD4
  have b1 : w4.cell? ⟨d, 1, none⟩ = some _ := zB hD4 rfl
  have b2 : w4.cell? ⟨d, 2, none⟩ = some _ := zB hD4 rfl
  have hR : DM w d fv (D.replace bs).1 ((w4.setCell ⟨d, 1, none⟩ (.slice A4 n4 c4')).setCell ⟨d, 2, none⟩ (.int .i64 (n4 : Int))) := by
   have hok2 := Hok.out
   rw [Hs.out] at hok2 ⊢
   refine ⟨.slice A4 n4 c4', ⟨?_, zU ?_ hm4 (fun g h1 h2 => zT hN4.1 h1 hD4 (by decide) h2), hok2⟩, ?_, fun g hg => .inr (Nat.le_trans HM.out.size (hN4.2 g hg))⟩
   · have h3 := yC (yC hD4 1 (.slice A4 n4 c4')) 2 (.int .i64 (n4 : Int))
     simp only [Bool.false_eq_true, if_false]
     rw [hml]
     exact h3
   · simp only [Bool.false_eq_true, if_false]
     exact hN4.1
   exact ((HM.out.ext hX4).self hm4).mono (fun _ _ e => .inl e)
  have HR := hJ hR
  clear hR hm4 hD4 hN4 hX4 hn4 hN hE0 hbb hbb2 hD e1 e2 e3 e4 e5 hml
  go_wp2
  go_ret
  exact ⟨by rw [Hs.out]; rfl, HR.out⟩
 rw [hb] at hs
 have Hs := hJ hs
 have hkb : -9223372036854775808 ≤ D1.keep ∧ D1.keep ≤ 9223372036854775807 := by have h1 := hD.2.2; unfold zJ.ok at h1; omega
 have E4 := hJ e4
 clear hs hD hb e1 e2 e3 e4 e5 hmm
 go_wp2_with fail
 refine (zgB w1 d _ D1 HD.out D1.keep hkb).mono ?_
 rintro e w2 ⟨rfl, hX⟩
 have HX : Hid (DM w d fv (D.replace bs).1 w2) := hJ (by
  rw [Hs.out]
  simp only [if_true]
  rw [← E4.out]
  exact DM.trans (HM.out.mono (fun _ _ e => .inl e)) (fun _ h => .inl h) hX)
 clear hX
 go_wp2
 go_ret
 exact ⟨by rw [Hs.out]; rfl, HX.out⟩
theorem zL {P : Program} {fn : Func} {p u : Tmp} {ty : TypeId} {k : Nat} (h : fn.results = #[.cell p ty, .tmp u]) (tmps : Array Value) (w : World) (g : Nat) (t : TypeId) (cs : List Value) (hs : Str P ty k)
  (hp : tmps.getD p undef = .pointer (some ⟨g, 0, none⟩)) (hg : w.heap[g]? = some (.cells cs.toArray t (0, 0))) (hc : cs.length = k) : (results fn tmps).run P w = .ok (.tuple #[.agg cs.toArray, tmps.getD u undef]) w := by
 have hl := zF (P := P) (o := 0) (cs := cs) hs hg hc (fun j u hu => by rw [Nat.zero_add]; exact hu)
 have hv : (loadVar ty ⟨g, 0, none⟩).run P w = .ok (.agg cs.toArray) w := by simpa [Instr.loadAt, Instr.sureAddr] using hl
 rw [results_cell_tmp h]
 simp [hp, asAddr, hv, Result.andThen]
theorem zcS {b : List UInt8} {y : zC} (h : yR b = some y) : y.log.length ≤ b.length ∧ y.snap.length ≤ 16384 := by
 have hw : ∀ (n : Nat) (r s : RS) (l : List zI), wEs n r = some (l, s) → l.length = n := by
  intro n
  induction n with
  | zero => intro r s l e; cases e; rfl
  | succ n ih =>
   intro r s l e
   rw [wEs] at e
   split at e
   · cases e
   split at e
   · cases e
   rename_i l' s' e'
   cases e
   rw [List.length_cons, ih _ _ _ e']
 unfold yR at h
 split at h
 · cases h
 split at h
 · cases h
 rename_i h0 r e
 split at h
 · cases h
 cases h
 unfold RS.hardW at e
 simp only at e
 obtain ⟨t, ht⟩ : ∃ t, (RS.int ⟨b, 0⟩).2.int.2.int.2.int.2.confP.2.text = t := ⟨_, rfl⟩
 have hle : t.2.left.length ≤ b.length ∧ t.1.length ≤ 16384 := by
  have h1 := yJ ⟨b, 0⟩
  have h2 := yJ (RS.int ⟨b, 0⟩).2
  have h3 := yJ (RS.int ⟨b, 0⟩).2.int.2
  have h4 := yJ (RS.int ⟨b, 0⟩).2.int.2.int.2
  have h5 := za5 (RS.int ⟨b, 0⟩).2.int.2.int.2.int.2
  have h6 := zbN (RS.int ⟨b, 0⟩).2.int.2.int.2.int.2.confP.2
  have h7 := zdI (RS.int ⟨b, 0⟩).2.int.2.int.2.int.2.confP.2
  rw [ht] at h6 h7
  simp only at h1
  omega
 rw [ht] at e
 split at e
 · cases e
 rename_i l e'
 cases e
 refine ⟨?_, hle.2⟩
 unfold RS.listW at e'
 split at e'
 ·
  rename_i hn
  have hn2 : t.2.leftN ≤ (t.2.left.length : Int) := by unfold RS.leftN; split <;> omega
  have := hw _ _ _ _ e'
  simp only
  omega
 cases e'
theorem zfH {n : Int} (h : zgQ n = true) : I64 n := by
 unfold zgQ at h
 simp only [Bool.and_eq_true, decide_eq_true_eq] at h
 unfold I64
 omega
theorem zb9 {c : yF} (h : jK c = true) : c.ok := by
 unfold jK at h
 simp only [Bool.and_eq_true] at h
 exact ⟨zfH h.1.1.1.1.1.1.1, zfH h.1.1.1.1.1.1.2, zfH h.1.1.1.1.1.2, zfH h.1.1.1.1.2⟩
theorem Right.ok {h : zC} (r : Right h) : h.ok := ⟨r.i64.1, r.i64.2.1, r.i64.2.2.1, r.i64.2.2.2, zb9 r.c⟩
theorem znD {h : zC} (r : Right h) (ho : ∀ x ∈ h.log, x.ok) : ziL h.w = if 16384 < h.enc.length then ([], 2) else (h.enc, 0) := by
 have ha : h.log.all zcK = true := List.all_eq_true.2 (fun x hx => (jB (jH r.r x hx) (ho x hx)).1.2.1)
 unfold zC.w
 rw [zoE]
 unfold hardP za0
 rw [if_pos ha]
 rfl
def zeU (h : zC) : List UInt8 × Int := if 16384 ≤ h.enc.length then ([], 2) else (zR (1 :: h.enc), 0)
theorem zY.cap {w : World} {T : Nat → Prop} {sv lv : Value} {h : zC} (hv : zY w T sv lv h) : zY w (fun g => T g ∧ g < w.heap.size) sv lv h := ⟨Sl.cap hv.1 (by omega), Sl.cap hv.2.1 (by omega), hv.2.2⟩
theorem st_all (w : World) (T : Nat → Prop) (h : zC) (sv lv : Value) (hv : zY w T sv lv h) (hr : Right h) (hl : h.log.length ≤ 12700) :
  Calls Tryz.prog 70 #[.agg #[.int .i64 h.term, .int .i64 h.vote, .int .i64 h.base, .int .i64 h.baseTerm, .int .i64 h.conf.full, .int .i64 h.conf.wit, .int .i64 h.conf.learn, .int .i64 h.conf.learnWit, sv, lv]] w fun e w' => ∃ v, e = .returned (.tuple #[v, .int .i64 (zeU h).2]) ∧ yO w w' v (zeU h).1 ∧ Ext w w' := by
 obtain ⟨W, hW⟩ : ∃ W, w.alloc (.cells (h.cells sv lv).toArray 34) = W := ⟨_, rfl⟩
 have hE : Ext w W := by rw [← hW]; exact (Mod.refl _ w).alloc _
 have hA : W.heap[w.heap.size]? = some (.cells (h.cells sv lv).toArray 34 (0, 0)) := by rw [← hW]; exact heap_alloc_new w _
 have hld := zF (P := Tryz.prog) (o := 0) (cs := h.cells sv lv) zA hA rfl (fun j u hu => by rw [Nat.zero_add]; exact hu)
 have hv1 : zY W (fun g => T g ∧ g < W.heap.size) sv lv h := (hv.mod hE (fun _ _ => id)).cap
 have ht := znD hr hv.2.2
 have HW := hJ hW
 have HE := hJ hE
 have Ht := hJ ht
 have Hv1 := hJ hv1
 obtain ⟨As, cs, Al, cl, rfl, rfl⟩ := hv.forms
 obtain ⟨sl, hsl⟩ : ∃ n, h.snap.length = n := ⟨_, rfl⟩
 obtain ⟨ll, hll⟩ : ∃ n, h.log.length = n := ⟨_, rfl⟩
 have Hl := hJ hl
 rw [hsl, hll] at Hv1 HW hld ⊢
 clear hW hE hA ht hv hv1 hsl hll hl
 go_enter Tryz.func70, Tryz.ntmps70
 go_wp2_with (rw [HW.out]; refine zG rfl 34 _ rfl _ _ rfl hld ?_)
 clear hld
 refine (wo_hard W _ h _ _ Hv1.out hr.ok (fun g hg => hg.2) Hl.out).mono ?_
 rintro e w1 ⟨v, rfl, hN1, hE1⟩
 rw [Ht.out] at hN1 ⊢
 by_cases hL : 16384 < h.enc.length
 ·
  rw [if_pos hL] at hN1 ⊢
  have Ha : Hid (zeU h = ([], 2)) := hJ (by unfold zeU; rw [if_pos (by omega)])
  have HE1 := hJ (HE.out.ext hE1)
  clear hN1 hE1 hL
  go_wp2
  go_ret2
  rw [Ha.out]
  exact ⟨_, rfl, ⟨World.ownsRow_nil _ _ _ _, by simp [Value.ownBlock]⟩, HE1.out⟩
 rw [if_neg hL] at hN1 ⊢
 obtain ⟨A1, c1, rfl⟩ := zN hN1.1
 have hb1 : Byt w1 (zZ W.heap.size) (.slice A1 h.enc.length c1) h.enc := yO.sl (w := W) hN1
 obtain ⟨n, hn⟩ : ∃ n, h.enc.length = n := ⟨_, rfl⟩
 rw [hn] at hb1 hL
 simp only [hn]
 have Hn := hJ hn
 have Hb1 := hJ hb1
 have HE1 := hJ (HE.out.ext hE1)
 clear hN1 hE1 hn hb1
 go_wp2_with fail
 refine (zf8 w1 _ A1 n c1 1 1 h.enc rfl Hb1.out Hn.out (by omega)).mono ?_
 rintro e w2 ⟨v2, rfl, hN2, hE2⟩
 have Ha : Hid (zeZ 1 h.enc = zeU h) := hJ (by
  unfold zeZ zeU
  by_cases h1 : 16384 ≤ h.enc.length
  · rw [if_pos h1, if_pos (by omega)]
  rw [if_neg h1, if_neg (by omega)])
 rw [Ha.out] at hN2 ⊢
 have HN2 := hJ (hN2.up HE1.out)
 have HE2 := hJ (HE1.out.ext hE2)
 clear hN2 hE2
 go_wp2
 go_ret2
 exact ⟨_, rfl, HN2.out, HE2.out⟩
def StB (w : World) (s d : Nat) (g : zC) (sv lv : Value) : Prop := w.heap[s]? = some (.cells #[.pointer (some ⟨d, 0, none⟩), .int .i64 g.term, .int .i64 g.vote, .int .i64 g.base, .int .i64 g.baseTerm, .int .i64 g.conf.full, .int .i64 g.conf.wit, .int .i64 g.conf.learn, .int .i64 g.conf.learnWit, sv, lv] 88 (0, 0))
theorem Dsk.ne {w : World} {d b : Nat} {fv : Value} {D : zJ} {t : TypeId} {cs : Array Value} {q : Nat × Nat} (h : Dsk w d fv D) (hb : w.heap[b]? = some (.cells cs t q)) (ht : t ≠ 85) : b ≠ d := fun e => by
 have h1 := h.1
 rw [← e, hb] at h1
 injection h1 with h1
 injection h1 with _ h1
 exact ht h1
theorem zgC (D : zJ) (h : zC) : xG D h = if 16384 ≤ h.enc.length then (D, 2) else D.replace (zeU h).1 := by
 unfold xG zeU
 split <;> rfl
theorem zkT (w : World) (T : Nat → Prop) (s d : Nat) (g h : zC) (gs gl sv lv fv : Value) (D : zJ) (hS : StB w s d g gs gl) (hD : Dsk w d fv D) (hv : zY w T sv lv h) (hr : Right h) (hl : h.log.length ≤ 12700) :
  Calls Tryz.prog 37 #[.pointer (some ⟨s, 0, none⟩), .agg #[.int .i64 h.term, .int .i64 h.vote, .int .i64 h.base, .int .i64 h.baseTerm, .int .i64 h.conf.full, .int .i64 h.conf.wit, .int .i64 h.conf.learn, .int .i64 h.conf.learnWit, sv, lv]] w fun e w' => e = .returned (.int .i64 (xG D h).2) ∧ DM w d fv (xG D h).1 w' := by
 obtain ⟨W, hW⟩ : ∃ W, w.alloc (.cells (h.cells sv lv).toArray 34) = W := ⟨_, rfl⟩
 have hE : Ext w W := by rw [← hW]; exact (Mod.refl _ w).alloc _
 have hA : W.heap[w.heap.size]? = some (.cells (h.cells sv lv).toArray 34 (0, 0)) := by rw [← hW]; exact heap_alloc_new w _
 have hld := zF (P := Tryz.prog) (o := 0) (cs := h.cells sv lv) zA hA rfl (fun j u hu => by rw [Nat.zero_add]; exact hu)
 have hv1 : zY W T sv lv h := hv.mod hE (fun _ _ => id)
 have HW := hJ hW
 have HE := hJ hE
 have Hv1 := hJ hv1
 have HS := hJ hS
 have HD := hJ hD
 obtain ⟨As, cs, Al, cl, rfl, rfl⟩ := hv.forms
 obtain ⟨sl, hsl⟩ : ∃ n, h.snap.length = n := ⟨_, rfl⟩
 obtain ⟨ll, hll⟩ : ∃ n, h.log.length = n := ⟨_, rfl⟩
 have Hl := hJ hl
 have Ha := hJ (zgC D h)
 rw [hsl, hll] at Hv1 HW hld ⊢
 clear hW hE hA hv hv1 hsl hll hl hS hD
 go_enter Tryz.func37, Tryz.ntmps37
 go_wp2_with (rw [HW.out]; refine zG rfl 34 _ rfl _ _ rfl hld ?_)
 clear hld
 refine (st_all W T h _ _ Hv1.out hr Hl.out).mono ?_
 rintro e w1 ⟨v, rfl, hN1, hE1⟩
 have HE1 := hJ (HE.out.ext hE1)
 have c0 : w1.cell? ⟨s, 0, none⟩ = some (.pointer (some ⟨d, 0, none⟩)) := zB (cs := [.pointer (some ⟨d, 0, none⟩), .int .i64 g.term, .int .i64 g.vote, .int .i64 g.base, .int .i64 g.baseTerm, .int .i64 g.conf.full, .int .i64 g.conf.wit, .int .i64 g.conf.learn, .int .i64 g.conf.learnWit, gs, gl]) (HE1.out.blk HS.out id) rfl
 by_cases hL : 16384 ≤ h.enc.length
 ·
  have Hp : Hid (zeU h = ([], 2)) := hJ (by unfold zeU; rw [if_pos hL])
  have Hq : Hid (xG D h = (D, 2)) := hJ (by rw [Ha.out, if_pos hL])
  rw [Hp.out] at hN1 ⊢
  clear hN1 hE1 hL
  go_wp2
  go_ret
  rw [Hq.out]
  exact ⟨rfl, DM.same HD.out HE1.out⟩
 have Hp : Hid (zeU h = (zR (1 :: h.enc), 0)) := hJ (by unfold zeU; rw [if_neg hL])
 have Hq : Hid (xG D h = D.replace (zR (1 :: h.enc))) := hJ (by rw [Ha.out, if_neg hL, Hp.out])
 rw [Hp.out] at hN1 ⊢
 have HN1 := hJ (yO.sl (w := W) hN1)
 obtain ⟨A1, c1, rfl⟩ := zN hN1.1
 have hbl : (zR (1 :: h.enc)).length ≤ 100000000 := by rw [yL, List.length_cons]; omega
 have hsd : d < W.heap.size := Nat.lt_of_lt_of_le HD.out.lt HE.out.size
 obtain ⟨fl, hfl⟩ : ∃ fl, (zR (1 :: h.enc)).length = fl := ⟨_, rfl⟩
 rw [hfl] at HN1
 simp only [hfl]
 clear hN1 hE1 hL
 go_wp2_with fail
 refine (zjI w1 d fv D (HD.out.ext HE1.out) _ _ (zR (1 :: h.enc)) HN1.out hbl (fun g hg e => by unfold zZ at hg; omega)).mono ?_
 rintro e w2 ⟨rfl, hM⟩
 have HM : Hid (DM w d fv (xG D h).1 w2) := hJ (by rw [Hq.out]; exact DM.trans (Ext.mod HE1.out _) (fun g hg => .inl hg) hM)
 rw [← Hq.out]
 clear hM
 go_wp2
 go_ret
 exact ⟨rfl, HM.out⟩
end Go.Proofs.YtjhnlncgmejkcaaGreat
