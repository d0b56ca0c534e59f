/-
 Contracts of what writes over bytes (skerrykeep.SpoilBytes). Conditions: as each theorem names them.
-/
import Derived.Test.YtjhnlncgmejkcaaGreatR5
import Derived.Test.YtjhnlncgmejkcaaGreatS24
set_option maxRecDepth 100000
set_option maxHeartbeats 1000000
namespace Go.Proofs.YtjhnlncgmejkcaaGreat
set_option linter.unusedSimpArgs false
open Go.RowKit
theorem zqR (w : World) (g n c : Nat) (cur : List Value) (bs : List UInt8) (hR : w.heap[g]? = some (.cells cur.toArray 5 (0, 0))) (hn : bs.length = n) (hc : cur.take n = bs.map B) (hl : n ≤ 1000000) :
  Calls Tryz.prog 61 #[.slice (some ⟨g, 0, none⟩) n c] w fun e w' => e = .returned (.tuple #[]) ∧ Mod (fun k => k = g) w w' := by
 have hcl : n ≤ cur.length := by
  have h1 := congrArg List.length hc
  rw [List.length_take, List.length_map, hn] at h1
  omega
 have Hc := hJ hc
 have Hn := hJ hn
 have HR := hJ hR
 clear hc hn hR
 go_enter Tryz.func61, Tryz.ntmps61
 go_wp2
 go_loopw [2] (fun iv wr => ∃ (i : Nat) (cu : List Value), i ≤ n ∧ iv = .int .i64 i ∧ wr.heap[g]? = some (.cells cu.toArray 5 (0, 0)) ∧ cu.length = cur.length ∧ cu.drop i = cur.drop i ∧ Mod (fun k => k = g) w wr) (fun iv _ => n - (intOf iv).toNat)
 case atStart => exact ⟨0, cur, by omega, rfl, HR.out, rfl, rfl, Mod.refl _ w⟩
 obtain ⟨i, cu, hin, rfl, hr, hlen, hd, hm⟩ := hrel
 have hi0 : (0 : Int) ≤ (i : Int) := by omega
 by_cases hi : i < n
 rotate_left
 ·
  go_wp2
  go_end0
  exact ⟨rfl, hm⟩
 have hi1 : (i : Int) < (n : Int) := by omega
 obtain ⟨b, hb⟩ : ∃ b, bs[i]? = some b := ⟨bs[i]'(by rw [Hn.out]; exact hi), List.getElem?_eq_getElem _⟩
 have hcu : cu[i]? = some (B b) := by
  have h1 : (cu.drop i)[0]? = (cur.drop i)[0]? := by rw [hd]
  simp only [List.getElem?_drop, Nat.add_zero] at h1
  rw [h1]
  have h2 : (cur.take n)[i]? = some (B b) := by rw [Hc.out, List.getElem?_map, hb]; rfl
  rw [List.getElem?_take, if_pos hi] at h2
  exact h2
 have q0 : wr.cell? ⟨g, i, none⟩ = some (.int .u8 (b.toNat : Int)) := zB hr hcu
 have f0 : wr.frozen? ⟨g, i, none⟩ = false := zK i hr
 have HRr := hJ hr
 have Hlen := hJ hlen
 have Hd := hJ hd
 have HM := hJ hm
 clear hr hlen hd hm hb hcu
 go_wp2
 refine ⟨⟨i + 1, cu.set i (.int .u8 (((b.toNat : Int) + 101) % 256)), by omega, by go_num, ?_, by rw [List.length_set]; exact Hlen.out, ?_, zO HM.out _ _⟩, by simp [intOf]; omega⟩
 · simp [World.setCell, Array.getElem?_modify, HRr.out]
 have h1 : (cu.drop i).drop 1 = (cur.drop i).drop 1 := by rw [Hd.out]
 rw [List.drop_drop, List.drop_drop] at h1
 rw [List.drop_set_of_lt (by omega)]
 exact h1
theorem znL (w : World) (v : Value) (bs : List UInt8) (h : w.ownsRow 0 5 1 v bs.length (bs.map B)) (hl : bs.length ≤ 1000000) :
  Calls Tryz.prog 61 #[v] w fun e w' => e = .returned (.tuple #[]) ∧ Mod (fun k => v.ownBlock = some k) w w' := by
 rcases zbB h with ⟨rfl, h0⟩ | ⟨g, cap, cur, rfl, hR, h1, h2, h3, h4⟩
 ·
  clear h
  go_enter Tryz.func61, Tryz.ntmps61
  go_wp2
  go_loopw [2] (fun iv wr => iv = .int .i64 0 ∧ wr = w) (fun _ _ => 0)
  case atStart => exact ⟨rfl, rfl⟩
  obtain ⟨rfl, rfl⟩ := hrel
  go_wp2
  go_end0
  exact ⟨rfl, Mod.refl _ _⟩
 obtain ⟨n, hn⟩ : ∃ n, bs.length = n := ⟨_, rfl⟩
 rw [hn] at h4 hl ⊢
 rw [Nat.mul_one] at h4
 refine (zqR w g n cap cur bs hR hn h4 hl).mono ?_
 rintro e w' ⟨rfl, hm⟩
 exact ⟨rfl, hm.mono (fun k _ e => by rw [e]; rfl)⟩
theorem zqS (w : World) (g n c : Nat) (cur : List Value) (hR : w.heap[g]? = some (.cells cur.toArray 56 (0, 0))) (hc : n * 16 ≤ cur.length) (hl : n ≤ 1000000) :
  Calls Tryz.prog 62 #[.slice (some ⟨g, 0, none⟩) n c] w fun e w' => e = .returned (.tuple #[]) ∧ Mod (fun k => k = g) w w' := by
 have HR := hJ hR
 clear hR
 go_enter Tryz.func62, Tryz.ntmps62
 go_wp2
 go_loopw [2] (fun iv wr => ∃ (i : Nat) (cu : List Value), i ≤ n ∧ iv = .int .i64 i ∧ wr.heap[g]? = some (.cells cu.toArray 56 (0, 0)) ∧ cu.length = cur.length ∧ Mod (fun k => k = g) w wr) (fun iv _ => n - (intOf iv).toNat)
 case atStart => exact ⟨0, cur, by omega, rfl, HR.out, rfl, Mod.refl _ w⟩
 obtain ⟨i, cu, hin, rfl, hr, hlen, hm⟩ := hrel
 have hi0 : (0 : Int) ≤ (i : Int) := by omega
 by_cases hi : i < n
 rotate_left
 ·
  go_wp2
  go_end0
  exact ⟨rfl, hm⟩
 have hi1 : (i : Int) < (n : Int) := by omega
 have hlt : i * 16 < cu.length := by omega
 have q0 : wr.cell? ⟨g, i * 16, none⟩ = some cu[i * 16] := zB hr (List.getElem?_eq_getElem hlt)
 have f0 : wr.frozen? ⟨g, i * 16, none⟩ = false := zK (i * 16) hr
 have HRr := hJ hr
 have Hlen := hJ hlen
 have HM := hJ hm
 clear hr hlen hm
 go_wp2
 refine ⟨⟨i + 1, cu.set (i * 16) (.int .i64 (-77)), by omega, by go_num, ?_, by rw [List.length_set]; exact Hlen.out, zO HM.out _ _⟩, by simp [intOf]; omega⟩
 simp [World.setCell, Array.getElem?_modify, HRr.out]
theorem zk9 (w : World) (v : Value) (l : List zI) (h : w.ownsRow 0 56 16 v l.length (l.flatMap zI.cells)) (hl : l.length ≤ 1000000) :
  Calls Tryz.prog 62 #[v] w fun e w' => e = .returned (.tuple #[]) ∧ Mod (fun k => v.ownBlock = some k) w w' := by
 rcases zbB h with ⟨rfl, h0⟩ | ⟨g, cap, cur, rfl, hR, h1, h2, h3, h4⟩
 ·
  clear h
  go_enter Tryz.func62, Tryz.ntmps62
  go_wp2
  go_loopw [2] (fun iv wr => iv = .int .i64 0 ∧ wr = w) (fun _ _ => 0)
  case atStart => exact ⟨rfl, rfl⟩
  obtain ⟨rfl, rfl⟩ := hrel
  go_wp2
  go_end0
  exact ⟨rfl, Mod.refl _ _⟩
 obtain ⟨n, hn⟩ : ∃ n, l.length = n := ⟨_, rfl⟩
 rw [hn] at h2 hl ⊢
 refine (zqS w g n cap cur hR (by omega) hl).mono ?_
 rintro e w' ⟨rfl, hm⟩
 exact ⟨rfl, hm.mono (fun k _ e => by rw [e]; rfl)⟩
theorem zgL (w : World) (sv lv : Value) (h : zC) (ho : ze4 w sv lv h) (hl : h.log.length ≤ 1000000) (hs : h.snap.length ≤ 1000000) :
  Calls Tryz.prog 30 #[.agg #[.int .i64 h.term, .int .i64 h.vote, .int .i64 h.base, .int .i64 h.baseTerm, .int .i64 h.conf.full, .int .i64 h.conf.wit, .int .i64 h.conf.learn, .int .i64 h.conf.learnWit, sv, lv]] w fun e w' => e = .returned (.tuple #[]) ∧ Mod (fun k => sv.ownBlock = some k ∨ lv.ownBlock = some k) w w' := by
 obtain ⟨W, hW⟩ : ∃ W, w.alloc (.cells (h.cells sv lv).toArray 34) = W := ⟨_, rfl⟩
 obtain ⟨b, hb⟩ : ∃ b, w.heap.size = b := ⟨_, rfl⟩
 have hA : W.heap[b]? = some (.cells (h.cells sv lv).toArray 34 (0, 0)) := by rw [← hW, ← hb]; exact heap_alloc_new w _
 have hE : Ext w W := by rw [← hW]; exact (Mod.refl _ w).alloc _
 have HO := hJ (ho.mod hE (fun _ _ => id))
 have HA := hJ hA
 have HE := hJ hE
 have HW := hJ hW
 have Hb := hJ hb
 have c8 : W.cell? ⟨b, 8, none⟩ = some sv := zB (cs := (h.cells sv lv)) hA rfl
 clear hW hb hA hE ho
 go_enter Tryz.func30, Tryz.ntmps30
 go_upto_region 1 with fail
 rw [HW.out, Hb.out]
 go_wp2_with fail
 refine (znL W sv h.snap HO.out.1 hs).mono ?_
 rintro e w1 ⟨rfl, hm⟩
 have hA1 := hm.blk HA.out (fun e => zT HO.out.1 e HA.out (by decide) rfl)
 have hO1 : w1.ownsRow 0 56 16 lv h.log.length (h.log.flatMap zI.cells) := zU HO.out.2.1 hm (fun g hg e => zbV HO.out.2.1 HO.out.1 (by decide) hg e)
 have c9 : w1.cell? ⟨b, 9, none⟩ = some lv := zB (cs := (h.cells sv lv)) hA1 rfl
 have HM := hJ hm
 have HO1 := hJ hO1
 clear hm hA1 hO1 c8
 go_wp2_with fail
 refine (zk9 w1 lv h.log HO1.out hl).mono ?_
 rintro e w2 ⟨rfl, hm2⟩
 have HR : Hid (Mod (fun k => sv.ownBlock = some k ∨ lv.ownBlock = some k) w w2) := hJ ((((HE.out.mod _).self (HM.out.mono (fun _ _ e => .inl e)))).self (hm2.mono (fun _ _ e => .inr e)))
 clear hm2
 go_wp2
 go_end0
 exact ⟨rfl, HR.out⟩
end Go.Proofs.YtjhnlncgmejkcaaGreat
