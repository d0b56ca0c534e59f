/-
 Contracts of wire.Entry, and of the laws' wakes. Conditions: as each theorem names them.
-/
import Derived.Test.YtfkacakbengboaaWireT
import Derived.Test.YtfkacakbengboaaKeep
namespace Go.Proofs.Ytfkacakbengboaa
open Go.RowKit

set_option maxRecDepth 100000 in
set_option maxHeartbeats 2000000 in
theorem wo_entry1 (W : World) (p b : Nat) (x : AEntry) (hx : x.ok) (hc : ∀ j u, x.cells[j]? = some u → W.cell? ⟨p, j, none⟩ = some u) (hs : St W (fun k => k = b) b [] false) :
  Calls Try.prog 31 #[.pointer (some ⟨b, 0, none⟩), .pointer (some ⟨p, 0, none⟩)] W (WOut W (fun k => k = b) b [] false (wEntry x)) := by
 have x0 := hc 0 _ rfl
 have x1 := hc 1 _ rfl
 have x2 := hc 2 _ rfl
 have x3 := hc 3 _ rfl
 have x4 := hc 4 _ rfl
 have x5 := hc 5 _ rfl
 have x6 := hc 6 _ rfl
 have x7 := hc 7 _ rfl
 have x8 := hc 8 _ rfl
 have x9 := hc 9 _ rfl
 have x10 := hc 10 _ rfl
 have x11 := hc 11 _ rfl
 have x12 := hc 12 _ rfl
 have x13 := hc 13 _ rfl
 have x14 := hc 14 _ rfl
 have x15 := hc 15 _ rfl
 have Hx := Lib.hid hx
 clear hc hx
 go_enter Try.func31, Try.ntmps31
 go_wp2_with fail
 refine (wi_entry W (fun k => k = b) b [] false x hs Hx.out (by simp)).mono ?_
 rintro e w1 ⟨hm, h1⟩
 rcases hV : wEntry x with _ | ⟨D, L⟩
 ·
  rw [hV] at h1
  subst h1
  exact ⟨rfl, fin_none (Mod.refl _ W) hm hV⟩
 ·
  rw [hV] at h1
  obtain ⟨rfl, S1, hS1, hg1⟩ := h1
  have HS1 := Lib.hid hS1
  have Hg1 := Lib.hid hg1
  have HV := Lib.hid hV
  clear hS1 hg1 hV
  go_wp2
  go_end0
  exact fin_some (Mod.refl _ W) hm HS1.out Hg1.out HV.out

set_option maxRecDepth 100000 in
set_option maxHeartbeats 2000000 in
theorem wo_entry (w : World) (x : AEntry) (hx : x.ok) :
  Calls Try.prog 12 #[.agg #[.int .i64 x.term, .int .i64 x.kind, .int .i64 x.call.client, .int .i64 x.call.seq, .int .i64 x.call.cmd.kind, .string x.call.cmd.key, .int .i64 x.call.cmd.old.kind, .float .f64 x.call.cmd.old.num, .string x.call.cmd.old.text, .int .i64 x.call.cmd.val.kind, .float .f64 x.call.cmd.val.num, .string x.call.cmd.val.text, .int .i64 x.conf.full, .int .i64 x.conf.wit, .int .i64 x.conf.learn, .int .i64 x.conf.learnWit]] w (WrittenOk w (wEntry x)) := by
 have hmf : ∀ (fn : Fn) (first cap : Array Value) (w : World), (Instr.makeFunc fn first cap).run Try.prog w = .ok (.func fn first cap) w := fun _ _ _ _ => rfl
 obtain ⟨W, hW⟩ : ∃ W, W = w.alloc (.cells #[.int .i64 x.term, .int .i64 x.kind, .int .i64 x.call.client, .int .i64 x.call.seq, .int .i64 x.call.cmd.kind, .string x.call.cmd.key, .int .i64 x.call.cmd.old.kind, .float .f64 x.call.cmd.old.num, .string x.call.cmd.old.text, .int .i64 x.call.cmd.val.kind, .float .f64 x.call.cmd.val.num, .string x.call.cmd.val.text, .int .i64 x.conf.full, .int .i64 x.conf.wit, .int .i64 x.conf.learn, .int .i64 x.conf.learnWit] 44) := ⟨_, rfl⟩
 have hE : Ext w W := by rw [hW]; exact (Mod.refl _ w).alloc _
 have hc : ∀ j u, x.cells[j]? = some u → W.cell? ⟨w.heap.size, j, none⟩ = some u := by
  intro j u hu
  rw [hW, cell_of_row _ _ _ _ _ _ (heap_alloc_new w _)]
  simpa using hu
 have hsz : W.heap.size = w.heap.size + 1 := by rw [hW]; simp
 have HW := Lib.hid hW
 have Hc := Lib.hid hc
 have Hsz := Lib.hid hsz
 have Hx := Lib.hid hx
 clear hW hc hsz hx
 go_enter Try.func12, Try.ntmps12
 go_wp2_with fail
 rw [← HW.out]
 refine (written_any 31 w.heap.size W (wEntry x) (fun _ _ => by kernel_rfl) (fun d l h => by have := wEntry_len x d l h; omega) (fun W' b hE' hb hS => ?_)).mono ?_
 ·
  exact wo_entry1 W' w.heap.size b x Hx.out (fun j u hu => hE'.cell (Hc.out j u hu) id) hS
 rintro e w1 ⟨v, rfl, hN, hE1⟩
 have HN := Lib.hid hN
 have HE := Lib.hid (Mod.ext hE hE1)
 clear hN hE1
 go_wp2
 go_ret2
 exact ⟨v, rfl, ⟨HN.out.1, fun g hg => by have := HN.out.2 g hg; have := Hsz.out; omega⟩, HE.out⟩

set_option maxRecDepth 100000 in
set_option maxHeartbeats 2000000 in
theorem wo_wakes (w : World) : Calls Try.prog 10 #[] w fun e w' => e = .returned (.bool true) ∧ Ext w w' := by
 have ht : told (wEntry ⟨1, 0, ACall.zero, AConf.zero⟩) = ([2, 0], 0) := by decide +kernel
 have hok : (AEntry.mk 1 0 ACall.zero AConf.zero).ok := by simp [AEntry.ok, ACall.ok, ACmd.ok, AVal.ok, AConf.ok, I64, ACall.zero, ACmd.zero, AVal.zero, AConf.zero, maxLen, ByteArray.size]
 have Ht := Lib.hid ht
 have Hok := Lib.hid hok
 clear ht hok
 go_enter Try.func10, Try.ntmps10
 go_wp2_with fail
 refine (wo_entry w ⟨1, 0, ACall.zero, AConf.zero⟩ Hok.out).mono ?_
 rintro e w1 ⟨v, rfl, hN, hE1⟩
 rw [Ht.out] at hN ⊢
 have HE1 := Lib.hid hE1
 have HN := Lib.hid hN
 clear hE1 hN
 go_wp2_with fail
 have hE2 : Ext w1 (w1.alloc (.cells #[.int .u8 2, .int .u8 0] 5)) := (Mod.refl _ w1).alloc _
 have hb2 : Byt (w1.alloc (.cells #[.int .u8 2, .int .u8 0] 5)) (fun g => g = w1.heap.size) (.slice (some ⟨w1.heap.size, 0, none⟩) 2 2) [2, 0] := by
  refine ⟨rfl, _, _, rfl, by simp, by simp [maxLen], fun _ => ⟨w1.heap.size, 0, rfl, rfl, fun j u hu => ?_⟩⟩
  rw [cell_of_row _ _ _ _ _ _ (heap_alloc_new w1 _)]
  rw [Nat.zero_add]
  simpa [B] using hu
 have hb1 : Byt (w1.alloc (.cells #[.int .u8 2, .int .u8 0] 5)) (fun _ => True) v [2, 0] := (Sl.of_own HN.out.1 (fun _ _ => trivial)).ext hE2
 refine (k_bytes _ _ _ _ _ _ _ hb1 hb2).mono ?_
 rintro e w3 ⟨rfl, hE3⟩
 have HE3 := Lib.hid (Mod.ext (Mod.ext HE1.out hE2) hE3)
 clear hE3 hE2 hb1 hb2
 go_wp2
 go_ret
 exact ⟨rfl, HE3.out⟩
end Go.Proofs.Ytfkacakbengboaa
