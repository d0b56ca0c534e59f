/-
 Where a call stands in a log: the plain function, and the contract of hist.Place. Conditions: as each theorem names them.
-/
import Derived.Test.YtbclnghbgoblcaaGreatEnts
import Derived.Test.YtbclnghbgoblcaaGreatGNum
import Derived.Deep.QuietTactic
import Derived.BigQuiet
import Derived.Deep.DeepCutAuto
import Derived.Deep.CutBlock
namespace Go.Proofs.YtbclnghbgoblcaaGreat
set_option linter.unusedSimpArgs false
open Go.RowKit

theorem Ents.ext {w w' : World} {T : Nat → Prop} {v : Value} {l : List AEntry} (h : Ents w T v l) (hm : Ext w w') : Ents w' T v l := h.mod hm (fun _ _ => id)
theorem Ents.form {w : World} {T : Nat → Prop} {v : Value} {l : List AEntry} (h : Ents w T v l) : ∃ A c, v = .slice A l.length c := by
 obtain ⟨⟨_, A, c, e, _⟩, _⟩ := h
 exact ⟨A, c, e⟩
def isCall (c : ACall) (x : AEntry) : Bool := x.kind == 1 && x.call.client == c.client && x.call.seq == c.seq
def placeF : List AEntry → ACall → Nat → Nat
 | [], _, _ => 0
 | x :: l, c, k => if isCall c x then k + 1 else placeF l c (k + 1)
def placeH (l : List AEntry) (c : ACall) : Nat := placeF l c 0
theorem bcl {w : World} {b j : Nat} {cs : List Value} {t : TypeId} {u : Value} (h : w.heap[b]? = some (.cells cs.toArray t (0, 0))) (hj : cs[j]? = some u) : w.cell? ⟨b, j, none⟩ = some u := by
 simp [World.cell?, h, hj]
theorem placeF_drop {l : List AEntry} {c : ACall} {i : Nat} {x : AEntry} (h : l[i]? = some x) : placeF (l.drop i) c i = if isCall c x then i + 1 else placeF (l.drop (i + 1)) c (i + 1) := by
 obtain ⟨hi, rfl⟩ := List.getElem?_eq_some_iff.1 h
 rw [List.drop_eq_getElem_cons hi, placeF]

set_option maxRecDepth 100000 in
set_option maxHeartbeats 2000000 in
theorem h_place (w : World) (T : Nat → Prop) (v : Value) (l : List AEntry) (c : ACall) (h : Ents w T v l) :
  Calls Tryz.prog 13 #[v, .agg #[.int .i64 c.client, .int .i64 c.seq, .int .i64 c.cmd.kind, .string c.cmd.key, .int .i64 c.cmd.old.kind, .float .f64 c.cmd.old.num, .string c.cmd.old.text, .int .i64 c.cmd.val.kind, .float .f64 c.cmd.val.num, .string c.cmd.val.text]] w fun e w' => e = .returned (.int .i64 (placeH l c : Nat)) ∧ Ext w w' := by
 have hl := h.1.le
 unfold maxLen at hl
 obtain ⟨n, hn⟩ : ∃ n, l.length = n := ⟨_, rfl⟩
 obtain ⟨A, c0, rfl⟩ := h.form
 rw [hn] at h hl ⊢
 obtain ⟨q, hq⟩ : ∃ q, w.heap.size = q := ⟨_, rfl⟩
 obtain ⟨W, hW⟩ : ∃ W, W = w.alloc (.cells #[.int .i64 c.client, .int .i64 c.seq, .int .i64 c.cmd.kind, .string c.cmd.key, .int .i64 c.cmd.old.kind, .float .f64 c.cmd.old.num, .string c.cmd.old.text, .int .i64 c.cmd.val.kind, .float .f64 c.cmd.val.num, .string c.cmd.val.text] 44) := ⟨_, rfl⟩
 have hE : Ext w W := by rw [hW]; exact (Mod.refl _ w).alloc _
 have hA : W.heap[q]? = some (.cells #[.int .i64 c.client, .int .i64 c.seq, .int .i64 c.cmd.kind, .string c.cmd.key, .int .i64 c.cmd.old.kind, .float .f64 c.cmd.old.num, .string c.cmd.old.text, .int .i64 c.cmd.val.kind, .float .f64 c.cmd.val.num, .string c.cmd.val.text] 44 (0, 0)) := by rw [hW, ← hq]; exact heap_alloc_new w _
 have hW2 := h.ext hE
 have Hn := Lib.hid hn
 have HE := Lib.hid hE
 have HA := Lib.hid hA
 have HW := Lib.hid hW
 have Hq := Lib.hid hq
 clear hn hE hA hW hq h
 go_enter Tryz.func13, Tryz.ntmps13
 go_wp2
 rw [← HW.out, Hq.out]
 go_loopw [9] (fun iv wr => ∃ i : Nat, i ≤ n ∧ iv = .int .i64 i ∧ Ext W wr ∧ placeH l c = placeF (l.drop i) c i) (fun iv _ => n - (intOf iv).toNat)
 case atStart => exact ⟨0, by omega, rfl, Mod.refl _ W, rfl⟩
 case round =>
  obtain ⟨i, hin, rfl, hEr, hp⟩ := hrel
  have h2 := hW2.ext hEr
  have hA2 := hEr.blk HA.out id
  have Hp := Lib.hid hp
  have HEr := Lib.hid hEr
  clear hp hEr
  by_cases hi : i < n
  case neg =>
   have Hf : Hid (placeH l c = 0) := Lib.hid (by rw [Hp.out, List.drop_eq_nil_of_le (by rw [Hn.out]; omega)]; rfl)
   clear hA2 h2
   go_wp2
   go_ret
   exact ⟨by rw [Hf.out]; rfl, HE.out.ext HEr.out⟩
  obtain ⟨g, off, x, rfl, hgT, hx, hxok, hcells⟩ := h2.at hi
  have hi0 : (0 : Int) ≤ (i : Int) := by omega
  have hi1 : (i : Int) < (n : Int) := by omega
  have x0 := hcells 0 _ rfl
  have x1 := hcells 1 _ rfl
  have x2 := hcells 2 _ rfl
  have x3 := hcells 3 _ rfl
  have x4 := hcells 4 _ rfl
  have x5 := hcells 5 _ rfl
  have x6 := hcells 6 _ rfl
  have x7 := hcells 7 _ rfl
  have x8 := hcells 8 _ rfl
  have x9 := hcells 9 _ rfl
  have x10 := hcells 10 _ rfl
  have x11 := hcells 11 _ rfl
  have x12 := hcells 12 _ rfl
  have x13 := hcells 13 _ rfl
  have x14 := hcells 14 _ rfl
  have x15 := hcells 15 _ rfl
  rw [Nat.add_zero] at x0
  have a0 : wr.cell? ⟨q, 0, none⟩ = some _ := bcl hA2 rfl
  have a1 : wr.cell? ⟨q, 1, none⟩ = some _ := bcl hA2 rfl
  have ql : q < wr.heap.size := (Array.getElem?_eq_some_iff.1 hA2).1
  have hd := placeF_drop (c := c) hx
  have Hd := Lib.hid hd
  have HA3 := Lib.hid hA2
  clear hd hA2 hcells hx h2 hxok hgT
  go_upto_region 4 with fail
  obtain ⟨u, hu⟩ : ∃ u, wr.heap.size = u := ⟨_, rfl⟩
  obtain ⟨Wx, hWx⟩ : ∃ Wx, Wx = wr.alloc (.cells #[.int .i64 x.term, .int .i64 x.kind, .int .i64 x.call.client, .int .i64 x.call.seq, .int .i64 x.call.cmd.kind, .string x.call.cmd.key, .int .i64 x.call.cmd.old.kind, .float .f64 x.call.cmd.old.num, .string x.call.cmd.old.text, .int .i64 x.call.cmd.val.kind, .float .f64 x.call.cmd.val.num, .string x.call.cmd.val.text, .int .i64 x.conf.full, .int .i64 x.conf.wit, .int .i64 x.conf.learn, .int .i64 x.conf.learnWit] 67) := ⟨_, rfl⟩
  have hEx : Ext wr Wx := by rw [hWx]; exact (Mod.refl _ wr).alloc _
  have hX : Wx.heap[u]? = some (.cells #[.int .i64 x.term, .int .i64 x.kind, .int .i64 x.call.client, .int .i64 x.call.seq, .int .i64 x.call.cmd.kind, .string x.call.cmd.key, .int .i64 x.call.cmd.old.kind, .float .f64 x.call.cmd.old.num, .string x.call.cmd.old.text, .int .i64 x.call.cmd.val.kind, .float .f64 x.call.cmd.val.num, .string x.call.cmd.val.text, .int .i64 x.conf.full, .int .i64 x.conf.wit, .int .i64 x.conf.learn, .int .i64 x.conf.learnWit] 67 (0, 0)) := by rw [hWx, ← hu]; exact heap_alloc_new wr _
  rw [← hWx, hu]
  have hA3 := hEx.blk HA3.out id
  have HEx : Hid (Ext W Wx) := Lib.hid (HEr.out.ext hEx)
  have y1 : Wx.cell? ⟨u, 1, none⟩ = some _ := bcl hX rfl
  have y2 : Wx.cell? ⟨u, 2, none⟩ = some _ := bcl hX rfl
  have y3 : Wx.cell? ⟨u, 3, none⟩ = some _ := bcl hX rfl
  have b0 : Wx.cell? ⟨q, 0, none⟩ = some _ := bcl hA3 rfl
  have b1 : Wx.cell? ⟨q, 1, none⟩ = some _ := bcl hA3 rfl
  clear hu hWx hEx hX hA3 x0 x1 x2 x3 x4 x5 x6 x7 x8 x9 x10 x11 x12 x13 x14 x15 a0 a1 ql
  rcases hk : (x.kind == 1) with _ | _
  ·
   have Hc : Hid (isCall c x = false) := Lib.hid (by unfold isCall; rw [hk]; rfl)
   go_wp2
   exact ⟨⟨i + 1, by omega, by go_num, HEx.out, by rw [Hp.out, Hd.out, Hc.out]; simp⟩, by simp [intOf]; omega⟩
  ·
   rcases hk2 : (x.call.client == c.client) with _ | _
   ·
    have Hc : Hid (isCall c x = false) := Lib.hid (by unfold isCall; rw [hk2]; simp)
    go_wp2
    exact ⟨⟨i + 1, by omega, by go_num, HEx.out, by rw [Hp.out, Hd.out, Hc.out]; simp⟩, by simp [intOf]; omega⟩
   ·
    rcases hk3 : (x.call.seq == c.seq) with _ | _
    ·
     have Hc : Hid (isCall c x = false) := Lib.hid (by unfold isCall; rw [hk3]; simp)
     go_wp2
     exact ⟨⟨i + 1, by omega, by go_num, HEx.out, by rw [Hp.out, Hd.out, Hc.out]; simp⟩, by simp [intOf]; omega⟩
    ·
     have Hc : Hid (placeH l c = i + 1) := Lib.hid (by rw [Hp.out, Hd.out]; unfold isCall; rw [hk, hk2, hk3]; rfl)
     go_wp2
     go_ret
     exact ⟨by rw [Hc.out]; simp, HE.out.ext HEx.out⟩
end Go.Proofs.YtbclnghbgoblcaaGreat
