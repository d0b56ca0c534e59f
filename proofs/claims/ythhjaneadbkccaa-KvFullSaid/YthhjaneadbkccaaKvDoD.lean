/-
  The contract of kv.Do and what it defers. Conditions: as each theorem names them.
-/
import Derived.Test.YthhjaneadbkccaaKvDo2
import Derived.Test.YthhjaneadbkccaaKvCmd3
import Derived.Test.YthhjaneadbkccaaKvChk
import Derived.Test.YthhjaneadbkccaaKvTwin
import Derived.Deep.RegionWith
import Derived.Defers
import Derived.Recover
namespace Go.Proofs.Ythhjaneadbkccaa
set_option linter.unusedSimpArgs false
open Go.RowKit

theorem ta_wrongK (n k : Int) (x : Nat) (t : ByteArray) (w : World) : (Instr.typeAssert (.iface 58 (.agg #[.int .i64 n, .int .i64 k, .float .f64 x, .string t])) 20 58 true).run Try.prog w = .ok (.tuple #[.agg #[.int .i64 n, .int .i64 k, .float .f64 x, .string t], .bool true]) w := by kernel_rfl
theorem ta_nilK (w : World) : (Instr.typeAssert .nilIface 20 58 true).run Try.prog w = .ok (.tuple #[.agg #[.int .i64 0, .int .i64 0, .float .f64 0, .string ⟨#[]⟩], .bool false]) w := by kernel_rfl
attribute [local go_sem] ta_wrongK ta_nilK
theorem wpS_frame {P : Program} {c : Code} {Q : Exit → Act → List Frame → World → Prop} {t : Array Value} (t' : Array Value) {d : List Deferred} {cs : List Frame} {w : World} (e : t = t') (h : c.wpS P Q ⟨t', d⟩ cs w) : c.wpS P Q ⟨t, d⟩ cs w := e ▸ h
set_option maxRecDepth 100000 in
set_option maxHeartbeats 400000 in
theorem kd_idle (pl po pr : Addr) (w : World) :
    CallsD Try.prog 32 #[.pointer (some pl), .pointer (some po), .pointer (some pr)] .returning w fun e u' w' => e = .returned (.tuple #[]) ∧ u' = .returning ∧ ∃ o, w' = w.alloc o := by
  refine callsD_of_wpS Try.func32 rfl fun c₀ cs hu => ?_
  apply wpS_seq
  apply wpS_region
  simp [wpOpsS, go_sem, recoverD, hu, Try.ntmps32, Exit.thenS]
  refine wpS_frame #[.pointer (some pl), .pointer (some po), .pointer (some pr), .pointer (some ⟨w.heap.size, 0, none⟩), .bool false, .tuple #[.agg #[.int .i64 0, .int .i64 0, .float .f64 0, .string ⟨#[]⟩], .bool false], .nilIface,
    .tuple #[.agg #[.int .i64 0, .int .i64 0, .float .f64 0, .string ⟨#[]⟩], .bool false], .agg #[.int .i64 0, .int .i64 0, .float .f64 0, .string ⟨#[]⟩], .bool false, undef, undef, undef, undef, undef, undef, undef, undef] ?_ ?_
  · exact Array.ext' (by simp [Array.toList_replicate, List.replicate])
  refine wpS_of_wp ?_
  go_wp2
  cases c₀
  simp_all [bodyPostS, results, Try.results32]
  exact ⟨_, rfl⟩

set_option maxRecDepth 100000 in
set_option maxHeartbeats 1000000 in
theorem kd_caught (pl po pr : Nat) (n : Int) (x : AVal) (w : World) (T : Nat → Prop) (vl : Value) (l : List APair) (uo : Value) (r0 r1 r2 r3 : Value) (hl : w.cell? ⟨pl, 0, none⟩ = some vl) (hP : Prs w T vl l) (hlen : l.length ≤ 1000000)
    (ho : w.heap[po]? = some (.cells #[uo] 29 (0, 0))) (hr : w.heap[pr]? = some (.cells #[r0, r1, r2, r3] 33 (0, 0))) (hne : po ≠ pr) (hlo : pl ≠ po) (hlr : pl ≠ pr) :
    CallsD Try.prog 32 #[.pointer (some ⟨pl, 0, none⟩), .pointer (some ⟨po, 0, none⟩), .pointer (some ⟨pr, 0, none⟩)] (.panicking [{ v := .iface 58 (.agg #[.int .i64 n, .int .i64 x.kind, .float .f64 x.num, .string x.text]), recovered := false }]) w fun e u' w' =>
      e = .returned (.tuple #[]) ∧ u' = .panicking [{ v := .iface 58 (.agg #[.int .i64 n, .int .i64 x.kind, .float .f64 x.num, .string x.text]), recovered := true }] ∧ ∃ v', w'.heap[po]? = some (.cells #[v'] 29 (0, 0)) ∧
        w'.heap[pr]? = some (.cells #[.int .i64 n, .int .i64 x.kind, .float .f64 x.num, .string x.text] 33 (0, 0)) ∧ NewP w w' v' l ∧ Mod (fun k => k = po ∨ k = pr) w w' := by
  have hplt : pl < w.heap.size := World.block_lt_of_cell? _ _ hl
  have hE : Ext w (w.alloc (.cells #[.int .i64 n, .int .i64 x.kind, .float .f64 x.num, .string x.text] 58)).drew := ((Mod.refl _ w).alloc _).drew
  have h2 := hP.ext hE
  have co := blk_cell (cs := [uo]) (j := 0) ho rfl
  have fo := blk_free 0 ho
  have cr0 := blk_cell (cs := [r0, r1, r2, r3]) (j := 0) hr rfl
  have cr1 := blk_cell (cs := [r0, r1, r2, r3]) (j := 1) hr rfl
  have cr2 := blk_cell (cs := [r0, r1, r2, r3]) (j := 2) hr rfl
  have cr3 := blk_cell (cs := [r0, r1, r2, r3]) (j := 3) hr rfl
  have fr0 := blk_free 0 hr
  have fr1 := blk_free 1 hr
  have fr2 := blk_free 2 hr
  have fr3 := blk_free 3 hr
  have hne2 := Ne.symm hne
  have m1 := Ne.symm hlo
  have m2 := Ne.symm hlr
  have m3 : ¬ w.heap.size = po := by have := (Array.getElem?_eq_some_iff.1 ho).1; omega
  have m4 : ¬ w.heap.size = pr := by have := (Array.getElem?_eq_some_iff.1 hr).1; omega
  have m5 : ¬ po = w.heap.size := by omega
  have m6 : ¬ pr = w.heap.size := by omega
  have hpl1 : pl < w.heap.size + 1 := by omega
  have hpo1 : po < w.heap.size + 1 := by have := (Array.getElem?_eq_some_iff.1 ho).1; omega
  have hpr1 : pr < w.heap.size + 1 := by have := (Array.getElem?_eq_some_iff.1 hr).1; omega
  have Ho := Lib.hid ho
  have Hr := Lib.hid hr
  have hpo := (Array.getElem?_eq_some_iff.1 ho).1
  have hpr := (Array.getElem?_eq_some_iff.1 hr).1
  clear ho hr
  refine callsD_of_wpS Try.func32 rfl fun c₀ cs hu => ?_
  apply wpS_seq
  apply wpS_region
  simp [wpOpsS, go_sem, recoverD, hu, Try.ntmps32, Exit.thenS]
  refine wpS_frame #[.pointer (some ⟨pl, 0, none⟩), .pointer (some ⟨po, 0, none⟩), .pointer (some ⟨pr, 0, none⟩), .pointer (some ⟨w.heap.size, 0, none⟩), .bool true, .tuple #[.agg #[.int .i64 n, .int .i64 x.kind, .float .f64 x.num, .string x.text], .bool true], .iface 58 (.agg #[.int .i64 n, .int .i64 x.kind, .float .f64 x.num, .string x.text]),
    .tuple #[.agg #[.int .i64 n, .int .i64 x.kind, .float .f64 x.num, .string x.text], .bool true], .agg #[.int .i64 n, .int .i64 x.kind, .float .f64 x.num, .string x.text], .bool true, undef, undef, undef, undef, undef, undef, undef, undef] ?_ ?_
  · exact Array.ext' (by simp [Array.toList_replicate, List.replicate])
  refine wpS_of_wp ?_
  go_wp2_with fail
  go_region_held3 (fun w' => w'.cell? ⟨pl, 0, none⟩ = some vl ∧ w'.cell? ⟨w.heap.size, 0, none⟩ = some (.int .i64 n) ∧ w'.cell? ⟨w.heap.size, 1, none⟩ = some (.int .i64 x.kind) ∧ w'.cell? ⟨w.heap.size, 2, none⟩ = some (.float .f64 x.num) ∧ w'.cell? ⟨w.heap.size, 3, none⟩ = some (.string x.text)) (go_keep)
    ((go_at_call 33; refine (sl_clone _ T vl l h2 hlen).mono ?_; rintro e w1 ⟨v1, rfl, hN, hE1⟩; obtain ⟨A1, c1, rfl⟩ := own_form hN.1; obtain ⟨hc1, hf1⟩ := bcell hE1))
  all_goals
    have hs1 := hE1.size
    have ho1 := hE1.blk (hE.blk Ho.out id) id
    have hr1 := hE1.blk (hE.blk Hr.out id) id
    have hE2 := hE.ext hE1
    have hfin : ∃ v', (((((w1.setCell ⟨po, 0, none⟩ (.slice A1 l.length c1)).setCell ⟨pr, 0, none⟩ (.int .i64 n)).setCell ⟨pr, 1, none⟩ (.int .i64 x.kind)).setCell ⟨pr, 2, none⟩ (.float .f64 x.num)).setCell ⟨pr, 3, none⟩ (.string x.text)).heap[po]? = some (.cells #[v'] 29 (0, 0)) ∧
        (((((w1.setCell ⟨po, 0, none⟩ (.slice A1 l.length c1)).setCell ⟨pr, 0, none⟩ (.int .i64 n)).setCell ⟨pr, 1, none⟩ (.int .i64 x.kind)).setCell ⟨pr, 2, none⟩ (.float .f64 x.num)).setCell ⟨pr, 3, none⟩ (.string x.text)).heap[pr]? = some (.cells #[.int .i64 n, .int .i64 x.kind, .float .f64 x.num, .string x.text] 33 (0, 0)) ∧
        NewP w (((((w1.setCell ⟨po, 0, none⟩ (.slice A1 l.length c1)).setCell ⟨pr, 0, none⟩ (.int .i64 n)).setCell ⟨pr, 1, none⟩ (.int .i64 x.kind)).setCell ⟨pr, 2, none⟩ (.float .f64 x.num)).setCell ⟨pr, 3, none⟩ (.string x.text)) v' l ∧
        Mod (fun k => k = po ∨ k = pr) w (((((w1.setCell ⟨po, 0, none⟩ (.slice A1 l.length c1)).setCell ⟨pr, 0, none⟩ (.int .i64 n)).setCell ⟨pr, 1, none⟩ (.int .i64 x.kind)).setCell ⟨pr, 2, none⟩ (.float .f64 x.num)).setCell ⟨pr, 3, none⟩ (.string x.text)) := by
      have hm : Mod (fun k => k = po ∨ k = pr) w1 (((((w1.setCell ⟨po, 0, none⟩ (.slice A1 l.length c1)).setCell ⟨pr, 0, none⟩ (.int .i64 n)).setCell ⟨pr, 1, none⟩ (.int .i64 x.kind)).setCell ⟨pr, 2, none⟩ (.float .f64 x.num)).setCell ⟨pr, 3, none⟩ (.string x.text)) :=
        ((((((Mod.refl _ w1).setCell (p := ⟨po, 0, none⟩) (.inr (.inl rfl)) _).setCell (p := ⟨pr, 0, none⟩) (.inr (.inr rfl)) _).setCell (p := ⟨pr, 1, none⟩) (.inr (.inr rfl)) _).setCell (p := ⟨pr, 2, none⟩) (.inr (.inr rfl)) _).setCell (p := ⟨pr, 3, none⟩) (.inr (.inr rfl)) _)
      refine ⟨.slice A1 l.length c1, ?_, ?_, newP_mod (newP_up hN hE.size) hm (fun g hg e => by have := hN.2.2 g hg; simp at this; omega), (Ext.mod hE2 _).self hm⟩
      · simp [World.setCell, Array.getElem?_modify, ho1, hne2]
      · simp [World.setCell, Array.getElem?_modify, hr1, hne]
    obtain ⟨wf, hwf⟩ : ∃ wf, (((((w1.setCell ⟨po, 0, none⟩ (.slice A1 l.length c1)).setCell ⟨pr, 0, none⟩ (.int .i64 n)).setCell ⟨pr, 1, none⟩ (.int .i64 x.kind)).setCell ⟨pr, 2, none⟩ (.float .f64 x.num)).setCell ⟨pr, 3, none⟩ (.string x.text)) = wf := ⟨_, rfl⟩
    rw [hwf] at hfin ⊢
    have Hfin := Lib.hid hfin
    clear hfin hwf hE2 hr1 ho1 hs1 hE1 hN hc1 hf1
    clear co fo cr0 cr1 cr2 cr3 fr0 fr1 fr2 fr3 hne2 m1 m2 m3 m4 m5 m6 hpl1 hpo1 hpr1 h2 hE Ho Hr hpo hpr hl hP hlen hlo hlr hplt
    exact ⟨rfl, _, rfl, _, by simp [results, Try.results32], rfl, rfl, Hfin.out⟩

theorem four_new (w : World) (o p q r : Obj) : ((((w.alloc o).alloc p).alloc q).alloc r).heap[w.heap.size]? = some o ∧ ((((w.alloc o).alloc p).alloc q).alloc r).heap[w.heap.size + 1]? = some p ∧
    ((((w.alloc o).alloc p).alloc q).alloc r).heap[w.heap.size + 1 + 1]? = some q ∧ ((((w.alloc o).alloc p).alloc q).alloc r).heap[w.heap.size + 1 + 1 + 1]? = some r := by
  have h1 : (w.alloc o).heap[w.heap.size]? = some o := heap_alloc_new w _
  have h2 : ((w.alloc o).alloc p).heap[w.heap.size + 1]? = some p := by have := heap_alloc_new (w.alloc o) p; simpa using this
  have h3 : (((w.alloc o).alloc p).alloc q).heap[w.heap.size + 1 + 1]? = some q := by have := heap_alloc_new ((w.alloc o).alloc p) q; simpa using this
  have h4 : ((((w.alloc o).alloc p).alloc q).alloc r).heap[w.heap.size + 1 + 1 + 1]? = some r := by have := heap_alloc_new (((w.alloc o).alloc p).alloc q) r; simpa using this
  refine ⟨?_, ?_, ?_, h4⟩
  · rw [Below.heap_alloc _ _ _ (by first | (simp; done) | (simp; omega)), Below.heap_alloc _ _ _ (by first | (simp; done) | (simp; omega)), Below.heap_alloc _ _ _ (by simp)]; exact h1
  · rw [Below.heap_alloc _ _ _ (by first | (simp; done) | (simp; omega)), Below.heap_alloc _ _ _ (by simp)]; exact h2
  · rw [Below.heap_alloc _ _ _ (by simp)]; exact h3
/-- The boxes of kv.Do. -/
structure DoB (w : World) (T : Nat → Prop) (v : Value) (l : List APair) (c : ACmd) (b : Nat) (wx : World) : Prop where
  b0 : wx.heap[b]? = some (.cells #[v] 29 (0, 0))
  b1 : wx.heap[b + 1]? = some (.cells #[.int .i64 c.kind, .string c.key, .int .i64 c.old.kind, .float .f64 c.old.num, .string c.old.text, .int .i64 c.val.kind, .float .f64 c.val.num, .string c.val.text] 27 (0, 0))
  b2 : wx.heap[b + 1 + 1]? = some (.cells #[.slice none 0 0] 29 (0, 0))
  b3 : wx.heap[b + 1 + 1 + 1]? = some (.cells #[.int .i64 0, .int .i64 0, .float .f64 0, .string ⟨#[]⟩] 33 (0, 0))
  pr : Prs wx T v l
  ext : Ext w wx
  le : w.heap.size ≤ b
theorem DoB.mod {w : World} {T : Nat → Prop} {v : Value} {l : List APair} {c : ACmd} {b : Nat} {wx wy : World} (h : DoB w T v l c b wx) (hE : Ext wx wy) : DoB w T v l c b wy :=
  ⟨hE.blk h.b0 id, hE.blk h.b1 id, hE.blk h.b2 id, hE.blk h.b3 id, h.pr.ext hE, h.ext.ext hE, h.le⟩
/-- Behind kv.do, which turns its own pairs. -/
theorem DoB.drewmod {w : World} {T : Nat → Prop} {v : Value} {l : List APair} {c : ACmd} {b : Nat} {wx wy : World} {S : Nat → Prop} (h : DoB w T v l c b wx) (hm : Mod S wx wy) (hS : ∀ g, S g → b + 1 + 1 + 1 < g ∧ ∀ k, T k → k < g) (hw : ∀ g, S g → w.heap.size ≤ g) : DoB w T v l c b wy :=
  ⟨hm.blk h.b0 (fun e => by have := hS _ e; omega), hm.blk h.b1 (fun e => by have := hS _ e; omega), hm.blk h.b2 (fun e => by have := hS _ e; omega), hm.blk h.b3 (fun e => by have := hS _ e; omega),
    h.pr.mod hm (fun g hT hg => by have := (hS g hg).2 g hT; omega), Mod.toExt ((Ext.mod h.ext (Since w.heap.size)).trans hm (fun k _ e => hw k e)), h.le⟩
theorem DoB.lt {w : World} {T : Nat → Prop} {v : Value} {l : List APair} {c : ACmd} {b : Nat} {wx : World} (h : DoB w T v l c b wx) : b + 1 + 1 + 1 < wx.heap.size := (Array.getElem?_eq_some_iff.1 h.b3).1

/-- What was thrown is caught. -/
theorem do_caught {w : World} {T : Nat → Prop} {v : Value} {l : List APair} {c : ACmd} {b : Nat} {wx : World} (h : DoB w T v l c b wx) (hlen : l.length ≤ 1000000) (n : Int) (x : AVal) (tmps : Array Value) (h4 : tmps.getD 4 undef = .pointer (some ⟨b + 1 + 1, 0, none⟩)) (h5 : tmps.getD 5 undef = .pointer (some ⟨b + 1 + 1 + 1, 0, none⟩)) :
    Leaves Try.prog Try.f13 tmps (DoOut w l ⟨n, x⟩) [{ target := .fn (Fn.func 32) #[.pointer (some ⟨b, 0, none⟩), .pointer (some ⟨b + 1 + 1, 0, none⟩), .pointer (some ⟨b + 1 + 1 + 1, 0, none⟩)], args := #[] }] (.panicking [{ v := .iface 58 (.agg #[.int .i64 n, .int .i64 x.kind, .float .f64 x.num, .string x.text]), recovered := false }]) wx := by
  refine leaves_cons (f := 32) (args := #[.pointer (some ⟨b, 0, none⟩), .pointer (some ⟨b + 1 + 1, 0, none⟩), .pointer (some ⟨b + 1 + 1 + 1, 0, none⟩)]) (by simp) (by simp [go_sem]) ?_
  refine (kd_caught b (b + 1 + 1) (b + 1 + 1 + 1) n x wx T v l _ _ _ _ _ (blk_cell (cs := [v]) h.b0 rfl) h.pr hlen h.b2 h.b3 (by omega) (by omega) (by omega)).mono ?_
  rintro e u' w' ⟨rfl, rfl, v', ho, hr, hN, hm⟩
  have q0 := blk_cell (cs := [v']) (j := 0) ho rfl
  have r0 := blk_cell (cs := [.int .i64 n, .int .i64 x.kind, .float .f64 x.num, .string x.text]) (j := 0) hr rfl
  have r1 := blk_cell (cs := [.int .i64 n, .int .i64 x.kind, .float .f64 x.num, .string x.text]) (j := 1) hr rfl
  have r2 := blk_cell (cs := [.int .i64 n, .int .i64 x.kind, .float .f64 x.num, .string x.text]) (j := 2) hr rfl
  have r3 := blk_cell (cs := [.int .i64 n, .int .i64 x.kind, .float .f64 x.num, .string x.text]) (j := 3) hr rfl
  have hF : DoOut w l ⟨n, x⟩ (.returned (.tuple #[v', .agg #[.int .i64 n, .int .i64 x.kind, .float .f64 x.num, .string x.text]])) w' :=
    ⟨v', rfl, newP_up hN h.ext.size, Mod.toExt ((Ext.mod h.ext _).trans hm (fun k hk e => by have := h.le; unfold Since; omega))⟩
  rw [Array.getD_eq_getD_getElem?] at h4 h5
  simp [Leaves, settle, results, Try.results13, go_sem, q0, r0, r1, r2, r3, h4, h5]
  exact hF
end Go.Proofs.Ythhjaneadbkccaa
