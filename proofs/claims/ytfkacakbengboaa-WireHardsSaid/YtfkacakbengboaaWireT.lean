/-
 Contracts of wire.written and what it defers. Conditions: as each theorem names them.
-/
import Derived.Test.YtfkacakbengboaaWireL
import Derived.Defers
import Derived.Recover
namespace Go.Proofs.Ytfkacakbengboaa
open Go.RowKit

theorem ta_wrong (n : Int) (w : World) : (Instr.typeAssert (.iface 105 (.agg #[.int .i64 n])) 20 105 true).run Try.prog w = .ok (.tuple #[.agg #[.int .i64 n], .bool true]) w := by kernel_rfl
attribute [local go_sem] ta_wrong
set_option maxRecDepth 100000 in
set_option maxHeartbeats 400000 in
theorem catch_any (n : Int) (p : Nat) (u : Value) (w : World) (hc : w.cell? ⟨p, 0, none⟩ = some u) (hf : w.frozen? ⟨p, 0, none⟩ = false) :
  Calls Try.prog 59 #[.iface 105 (.agg #[.int .i64 n]), (.pointer (some ⟨p, 0, none⟩))] w fun e w' => e = .returned (.tuple #[]) ∧ w' = (w.setCell ⟨p, 0, none⟩ (.int .i64 n)).alloc (.cells #[.int .i64 n] 105) := by
 have hlt : p < w.heap.size := World.block_lt_of_cell? _ _ hc
 go_enter Try.func59, Try.ntmps59
 go_wp2
 go_end0
 exact ⟨rfl, rfl⟩

theorem wd_idle (pb pe : Addr) (w : World) :
  CallsD Try.prog 58 #[.pointer (some pb), .pointer (some pe)] .returning w fun e u' w' => e = .returned (.tuple #[]) ∧ u' = .returning ∧ w' = w := by
 refine callsD_of_wpS Try.func58 rfl fun c₀ cs hu => ?_
 apply wpS_seq
 apply wpS_region
 simp [wpOpsS, go_sem, recoverD, hu, Try.ntmps58, Exit.thenS]
 refine wpS_of_wp ?_
 go_wp2
 cases c₀
 simp_all [bodyPostS, results, Try.results58]

theorem wd_caught (pb pe : Nat) (n : Int) (w : World) (ub ue : Value) (hb : w.cell? ⟨pb, 0, none⟩ = some ub) (fb : w.frozen? ⟨pb, 0, none⟩ = false) (he : w.cell? ⟨pe, 0, none⟩ = some ue) (fe : w.frozen? ⟨pe, 0, none⟩ = false) (hne : pb ≠ pe) :
  CallsD Try.prog 58 #[.pointer (some ⟨pb, 0, none⟩), .pointer (some ⟨pe, 0, none⟩)] (.panicking [{ v := .iface 105 (.agg #[.int .i64 n]), recovered := false }]) w fun e u' w' =>
   e = .returned (.tuple #[]) ∧ u' = .panicking [{ v := .iface 105 (.agg #[.int .i64 n]), recovered := true }] ∧ w' = (((w.setCell ⟨pb, 0, none⟩ (.slice none 0 0)).setCell ⟨pe, 0, none⟩ (.int .i64 n)).alloc (.cells #[.int .i64 n] 105)) := by
 refine callsD_of_wpS Try.func58 rfl fun c₀ cs hu => ?_
 apply wpS_seq
 apply wpS_region
 simp [wpOpsS, go_sem, recoverD, hu, Try.ntmps58, Exit.thenS]
 refine wpS_of_wp ?_
 go_wp2_with fail
 refine (catch_any n pe ue _ (by rw [World.cell?_of_block (Below.heap_setCell _ _ _ _ (Ne.symm hne))]; exact he) (by rw [World.frozen?_of_block (Below.heap_setCell _ _ _ _ (Ne.symm hne))]; exact fe)).mono ?_
 rintro e w1 ⟨rfl, rfl⟩
 go_wp2
 cases c₀
 simp_all [bodyPostS, results, Try.results58]

def WrittenOk (w : World) (o : WO) (e : Ending) (w' : World) : Prop := ∃ v, e = .returned (.tuple #[v, .int .i64 (told o).2]) ∧ NewB w w' v (told o).1 ∧ Ext w w'

/-- Two variables are stored into. -/
theorem two_set {w : World} {g h : Nat} {a b : Value} {t u : TypeId} (x y : Value) (hg : w.heap[g]? = some (.cells #[a] t (0, 0))) (hh : w.heap[h]? = some (.cells #[b] u (0, 0))) (hne : g ≠ h) :
  ((w.setCell ⟨g, 0, none⟩ x).setCell ⟨h, 0, none⟩ y).heap[g]? = some (.cells #[x] t (0, 0)) ∧ ((w.setCell ⟨g, 0, none⟩ x).setCell ⟨h, 0, none⟩ y).heap[h]? = some (.cells #[y] u (0, 0)) ∧
  Mod (fun k => k = g ∨ k = h) w ((w.setCell ⟨g, 0, none⟩ x).setCell ⟨h, 0, none⟩ y) := by
 refine ⟨?_, ?_, ((Mod.refl _ w).setCell (p := ⟨g, 0, none⟩) (.inr (.inl rfl)) _).setCell (p := ⟨h, 0, none⟩) (.inr (.inr rfl)) _⟩
 ·
  rw [Below.heap_setCell _ _ _ _ (by simpa using hne)]
  simp [World.setCell, Array.getElem?_modify, hg]
 ·
  have : (w.setCell ⟨g, 0, none⟩ x).heap[h]? = some (.cells #[b] u (0, 0)) := by rw [Below.heap_setCell _ _ _ _ (by simpa using Ne.symm hne)]; exact hh
  generalize w.setCell ⟨g, 0, none⟩ x = w' at this ⊢
  simp [World.setCell, Array.getElem?_modify, this]
theorem one_cell {w : World} {g : Nat} {a : Value} {t : TypeId} (hg : w.heap[g]? = some (.cells #[a] t (0, 0))) : w.cell? ⟨g, 0, none⟩ = some a ∧ w.frozen? ⟨g, 0, none⟩ = false := by
 simp [World.cell?, World.frozen?, hg]

/-- The world behind a throw that was caught. -/
theorem caught_world {w w1 : World} {u0 u1 : Value} (n : Int) (r0 : w1.cell? ⟨w.heap.size, 0, none⟩ = some u0) (r1 : w1.cell? ⟨w.heap.size + 1, 0, none⟩ = some u1) (hE : Mod (Since w.heap.size) w w1) (hs : w.heap.size + 1 < w1.heap.size) :
  (((w1.setCell ⟨w.heap.size, 0, none⟩ (.slice none 0 0)).setCell ⟨w.heap.size + 1, 0, none⟩ (.int .i64 n)).alloc (.cells #[.int .i64 n] 105)).cell? ⟨w.heap.size, 0, none⟩ = some (.slice none 0 0) ∧
  (((w1.setCell ⟨w.heap.size, 0, none⟩ (.slice none 0 0)).setCell ⟨w.heap.size + 1, 0, none⟩ (.int .i64 n)).alloc (.cells #[.int .i64 n] 105)).cell? ⟨w.heap.size + 1, 0, none⟩ = some (.int .i64 n) ∧
  Ext w (((w1.setCell ⟨w.heap.size, 0, none⟩ (.slice none 0 0)).setCell ⟨w.heap.size + 1, 0, none⟩ (.int .i64 n)).alloc (.cells #[.int .i64 n] 105)) := by
 have r1' : (w1.setCell ⟨w.heap.size, 0, none⟩ (.slice none 0 0)).cell? ⟨w.heap.size + 1, 0, none⟩ = some u1 := by
  rw [World.cell?_setCell_other _ _ _ _ (by simp)]; exact r1
 have z0 : (w1.setCell ⟨w.heap.size, 0, none⟩ (.slice none 0 0)).cell? ⟨w.heap.size, 0, none⟩ = some (.slice none 0 0) := World.cell?_setCell_same _ _ _ r0
 have z1 : ((w1.setCell ⟨w.heap.size, 0, none⟩ (.slice none 0 0)).setCell ⟨w.heap.size + 1, 0, none⟩ (.int .i64 n)).cell? ⟨w.heap.size + 1, 0, none⟩ = some (.int .i64 n) := World.cell?_setCell_same _ _ _ r1'
 have hsz : ((w1.setCell ⟨w.heap.size, 0, none⟩ (.slice none 0 0)).setCell ⟨w.heap.size + 1, 0, none⟩ (.int .i64 n)).heap.size = w1.heap.size := by simp [World.setCell]
 refine ⟨?_, ?_, Mod.toExt (((hE.setCell (p := ⟨w.heap.size, 0, none⟩) (.inl (Nat.le_refl _)) _).setCell (p := ⟨w.heap.size + 1, 0, none⟩) (.inl (by simp)) _).alloc _)⟩
 ·
  rw [World.cell?_alloc_lt _ _ _ (by rw [hsz]; simp; omega), World.cell?_setCell_other _ _ _ _ (by simp)]; exact z0
 ·
  rw [World.cell?_alloc_lt _ _ _ (by rw [hsz]; simp; omega)]; exact z1

set_option maxRecDepth 100000 in
set_option maxHeartbeats 1000000 in
theorem written_any (f : FuncId) (p : Nat) (w : World) (o : WO) (hcall : ∀ args W, (callFunc f args).run Try.prog W = .ok (.enter f args) W) (ho : ∀ d l, o = some (d, l) → d.length ≤ 900000000)
  (hstep : ∀ W b, Ext w W → w.heap.size ≤ b → St W (fun k => k = b) b [] false → Calls Try.prog f #[.pointer (some ⟨b, 0, none⟩), .pointer (some ⟨p, 0, none⟩)] W (WOut W (fun k => k = b) b [] false o)) :
  Calls Try.prog 26 #[.func (Fn.func f) #[] #[.pointer (some ⟨p, 0, none⟩)]] w (WrittenOk w o) := by
 have hmf : ∀ (fn : Fn) (first cap : Array Value) (w : World), (Instr.makeFunc fn first cap).run Try.prog w = .ok (.func fn first cap) w := fun _ _ _ _ => rfl
 have Hstep := Lib.hid hstep
 have Ho := Lib.hid ho
 have Hfail : Hid (∀ n : Int, told o = ([], n) → ∀ w', Ext w w' → WrittenOk w o (.returned (.tuple #[.slice none 0 0, .int .i64 n])) w') := Lib.hid (fun n h w' hE => by
  unfold WrittenOk
  rw [h]
  exact ⟨_, rfl, ⟨World.ownsRow_nil _ _ _ _, by simp [Value.ownBlock]⟩, hE⟩)
 clear hstep ho
 go_enter_defers Try.func26, Try.ntmps26
 go_wp2_with fail
 obtain ⟨W3, hW3⟩ : ∃ W3, W3 = ((w.alloc (.cells #[.slice none 0 0] 25)).alloc (.cells #[.int .i64 0] 30)).alloc (.cells #[.slice none 0 0, .bool false] 102) := ⟨_, rfl⟩
 have hE : Ext w W3 := by rw [hW3]; exact (((Mod.refl _ w).alloc _).alloc _).alloc _
 have hsz : W3.heap.size = w.heap.size + 3 := by rw [hW3]; simp
 have hS0 : St W3 (fun k => k = w.heap.size + 1 + 1) (w.heap.size + 1 + 1) [] false := by
  refine ⟨⟨_, 102, ?_, World.ownsRow_nil _ _ _ _, rfl, by simp [Value.ownBlock]⟩, fun k hk => by omega⟩
  rw [hW3]
  have := heap_alloc_new ((w.alloc (.cells #[.slice none 0 0] 25)).alloc (.cells #[.int .i64 0] 30)) (.cells #[.slice none 0 0, .bool false] 102)
  simpa using this
 have b0 : W3.heap[w.heap.size]? = some (.cells #[.slice none 0 0] 25 (0, 0)) := by
  rw [hW3, Below.heap_alloc _ _ _ (by simp; omega), Below.heap_alloc _ _ _ (by simp)]
  exact heap_alloc_new w _
 have b1 : W3.heap[w.heap.size + 1]? = some (.cells #[.int .i64 0] 30 (0, 0)) := by
  rw [hW3, Below.heap_alloc _ _ _ (by simp)]
  have := heap_alloc_new (w.alloc (.cells #[.slice none 0 0] 25)) (.cells #[.int .i64 0] 30)
  simpa using this
 rw [← hW3]
 have HW3 := Lib.hid hW3
 have Hsz := Lib.hid hsz
 clear hW3 hsz
 refine (Hstep.out W3 _ hE (by omega) hS0).mono ?_
 rintro e w1 ⟨hm1, h1⟩
 have c0 := hm1.blk b0 (by omega)
 have c1 := hm1.blk b1 (by omega)
 have hs1 := hm1.size
 have hE1 : Mod (Since w.heap.size) w w1 := (hE.mod _).trans hm1 (fun k _ h => by unfold Since; omega)
 have r0 : w1.cell? ⟨w.heap.size, 0, none⟩ = some (.slice none 0 0) := by simp [World.cell?, c0]
 have r1 : w1.cell? ⟨w.heap.size + 1, 0, none⟩ = some (.int .i64 0) := by simp [World.cell?, c1]
 have f0 : w1.frozen? ⟨w.heap.size, 0, none⟩ = false := by simp [World.frozen?, c0]
 have f1 : w1.frozen? ⟨w.heap.size + 1, 0, none⟩ = false := by simp [World.frozen?, c1]
 have HE1 := Lib.hid hE1
 rcases o with _ | ⟨d, l⟩
 ·
  subst h1
  refine leaves_cons (f := 58) (args := #[.pointer (some ⟨w.heap.size, 0, none⟩), .pointer (some ⟨w.heap.size + 1, 0, none⟩)]) (by simp) (by simp [go_sem]) ?_
  refine (wd_caught _ _ 3 _ _ _ r0 f0 r1 f1 (by omega)).mono ?_
  rintro e u' w'' ⟨rfl, rfl, rfl⟩
  obtain ⟨q0, q1, q2⟩ := caught_world (w := w) 3 r0 r1 hE1 (by have := Hsz.out; omega)
  have hF := Hfail.out 3 rfl _ q2
  simp [Leaves, settle, results, Try.results26, go_sem, q0, q1]
  exact hF
 ·
  obtain ⟨rfl, S1, hS1, hg1⟩ := h1
  have hdl := Ho.out d l rfl
  have Hg1 := Lib.hid hg1
  clear hg1
  rw [List.nil_append, Bool.false_or] at hS1
  rcases l with _ | _
  ·
   go_wp2_with fail
   refine (w_bytes _ _ _ _ hS1.1 (by omega)).mono ?_
   rintro e w2 ⟨v2, rfl, hN2, hE2⟩
   have r0 := hE2.cell r0 id
   have r1 := hE2.cell r1 id
   have c0 := hE2.blk c0 id
   have c1 := hE2.blk c1 id
   have f0 : w2.frozen? ⟨w.heap.size, 0, none⟩ = false := by simp [World.frozen?, c0]
   have f1 : w2.frozen? ⟨w.heap.size + 1, 0, none⟩ = false := by simp [World.frozen?, c1]
   obtain ⟨m, hm⟩ : ∃ m, d.length = m := ⟨_, rfl⟩
   obtain ⟨A2, k2, rfl⟩ := own_form hN2.1
   have Hm := Lib.hid hm
   rw [hm] at hN2 hdl ⊢
   have HN2 := Lib.hid hN2
   have C0 := Lib.hid c0
   have C1 := Lib.hid c1
   have hE12 : Mod (Since w.heap.size) w w2 := hE1.ext hE2
   have hs2 := hE2.size
   clear hm hN2 c0 c1
   by_cases hl : 16384 < m
   ·
    have dl : decide ((16384 : Int) < (m : Int)) = true := by simp; omega
    go_wp2
    obtain ⟨d0, d1, dm⟩ := two_set (.slice A2 m k2) (.int .i64 0) C0.out C1.out (by omega)
    obtain ⟨t0, g0⟩ := one_cell d0
    obtain ⟨t1, g1⟩ := one_cell d1
    have hE3 := hE12.trans dm (fun k _ h => by unfold Since; omega)
    have hs3 := dm.size
    refine leaves_cons (f := 58) (args := #[.pointer (some ⟨w.heap.size, 0, none⟩), .pointer (some ⟨w.heap.size + 1, 0, none⟩)]) (by simp) (by simp [go_sem]) ?_
    refine (wd_caught _ _ 2 _ _ _ t0 g0 t1 g1 (by omega)).mono ?_
    rintro e u' w'' ⟨rfl, rfl, rfl⟩
    obtain ⟨q0, q1, q2⟩ := caught_world (w := w) 2 t0 t1 hE3 (by have := Hsz.out; omega)
    have hF := Hfail.out 2 (by simp [told, Hm.out, hl]) _ q2
    simp [Leaves, settle, results, Try.results26, go_sem, q0, q1]
    exact hF
   ·
    have dl : decide ((16384 : Int) < (m : Int)) = false := by simp; omega
    go_wp2
    obtain ⟨d0, d1, dm⟩ := two_set (.slice A2 m k2) (.int .i64 0) C0.out C1.out (by omega)
    obtain ⟨e0, e1, em⟩ := two_set (.slice A2 m k2) (.int .i64 0) d0 d1 (by omega)
    obtain ⟨t0, g0⟩ := one_cell e0
    obtain ⟨t1, g1⟩ := one_cell e1
    have hE3 : Mod (Since w.heap.size) w _ := (hE12.trans dm (fun k _ h => by unfold Since; omega)).trans em (fun k _ h => by unfold Since; omega)
    refine leaves_cons (f := 58) (args := #[.pointer (some ⟨w.heap.size, 0, none⟩), .pointer (some ⟨w.heap.size + 1, 0, none⟩)]) (by simp) (by simp [go_sem]) ?_
    refine (wd_idle _ _ _).mono ?_
    rintro e u' w'' ⟨rfl, rfl, rfl⟩
    have htold : told (some (d, false)) = (d, 0) := by simp [told, Hm.out]; omega
    have hF : WrittenOk w (some (d, false)) (.returned (.tuple #[.slice A2 m k2, .int .i64 0])) ((((w2.setCell ⟨w.heap.size, 0, none⟩ (.slice A2 m k2)).setCell ⟨w.heap.size + 1, 0, none⟩ (.int .i64 0)).setCell ⟨w.heap.size, 0, none⟩ (.slice A2 m k2)).setCell ⟨w.heap.size + 1, 0, none⟩ (.int .i64 0)) := by
     unfold WrittenOk
     rw [htold]
     have hb := HN2.out.2
     refine ⟨_, rfl, ⟨?_, fun g hg => by have := hb g hg; have := Hsz.out; omega⟩, Mod.toExt hE3⟩
     exact own_mod (own_mod HN2.out.1 dm (fun g hg h => by have := hb g hg; have := Hsz.out; omega)) em (fun g hg h => by have := hb g hg; have := Hsz.out; omega)
    simp [Leaves, settle, results, Try.results26, go_sem, t0, t1]
    exact hF
  ·
   go_wp2_with fail
   refine (w_bytes_long _ _ _ _ hS1.1).mono ?_
   rintro e w' ⟨rfl, rfl⟩
   have C0 := Lib.hid c0
   have C1 := Lib.hid c1
   clear c0 c1
   go_wp2
   obtain ⟨d0, d1, dm⟩ := two_set (.slice none 0 0) (.int .i64 2) C0.out C1.out (by omega)
   obtain ⟨t0, g0⟩ := one_cell d0
   obtain ⟨t1, g1⟩ := one_cell d1
   have hE3 := hE1.trans dm (fun k _ h => by unfold Since; omega)
   have hs3 := dm.size
   refine leaves_cons (f := 58) (args := #[.pointer (some ⟨w.heap.size, 0, none⟩), .pointer (some ⟨w.heap.size + 1, 0, none⟩)]) (by simp) (by simp [go_sem]) ?_
   refine (wd_caught _ _ 2 _ _ _ t0 g0 t1 g1 (by omega)).mono ?_
   rintro e u' w'' ⟨rfl, rfl, rfl⟩
   obtain ⟨q0, q1, q2⟩ := caught_world (w := w) 2 t0 t1 hE3 (by have := Hsz.out; omega)
   have hF := Hfail.out 2 (by simp [told]) _ q2
   simp [Leaves, settle, results, Try.results26, go_sem, q0, q1]
   exact hF
end Go.Proofs.Ytfkacakbengboaa
