/-
 Loads and stores of whole structs, each one step of a walk. Conditions: as each theorem names them.
-/
import Derived.Test.YtbclnghbgoblcaaGreatHisSpec
namespace Go.Proofs.YtbclnghbgoblcaaGreat
set_option linter.unusedSimpArgs false
open Go.RowKit

/-- Cells that stand in a row from o on. -/
def At (w : World) (g o : Nat) (cs : List Value) : Prop := ∀ j u, cs[j]? = some u → w.cell? ⟨g, o + j, none⟩ = some u
theorem At.of {w : World} {g : Nat} {cs : List Value} {t : TypeId} (h : w.heap[g]? = some (.cells cs.toArray t (0, 0))) : At w g 0 cs := fun j u hu => by
 rw [Nat.zero_add]
 exact blk_cell h hu
theorem At.sub {w : World} {g o : Nat} {cs ds : List Value} (k : Nat) (h : At w g o cs) (hs : ∀ j u, ds[j]? = some u → cs[k + j]? = some u) : At w g (o + k) ds := fun j u hu => by
 rw [Nat.add_assoc]
 exact h _ u (hs j u hu)
section
variable {P : Program} {ops : Array Oper} {rest : List Oper} {o : Oper} {a : Act} {w w' : World} {Q : Exit → Act → World → Prop}
/-- A load whose law is known, as one step of a walk. -/
theorem wpList_load (hgd : o.guard = none) (t : TypeId) (x : Operand) (ho : o.op = .load t x) (xv v : Value) (hx : a.eval x = xv) (hr : (Instr.loadAt t xv).run P w = .ok v w)
  (h : wpList P ops Q rest (a.put o.dst v) w) : wpList P ops Q (o :: rest) a w :=
 wpList_plain hgd fun _ hK => by
  unfold Oper.wp execOp
  simp only [ho, hx, Sem.run_bind, Sem.run_pure, hr, Result.andThen_ok]
  exact hK _ _ h
theorem wpList_store (hgd : o.guard = none) (t : TypeId) (p x : Operand) (ho : o.op = .store t p x) (pv xv : Value) (hp : a.eval p = pv) (hx : a.eval x = xv) (hr : (Instr.storeAt t pv xv).run P w = .ok () w')
  (h : wpList P ops Q rest (a.put o.dst undef) w') : wpList P ops Q (o :: rest) a w :=
 wpList_plain hgd fun _ hK => by
  unfold Oper.wp execOp
  simp only [ho, hp, hx, Sem.run_bind, Sem.run_pure, hr, Result.andThen_ok]
  exact hK _ _ h
/-- .. whose guard says yes. -/
theorem wpList_loadW (hw : Region.wanted o (yielded ops a.tmps) = true) (t : TypeId) (x : Operand) (ho : o.op = .load t x) (xv v : Value) (hx : a.eval x = xv) (hr : (Instr.loadAt t xv).run P w = .ok v w)
  (h : wpList P ops Q rest (a.put o.dst v) w) : wpList P ops Q (o :: rest) a w :=
 wpList_step fun _ hK => by
  rw [if_pos hw]
  unfold Oper.wp execOp
  simp only [ho, hx, Sem.run_bind, Sem.run_pure, hr, Result.andThen_ok]
  exact hK _ _ h
theorem exec_load (t : TypeId) (x : Operand) (ho : o.op = .load t x) (xv v : Value) (hx : a.eval x = xv) (hr : (Instr.loadAt t xv).run P w = .ok v w) : (execOp a.eval o).run P w = .ok (.value v) w := by
 unfold execOp
 simp only [ho, hx, Sem.run_bind, Sem.run_pure, hr, Result.andThen_ok]
theorem step_store {K : Act → World → Prop} {E : Prop} (hgd : o.guard = none) (t : TypeId) (p x : Operand) (ho : o.op = .store t p x) (pv xv : Value) (hp : a.eval p = pv) (hx : a.eval x = xv) (hr : (Instr.storeAt t pv xv).run P w = .ok () w')
  (h : K (a.put o.dst undef) w') : if Region.wanted o (yielded ops a.tmps) = true then Oper.wp P o a w K Q else E := by
 have hw : Region.wanted o (yielded ops a.tmps) = true := by simp [Region.wanted, hgd]
 rw [if_pos hw]
 unfold Oper.wp execOp
 simp only [ho, hp, hx, Sem.run_bind, Sem.run_pure, hr, Result.andThen_ok]
 exact h
end
set_option maxHeartbeats 2000000 in
theorem load_event {w : World} {g o : Nat} (x : AEvent) (h : At w g o x.cells) : (Instr.loadAt 50 (.pointer (some ⟨g, o, none⟩))).run Tryz.prog w = .ok (.agg #[.bool x.ask, .int .i64 x.told.call.client, .int .i64 x.told.call.seq, .int .i64 x.told.call.cmd.kind, .string x.told.call.cmd.key, .int .i64 x.told.call.cmd.old.kind, .float .f64 x.told.call.cmd.old.num, .string x.told.call.cmd.old.text, .int .i64 x.told.call.cmd.val.kind, .float .f64 x.told.call.cmd.val.num, .string x.told.call.cmd.val.text, .int .i64 x.told.reply.code, .int .i64 x.told.reply.val.kind, .float .f64 x.told.reply.val.num, .string x.told.reply.val.text, .int .i64 x.told.index]) w := by
 have x0 := h 0 _ rfl
 have x1 := h 1 _ rfl
 have x2 := h 2 _ rfl
 have x3 := h 3 _ rfl
 have x4 := h 4 _ rfl
 have x5 := h 5 _ rfl
 have x6 := h 6 _ rfl
 have x7 := h 7 _ rfl
 have x8 := h 8 _ rfl
 have x9 := h 9 _ rfl
 have x10 := h 10 _ rfl
 have x11 := h 11 _ rfl
 have x12 := h 12 _ rfl
 have x13 := h 13 _ rfl
 have x14 := h 14 _ rfl
 have x15 := h 15 _ rfl
 rw [Nat.add_zero] at x0
 go_simp
set_option maxHeartbeats 2000000 in
theorem load_entry {w : World} {g o : Nat} (x : AEntry) (h : At w g o x.cells) : (Instr.loadAt 67 (.pointer (some ⟨g, o, none⟩))).run Tryz.prog w = .ok (.agg #[.int .i64 x.term, .int .i64 x.kind, .int .i64 x.call.client, .int .i64 x.call.seq, .int .i64 x.call.cmd.kind, .string x.call.cmd.key, .int .i64 x.call.cmd.old.kind, .float .f64 x.call.cmd.old.num, .string x.call.cmd.old.text, .int .i64 x.call.cmd.val.kind, .float .f64 x.call.cmd.val.num, .string x.call.cmd.val.text, .int .i64 x.conf.full, .int .i64 x.conf.wit, .int .i64 x.conf.learn, .int .i64 x.conf.learnWit]) w := by
 have x0 := h 0 _ rfl
 have x1 := h 1 _ rfl
 have x2 := h 2 _ rfl
 have x3 := h 3 _ rfl
 have x4 := h 4 _ rfl
 have x5 := h 5 _ rfl
 have x6 := h 6 _ rfl
 have x7 := h 7 _ rfl
 have x8 := h 8 _ rfl
 have x9 := h 9 _ rfl
 have x10 := h 10 _ rfl
 have x11 := h 11 _ rfl
 have x12 := h 12 _ rfl
 have x13 := h 13 _ rfl
 have x14 := h 14 _ rfl
 have x15 := h 15 _ rfl
 rw [Nat.add_zero] at x0
 go_simp
set_option maxHeartbeats 2000000 in
theorem load_told {w : World} {g o : Nat} (x : ATold) (h : At w g o x.cells) : (Instr.loadAt 48 (.pointer (some ⟨g, o, none⟩))).run Tryz.prog w = .ok (.agg #[.int .i64 x.call.client, .int .i64 x.call.seq, .int .i64 x.call.cmd.kind, .string x.call.cmd.key, .int .i64 x.call.cmd.old.kind, .float .f64 x.call.cmd.old.num, .string x.call.cmd.old.text, .int .i64 x.call.cmd.val.kind, .float .f64 x.call.cmd.val.num, .string x.call.cmd.val.text, .int .i64 x.reply.code, .int .i64 x.reply.val.kind, .float .f64 x.reply.val.num, .string x.reply.val.text, .int .i64 x.index]) w := by
 have x0 := h 0 _ rfl
 have x1 := h 1 _ rfl
 have x2 := h 2 _ rfl
 have x3 := h 3 _ rfl
 have x4 := h 4 _ rfl
 have x5 := h 5 _ rfl
 have x6 := h 6 _ rfl
 have x7 := h 7 _ rfl
 have x8 := h 8 _ rfl
 have x9 := h 9 _ rfl
 have x10 := h 10 _ rfl
 have x11 := h 11 _ rfl
 have x12 := h 12 _ rfl
 have x13 := h 13 _ rfl
 have x14 := h 14 _ rfl
 rw [Nat.add_zero] at x0
 go_simp
set_option maxHeartbeats 2000000 in
theorem load_call {w : World} {g o : Nat} (x : ACall) (h : At w g o x.cells) : (Instr.loadAt 44 (.pointer (some ⟨g, o, none⟩))).run Tryz.prog w = .ok (.agg #[.int .i64 x.client, .int .i64 x.seq, .int .i64 x.cmd.kind, .string x.cmd.key, .int .i64 x.cmd.old.kind, .float .f64 x.cmd.old.num, .string x.cmd.old.text, .int .i64 x.cmd.val.kind, .float .f64 x.cmd.val.num, .string x.cmd.val.text]) w := by
 have x0 := h 0 _ rfl
 have x1 := h 1 _ rfl
 have x2 := h 2 _ rfl
 have x3 := h 3 _ rfl
 have x4 := h 4 _ rfl
 have x5 := h 5 _ rfl
 have x6 := h 6 _ rfl
 have x7 := h 7 _ rfl
 have x8 := h 8 _ rfl
 have x9 := h 9 _ rfl
 rw [Nat.add_zero] at x0
 go_simp
set_option maxHeartbeats 2000000 in
theorem load_cmd {w : World} {g o : Nat} (x : ACmd) (h : At w g o x.cells) : (Instr.loadAt 42 (.pointer (some ⟨g, o, none⟩))).run Tryz.prog w = .ok (.agg #[.int .i64 x.kind, .string x.key, .int .i64 x.old.kind, .float .f64 x.old.num, .string x.old.text, .int .i64 x.val.kind, .float .f64 x.val.num, .string x.val.text]) w := by
 have x0 := h 0 _ rfl
 have x1 := h 1 _ rfl
 have x2 := h 2 _ rfl
 have x3 := h 3 _ rfl
 have x4 := h 4 _ rfl
 have x5 := h 5 _ rfl
 have x6 := h 6 _ rfl
 have x7 := h 7 _ rfl
 rw [Nat.add_zero] at x0
 go_simp
set_option maxHeartbeats 2000000 in
theorem load_rep {w : World} {g o : Nat} (x : AReply) (h : At w g o x.cells) : (Instr.loadAt 46 (.pointer (some ⟨g, o, none⟩))).run Tryz.prog w = .ok (.agg #[.int .i64 x.code, .int .i64 x.val.kind, .float .f64 x.val.num, .string x.val.text]) w := by
 have x0 := h 0 _ rfl
 have x1 := h 1 _ rfl
 have x2 := h 2 _ rfl
 have x3 := h 3 _ rfl
 rw [Nat.add_zero] at x0
 go_simp
set_option maxHeartbeats 2000000 in
theorem store_event_new (w : World) (x : AEvent) : (Instr.storeAt 50 (.pointer (some ⟨w.heap.size, 0, none⟩)) (.agg #[.bool x.ask, .int .i64 x.told.call.client, .int .i64 x.told.call.seq, .int .i64 x.told.call.cmd.kind, .string x.told.call.cmd.key, .int .i64 x.told.call.cmd.old.kind, .float .f64 x.told.call.cmd.old.num, .string x.told.call.cmd.old.text, .int .i64 x.told.call.cmd.val.kind, .float .f64 x.told.call.cmd.val.num, .string x.told.call.cmd.val.text, .int .i64 x.told.reply.code, .int .i64 x.told.reply.val.kind, .float .f64 x.told.reply.val.num, .string x.told.reply.val.text, .int .i64 x.told.index])).run Tryz.prog (w.alloc (.cells #[.bool false, .int .i64 0, .int .i64 0, .int .i64 0, .string ⟨#[]⟩, .int .i64 0, .float .f64 0, .string ⟨#[]⟩, .int .i64 0, .float .f64 0, .string ⟨#[]⟩, .int .i64 0, .int .i64 0, .float .f64 0, .string ⟨#[]⟩, .int .i64 0] 50)) = .ok () (w.alloc (.cells #[.bool x.ask, .int .i64 x.told.call.client, .int .i64 x.told.call.seq, .int .i64 x.told.call.cmd.kind, .string x.told.call.cmd.key, .int .i64 x.told.call.cmd.old.kind, .float .f64 x.told.call.cmd.old.num, .string x.told.call.cmd.old.text, .int .i64 x.told.call.cmd.val.kind, .float .f64 x.told.call.cmd.val.num, .string x.told.call.cmd.val.text, .int .i64 x.told.reply.code, .int .i64 x.told.reply.val.kind, .float .f64 x.told.reply.val.num, .string x.told.reply.val.text, .int .i64 x.told.index] 50)) := by
 go_simp
set_option maxHeartbeats 2000000 in
theorem store_entry_new (w : World) (x : AEntry) : (Instr.storeAt 67 (.pointer (some ⟨w.heap.size, 0, none⟩)) (.agg #[.int .i64 x.term, .int .i64 x.kind, .int .i64 x.call.client, .int .i64 x.call.seq, .int .i64 x.call.cmd.kind, .string x.call.cmd.key, .int .i64 x.call.cmd.old.kind, .float .f64 x.call.cmd.old.num, .string x.call.cmd.old.text, .int .i64 x.call.cmd.val.kind, .float .f64 x.call.cmd.val.num, .string x.call.cmd.val.text, .int .i64 x.conf.full, .int .i64 x.conf.wit, .int .i64 x.conf.learn, .int .i64 x.conf.learnWit])).run Tryz.prog (w.alloc (.cells #[.int .i64 0, .int .i64 0, .int .i64 0, .int .i64 0, .int .i64 0, .string ⟨#[]⟩, .int .i64 0, .float .f64 0, .string ⟨#[]⟩, .int .i64 0, .float .f64 0, .string ⟨#[]⟩, .int .i64 0, .int .i64 0, .int .i64 0, .int .i64 0] 67)) = .ok () (w.alloc (.cells #[.int .i64 x.term, .int .i64 x.kind, .int .i64 x.call.client, .int .i64 x.call.seq, .int .i64 x.call.cmd.kind, .string x.call.cmd.key, .int .i64 x.call.cmd.old.kind, .float .f64 x.call.cmd.old.num, .string x.call.cmd.old.text, .int .i64 x.call.cmd.val.kind, .float .f64 x.call.cmd.val.num, .string x.call.cmd.val.text, .int .i64 x.conf.full, .int .i64 x.conf.wit, .int .i64 x.conf.learn, .int .i64 x.conf.learnWit] 67)) := by
 go_simp
set_option maxHeartbeats 2000000 in
theorem store_told_new (w : World) (x : ATold) : (Instr.storeAt 48 (.pointer (some ⟨w.heap.size, 0, none⟩)) (.agg #[.int .i64 x.call.client, .int .i64 x.call.seq, .int .i64 x.call.cmd.kind, .string x.call.cmd.key, .int .i64 x.call.cmd.old.kind, .float .f64 x.call.cmd.old.num, .string x.call.cmd.old.text, .int .i64 x.call.cmd.val.kind, .float .f64 x.call.cmd.val.num, .string x.call.cmd.val.text, .int .i64 x.reply.code, .int .i64 x.reply.val.kind, .float .f64 x.reply.val.num, .string x.reply.val.text, .int .i64 x.index])).run Tryz.prog (w.alloc (.cells #[.int .i64 0, .int .i64 0, .int .i64 0, .string ⟨#[]⟩, .int .i64 0, .float .f64 0, .string ⟨#[]⟩, .int .i64 0, .float .f64 0, .string ⟨#[]⟩, .int .i64 0, .int .i64 0, .float .f64 0, .string ⟨#[]⟩, .int .i64 0] 48)) = .ok () (w.alloc (.cells #[.int .i64 x.call.client, .int .i64 x.call.seq, .int .i64 x.call.cmd.kind, .string x.call.cmd.key, .int .i64 x.call.cmd.old.kind, .float .f64 x.call.cmd.old.num, .string x.call.cmd.old.text, .int .i64 x.call.cmd.val.kind, .float .f64 x.call.cmd.val.num, .string x.call.cmd.val.text, .int .i64 x.reply.code, .int .i64 x.reply.val.kind, .float .f64 x.reply.val.num, .string x.reply.val.text, .int .i64 x.index] 48)) := by
 go_simp
set_option maxHeartbeats 2000000 in
theorem store_call_new (w : World) (x : ACall) : (Instr.storeAt 44 (.pointer (some ⟨w.heap.size, 0, none⟩)) (.agg #[.int .i64 x.client, .int .i64 x.seq, .int .i64 x.cmd.kind, .string x.cmd.key, .int .i64 x.cmd.old.kind, .float .f64 x.cmd.old.num, .string x.cmd.old.text, .int .i64 x.cmd.val.kind, .float .f64 x.cmd.val.num, .string x.cmd.val.text])).run Tryz.prog (w.alloc (.cells #[.int .i64 0, .int .i64 0, .int .i64 0, .string ⟨#[]⟩, .int .i64 0, .float .f64 0, .string ⟨#[]⟩, .int .i64 0, .float .f64 0, .string ⟨#[]⟩] 44)) = .ok () (w.alloc (.cells #[.int .i64 x.client, .int .i64 x.seq, .int .i64 x.cmd.kind, .string x.cmd.key, .int .i64 x.cmd.old.kind, .float .f64 x.cmd.old.num, .string x.cmd.old.text, .int .i64 x.cmd.val.kind, .float .f64 x.cmd.val.num, .string x.cmd.val.text] 44)) := by
 go_simp
set_option maxHeartbeats 2000000 in
theorem store_rep_new (w : World) (x : AReply) : (Instr.storeAt 46 (.pointer (some ⟨w.heap.size, 0, none⟩)) (.agg #[.int .i64 x.code, .int .i64 x.val.kind, .float .f64 x.val.num, .string x.val.text])).run Tryz.prog (w.alloc (.cells #[.int .i64 0, .int .i64 0, .float .f64 0, .string ⟨#[]⟩] 46)) = .ok () (w.alloc (.cells #[.int .i64 x.code, .int .i64 x.val.kind, .float .f64 x.val.num, .string x.val.text] 46)) := by
 go_simp
/-- A whole struct is stored into the box b. -/
def toldSet (w : World) (b : Nat) (x : ATold) : World := (((((((((((((((w.setCell ⟨b, 0, none⟩ (.int .i64 x.call.client)).setCell ⟨b, 1, none⟩ (.int .i64 x.call.seq)).setCell ⟨b, 2, none⟩ (.int .i64 x.call.cmd.kind)).setCell ⟨b, 3, none⟩ (.string x.call.cmd.key)).setCell ⟨b, 4, none⟩ (.int .i64 x.call.cmd.old.kind)).setCell ⟨b, 5, none⟩ (.float .f64 x.call.cmd.old.num)).setCell ⟨b, 6, none⟩ (.string x.call.cmd.old.text)).setCell ⟨b, 7, none⟩ (.int .i64 x.call.cmd.val.kind)).setCell ⟨b, 8, none⟩ (.float .f64 x.call.cmd.val.num)).setCell ⟨b, 9, none⟩ (.string x.call.cmd.val.text)).setCell ⟨b, 10, none⟩ (.int .i64 x.reply.code)).setCell ⟨b, 11, none⟩ (.int .i64 x.reply.val.kind)).setCell ⟨b, 12, none⟩ (.float .f64 x.reply.val.num)).setCell ⟨b, 13, none⟩ (.string x.reply.val.text)).setCell ⟨b, 14, none⟩ (.int .i64 x.index))
theorem told_set {w : World} {b : Nat} {y0 y1 y2 y3 y4 y5 y6 y7 y8 y9 y10 y11 y12 y13 y14 : Value} {x : ATold} {t : TypeId} (h : w.heap[b]? = some (.cells #[y0, y1, y2, y3, y4, y5, y6, y7, y8, y9, y10, y11, y12, y13, y14] t (0, 0))) :
  (toldSet w b x).heap[b]? = some (.cells #[.int .i64 x.call.client, .int .i64 x.call.seq, .int .i64 x.call.cmd.kind, .string x.call.cmd.key, .int .i64 x.call.cmd.old.kind, .float .f64 x.call.cmd.old.num, .string x.call.cmd.old.text, .int .i64 x.call.cmd.val.kind, .float .f64 x.call.cmd.val.num, .string x.call.cmd.val.text, .int .i64 x.reply.code, .int .i64 x.reply.val.kind, .float .f64 x.reply.val.num, .string x.reply.val.text, .int .i64 x.index] t (0, 0)) := by
 unfold toldSet
 simp [World.setCell, Array.getElem?_modify, h]
theorem told_mod (w : World) (b : Nat) (x : ATold) : Mod (fun k => k = b) w (toldSet w b x) := by
 unfold toldSet
 exact mod_same (mod_same (mod_same (mod_same (mod_same (mod_same (mod_same (mod_same (mod_same (mod_same (mod_same (mod_same (mod_same (mod_same (mod_same (Mod.refl _ _) _ _) _ _) _ _) _ _) _ _) _ _) _ _) _ _) _ _) _ _) _ _) _ _) _ _) _ _) _ _
set_option maxHeartbeats 2000000 in
theorem store_told {w : World} {b : Nat} {y0 y1 y2 y3 y4 y5 y6 y7 y8 y9 y10 y11 y12 y13 y14 : Value} (x : ATold) (h : w.heap[b]? = some (.cells #[y0, y1, y2, y3, y4, y5, y6, y7, y8, y9, y10, y11, y12, y13, y14] 48 (0, 0))) : (Instr.storeAt 48 (.pointer (some ⟨b, 0, none⟩)) (.agg #[.int .i64 x.call.client, .int .i64 x.call.seq, .int .i64 x.call.cmd.kind, .string x.call.cmd.key, .int .i64 x.call.cmd.old.kind, .float .f64 x.call.cmd.old.num, .string x.call.cmd.old.text, .int .i64 x.call.cmd.val.kind, .float .f64 x.call.cmd.val.num, .string x.call.cmd.val.text, .int .i64 x.reply.code, .int .i64 x.reply.val.kind, .float .f64 x.reply.val.num, .string x.reply.val.text, .int .i64 x.index])).run Tryz.prog w = .ok () (toldSet w b x) := by
 have f0 : w.frozen? ⟨b, 0, none⟩ = false := blk_free 0 h
 have c0 : w.cell? ⟨b, 0, none⟩ = some _ := blk_cell h rfl
 have f1 : w.frozen? ⟨b, 1, none⟩ = false := blk_free 1 h
 have c1 : w.cell? ⟨b, 1, none⟩ = some _ := blk_cell h rfl
 have f2 : w.frozen? ⟨b, 2, none⟩ = false := blk_free 2 h
 have c2 : w.cell? ⟨b, 2, none⟩ = some _ := blk_cell h rfl
 have f3 : w.frozen? ⟨b, 3, none⟩ = false := blk_free 3 h
 have c3 : w.cell? ⟨b, 3, none⟩ = some _ := blk_cell h rfl
 have f4 : w.frozen? ⟨b, 4, none⟩ = false := blk_free 4 h
 have c4 : w.cell? ⟨b, 4, none⟩ = some _ := blk_cell h rfl
 have f5 : w.frozen? ⟨b, 5, none⟩ = false := blk_free 5 h
 have c5 : w.cell? ⟨b, 5, none⟩ = some _ := blk_cell h rfl
 have f6 : w.frozen? ⟨b, 6, none⟩ = false := blk_free 6 h
 have c6 : w.cell? ⟨b, 6, none⟩ = some _ := blk_cell h rfl
 have f7 : w.frozen? ⟨b, 7, none⟩ = false := blk_free 7 h
 have c7 : w.cell? ⟨b, 7, none⟩ = some _ := blk_cell h rfl
 have f8 : w.frozen? ⟨b, 8, none⟩ = false := blk_free 8 h
 have c8 : w.cell? ⟨b, 8, none⟩ = some _ := blk_cell h rfl
 have f9 : w.frozen? ⟨b, 9, none⟩ = false := blk_free 9 h
 have c9 : w.cell? ⟨b, 9, none⟩ = some _ := blk_cell h rfl
 have f10 : w.frozen? ⟨b, 10, none⟩ = false := blk_free 10 h
 have c10 : w.cell? ⟨b, 10, none⟩ = some _ := blk_cell h rfl
 have f11 : w.frozen? ⟨b, 11, none⟩ = false := blk_free 11 h
 have c11 : w.cell? ⟨b, 11, none⟩ = some _ := blk_cell h rfl
 have f12 : w.frozen? ⟨b, 12, none⟩ = false := blk_free 12 h
 have c12 : w.cell? ⟨b, 12, none⟩ = some _ := blk_cell h rfl
 have f13 : w.frozen? ⟨b, 13, none⟩ = false := blk_free 13 h
 have c13 : w.cell? ⟨b, 13, none⟩ = some _ := blk_cell h rfl
 have f14 : w.frozen? ⟨b, 14, none⟩ = false := blk_free 14 h
 have c14 : w.cell? ⟨b, 14, none⟩ = some _ := blk_cell h rfl
 unfold toldSet
 go_simp
/-- A whole struct is stored into the box b. -/
def callSet (w : World) (b : Nat) (x : ACall) : World := ((((((((((w.setCell ⟨b, 0, none⟩ (.int .i64 x.client)).setCell ⟨b, 1, none⟩ (.int .i64 x.seq)).setCell ⟨b, 2, none⟩ (.int .i64 x.cmd.kind)).setCell ⟨b, 3, none⟩ (.string x.cmd.key)).setCell ⟨b, 4, none⟩ (.int .i64 x.cmd.old.kind)).setCell ⟨b, 5, none⟩ (.float .f64 x.cmd.old.num)).setCell ⟨b, 6, none⟩ (.string x.cmd.old.text)).setCell ⟨b, 7, none⟩ (.int .i64 x.cmd.val.kind)).setCell ⟨b, 8, none⟩ (.float .f64 x.cmd.val.num)).setCell ⟨b, 9, none⟩ (.string x.cmd.val.text))
theorem call_set {w : World} {b : Nat} {y0 y1 y2 y3 y4 y5 y6 y7 y8 y9 : Value} {x : ACall} {t : TypeId} (h : w.heap[b]? = some (.cells #[y0, y1, y2, y3, y4, y5, y6, y7, y8, y9] t (0, 0))) :
  (callSet w b x).heap[b]? = some (.cells #[.int .i64 x.client, .int .i64 x.seq, .int .i64 x.cmd.kind, .string x.cmd.key, .int .i64 x.cmd.old.kind, .float .f64 x.cmd.old.num, .string x.cmd.old.text, .int .i64 x.cmd.val.kind, .float .f64 x.cmd.val.num, .string x.cmd.val.text] t (0, 0)) := by
 unfold callSet
 simp [World.setCell, Array.getElem?_modify, h]
theorem call_mod (w : World) (b : Nat) (x : ACall) : Mod (fun k => k = b) w (callSet w b x) := by
 unfold callSet
 exact mod_same (mod_same (mod_same (mod_same (mod_same (mod_same (mod_same (mod_same (mod_same (mod_same (Mod.refl _ _) _ _) _ _) _ _) _ _) _ _) _ _) _ _) _ _) _ _) _ _
set_option maxHeartbeats 2000000 in
theorem store_call {w : World} {b : Nat} {y0 y1 y2 y3 y4 y5 y6 y7 y8 y9 : Value} (x : ACall) (h : w.heap[b]? = some (.cells #[y0, y1, y2, y3, y4, y5, y6, y7, y8, y9] 44 (0, 0))) : (Instr.storeAt 44 (.pointer (some ⟨b, 0, none⟩)) (.agg #[.int .i64 x.client, .int .i64 x.seq, .int .i64 x.cmd.kind, .string x.cmd.key, .int .i64 x.cmd.old.kind, .float .f64 x.cmd.old.num, .string x.cmd.old.text, .int .i64 x.cmd.val.kind, .float .f64 x.cmd.val.num, .string x.cmd.val.text])).run Tryz.prog w = .ok () (callSet w b x) := by
 have f0 : w.frozen? ⟨b, 0, none⟩ = false := blk_free 0 h
 have c0 : w.cell? ⟨b, 0, none⟩ = some _ := blk_cell h rfl
 have f1 : w.frozen? ⟨b, 1, none⟩ = false := blk_free 1 h
 have c1 : w.cell? ⟨b, 1, none⟩ = some _ := blk_cell h rfl
 have f2 : w.frozen? ⟨b, 2, none⟩ = false := blk_free 2 h
 have c2 : w.cell? ⟨b, 2, none⟩ = some _ := blk_cell h rfl
 have f3 : w.frozen? ⟨b, 3, none⟩ = false := blk_free 3 h
 have c3 : w.cell? ⟨b, 3, none⟩ = some _ := blk_cell h rfl
 have f4 : w.frozen? ⟨b, 4, none⟩ = false := blk_free 4 h
 have c4 : w.cell? ⟨b, 4, none⟩ = some _ := blk_cell h rfl
 have f5 : w.frozen? ⟨b, 5, none⟩ = false := blk_free 5 h
 have c5 : w.cell? ⟨b, 5, none⟩ = some _ := blk_cell h rfl
 have f6 : w.frozen? ⟨b, 6, none⟩ = false := blk_free 6 h
 have c6 : w.cell? ⟨b, 6, none⟩ = some _ := blk_cell h rfl
 have f7 : w.frozen? ⟨b, 7, none⟩ = false := blk_free 7 h
 have c7 : w.cell? ⟨b, 7, none⟩ = some _ := blk_cell h rfl
 have f8 : w.frozen? ⟨b, 8, none⟩ = false := blk_free 8 h
 have c8 : w.cell? ⟨b, 8, none⟩ = some _ := blk_cell h rfl
 have f9 : w.frozen? ⟨b, 9, none⟩ = false := blk_free 9 h
 have c9 : w.cell? ⟨b, 9, none⟩ = some _ := blk_cell h rfl
 unfold callSet
 go_simp
end Go.Proofs.YtbclnghbgoblcaaGreat
