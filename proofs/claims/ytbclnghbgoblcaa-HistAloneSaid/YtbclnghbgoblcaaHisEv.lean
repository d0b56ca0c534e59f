/-
 Entries and events of calls as literal lists. Conditions: as each theorem names them.
-/
import Derived.Test.YtbclnghbgoblcaaHisTkn
import Derived.Test.YtbclnghbgoblcaaHisLog
namespace Go.Proofs.Ytbclnghbgoblcaa
set_option linter.unusedSimpArgs false
open Go.RowKit

def entC (c : ACall) : AEntry := ⟨1, 1, c, AConf.zero⟩
theorem entC_ok {c : ACall} (h : c.ok) : (entC c).ok := ⟨by unfold I64 entC; simp, by unfold I64 entC; simp, h, conf0_ok⟩
theorem evA_ok {c : ACall} (h : c.ok) : (evA c).ok := ⟨h, rep0_ok, (show I64 0 from ⟨by decide, by decide⟩)⟩
theorem val0_ok : AVal.zero.ok := ⟨⟨by decide, by decide⟩, by decide, Nat.zero_le _⟩
theorem val1_ok : (⟨1, 4607182418800017408, ⟨#[]⟩⟩ : AVal).ok := ⟨⟨by decide, by decide⟩, by decide, Nat.zero_le _⟩
theorem evT_ok {c : ACall} {r : AReply} {z : Int} (h : c.ok) (hr : r.ok) (hz : I64 z) : (evT ⟨c, r, z⟩).ok := ⟨h, hr, hz⟩
theorem sl_entC (w : World) (c : ACall) : Sl (w.alloc (.cells #[.int .i64 1, .int .i64 1, .int .i64 c.client, .int .i64 c.seq, .int .i64 c.cmd.kind, .string c.cmd.key, .int .i64 c.cmd.old.kind, .float .f64 c.cmd.old.num, .string c.cmd.old.text, .int .i64 c.cmd.val.kind, .float .f64 c.cmd.val.num, .string c.cmd.val.text, .int .i64 0, .int .i64 0, .int .i64 0, .int .i64 0] 39)) (fun h => h = w.heap.size) 16 (.slice (some ⟨w.heap.size, 0, none⟩) 1 1) 1 ([entC c].flatMap AEntry.cells) :=
 sl_lit (xs := [entC c].flatMap AEntry.cells) (heap_alloc_new w _) rfl (by decide)
theorem sl_evAT (w : World) (c : ACall) (r : AReply) (z : Int) : Sl (w.alloc (.cells #[.bool true, .int .i64 c.client, .int .i64 c.seq, .int .i64 c.cmd.kind, .string c.cmd.key, .int .i64 c.cmd.old.kind, .float .f64 c.cmd.old.num, .string c.cmd.old.text, .int .i64 c.cmd.val.kind, .float .f64 c.cmd.val.num, .string c.cmd.val.text, .int .i64 0, .int .i64 0, .float .f64 0, .string ⟨#[]⟩, .int .i64 0, .bool false, .int .i64 c.client, .int .i64 c.seq, .int .i64 c.cmd.kind, .string c.cmd.key, .int .i64 c.cmd.old.kind, .float .f64 c.cmd.old.num, .string c.cmd.old.text, .int .i64 c.cmd.val.kind, .float .f64 c.cmd.val.num, .string c.cmd.val.text, .int .i64 r.code, .int .i64 r.val.kind, .float .f64 r.val.num, .string r.val.text, .int .i64 z] 56)) (fun h => h = w.heap.size) 16 (.slice (some ⟨w.heap.size, 0, none⟩) 2 2) 2 ([evA c, evT ⟨c, r, z⟩].flatMap AEvent.cells) :=
 sl_lit (xs := [evA c, evT ⟨c, r, z⟩].flatMap AEvent.cells) (heap_alloc_new w _) rfl (by decide)
theorem sl_evAF (w : World) (c : ACall) (f : Nat) (z : Int) : Sl (w.alloc (.cells #[.bool true, .int .i64 c.client, .int .i64 c.seq, .int .i64 c.cmd.kind, .string c.cmd.key, .int .i64 c.cmd.old.kind, .float .f64 c.cmd.old.num, .string c.cmd.old.text, .int .i64 c.cmd.val.kind, .float .f64 c.cmd.val.num, .string c.cmd.val.text, .int .i64 0, .int .i64 0, .float .f64 0, .string ⟨#[]⟩, .int .i64 0, .bool false, .int .i64 c.client, .int .i64 c.seq, .int .i64 c.cmd.kind, .string c.cmd.key, .int .i64 c.cmd.old.kind, .float .f64 c.cmd.old.num, .string c.cmd.old.text, .int .i64 c.cmd.val.kind, .float .f64 c.cmd.val.num, .string c.cmd.val.text, .int .i64 0, .int .i64 1, .float .f64 f, .string ⟨#[]⟩, .int .i64 z] 56)) (fun h => h = w.heap.size) 16 (.slice (some ⟨w.heap.size, 0, none⟩) 2 2) 2 ([evA c, evT ⟨c, ⟨0, ⟨1, f, ⟨#[]⟩⟩⟩, z⟩].flatMap AEvent.cells) :=
 sl_lit (xs := [evA c, evT ⟨c, ⟨0, ⟨1, f, ⟨#[]⟩⟩⟩, z⟩].flatMap AEvent.cells) (heap_alloc_new w _) rfl (by decide)
theorem sl_evA (w : World) (c : ACall) : Sl (w.alloc (.cells #[.bool true, .int .i64 c.client, .int .i64 c.seq, .int .i64 c.cmd.kind, .string c.cmd.key, .int .i64 c.cmd.old.kind, .float .f64 c.cmd.old.num, .string c.cmd.old.text, .int .i64 c.cmd.val.kind, .float .f64 c.cmd.val.num, .string c.cmd.val.text, .int .i64 0, .int .i64 0, .float .f64 0, .string ⟨#[]⟩, .int .i64 0] 56)) (fun h => h = w.heap.size) 16 (.slice (some ⟨w.heap.size, 0, none⟩) 1 1) 1 ([evA c].flatMap AEvent.cells) :=
 sl_lit (xs := [evA c].flatMap AEvent.cells) (heap_alloc_new w _) rfl (by decide)
theorem sl_evT (w : World) (c : ACall) (r : AReply) (z : Int) : Sl (w.alloc (.cells #[.bool false, .int .i64 c.client, .int .i64 c.seq, .int .i64 c.cmd.kind, .string c.cmd.key, .int .i64 c.cmd.old.kind, .float .f64 c.cmd.old.num, .string c.cmd.old.text, .int .i64 c.cmd.val.kind, .float .f64 c.cmd.val.num, .string c.cmd.val.text, .int .i64 r.code, .int .i64 r.val.kind, .float .f64 r.val.num, .string r.val.text, .int .i64 z] 56)) (fun h => h = w.heap.size) 16 (.slice (some ⟨w.heap.size, 0, none⟩) 1 1) 1 ([evT ⟨c, r, z⟩].flatMap AEvent.cells) :=
 sl_lit (xs := [evT ⟨c, r, z⟩].flatMap AEvent.cells) (heap_alloc_new w _) rfl (by decide)
theorem own_evA (w : World) (c : ACall) : (w.alloc (.cells #[.bool true, .int .i64 c.client, .int .i64 c.seq, .int .i64 c.cmd.kind, .string c.cmd.key, .int .i64 c.cmd.old.kind, .float .f64 c.cmd.old.num, .string c.cmd.old.text, .int .i64 c.cmd.val.kind, .float .f64 c.cmd.val.num, .string c.cmd.val.text, .int .i64 0, .int .i64 0, .float .f64 0, .string ⟨#[]⟩, .int .i64 0] 56)).ownsRow 0 56 16 (.slice (some ⟨w.heap.size, 0, none⟩) 1 1) 1 ([evA c].flatMap AEvent.cells) :=
 Row.own (cur := [evA c].flatMap AEvent.cells) (heap_alloc_new w _) rfl (Nat.le_refl _) (by decide) (by rfl)
end Go.Proofs.Ytbclnghbgoblcaa
