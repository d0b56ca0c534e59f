/-
  Contracts of the verifier's comparison of messages (skerrykeep.flat), where they differ in a number. Conditions: as each theorem names them.
-/
import Derived.Test.YtfkacakbengboaaKeepList
import Derived.Test.YtfkacakbengboaaHead
namespace Go.Proofs.Ytfkacakbengboaa
open Go.RowKit

set_option maxRecDepth 100000 in
set_option maxHeartbeats 4000000 in
theorem k_flat_no6 (a b : AHead) (w : World) (h0 : (a.kind == b.kind) = true) (h1 : (a.src == b.src) = true) (h2 : (a.dst == b.dst) = true) (h3 : (a.term == b.term) = true) (h4 : (a.index == b.index) = true) (h5 : (a.logTerm == b.logTerm) = true) (h6 : (a.commit == b.commit) = false) : Calls Try.prog 29 #[.agg #[.int .i64 a.kind, .int .i64 a.src, .int .i64 a.dst, .int .i64 a.term, .int .i64 a.index, .int .i64 a.logTerm, .int .i64 a.commit, .int .i64 a.round, .bool a.yes, a.entV, .int .i64 a.conf.full, .int .i64 a.conf.wit, .int .i64 a.conf.learn, .int .i64 a.conf.learnWit, a.snapV, a.innV], .agg #[.int .i64 b.kind, .int .i64 b.src, .int .i64 b.dst, .int .i64 b.term, .int .i64 b.index, .int .i64 b.logTerm, .int .i64 b.commit, .int .i64 b.round, .bool b.yes, b.entV, .int .i64 b.conf.full, .int .i64 b.conf.wit, .int .i64 b.conf.learn, .int .i64 b.conf.learnWit, b.snapV, b.innV]] w fun e w' => e = .returned (.bool false) ∧ Ext w w' := by
  go_enter Try.func29, Try.ntmps29
  go_wp2
  go_ret
  exact ⟨ret_bool rfl, ((Mod.refl _ w).alloc _).alloc _⟩
set_option maxRecDepth 100000 in
set_option maxHeartbeats 4000000 in
theorem k_flat_no7 (a b : AHead) (w : World) (h0 : (a.kind == b.kind) = true) (h1 : (a.src == b.src) = true) (h2 : (a.dst == b.dst) = true) (h3 : (a.term == b.term) = true) (h4 : (a.index == b.index) = true) (h5 : (a.logTerm == b.logTerm) = true) (h6 : (a.commit == b.commit) = true) (h7 : (a.round == b.round) = false) : Calls Try.prog 29 #[.agg #[.int .i64 a.kind, .int .i64 a.src, .int .i64 a.dst, .int .i64 a.term, .int .i64 a.index, .int .i64 a.logTerm, .int .i64 a.commit, .int .i64 a.round, .bool a.yes, a.entV, .int .i64 a.conf.full, .int .i64 a.conf.wit, .int .i64 a.conf.learn, .int .i64 a.conf.learnWit, a.snapV, a.innV], .agg #[.int .i64 b.kind, .int .i64 b.src, .int .i64 b.dst, .int .i64 b.term, .int .i64 b.index, .int .i64 b.logTerm, .int .i64 b.commit, .int .i64 b.round, .bool b.yes, b.entV, .int .i64 b.conf.full, .int .i64 b.conf.wit, .int .i64 b.conf.learn, .int .i64 b.conf.learnWit, b.snapV, b.innV]] w fun e w' => e = .returned (.bool false) ∧ Ext w w' := by
  go_enter Try.func29, Try.ntmps29
  go_wp2
  go_ret
  exact ⟨ret_bool rfl, ((Mod.refl _ w).alloc _).alloc _⟩
set_option maxRecDepth 100000 in
set_option maxHeartbeats 4000000 in
theorem k_flat_no8 (a b : AHead) (w : World) (h0 : (a.kind == b.kind) = true) (h1 : (a.src == b.src) = true) (h2 : (a.dst == b.dst) = true) (h3 : (a.term == b.term) = true) (h4 : (a.index == b.index) = true) (h5 : (a.logTerm == b.logTerm) = true) (h6 : (a.commit == b.commit) = true) (h7 : (a.round == b.round) = true) (h8 : (a.yes == b.yes) = false) : Calls Try.prog 29 #[.agg #[.int .i64 a.kind, .int .i64 a.src, .int .i64 a.dst, .int .i64 a.term, .int .i64 a.index, .int .i64 a.logTerm, .int .i64 a.commit, .int .i64 a.round, .bool a.yes, a.entV, .int .i64 a.conf.full, .int .i64 a.conf.wit, .int .i64 a.conf.learn, .int .i64 a.conf.learnWit, a.snapV, a.innV], .agg #[.int .i64 b.kind, .int .i64 b.src, .int .i64 b.dst, .int .i64 b.term, .int .i64 b.index, .int .i64 b.logTerm, .int .i64 b.commit, .int .i64 b.round, .bool b.yes, b.entV, .int .i64 b.conf.full, .int .i64 b.conf.wit, .int .i64 b.conf.learn, .int .i64 b.conf.learnWit, b.snapV, b.innV]] w fun e w' => e = .returned (.bool false) ∧ Ext w w' := by
  go_enter Try.func29, Try.ntmps29
  go_wp2
  go_ret
  exact ⟨ret_bool rfl, ((Mod.refl _ w).alloc _).alloc _⟩
end Go.Proofs.Ytfkacakbengboaa
