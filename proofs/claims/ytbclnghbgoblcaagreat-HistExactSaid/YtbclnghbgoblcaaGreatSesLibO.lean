/-
 The contract of the page's Once. Conditions: as each theorem names them.
-/
import Derived.Test.YtbclnghbgoblcaaGreatSesLib
import Derived.Test.YtbclnghbgoblcaaGreatSesOnceN
namespace Go.Proofs.YtbclnghbgoblcaaGreat
set_option linter.unusedSimpArgs false
open Go.RowKit

theorem r_once (w : World) (T U : Nat → Prop) (pv v : Value) (p : List APair) (l : List ASess) (c : ACall) (hP : Prs w U pv p) (h : Ses w T v l) (hp : p.length ≤ 1000000) (hl : l.length ≤ 1000000) (hcv : c.cmd.val.ok) :
  Calls Tryz.prog 31 #[.agg #[pv, v], .agg #[.int .i64 c.client, .int .i64 c.seq, .int .i64 c.cmd.kind, .string c.cmd.key, .int .i64 c.cmd.old.kind, .float .f64 c.cmd.old.num, .string c.cmd.old.text, .int .i64 c.cmd.val.kind, .float .f64 c.cmd.val.num, .string c.cmd.val.text]] w (OnceOut w (onceP ⟨p, l⟩ c).1 (onceP ⟨p, l⟩ c).2) := by
 unfold onceP
 by_cases hc : callE c = 0
 case neg => rw [if_pos hc]; exact r_once_arg w T U pv v p l c hP h hp hl hc
 rw [if_neg (by simpa using hc)]
 rcases hm : machB ⟨p, l⟩ with _ | _
 ·
  rw [if_pos rfl]; exact r_once_bad w T U pv v p l c hP h hp hl hc hm
 rw [if_neg (by simp)]
 rcases hla : lastS l c.client with ⟨n, r⟩
 simp only
 by_cases he : c.seq = n
 ·
  rw [if_pos he]; exact r_once_same w T U pv v p l c hP h hp hl hc hm n r hla (Lib.hid he)
 rw [if_neg he]
 by_cases hlt : c.seq < n
 ·
  rw [if_pos hlt]; exact r_once_less w T U pv v p l c hP h hp hl hc hm n r hla hlt
 rw [if_neg hlt]
 have hlt2 : n < c.seq := by omega
 rcases hr : doP p c.cmd with ⟨L, R⟩
 simp only
 have hm2 := hm
 unfold machB at hm2
 rw [Bool.and_eq_true] at hm2
 obtain ⟨hs1, hs2, hs3⟩ : SrtS l ∧ (∀ s ∈ l, 1 ≤ s.client ∧ s.client ≤ 4) ∧ l.length ≤ 4 := sess_nums hm2.2
 obtain ⟨hn, hce, hk1, hk2, hk3, hk4⟩ := call_nums hc
 have hR : R.ok := by
  have h1 := do_reply hce hm2.1
  have h2 := do_val_ok hP.2 hcv
  rw [hr] at h1 h2
  exact ⟨by unfold I64; simp only at h1; omega, h2⟩
 have hx : (⟨c.client, c.seq, R⟩ : ASess).ok := ⟨by unfold I64; simp only; omega, by unfold I64; simp only; omega, hR⟩
 refine r_once_new w T U pv v p l c hP h hp hl hc hm n r hla (Lib.hid hlt2) hcv L R hr _ (Lib.hid rfl) (Lib.hid fun s hs => ?_) (by omega)
 rcases mem_setS_any hs with h3 | rfl
 ·
  exact h.2 s h3
 ·
  exact hx

theorem r_once_at (w : World) (T U : Nat → Prop) (pv v : Value) (m : AMach) (c : ACall) (hP : Prs w U pv m.pairs) (h : Ses w T v m.sess) (hm : m.pairs.length ≤ 1000000 ∧ m.sess.length ≤ 1000000) (hcv : c.cmd.val.ok) {M : AMach} {r : AReply} (hr : onceP m c = (M, r)) :
  Calls Tryz.prog 31 #[.agg #[pv, v], .agg #[.int .i64 c.client, .int .i64 c.seq, .int .i64 c.cmd.kind, .string c.cmd.key, .int .i64 c.cmd.old.kind, .float .f64 c.cmd.old.num, .string c.cmd.old.text, .int .i64 c.cmd.val.kind, .float .f64 c.cmd.val.num, .string c.cmd.val.text]] w (OnceOut w M r) := by
 have := r_once w T U pv v m.pairs m.sess c hP h hm.1 hm.2 hcv
 rw [show (⟨m.pairs, m.sess⟩ : AMach) = m from rfl, hr] at this
 exact this

end Go.Proofs.YtbclnghbgoblcaaGreat
