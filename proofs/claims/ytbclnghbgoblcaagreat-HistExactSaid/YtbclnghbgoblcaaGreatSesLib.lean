/-
 What the laws of layer 7 share. Conditions: as each theorem names them.
-/
import Derived.Test.YtbclnghbgoblcaaGreatSesDoN
import Derived.Test.YtbclnghbgoblcaaGreatGSes3
namespace Go.Proofs.YtbclnghbgoblcaaGreat
set_option linter.unusedSimpArgs false
open Go.RowKit

/-- A list of calls. -/
def Cas (w : World) (T : Nat → Prop) (v : Value) (l : List ACall) : Prop := Sl w T 10 v l.length (l.flatMap ACall.cells) ∧ ∀ x ∈ l, x.ok
theorem Cas.ext {w w' : World} {T : Nat → Prop} {v : Value} {l : List ACall} (h : Cas w T v l) (hm : Ext w w') : Cas w' T v l := ⟨h.1.ext hm, h.2⟩
theorem Cas.form {w : World} {T : Nat → Prop} {v : Value} {l : List ACall} (h : Cas w T v l) : ∃ A c, v = .slice A l.length c := by
 obtain ⟨⟨_, A, c, e, _⟩, _⟩ := h
 exact ⟨A, c, e⟩
theorem Cas.at {w : World} {T : Nat → Prop} {A : Option Addr} {n c : Nat} {l : List ACall} (h : Cas w T (.slice A n c) l) {i : Nat} (hi : i < n) :
  ∃ g off x, A = some ⟨g, off, none⟩ ∧ T g ∧ l[i]? = some x ∧ x.ok ∧ ∀ j u, x.cells[j]? = some u → w.cell? ⟨g, off + i * 10 + j, none⟩ = some u := by
 obtain ⟨⟨hl, A', c', e, hn, hc, hx⟩, hf⟩ := h
 injection e with e1 e2 e3; subst e1; subst e2; subst e3
 obtain ⟨g, off, rfl, hT, hcell⟩ := hx (by omega)
 have hget : l[i]? = some l[i] := List.getElem?_eq_getElem hi
 refine ⟨g, off, l[i], rfl, hT, hget, hf _ (List.getElem_mem hi), fun j u hu => ?_⟩
 have hj : j < 10 := (List.getElem?_eq_some_iff.1 hu).1
 rw [Nat.add_assoc]
 exact hcell _ u (by rw [flat_get (k := 10) (fun _ => rfl) l i j _ hget hj]; exact hu)

/-- What a machine of one's own is. -/
theorem NewM.prs {w w' : World} {pv v : Value} {m : AMach} (h : NewM w w' pv v m) : Prs w' (fun g => pv.ownBlock = some g) pv m.pairs := h.1.prs
theorem NewM.ses {w w' : World} {pv v : Value} {m : AMach} (h : NewM w w' pv v m) : Ses w' (fun g => v.ownBlock = some g) v m.sess := h.2.1.ses
theorem newM_up {W w0 w1 : World} {pv v : Value} {m : AMach} (h : NewM w0 w1 pv v m) (hs : W.heap.size ≤ w0.heap.size) : NewM W w1 pv v m :=
 ⟨newP_up h.1 hs, ⟨h.2.1.1, h.2.1.2.1, fun g hg => Nat.le_trans hs (h.2.1.2.2 g hg)⟩, h.2.2⟩
theorem mach_small {m : AMach} (h : machB m = true) : m.pairs.length ≤ 1000000 ∧ m.sess.length ≤ 1000000 := by
 unfold machB at h
 rw [Bool.and_eq_true] at h
 exact ⟨by have := right_len h.1; omega, by have := (sess_nums h.2).2.2; omega⟩
def mach0 : AMach := ⟨[], []⟩
theorem mach0_right : machB mach0 = true := by simp [mach0, machB, right_nil, sessB, sortedS]
theorem s_do_at (w : World) (T U : Nat → Prop) (pv v : Value) (m : AMach) (c : ACall) (hP : Prs w U pv m.pairs) (h : Ses w T v m.sess) (hm : m.pairs.length ≤ 1000000 ∧ m.sess.length ≤ 1000000) (hcv : c.cmd.val.ok) {M : AMach} {r : AReply} (hr : onceP m c = (M, r)) :
  Calls Tryz.prog 28 #[.agg #[pv, v], .agg #[.int .i64 c.client, .int .i64 c.seq, .int .i64 c.cmd.kind, .string c.cmd.key, .int .i64 c.cmd.old.kind, .float .f64 c.cmd.old.num, .string c.cmd.old.text, .int .i64 c.cmd.val.kind, .float .f64 c.cmd.val.num, .string c.cmd.val.text]] w (OnceOut w M r) := by
 have := s_do w T U pv v m.pairs m.sess c hP h hm.1 hm.2 hcv
 rw [show (⟨m.pairs, m.sess⟩ : AMach) = m from rfl, hr] at this
 exact this
/-- A box of another type is none of a row's blocks. -/
theorem own_apart {w : World} {e t : TypeId} {k n b g : Nat} {v : Value} {xs : List Value} {cs : Array Value} {q : Nat × Nat} (h : w.ownsRow 0 e k v n xs) (hg : v.ownBlock = some g) (hb : w.heap[b]? = some (.cells cs t q)) (ht : e ≠ t) : g ≠ b := by
 rintro rfl
 rcases row_of_own h with ⟨rfl, _⟩ | ⟨g', cap, cur, rfl, hR, _⟩
 ·
  simp [Value.ownBlock] at hg
 ·
  simp [Value.ownBlock] at hg
  subst hg
  unfold Row at hR
  rw [hR] at hb
  injection hb with hb
  injection hb with _ hb
  exact ht hb
theorem newM_box {W w w' : World} {pv v : Value} {m : AMach} {b : Nat} {t : TypeId} {cs : Array Value} {q : Nat × Nat} (h : NewM W w pv v m) (hb : w.heap[b]? = some (.cells cs t q)) (hM : Mod (fun k => k = b) w w') (h1 : 94 ≠ t) (h2 : 72 ≠ t) : NewM W w' pv v m :=
 newM_mod h hM (fun _ hg => own_apart h.1.1 hg hb h1) (fun _ hg => own_apart h.2.1.1 hg hb h2)
/-- What wakes asks. -/
def wakesK : ACall := ⟨1, 1, wakesC⟩
def wakesR : AReply := ⟨0, ⟨1, 4611686018427387904, ⟨#[]⟩⟩⟩
def wakesM : AMach := ⟨[⟨⟨#[97]⟩, ⟨1, 4611686018427387904, ⟨#[]⟩⟩⟩], [⟨1, 1, ⟨0, ⟨1, 4611686018427387904, ⟨#[]⟩⟩⟩⟩]⟩
theorem wakes_cmd : cmdE wakesC = 0 := by
 by_cases h : cmdE wakesC = 0
 ·
  exact h
 ·
  exfalso
  have e := wakes_do
  unfold doP at e
  rw [if_pos h] at e
  injection e with e1 e2
  cases e1
theorem wakes_call : callE wakesK = 0 := by
 rw [callE_yes (by simp [wakesK, numB])]
 exact wakes_cmd
theorem wakes_once : onceP mach0 wakesK = (wakesM, wakesR) := by
 unfold onceP
 rw [if_neg (by rw [wakes_call]; simp), if_neg (by rw [mach0_right]; simp)]
 have hl : lastS mach0.sess wakesK.client = (0, AReply.zero) := rfl
 rw [hl, if_neg (by simp [wakesK]), if_neg (by simp [wakesK]), show doP mach0.pairs wakesK.cmd = _ from wakes_do]
 simp [wakesK, wakesM, wakesR, mach0, setS]
theorem wakes_right : machB wakesM = true := by
 have := once_right wakesK mach0_right
 rw [wakes_once] at this
 exact this
theorem wakes_twice : onceP wakesM wakesK = (wakesM, wakesR) :=
 once_again wakes_right wakes_call rfl
end Go.Proofs.YtbclnghbgoblcaaGreat
