/-
 A store, its disk and what it has, in memory of their own: what Open, Save and all else leave of that. No program is walked here. Conditions: as each theorem names them.
 Plain: what the law's wakes finds. No program is walked here. Conditions: as each theorem names them.
 Contracts of skerrykeep.TwinHard, of the page's At and Term (printed by stbtw.py). Conditions: as each theorem names them.
 Plain functions: what the page's Put, Compact, Force and the law's Next make of a hard state, and that it is right. No program is walked here. Conditions: as each theorem names them.
-/
import Derived.Test.YtjhnlncgmejkcaaGreatS23
namespace Go.Proofs.YtjhnlncgmejkcaaGreat
set_option linter.unusedSimpArgs false
open Go.RowKit

/-- No block of a store's, nor of its disk's. -/
def Apart (s d : Nat) (fv : Value) (k : Nat) : Prop := k ≠ d ∧ k ≠ s ∧ fv.ownBlock ≠ some k
/-- A hard state in rows of its own. -/
def HardO (w : World) (gs gl : Value) (g : AHard) : Prop := w.ownsRow 0 5 1 gs g.snap.length (g.snap.map B) ∧ w.ownsRow 0 56 16 gl g.log.length (g.log.flatMap AEntry.cells) ∧ ∀ x ∈ g.log, x.ok
theorem NewH.ho {w0 w : World} {gs gl : Value} {g : AHard} (h : NewH w0 w gs gl g) : HardO w gs gl g := ⟨h.1.1, h.2.1, h.2.2.1⟩
theorem HardO.mod {w w' : World} {S : Nat → Prop} {gs gl : Value} {g : AHard} (h : HardO w gs gl g) (hm : Mod S w w') (h1 : ∀ k, gs.ownBlock = some k ∨ gl.ownBlock = some k → ¬ S k) : HardO w' gs gl g :=
 ⟨own_mod h.1 hm (fun k e => h1 k (.inl e)), own_mod h.2.1 hm (fun k e => h1 k (.inr e)), h.2.2⟩
structure StM (w : World) (N s d : Nat) (fv gs gl : Value) (D : ADisk) (g : AHard) : Prop where
 st : StB w s d g gs gl
 dk : Dsk w d fv D
 ow : HardO w gs gl g
 oa : ∀ k, gs.ownBlock = some k ∨ gl.ownBlock = some k → Apart s d fv k
 nd : N ≤ d
 ns : N ≤ s
 nf : ∀ k, fv.ownBlock = some k → N ≤ k
theorem HardM.mono {w : World} {T U : Nat → Prop} {sv lv : Value} {h : AHard} (k : HardM w T sv lv h) (hT : ∀ g, T g → U g) : HardM w U sv lv h := ⟨k.1.mono hT, k.2.1.mono hT, k.2.2⟩
theorem HardO.mem {w : World} {gs gl : Value} {g : AHard} (h : HardO w gs gl g) : HardM w (fun k => gs.ownBlock = some k ∨ gl.ownBlock = some k) gs gl g := ⟨Sl.of_own h.1 (fun _ e => .inl e), Sl.of_own h.2.1 (fun _ e => .inr e), h.2.2⟩
/-- What a step on a store leaves of all else. -/
structure Kp (N s d s' : Nat) (fv fv' : Value) (w w' : World) : Prop where
 hm : ∀ (E : Nat → Prop) (sv lv : Value) (x : AHard), HardM w (fun k => Apart s d fv k ∧ E k) sv lv x → HardM w' (fun k => Apart s' d fv' k ∧ E k) sv lv x
 md : Mod (fun k => N ≤ k) w w'
 bx : ∀ (b : Nat) (cs : Array Value) (t : TypeId) (q : Nat × Nat), t ≠ 85 → t ≠ 88 → 5 ≠ t → w.heap[b]? = some (.cells cs t q) → w'.heap[b]? = some (.cells cs t q)
theorem Kp.ext {N s d : Nat} {fv : Value} {w w' : World} (hE : Ext w w') : Kp N s d s fv fv w w' := ⟨fun _ _ _ _ h => h.mod hE (fun _ _ => id), hE.mod _, fun _ _ _ _ _ _ _ h => hE.blk h id⟩
theorem Kp.trans {N s d s' s2 : Nat} {fv fv' fv2 : Value} {w w' w2 : World} (h : Kp N s d s' fv fv' w w') (k : Kp N s' d s2 fv' fv2 w' w2) : Kp N s d s2 fv fv2 w w2 :=
 ⟨fun _ _ _ _ a => k.hm _ _ _ _ (h.hm _ _ _ _ a), h.md.self k.md, fun b cs t q h1 h2 h3 a => k.bx b cs t q h1 h2 h3 (h.bx b cs t q h1 h2 h3 a)⟩
theorem Kp.hm1 {N s d s' : Nat} {fv fv' : Value} {w w' : World} (h : Kp N s d s' fv fv' w w') {sv lv : Value} {x : AHard} (a : HardM w (Apart s d fv) sv lv x) : HardM w' (Apart s' d fv') sv lv x :=
 (h.hm (fun _ => True) sv lv x (a.mono (fun _ k => ⟨k, trivial⟩))).mono (fun _ k => k.1)
theorem box_apart {w w' : World} {s d : Nat} {g : AHard} {fv gs gl : Value} {D : ADisk} (hS : StB w s d g gs gl) (hD : Dsk w d fv D) (hM : Mod (fun k => k = d ∨ fv.ownBlock = some k ∨ k = s) w w') (b : Nat) (cs : Array Value) (t : TypeId) (q : Nat × Nat) (h1 : t ≠ 85) (h2 : t ≠ 88) (h3 : 5 ≠ t) (h : w.heap[b]? = some (.cells cs t q)) : w'.heap[b]? = some (.cells cs t q) :=
 hM.blk h (fun e => by
  rcases e with e | e | e
  ·
   exact hD.ne h h1 e
  ·
   exact own_apart hD.2.1 e h h3 rfl
  ·
   subst e
   unfold StB at hS
   rw [hS] at h
   injection h with h
   injection h with _ h
   exact h2 h.symm)
section
variable {w w' : World} {N s d : Nat} {fv gs gl : Value} {D : ADisk} {g : AHard}
theorem StM.hm (h : StM w N s d fv gs gl D g) : HardM w (Apart s d fv) gs gl g := h.ow.mem.mono h.oa
theorem StM.ext (h : StM w N s d fv gs gl D g) (hE : Ext w w') : StM w' N s d fv gs gl D g := ⟨hE.blk h.st id, h.dk.ext hE, h.ow.mod hE (fun _ _ => id), h.oa, h.nd, h.ns, h.nf⟩
/-- A store into a box of another type. -/
theorem StM.box (h : StM w N s d fv gs gl D g) {b : Nat} {cs : Array Value} {t : TypeId} {q : Nat × Nat} (hb : w.heap[b]? = some (.cells cs t q)) (hm : Mod (fun k => k = b) w w') (h1 : t ≠ 85) (h2 : t ≠ 88) (h3 : 5 ≠ t) (h4 : 56 ≠ t) : StM w' N s d fv gs gl D g :=
 ⟨hm.blk h.st (fun e => by
  subst e
  have hS := h.st
  unfold StB at hS
  rw [hS] at hb
  injection hb with hb
  injection hb with _ hb
  exact h2 hb.symm), h.dk.mod hm (fun e => h.dk.ne hb h1 e.symm) (fun k hk e => own_apart h.dk.2.1 hk hb h3 e), h.ow.mod hm (fun k hk e => by
   rcases hk with hk | hk
   ·
    exact own_apart h.ow.1 hk hb h3 e
   ·
    exact own_apart h.ow.2.1 hk hb h4 e), h.oa, h.nd, h.ns, h.nf⟩
theorem StM.low (h : StM w N s d fv gs gl D g) {k : Nat} (hk : k < N) : Apart s d fv k := ⟨by have := h.nd; omega, by have := h.ns; omega, fun e => by have := h.nf k e; omega⟩
theorem StM.new (h : StM w N s d fv gs gl D g) {k : Nat} (hk : w.heap.size ≤ k) : Apart s d fv k := by
 have h1 := h.dk.lt
 have h2 : s < w.heap.size := (Array.getElem?_eq_some_iff.1 h.st).1
 refine ⟨by omega, by omega, fun e => ?_⟩
 have h3 := own_lt h.dk.2.1 e
 omega
theorem StM.dm (h : StM w N s d fv gs gl D g) {D' : ADisk} (hM : DM w d fv D' w') : ∃ fv', StM w' N s d fv' gs gl D' g ∧ Kp N s d s fv fv' w w' := by
 obtain ⟨fv', h1, h2, h3⟩ := hM
 have hk : ∀ (E : Nat → Prop) (sv lv : Value) (x : AHard), HardM w (fun k => Apart s d fv k ∧ E k) sv lv x → HardM w' (fun k => Apart s d fv' k ∧ E k) sv lv x := fun E sv lv x hx => by
  have h4 := hx.cap.mod h2 (fun k hk e => by
   rcases e with e | e
   ·
    exact hk.1.1.1 e
   ·
    exact hk.1.1.2.2 e)
  refine h4.mono (fun k hk => ⟨⟨hk.1.1.1, hk.1.1.2.1, fun e => ?_⟩, hk.1.2⟩)
  rcases h3 k e with e | e
  ·
   exact hk.1.1.2.2 e
  ·
   have := hk.2; omega
 refine ⟨fv', ⟨h.st.dm h.dk h2, h1, h.ow.mod h2 (fun k hk e => ?_), fun k hk => ?_, h.nd, h.ns, fun k e => ?_⟩, hk, h2.mono (fun k _ e => ?_), box_apart h.st h.dk (h2.mono (fun k _ e => by rcases e with e | e; exact .inl e; exact .inr (.inl e)))⟩
 ·
  rcases e with e | e
  ·
   exact (h.oa k hk).1 e
  ·
   exact (h.oa k hk).2.2 e
 ·
  refine ⟨(h.oa k hk).1, (h.oa k hk).2.1, fun e => ?_⟩
  rcases h3 k e with e | e
  ·
   exact (h.oa k hk).2.2 e
  ·
   have : k < w.heap.size := by
    rcases hk with hk | hk
    ·
     exact own_lt h.ow.1 hk
    ·
     exact own_lt h.ow.2.1 hk
   omega
 ·
  rcases h3 k e with e | e
  ·
   exact h.nf k e
  ·
   have := h.dk.lt; have := h.nd; omega
 ·
  rcases e with e | e
  ·
   rw [e]; exact h.nd
  ·
   exact h.nf k e
theorem StM.save (h : StM w N s d fv gs gl D g) {x : AHard} {e : Ending} (hS : SaveO w s d fv gs gl (saveP D g x) e w') :
  e = .returned (.int .i64 (saveP D g x).2.2) ∧ ∃ fv' gs' gl', StM w' N s d fv' gs' gl' (saveP D g x).1 (saveP D g x).2.1 ∧ Kp N s d s fv fv' w w' := by
 obtain ⟨he, fv', gs', gl', h1, h2, h3, h4, h5⟩ := hS
 have hk : ∀ (E : Nat → Prop) (sv lv : Value) (x : AHard), HardM w (fun k => Apart s d fv k ∧ E k) sv lv x → HardM w' (fun k => Apart s d fv' k ∧ E k) sv lv x := fun E sv lv x hx => by
  have h4' := hx.cap.mod h3 (fun k hk e => by
   rcases e with e | e | e
   ·
    exact hk.1.1.1 e
   ·
    exact hk.1.1.2.2 e
   ·
    exact hk.1.1.2.1 e)
  refine h4'.mono (fun k hk => ⟨⟨hk.1.1.1, hk.1.1.2.1, fun e => ?_⟩, hk.1.2⟩)
  rcases h4 k e with e | e
  ·
   exact hk.1.1.2.2 e
  ·
   have := hk.2; omega
 have hO : HardO w' gs' gl' (saveP D g x).2.1 ∧ ∀ k, gs'.ownBlock = some k ∨ gl'.ownBlock = some k → Apart s d fv' k := by
  rcases h5 with ⟨rfl, rfl, h6⟩ | ⟨h6, h7⟩
  ·
   have hg : (saveP D g x).2.1 = g := by
    revert h6
    unfold saveP
    split
    ·
     intro _; rfl
    split
    ·
     intro _; rfl
    ·
     intro h6
     simp only at h6 ⊢
     rw [if_neg h6]
   rw [hg]
   refine ⟨h.ow.mod h3 (fun k hk e => ?_), fun k hk => ⟨(h.oa k hk).1, (h.oa k hk).2.1, fun e => ?_⟩⟩
   ·
    rcases e with e | e | e
    ·
     exact (h.oa k hk).1 e
    ·
     exact (h.oa k hk).2.2 e
    ·
     exact (h.oa k hk).2.1 e
   ·
    rcases h4 k e with e | e
    ·
     exact (h.oa k hk).2.2 e
    ·
     have : k < w.heap.size := by
      rcases hk with hk | hk
      ·
       exact own_lt h.ow.1 hk
      ·
       exact own_lt h.ow.2.1 hk
     omega
  ·
   refine ⟨h6.ho, fun k hk => ?_⟩
   rcases hk with e | e
   ·
    exact ⟨fun e2 => by have h8 := h6.1.2 k e; have := h.dk.lt; omega, own_apart h6.1.1 e h2 (by decide), h7 k e⟩
   ·
    exact ⟨fun e2 => by have h8 := h6.2.2.2 k e; have := h.dk.lt; omega, own_apart h6.2.1 e h2 (by decide), own_own h6.2.1 h1.2.1 (by decide) e⟩
 refine ⟨he, fv', gs', gl', ⟨h2, h1, hO.1, hO.2, h.nd, h.ns, fun k e => ?_⟩, hk, h3.mono (fun k _ e => ?_), box_apart h.st h.dk h3⟩
 ·
  rcases h4 k e with e | e
  ·
   exact h.nf k e
  ·
   have := h.dk.lt; have := h.nd; omega
 ·
  rcases e with e | e | e
  ·
   rw [e]; exact h.nd
  ·
   exact h.nf k e
  ·
   rw [e]; exact h.ns
end
/-- A store into a box that is none of a hard state's memory. -/
theorem hard_box {w w' : World} {T : Nat → Prop} {sv lv : Value} {h : AHard} {b : Nat} (hh : HardM w T sv lv h) (hm : Mod (fun k => k = b) w w') (hT : ∀ k, T k → k ≠ b) : HardM w' T sv lv h := hh.mod hm (fun k hk e => hT k hk e)
/-- A store that was opened; s0: one that was. -/
theorem OpenO.yes {w w' : World} {N d : Nat} {fv : Value} {D : ADisk} {g : AHard} {R : ADisk × Option AHard × Int} {e : Ending} (h : OpenO w d fv R e w') (hD : Dsk w d fv D) (hR : R.2.1 = some g) (hd : N ≤ d) (hN : ∀ k, fv.ownBlock = some k → N ≤ k) :
  ∃ s fv' gs gl, e = .returned (.tuple #[.pointer (some ⟨s, 0, none⟩), .int .i64 0]) ∧ StM w' N s d fv' gs gl R.1 g ∧ ∀ s0, Kp N s0 d s fv fv' w w' := by
 obtain ⟨fv', h1, h2, h3, h4⟩ := h
 rw [hR] at h4
 obtain ⟨s, gs, gl, rfl, hc, h5, h6, h7, h8⟩ := h4
 have hdl := hD.lt
 refine ⟨s, fv', gs, gl, by rw [hc], ⟨h5, h1, h6.ho, fun k hk => ?_, hd, by omega, fun k e => ?_⟩, fun s0 => ⟨fun E sv lv x hx => ?_, h2.mono (fun k _ e => ?_), fun b cs t q k1 k2 k3 hb => h2.blk hb (fun e => ?_)⟩⟩
 ·
  rcases hk with e | e
  ·
   exact ⟨fun e2 => by have h8 := h6.1.2 k e; omega, own_apart h6.1.1 e h5 (by decide), h7 k e⟩
  ·
   exact ⟨fun e2 => by have h8 := h6.2.2.2 k e; omega, own_apart h6.2.1 e h5 (by decide), own_own h6.2.1 h1.2.1 (by decide) e⟩
 ·
  rcases h3 k e with e | e
  ·
   exact hN k e
  ·
   omega
 ·
  have h4' := hx.cap.mod h2 (fun k hk e => by
   rcases e with e | e
   ·
    exact hk.1.1.1 e
   ·
    exact hk.1.1.2.2 e)
  refine h4'.mono (fun k hk => ⟨⟨hk.1.1.1, by have := hk.2; omega, fun e => ?_⟩, hk.1.2⟩)
  rcases h3 k e with e | e
  ·
   exact hk.1.1.2.2 e
  ·
   have := hk.2; omega
 ·
  rcases e with e | e
  ·
   omega
  ·
   exact hN k e
 ·
  rcases e with e | e
  ·
   exact hD.ne hb k1 e
  ·
   exact own_apart hD.2.1 e hb k3 rfl
theorem OpenO.no' {w w' : World} {N d : Nat} {fv : Value} {R : ADisk × Option AHard × Int} {e : Ending} (h : OpenO w d fv R e w') (hR : R.2.1 = none) (hd : N ≤ d) (hN : ∀ k, fv.ownBlock = some k → N ≤ k) :
  ∃ fv', e = .returned (.tuple #[.pointer none, .int .i64 R.2.2]) ∧ R.2.2 ≠ 0 ∧ Dsk w' d fv' R.1 ∧ Mod (fun k => N ≤ k) w w' ∧ (∀ k, fv'.ownBlock = some k → fv.ownBlock = some k ∨ w.heap.size ≤ k) := by
 obtain ⟨fv', h1, h2, h3, h4⟩ := h
 rw [hR] at h4
 exact ⟨fv', h4.1, h4.2, h1, h2.mono (fun k _ e => by rcases e with e | e; omega; exact hN k e), h3⟩
theorem DM.of {w w' : World} {d : Nat} {fv : Value} {D' : ADisk} (h : Dsk w' d fv D') (hm : Mod (fun k => k = d) w w') : DM w d fv D' w' := ⟨fv, h, hm.mono (fun _ _ e => .inl e), fun _ e => .inl e⟩

/-! The plain side: what is on a disk without trips. -/
structure StP (D : ADisk) (g : AHard) (room : Int) (m : Nat) : Prop where
 wh : Whole D
 kp : Kept D.file g
 hd : Held g
 rm : D.room = room
 lg : g.log.length ≤ m
theorem StP.save {D : ADisk} {g x : AHard} {room : Int} {m k : Nat} (h : StP D g room m) (h1 : ∀ y ∈ x.log, y.ok) (h2 : x.conf.ok) (h3 : x.log.length ≤ k) (hm : m ≤ k) (hk : k ≤ 1000000) :
  StP (saveP D g x).1 (saveP D g x).2.1 room k ∧ (((saveP D g x).2.2 = 0 ∧ (saveP D g x).2.1 = x) ∨ ((saveP D g x).2.1 = g ∧ (((saveP D g x).2.2 = 6 ∧ (checkH x = false ∨ x.term < g.term ∨ x.base < g.base)) ∨ (saveP D g x).2.2 = 2 ∨ (saveP D g x).2.2 = 5))) := by
 rcases save_whole h.wh h.kp h.hd h1 h2 (by omega) with ⟨a, b, c⟩ | ⟨a, b, c, d, e, f⟩
 ·
  rw [a, b]
  exact ⟨⟨h.wh, h.kp, h.hd, h.rm, by have := h.lg; omega⟩, .inr ⟨rfl, c⟩⟩
 ·
  exact ⟨⟨c, by rw [a]; exact d, by rw [a]; exact e, by rw [f]; exact h.rm, by rw [a]; exact h3⟩, .inl ⟨b, a⟩⟩
def beginH (c : AConf) : AHard := ⟨0, -1, 0, 0, c, [], []⟩
theorem begin_held {c : AConf} (h : confOk c = true) (hc : c.ok) : Held (beginH c) := by
 refine ⟨⟨by simp [beginH], by simp [beginH], by simp [beginH], by simp [beginH], by simp [beginH], by simp [beginH], by simp [beginH], by simp [beginH], rfl, h, by simp [beginH], .inr rfl, rfl⟩, by simp [beginH], hc, by simp [beginH]⟩
theorem begin_mem (w : World) (T : Nat → Prop) (c : AConf) : HardM w T (.slice none 0 0) (.slice none 0 0) (beginH c) := ⟨Sl.nil _ _ _, Sl.nil _ _ _, by simp [beginH]⟩
theorem new_whole (room : Int) : Whole (ADisk.new room) := ⟨rfl, rfl, rfl⟩
end Go.Proofs.YtjhnlncgmejkcaaGreat
namespace Go.Proofs.YtjhnlncgmejkcaaGreat
set_option linter.unusedSimpArgs false

def wkC : AConf := ⟨1, 0, 0, 0⟩
def wkH : AHard := { beginH wkC with term := 1, vote := 0 }
def wkD : ADisk := (openP (ADisk.new 65536) (beginH wkC)).1
set_option maxRecDepth 100000 in
theorem wk_open : (openP (ADisk.new 65536) (beginH wkC)).2.2 = 0 := by decide +kernel
set_option maxRecDepth 100000 in
theorem wk_save : (saveP wkD (beginH wkC) wkH).2.2 = 0 := by decide +kernel
theorem wk_conf : confOk wkC = true := by decide +kernel
theorem wk_cok : wkC.ok := by unfold wkC AConf.ok I64; simp
theorem wk_first : (openP (ADisk.new 65536) (beginH wkC)).2.1 = some (beginH wkC) ∧ StP wkD (beginH wkC) 65536 0 := by
 rcases open_first (new_whole 65536) (begin_held wk_conf wk_cok) rfl with (h | h) | ⟨h1, h2, h3, h4, h5⟩
 ·
  have := wk_open; rw [h] at this; cases this
 ·
  have := wk_open; rw [h] at this; cases this
 ·
  exact ⟨h1, ⟨h3, h4, begin_held wk_conf wk_cok, h5, by simp [beginH]⟩⟩
def wkE : ADisk := (saveP wkD (beginH wkC) wkH).1
theorem wk_second : (saveP wkD (beginH wkC) wkH).2.1 = wkH ∧ StP wkE wkH 65536 0 := by
 have h := wk_first.2.save (x := wkH) (k := 0) (by simp [wkH, beginH]) wk_cok (by simp [wkH, beginH]) (by omega) (by omega)
 have h0 := wk_save
 rcases h.2 with ⟨h1, h2⟩ | ⟨h1, h2⟩
 ·
  exact ⟨h2, by have h3 := h.1; rw [h2] at h3; exact h3⟩
 ·
  rcases h2 with h2 | h2 | h2
  ·
   omega
  ·
   omega
  ·
   omega
/-- Behind a crash and a start, opened once more. -/
theorem StP.again {D : ADisk} {g first : AHard} {room : Int} {m : Nat} (h : StP D g room m) (hok : D.ok) (hc : checkH first = true) (k : Int) : openP (D.crash k).start first = (D, some g, 0) := by
 have h1 := crash_whole h.wh.sync h.wh.on k
 have h2 : ({ D with trip := 0 } : ADisk) = D := by
  have := h.wh.trip
  obtain ⟨a, b, c, d, e, f⟩ := D
  simp only at this
  subst this
  rfl
 rw [h1, h2]
 exact open_whole h.wh h.kp hok hc
end Go.Proofs.YtjhnlncgmejkcaaGreat
namespace Go.Proofs.YtjhnlncgmejkcaaGreat
set_option linter.unusedSimpArgs false
open Go.RowKit

/-- The entry of an index. -/
def atE (h : AHard) (i : Int) : Option AEntry := if i ≤ h.base ∨ h.base + h.log.length < i then none else h.log[(i - h.base - 1).toNat]?
def termE (h : AHard) (i : Int) : Int := if i = h.base then h.baseTerm else match atE h i with
 | none => -1
 | some x => x.term
theorem ze_one : ∀ v ∈ ([.int .i64 0, .int .i64 0, .int .i64 0, .int .i64 0, .int .i64 0, .string ⟨#[]⟩, .int .i64 0, .float .f64 0, .string ⟨#[]⟩, .int .i64 0, .float .f64 0, .string ⟨#[]⟩, .int .i64 0, .int .i64 0, .int .i64 0, .int .i64 0] : List Value), v.oneCell' = true := by
 intro u hu; simp only [List.mem_cons, List.not_mem_nil, or_false] at hu; rcases hu with rfl | rfl | rfl | rfl | rfl | rfl | rfl | rfl | rfl | rfl | rfl | rfl | rfl | rfl | rfl | rfl <;> rfl
set_option maxRecDepth 100000 in
set_option maxHeartbeats 2000000 in
theorem k_twinHard (w : World) (T : Nat → Prop) (h : AHard) (sv lv : Value) (hv : HardM w T sv lv h) (hl : h.log.length ≤ 1000000) (hs : h.snap.length ≤ 1000000) :
  Calls Tryz.prog 44 #[.agg #[.int .i64 h.term, .int .i64 h.vote, .int .i64 h.base, .int .i64 h.baseTerm, .int .i64 h.conf.full, .int .i64 h.conf.wit, .int .i64 h.conf.learn, .int .i64 h.conf.learnWit, sv, lv]] w fun e w' => ∃ sv' lv', e = .returned (.agg #[.int .i64 h.term, .int .i64 h.vote, .int .i64 h.base, .int .i64 h.baseTerm, .int .i64 h.conf.full, .int .i64 h.conf.wit, .int .i64 h.conf.learn, .int .i64 h.conf.learnWit, sv', lv']) ∧ NewH w w' sv' lv' h ∧ Ext w w' := by
 obtain ⟨As, cs, Al, cl, rfl, rfl⟩ := hv.forms
 obtain ⟨sl, hsl⟩ : ∃ n, h.snap.length = n := ⟨_, rfl⟩
 obtain ⟨ll, hll⟩ : ∃ n, h.log.length = n := ⟨_, rfl⟩
 obtain ⟨W, hW⟩ : ∃ W, W = (w.alloc (.cells #[.int .i64 h.term, .int .i64 h.vote, .int .i64 h.base, .int .i64 h.baseTerm, .int .i64 h.conf.full, .int .i64 h.conf.wit, .int .i64 h.conf.learn, .int .i64 h.conf.learnWit, .slice As h.snap.length cs, .slice Al h.log.length cl] 34)).alloc (.cells #[.int .i64 0, .int .i64 0, .int .i64 0, .int .i64 0, .int .i64 0, .int .i64 0, .int .i64 0, .int .i64 0, .slice none 0 0, .slice none 0 0] 34) := ⟨_, rfl⟩
 obtain ⟨hA, hB, hsz⟩ := two_new w (.cells #[.int .i64 h.term, .int .i64 h.vote, .int .i64 h.base, .int .i64 h.baseTerm, .int .i64 h.conf.full, .int .i64 h.conf.wit, .int .i64 h.conf.learn, .int .i64 h.conf.learnWit, .slice As h.snap.length cs, .slice Al h.log.length cl] 34) (.cells #[.int .i64 0, .int .i64 0, .int .i64 0, .int .i64 0, .int .i64 0, .int .i64 0, .int .i64 0, .int .i64 0, .slice none 0 0, .slice none 0 0] 34)
 obtain ⟨b, hb⟩ : ∃ b, w.heap.size = b := ⟨_, rfl⟩
 rw [← hW, hb] at hA hB
 rw [← hW, hb] at hsz
 have hE : Ext w W := by rw [hW]; exact ((Mod.refl _ w).alloc _).alloc _
 have hvW := hv.mod hE (fun _ _ => id)
 rw [hsl, hll] at hA hW hvW ⊢
 have hv0 := hv
 have Hsl := Lib.hid hsl
 have Hll := Lib.hid hll
 have HW := Lib.hid hW
 have HA := Lib.hid hA
 have HB := Lib.hid hB
 have Hb := Lib.hid hb
 have HE := Lib.hid hE
 have HvW := Lib.hid hvW
 have hld := load_row (P := Tryz.prog) (o := 0) (cs := h.cells (.slice As sl cs) (.slice Al ll cl)) str_hard hA rfl (fun j u hu => by rw [Nat.zero_add]; exact hu)
 have hone : ∀ v ∈ h.cells (.slice As sl cs) (.slice Al ll cl), v.oneCell' = true := by
  intro v hv; simp only [List.mem_cons, List.not_mem_nil, or_false] at hv; rcases hv with rfl | rfl | rfl | rfl | rfl | rfl | rfl | rfl | rfl | rfl <;> rfl
 obtain ⟨q, hq⟩ : ∃ q, W.heap.size = q := ⟨_, rfl⟩
 have hz : (W.alloc (.cells #[.int .i64 0, .int .i64 0, .int .i64 0, .int .i64 0, .int .i64 0, .int .i64 0, .int .i64 0, .int .i64 0, .slice none 0 0, .slice none 0 0] 34)).heap[q]? = some (.cells #[.int .i64 0, .int .i64 0, .int .i64 0, .int .i64 0, .int .i64 0, .int .i64 0, .int .i64 0, .int .i64 0, .slice none 0 0, .slice none 0 0] 34 (0, 0)) := by rw [← hq]; exact heap_alloc_new W _
 have Hq := Lib.hid hq
 have Hqb : Hid (q = b + 2) := Lib.hid (by rw [← hq, hsz])
 clear hW hA hB hb hE hvW hsl hll hsz hq hv
 have HV0 := Lib.hid hv0
 clear hv0
 go_enter Tryz.func44, Tryz.ntmps44
 go_wp2_with (first | (rw [← HW.out, Hb.out]; refine wpList_ld rfl 34 _ rfl _ _ rfl hld ?_) | (rw [Hq.out]; refine wpList_stR rfl 34 _ _ rfl 10 q 0 (h.cells (.slice As sl cs) (.slice Al ll cl)) rfl rfl str_hard _ [.int .i64 0, .int .i64 0, .int .i64 0, .int .i64 0, .int .i64 0, .int .i64 0, .int .i64 0, .int .i64 0, .slice none 0 0, .slice none 0 0] (h.cells (.slice As sl cs) (.slice Al ll cl)) hz rfl (by simp) hone rfl ?_))
 intro w1 hb1 hm1 hs1
 have hX1 : Ext W w1 := ((Mod.refl (fun _ => False) W).alloc (.cells #[.int .i64 0, .int .i64 0, .int .i64 0, .int .i64 0, .int .i64 0, .int .i64 0, .int .i64 0, .int .i64 0, .slice none 0 0, .slice none 0 0] 34)).trans hm1 (fun k hk e => by have := Hq.out; omega)
 have HA1 := Lib.hid (hX1.blk HA.out id)
 have HB1 := Lib.hid (hX1.blk HB.out id)
 have HQ1 := Lib.hid hb1
 have HX1 := Lib.hid (HE.out.ext hX1)
 have HW1 := Lib.hid hX1
 have Hv1 := Lib.hid (HvW.out.mod hX1 (fun _ _ => id))
 have c8 : w1.cell? ⟨b, 8, none⟩ = some (.slice As sl cs) := blk_cell (cs := [.int .i64 h.term, .int .i64 h.vote, .int .i64 h.base, .int .i64 h.baseTerm, .int .i64 h.conf.full, .int .i64 h.conf.wit, .int .i64 h.conf.learn, .int .i64 h.conf.learnWit, .slice As sl cs, .slice Al ll cl]) HA1.out rfl
 clear hld hz hm1 hs1 hX1 hb1
 go_wp2_with fail
 refine (k_twin w1 T _ h.snap (by have h1 := Hv1.out.1; exact h1) (by omega)).mono ?_
 rintro e w2 ⟨v2, rfl, hN2, hX2⟩
 obtain ⟨A2, c2, rfl⟩ := own_form hN2.1
 rw [Hsl.out]
 have HN2 : Hid (NewB w w2 (.slice A2 sl c2) h.snap) := Lib.hid (by have h1 := hN2.up HX1.out; rw [Hsl.out] at h1; exact h1)
 have hR2 := hX2.blk HQ1.out id
 have HX2 := Lib.hid (HX1.out.ext hX2)
 have HA2 := Lib.hid (hX2.blk HA1.out id)
 have HB2 := Lib.hid (hX2.blk HB1.out id)
 have Hv2 := Lib.hid (Hv1.out.mod hX2 (fun _ _ => id))
 have f8 : w2.frozen? ⟨q, 8, none⟩ = false := blk_free 8 hR2
 have d8 : w2.cell? ⟨q, 8, none⟩ = some (.slice As sl cs) := blk_cell (cs := [.int .i64 h.term, .int .i64 h.vote, .int .i64 h.base, .int .i64 h.baseTerm, .int .i64 h.conf.full, .int .i64 h.conf.wit, .int .i64 h.conf.learn, .int .i64 h.conf.learnWit, .slice As sl cs, .slice Al ll cl]) hR2 rfl
 obtain ⟨w3, hw3⟩ : ∃ w3, w2.setCell ⟨q, 8, none⟩ (.slice A2 sl c2) = w3 := ⟨_, rfl⟩
 have HQ3 : Hid (w3.heap[q]? = some (.cells #[.int .i64 h.term, .int .i64 h.vote, .int .i64 h.base, .int .i64 h.baseTerm, .int .i64 h.conf.full, .int .i64 h.conf.wit, .int .i64 h.conf.learn, .int .i64 h.conf.learnWit, .slice A2 sl c2, .slice Al ll cl] 34 (0, 0))) := Lib.hid (by rw [← hw3]; simp [World.setCell, Array.getElem?_modify, hR2])
 have hM3 : Mod (fun k => k = q) w2 w3 := by rw [← hw3]; exact mod_same (Mod.refl _ w2) _ _
 have hqw : w.heap.size ≤ q := by rw [Hqb.out, Hb.out]; omega
 have HX3 : Hid (Ext w w3) := Lib.hid (HX2.out.trans hM3 (fun k hk e => by omega))
 have HA3 := Lib.hid (hM3.blk HA2.out (by have := Hqb.out; omega))
 have HB3 := Lib.hid (hM3.blk HB2.out (by have := Hqb.out; omega))
 have HN3 : Hid (NewB w w3 (.slice A2 sl c2) h.snap) := Lib.hid ⟨own_mod HN2.out.1 hM3 (fun g hg => own_apart HN2.out.1 hg hR2 (by decide)), HN2.out.2⟩
 have Hv3 : Hid (Ents w3 (fun g => T g ∧ g < w.heap.size) (.slice Al ll cl) h.log) := Lib.hid (by
  have h1 := (HV0.out.cap).2
  rw [Hll.out] at h1
  have h2 := h1.mod HX3.out (fun _ _ => id)
  exact h2)
 have Hw3 := Lib.hid hw3
 have c9 : w2.cell? ⟨b, 9, none⟩ = some (.slice Al ll cl) := blk_cell (cs := [.int .i64 h.term, .int .i64 h.vote, .int .i64 h.base, .int .i64 h.baseTerm, .int .i64 h.conf.full, .int .i64 h.conf.wit, .int .i64 h.conf.learn, .int .i64 h.conf.learnWit, .slice As sl cs, .slice Al ll cl]) HA2.out rfl
 have n1 : ¬ b = q := by have := Hqb.out; omega
 have n2 : ¬ q = b := by have := Hqb.out; omega
 clear hw3 hM3 hR2 hN2 hX2 c8
 go_wp2_with fail
 rw [Hw3.out]
 refine (k_twinEntries w3 _ _ h.log Hv3.out hl).mono ?_
 rintro e w4 ⟨v4, rfl, hN4, hX4⟩
 obtain ⟨A4, c4, rfl⟩ := own_form hN4.1
 rw [Hll.out]
 have hN4' : NewE w w4 (.slice A4 ll c4) h.log := by have h1 := newE_up hN4 HX3.out.size; rw [Hll.out] at h1; exact h1
 have hN4b := HN3.out.ext hX4
 have hR4 := hX4.blk HQ3.out id
 have HX4 := Lib.hid (HX3.out.ext hX4)
 have HB4 := Lib.hid (hX4.blk HB3.out id)
 have f9 : w4.frozen? ⟨q, 9, none⟩ = false := blk_free 9 hR4
 have d9 : w4.cell? ⟨q, 9, none⟩ = some (.slice Al ll cl) := blk_cell (cs := [.int .i64 h.term, .int .i64 h.vote, .int .i64 h.base, .int .i64 h.baseTerm, .int .i64 h.conf.full, .int .i64 h.conf.wit, .int .i64 h.conf.learn, .int .i64 h.conf.learnWit, .slice A2 sl c2, .slice Al ll cl]) hR4 rfl
 obtain ⟨w5, hw5⟩ : ∃ w5, w4.setCell ⟨q, 9, none⟩ (.slice A4 ll c4) = w5 := ⟨_, rfl⟩
 have hQ5 : w5.heap[q]? = some (.cells #[.int .i64 h.term, .int .i64 h.vote, .int .i64 h.base, .int .i64 h.baseTerm, .int .i64 h.conf.full, .int .i64 h.conf.wit, .int .i64 h.conf.learn, .int .i64 h.conf.learnWit, .slice A2 sl c2, .slice A4 ll c4] 34 (0, 0)) := by rw [← hw5]; simp [World.setCell, Array.getElem?_modify, hR4]
 have hM5 : Mod (fun k => k = q) w4 w5 := by rw [← hw5]; exact mod_same (Mod.refl _ w4) _ _
 have HX5 : Hid (Ext w w5) := Lib.hid (HX4.out.trans hM5 (fun k hk e => by omega))
 have HB5 := Lib.hid (hM5.blk HB4.out (by have := Hqb.out; omega))
 have HN5 : Hid (NewH w w5 (.slice A2 sl c2) (.slice A4 ll c4) h) := Lib.hid (NewH.box ⟨hN4b, hN4'⟩ hR4 hM5 (by decide) (by decide))
 have hld := load_row (P := Tryz.prog) (o := 0) (cs := h.cells (.slice A2 sl c2) (.slice A4 ll c4)) str_hard hQ5 rfl (fun j u hu => by rw [Nat.zero_add]; exact hu)
 have hone5 := cells_one HN5.out
 have Hw5 := Lib.hid hw5
 clear hw5 hM5 hR4 hN4 hN4' hN4b hX4 hQ5 c9
 go_wp2_with (first | (rw [Hw5.out]; refine wpList_ld rfl 34 _ rfl _ _ rfl hld ?_) | (refine wpList_stR rfl 34 _ _ rfl 10 (b + 1) 0 (h.cells (.slice A2 sl c2) (.slice A4 ll c4)) rfl rfl str_hard _ [.int .i64 0, .int .i64 0, .int .i64 0, .int .i64 0, .int .i64 0, .int .i64 0, .int .i64 0, .int .i64 0, .slice none 0 0, .slice none 0 0] (h.cells (.slice A2 sl c2) (.slice A4 ll c4)) HB5.out rfl (by simp) hone5 rfl ?_))
 intro w6 hb6 hm6 hs6
 have HX6 := Lib.hid (HX5.out.trans hm6 (fun k hk e => by have := Hb.out; omega))
 have HN6 := Lib.hid (HN5.out.box HB5.out hm6 (by decide) (by decide))
 clear hm6 hs6 hld
 go_wp2_with fail
 exact bodyPost_ret (v := .agg #[.int .i64 h.term, .int .i64 h.vote, .int .i64 h.base, .int .i64 h.baseTerm, .int .i64 h.conf.full, .int .i64 h.conf.wit, .int .i64 h.conf.learn, .int .i64 h.conf.learnWit, .slice A2 sl c2, .slice A4 ll c4]) (results_cell_row rfl _ _ _ _ _ (0, 0) _ rfl hb6 Tryz.underlying34 rfl (by kernel_rfl)) rfl ⟨_, _, rfl, HN6.out, HX6.out⟩
end Go.Proofs.YtjhnlncgmejkcaaGreat
namespace Go.Proofs.YtjhnlncgmejkcaaGreat
set_option linter.unusedSimpArgs false

def forceC (upto : Int) : Int → AConf → List AEntry → AConf
 | _, c, [] => c
 | b, c, x :: l => forceC upto (b + 1) (if b + 1 ≤ upto ∧ x.kind = 2 then x.conf else c) l
def putL (log : List AEntry) : Nat → List AEntry → List AEntry
 | _, [] => log
 | p, x :: l => match log[p]? with
  | some y => if y.term = x.term then putL log (p + 1) l else log.take p ++ x :: l
  | none => log.take p ++ x :: l
def putP (h : AHard) (i : Int) (l : List AEntry) : Option AHard := if i < h.base ∨ lastI h < i ∨ rowB h.term (max (termE h i) 1) l = false then none else some { h with log := putL h.log (i - h.base).toNat l }
def compP (h : AHard) (i : Int) (b : List UInt8) : Option AHard := if i < h.base + 1 ∨ min (lastI h) 1099511627776 < i ∨ 16384 < b.length then none else some ⟨h.term, h.vote, i, termE h i, forceC i h.base h.conf h.log, b, h.log.drop (i - h.base).toNat⟩
/-- What uint(n) % m is. -/
def um (n : Int) (m : Nat) : Int := n % 18446744073709551616 % m
theorem um_lt (n : Int) {m : Nat} (h : 0 < m) : 0 ≤ um n m ∧ um n m < m := by
 unfold um
 exact ⟨Int.emod_nonneg _ (by omega), Int.emod_lt_of_pos _ (by omega)⟩
structure AAct where
 d : Int
 n : Int
 keep : Int
 h : AHard
 l : List AEntry
 b : List UInt8
def nextP (h : AHard) (a : AAct) : AHard :=
 if um a.d 9 = 0 then { h with term := if h.term < 1099511627776 then h.term + 1 + um a.n 2 else h.term, vote := um a.keep 8 - 1 }
 else if um a.d 9 = 1 ∨ um a.d 9 = 2 then (putP h (max (lastI h - um a.n 4) h.base) a.l).getD h
 else if um a.d 9 = 3 then (compP h (lastI h - um a.n 3) a.b).getD h
 else if um a.d 9 = 4 then a.h else h
theorem putL_len (log : List AEntry) : ∀ (l : List AEntry) (p : Nat), (putL log p l).length ≤ log.length + l.length
 | [], _ => by simp [putL]
 | x :: l, p => by
  rw [putL]
  have := putL_len log l (p + 1)
  have h2 : (log.take p).length ≤ log.length := by rw [List.length_take]; exact Nat.min_le_right _ _
  split
  ·
   split
   ·
    rw [List.length_cons]; omega
   ·
    rw [List.length_append, List.length_cons]; omega
  ·
   rw [List.length_append, List.length_cons]; omega
theorem putL_mem (log : List AEntry) : ∀ (l : List AEntry) (p : Nat) (y : AEntry), y ∈ putL log p l → y ∈ log ∨ y ∈ l
 | [], _, y, h => .inl h
 | x :: l, p, y, h => by
  rw [putL] at h
  have h2 : y ∈ log.take p ++ x :: l → y ∈ log ∨ y ∈ x :: l := fun h => by
   rcases List.mem_append.1 h with h | h
   ·
    exact .inl (List.mem_of_mem_take h)
   ·
    exact .inr h
  split at h
  ·
   split at h
   ·
    rcases putL_mem log l (p + 1) y h with h | h
    ·
     exact .inl h
    ·
     exact .inr (by simp [h])
   ·
    exact h2 h
  ·
   exact h2 h
/-- The term behind some entries. -/
def endT : Int → List AEntry → Int
 | t, [] => t
 | _, x :: l => endT x.term l
theorem row_app {T : Int} : ∀ (l m : List AEntry) (b : Int), rowB T b (l ++ m) = (rowB T b l && rowB T (endT b l) m)
 | [], m, b => by simp [rowB, endT]
 | x :: l, m, b => by
  rw [List.cons_append, rowB, rowB, row_app l m x.term, endT]
  simp only [Bool.and_assoc]
theorem endT_take {log : List AEntry} {y : AEntry} : ∀ {p : Nat} {b : Int} (_ : log[p]? = some y), endT b (log.take (p + 1)) = y.term := by
 induction log with
 | nil => intro p b h; simp at h
 | cons x l ih =>
  intro p b h
  rw [List.take_succ_cons, endT]
  cases p with
  | zero => simp at h; subst h; rw [List.take_zero, endT]
  | succ p => exact ih (by simpa using h)
theorem putL_row {T b0 : Int} {log : List AEntry} (h0 : rowB T b0 log = true) : ∀ (l : List AEntry) (p : Nat), p ≤ log.length → rowB T (endT b0 (log.take p)) l = true → rowB T b0 (putL log p l) = true
 | [], _, _, _ => h0
 | x :: l, p, hp, hl => by
  have h2 : rowB T b0 (log.take p ++ x :: l) = true := by rw [row_app, row_take p h0, hl]; rfl
  rw [putL]
  split
  ·
   rename_i y hy
   split
   ·
    rename_i e
    rw [rowB] at hl
    simp only [Bool.and_eq_true] at hl
    refine putL_row h0 l (p + 1) (List.getElem?_eq_some_iff.1 hy).1 ?_
    rw [endT_take hy, e]
    exact hl.2
   ·
    exact h2
  ·
   exact h2
theorem row_mem {T : Int} : ∀ {l : List AEntry} {b : Int}, rowB T b l = true → ∀ x ∈ l, b ≤ x.term ∧ x.term ≤ T
 | [], _, _, x, hx => by simp at hx
 | y :: l, b, h, x, hx => by
  rw [rowB] at h
  simp only [Bool.and_eq_true, decide_eq_true_eq] at h
  rcases List.mem_cons.1 hx with rfl | hx
  ·
   exact ⟨h.1.1.1, h.1.1.2⟩
  ·
   have := row_mem h.2 x hx
   omega
theorem row_drop {T : Int} {log : List AEntry} {b : Int} (h : rowB T b log = true) (n : Nat) : rowB T (endT b (log.take n)) (log.drop n) = true := by
 have := row_app (T := T) (log.take n) (log.drop n) b
 rw [List.take_append_drop, h] at this
 simp only [Bool.true_eq, Bool.and_eq_true] at this
 exact this.2
/-- The term of an index of the log. -/
theorem termE_end {h : AHard} (hr : Right h) {i : Int} (h0 : h.base ≤ i) (h1 : i ≤ lastI h) : max (termE h i) 1 = endT (max h.baseTerm 1) (h.log.take (i - h.base).toNat) ∧ 0 ≤ termE h i ∧ termE h i ≤ h.term ∧ (h.base < i → 1 ≤ termE h i) := by
 unfold lastI at h1
 unfold termE
 by_cases e : i = h.base
 ·
  rw [if_pos e, e, Int.sub_self]
  refine ⟨rfl, hr.bt0, hr.bt1, fun h => by omega⟩
 ·
  rw [if_neg e]
  unfold atE
  rw [if_neg (by omega)]
  obtain ⟨k, hk⟩ : ∃ k, (i - h.base - 1).toNat = k := ⟨_, rfl⟩
  have hk1 : (i - h.base).toNat = k + 1 := by omega
  have hkl : k < h.log.length := by omega
  rw [hk, hk1, List.getElem?_eq_getElem hkl]
  have hg : h.log[k]? = some h.log[k] := List.getElem?_eq_getElem hkl
  have hm := row_mem hr.r _ (List.getElem_mem hkl)
  rw [endT_take hg]
  simp only
  omega
theorem forceC_of {upto : Int} {P : AConf → Prop} : ∀ (l : List AEntry) (b : Int) (c : AConf), P c → (∀ x ∈ l, x.kind = 2 → P x.conf) → P (forceC upto b c l)
 | [], _, _, h, _ => h
 | x :: l, b, c, h, hl => by
  rw [forceC]
  refine forceC_of l (b + 1) _ ?_ (fun y hy => hl y (by simp [hy]))
  split
  ·
   rename_i h2
   exact hl x (by simp) h2.2
  ·
   exact h
theorem right_conf {x : AEntry} (h : rightE x = true) (hk : x.kind = 2) : confOk x.conf = true := by
 unfold rightE at h
 rw [hk, if_neg (by decide), if_neg (by decide), if_pos rfl] at h
 simp only [Bool.and_eq_true] at h
 exact h.2
theorem put_right {h x : AHard} {i : Int} {l : List AEntry} (hr : Right h) (hx : putP h i l = some x) : Right x ∧ x.term = h.term ∧ x.base = h.base ∧ x.vote = h.vote ∧ x.conf = h.conf ∧ x.snap = h.snap ∧ x.log = putL h.log (i - h.base).toNat l := by
 unfold putP at hx
 split at hx
 ·
  cases hx
 ·
  rename_i hn
  cases hx
  refine ⟨?_, rfl, rfl, rfl, rfl, rfl, rfl⟩
  have hi : h.base ≤ i ∧ i ≤ lastI h := by omega
  obtain ⟨h1, _⟩ := termE_end hr hi.1 hi.2
  obtain ⟨t0, t1, v0, v1, b0, b1, bt0, bt1, bb, c, s, bs, r⟩ := hr
  refine ⟨t0, t1, v0, v1, b0, b1, bt0, bt1, bb, c, s, bs, putL_row r l _ ?_ ?_⟩
  ·
   unfold lastI at hi; omega
  ·
   rw [← h1]
   rcases hc : rowB h.term (max (termE h i) 1) l with _ | _
   ·
    exact absurd (.inr (.inr hc)) hn
   ·
    rfl
theorem comp_right {h x : AHard} {i : Int} {b : List UInt8} (hr : Right h) (hx : compP h i b = some x) : Right x ∧ x.term = h.term ∧ h.base ≤ x.base ∧ x.snap = b ∧ x.log = h.log.drop (i - h.base).toNat ∧ x.conf = forceC i h.base h.conf h.log := by
 unfold compP at hx
 split at hx
 ·
  cases hx
 ·
  rename_i hn
  cases hx
  have hi : h.base ≤ i ∧ i ≤ lastI h ∧ h.base < i ∧ i ≤ 1099511627776 ∧ b.length ≤ 16384 := by omega
  obtain ⟨h1, h2, h3, h4⟩ := termE_end hr hi.1 hi.2.1
  have h4 := h4 hi.2.2.1
  refine ⟨?_, rfl, hi.1, rfl, rfl, rfl⟩
  have hd := row_drop hr.r (i - h.base).toNat
  obtain ⟨t0, t1, v0, v1, b0, b1, bt0, bt1, bb, c, s, bs, r⟩ := hr
  refine ⟨t0, t1, v0, v1, by simp only; omega, hi.2.2.2.1, h2, h3, ?_, ?_, hi.2.2.2.2, .inl (by simp only; omega), ?_⟩
  ·
   simp only
   rw [Bool.eq_iff_iff]
   simp only [beq_iff_eq]
   omega
  ·
   exact forceC_of (P := fun c => confOk c = true) _ _ _ c (fun x hx hk => right_conf (row_all r x hx) hk)
  ·
   simp only
   rw [h1]
   exact hd
theorem next_right {h : AHard} {a : AAct} (hr : Right h) (ht : h.term ≤ 1099511627774) (ha : um a.d 9 < 4) : Right (nextP h a) ∧ h.term ≤ (nextP h a).term ∧ (nextP h a).term ≤ h.term + 2 ∧ h.base ≤ (nextP h a).base := by
 have hself : Right h ∧ h.term ≤ h.term ∧ h.term ≤ h.term + 2 ∧ h.base ≤ h.base := ⟨hr, by omega, by omega, by omega⟩
 have h2 := um_lt a.n (m := 2) (by decide)
 have h8 := um_lt a.keep (m := 8) (by decide)
 unfold nextP
 split
 ·
  rw [if_pos (by omega)]
  refine ⟨hr.vote (by omega) (by omega) (by omega) (by omega), by simp only; omega, by simp only; omega, by simp only; omega⟩
 split
 ·
  rcases hp : putP h (max (lastI h - um a.n 4) h.base) a.l with _ | x
  ·
   exact hself
  ·
   obtain ⟨k1, k2, k3, _⟩ := put_right hr hp
   simp only [Option.getD_some]
   exact ⟨k1, by omega, by omega, by omega⟩
 split
 ·
  rcases hp : compP h (lastI h - um a.n 3) a.b with _ | x
  ·
   exact hself
  ·
   obtain ⟨k1, k2, k3, _⟩ := comp_right hr hp
   simp only [Option.getD_some]
   exact ⟨k1, by omega, by omega, by omega⟩
 ·
  rw [if_neg (by omega)]
  exact hself
/-- Sizes, and that all stays in the ints' bounds. -/
def Fit (h : AHard) : Prop := (∀ x ∈ h.log, x.ok) ∧ h.conf.ok
theorem next_fit {h : AHard} {a : AAct} (hf : Fit h) (ha : Fit a.h) (hl : ∀ x ∈ a.l, x.ok) : Fit (nextP h a) := by
 unfold nextP
 split
 ·
  exact hf
 split
 ·
  unfold putP
  split
  ·
   exact hf
  ·
   refine ⟨fun x hx => ?_, hf.2⟩
   rcases putL_mem _ _ _ _ hx with h | h
   ·
    exact hf.1 x h
   ·
    exact hl x h
 split
 ·
  unfold compP
  split
  ·
   exact hf
  ·
   exact ⟨fun x hx => hf.1 x (List.mem_of_mem_drop hx), forceC_of (P := AConf.ok) _ _ _ hf.2 (fun x hx _ => (hf.1 x hx).2.2.2)⟩
 split
 ·
  exact ha
 ·
  exact hf
theorem next_len (h : AHard) (a : AAct) : (nextP h a).log.length ≤ max (h.log.length + a.l.length) a.h.log.length ∧ (nextP h a).snap.length ≤ max (max h.snap.length a.h.snap.length) a.b.length := by
 have hself : h.log.length ≤ max (h.log.length + a.l.length) a.h.log.length ∧ h.snap.length ≤ max (max h.snap.length a.h.snap.length) a.b.length := by omega
 unfold nextP
 split
 ·
  exact hself
 split
 ·
  unfold putP
  split
  ·
   exact hself
  ·
   have := putL_len h.log a.l ((max (lastI h - um a.n 4) h.base) - h.base).toNat
   refine ⟨?_, hself.2⟩
   simp only [Option.getD_some]
   omega
 split
 ·
  unfold compP
  split
  ·
   exact hself
  ·
   simp only [Option.getD_some, List.length_drop]
   omega
 split
 ·
  omega
 ·
  exact hself
end Go.Proofs.YtjhnlncgmejkcaaGreat
