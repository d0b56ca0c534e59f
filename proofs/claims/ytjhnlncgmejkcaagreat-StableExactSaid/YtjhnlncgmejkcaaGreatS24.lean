/-
  A store, its disk and what it has, in memory of their own: what Open, Save and all else leave of that. No program is walked here. Conditions: as each theorem na
-/
import Derived.Test.YtjhnlncgmejkcaaGreatS23
set_option maxRecDepth 100000
set_option maxHeartbeats 2000000
namespace Go.Proofs.YtjhnlncgmejkcaaGreat
set_option linter.unusedSimpArgs false
open Go.RowKit
def ze3 (s d : Nat) (fv : Value) (k : Nat) : Prop := k ≠ d ∧ k ≠ s ∧ fv.ownBlock ≠ some k
def ze4 (w : World) (gs gl : Value) (g : zC) : Prop := w.ownsRow 0 5 1 gs g.snap.length (g.snap.map B) ∧ w.ownsRow 0 56 16 gl g.log.length (g.log.flatMap zI.cells) ∧ ∀ x ∈ g.log, x.ok
theorem jP.ho {w0 w : World} {gs gl : Value} {g : zC} (h : jP w0 w gs gl g) : ze4 w gs gl g := ⟨h.1.1, h.2.1, h.2.2.1⟩
theorem ze4.mod {w w' : World} {S : Nat → Prop} {gs gl : Value} {g : zC} (h : ze4 w gs gl g) (hm : Mod S w w') (h1 : ∀ k, gs.ownBlock = some k ∨ gl.ownBlock = some k → ¬ S k) : ze4 w' gs gl g :=
 ⟨zU h.1 hm (fun k e => h1 k (.inl e)), zU h.2.1 hm (fun k e => h1 k (.inr e)), h.2.2⟩
structure StM (w : World) (N s d : Nat) (fv gs gl : Value) (D : zJ) (g : zC) : Prop where
 st : StB w s d g gs gl
 dk : Dsk w d fv D
 ow : ze4 w gs gl g
 oa : ∀ k, gs.ownBlock = some k ∨ gl.ownBlock = some k → ze3 s d fv k
 nd : N ≤ d
 ns : N ≤ s
 nf : ∀ k, fv.ownBlock = some k → N ≤ k
theorem zY.mono {w : World} {T U : Nat → Prop} {sv lv : Value} {h : zC} (k : zY w T sv lv h) (hT : ∀ g, T g → U g) : zY w U sv lv h := ⟨k.1.mono hT, k.2.1.mono hT, k.2.2⟩
theorem ze4.mem {w : World} {gs gl : Value} {g : zC} (h : ze4 w gs gl g) : zY w (fun k => gs.ownBlock = some k ∨ gl.ownBlock = some k) gs gl g := ⟨Sl.of_own h.1 (fun _ e => .inl e), Sl.of_own h.2.1 (fun _ e => .inr e), h.2.2⟩
structure Kp (N s d s' : Nat) (fv fv' : Value) (w w' : World) : Prop where
 hm : ∀ (E : Nat → Prop) (sv lv : Value) (x : zC), zY w (fun k => ze3 s d fv k ∧ E k) sv lv x → zY w' (fun k => ze3 s' d fv' k ∧ E k) sv lv x
 md : Mod (fun k => N ≤ k) w w'
 bx : ∀ (b : Nat) (cs : Array Value) (t : TypeId) (q : Nat × Nat), t ≠ 85 → t ≠ 88 → 5 ≠ t → w.heap[b]? = some (.cells cs t q) → w'.heap[b]? = some (.cells cs t q)
theorem zjM {w w' : World} {s d : Nat} {g : zC} {fv gs gl : Value} {D : zJ} (hS : StB w s d g gs gl) (hD : Dsk w d fv D) (hM : Mod (fun k => k = d ∨ fv.ownBlock = some k ∨ k = s) w w') (b : Nat) (cs : Array Value) (t : TypeId) (q : Nat × Nat) (h1 : t ≠ 85) (h2 : t ≠ 88) (h3 : 5 ≠ t) (h : w.heap[b]? = some (.cells cs t q)) : w'.heap[b]? = some (.cells cs t q) :=
 hM.blk h (fun e => by
  rcases e with e | e | e
  · exact hD.ne h h1 e
  · exact zT hD.2.1 e h h3 rfl
  subst e
  unfold StB at hS
  rw [hS] at h
  injection h with h
  injection h with _ h
  exact h2 h.symm)
section
variable {w w' : World} {N s d : Nat} {fv gs gl : Value} {D : zJ} {g : zC}
theorem StM.hm (h : StM w N s d fv gs gl D g) : zY w (ze3 s d fv) gs gl g := h.ow.mem.mono h.oa
theorem StM.ext (h : StM w N s d fv gs gl D g) (hE : Ext w w') : StM w' N s d fv gs gl D g := ⟨hE.blk h.st id, h.dk.ext hE, h.ow.mod hE (fun _ _ => id), h.oa, h.nd, h.ns, h.nf⟩
theorem StM.box (h : StM w N s d fv gs gl D g) {b : Nat} {cs : Array Value} {t : TypeId} {q : Nat × Nat} (hb : w.heap[b]? = some (.cells cs t q)) (hm : Mod (fun k => k = b) w w') (h1 : t ≠ 85) (h2 : t ≠ 88) (h3 : 5 ≠ t) (h4 : 56 ≠ t) : StM w' N s d fv gs gl D g :=
 ⟨hm.blk h.st (fun e => by
  subst e
  have hS := h.st
  unfold StB at hS
  rw [hS] at hb
  injection hb with hb
  injection hb with _ hb
  exact h2 hb.symm), h.dk.mod hm (fun e => h.dk.ne hb h1 e.symm) (fun k hk e => zT h.dk.2.1 hk hb h3 e), h.ow.mod hm (fun k hk e => by
   rcases hk with hk | hk
   · exact zT h.ow.1 hk hb h3 e
   exact zT h.ow.2.1 hk hb h4 e), h.oa, h.nd, h.ns, h.nf⟩
theorem StM.new (h : StM w N s d fv gs gl D g) {k : Nat} (hk : w.heap.size ≤ k) : ze3 s d fv k := by
 have h1 := h.dk.lt
 have h2 : s < w.heap.size := (Array.getElem?_eq_some_iff.1 h.st).1
 refine ⟨by omega, by omega, fun e => ?_⟩
 have h3 := zaR h.dk.2.1 e
 omega
theorem StM.dm (h : StM w N s d fv gs gl D g) {D' : zJ} (hM : DM w d fv D' w') : ∃ fv', StM w' N s d fv' gs gl D' g ∧ Kp N s d s fv fv' w w' := by
 obtain ⟨fv', h1, h2, h3⟩ := hM
 have hk : ∀ (E : Nat → Prop) (sv lv : Value) (x : zC), zY w (fun k => ze3 s d fv k ∧ E k) sv lv x → zY w' (fun k => ze3 s d fv' k ∧ E k) sv lv x := fun E sv lv x hx => by
  have h4 := hx.cap.mod h2 (fun k hk e => by
   rcases e with e | e
   · exact hk.1.1.1 e
   exact hk.1.1.2.2 e)
  refine h4.mono (fun k hk => ⟨⟨hk.1.1.1, hk.1.1.2.1, fun e => ?_⟩, hk.1.2⟩)
  rcases h3 k e with e | e
  · exact hk.1.1.2.2 e
  have := hk.2; omega
 refine ⟨fv', ⟨h.st.dm h.dk h2, h1, h.ow.mod h2 (fun k hk e => ?_), fun k hk => ?_, h.nd, h.ns, fun k e => ?_⟩, hk, h2.mono (fun k _ e => ?_), zjM h.st h.dk (h2.mono (fun k _ e => by rcases e with e | e; exact .inl e; exact .inr (.inl e)))⟩
 ·
  rcases e with e | e
  · exact (h.oa k hk).1 e
  exact (h.oa k hk).2.2 e
 ·
  refine ⟨(h.oa k hk).1, (h.oa k hk).2.1, fun e => ?_⟩
  rcases h3 k e with e | e
  · exact (h.oa k hk).2.2 e
  have : k < w.heap.size := by
   rcases hk with hk | hk
   · exact zaR h.ow.1 hk
   exact zaR h.ow.2.1 hk
  omega
 ·
  rcases h3 k e with e | e
  · exact h.nf k e
  have := h.dk.lt; have := h.nd; omega
 rcases e with e | e
 · rw [e]; exact h.nd
 exact h.nf k e
theorem StM.save (h : StM w N s d fv gs gl D g) {x : zC} {e : Ending} (hS : ziH w s d fv gs gl (yQ D g x) e w') :
  e = .returned (.int .i64 (yQ D g x).2.2) ∧ ∃ fv' gs' gl', StM w' N s d fv' gs' gl' (yQ D g x).1 (yQ D g x).2.1 ∧ Kp N s d s fv fv' w w' := by
 obtain ⟨he, fv', gs', gl', h1, h2, h3, h4, h5⟩ := hS
 have hk : ∀ (E : Nat → Prop) (sv lv : Value) (x : zC), zY w (fun k => ze3 s d fv k ∧ E k) sv lv x → zY w' (fun k => ze3 s d fv' k ∧ E k) sv lv x := fun E sv lv x hx => by
  have h4' := hx.cap.mod h3 (fun k hk e => by
   rcases e with e | e | e
   · exact hk.1.1.1 e
   · exact hk.1.1.2.2 e
   exact hk.1.1.2.1 e)
  refine h4'.mono (fun k hk => ⟨⟨hk.1.1.1, hk.1.1.2.1, fun e => ?_⟩, hk.1.2⟩)
  rcases h4 k e with e | e
  · exact hk.1.1.2.2 e
  have := hk.2; omega
 have hO : ze4 w' gs' gl' (yQ D g x).2.1 ∧ ∀ k, gs'.ownBlock = some k ∨ gl'.ownBlock = some k → ze3 s d fv' k := by
  rcases h5 with ⟨rfl, rfl, h6⟩ | ⟨h6, h7⟩
  ·
   have hg : (yQ D g x).2.1 = g := by
    revert h6
    unfold yQ
    split
    · intro _; rfl
    split
    · intro _; rfl
    intro h6
    simp only at h6 ⊢
    rw [if_neg h6]
   rw [hg]
   refine ⟨h.ow.mod h3 (fun k hk e => ?_), fun k hk => ⟨(h.oa k hk).1, (h.oa k hk).2.1, fun e => ?_⟩⟩
   ·
    rcases e with e | e | e
    · exact (h.oa k hk).1 e
    · exact (h.oa k hk).2.2 e
    exact (h.oa k hk).2.1 e
   rcases h4 k e with e | e
   · exact (h.oa k hk).2.2 e
   have : k < w.heap.size := by
    rcases hk with hk | hk
    · exact zaR h.ow.1 hk
    exact zaR h.ow.2.1 hk
   omega
  refine ⟨h6.ho, fun k hk => ?_⟩
  rcases hk with e | e
  · exact ⟨fun e2 => by have h8 := h6.1.2 k e; have := h.dk.lt; omega, zT h6.1.1 e h2 (by decide), h7 k e⟩
  exact ⟨fun e2 => by have h8 := h6.2.2.2 k e; have := h.dk.lt; omega, zT h6.2.1 e h2 (by decide), zbV h6.2.1 h1.2.1 (by decide) e⟩
 refine ⟨he, fv', gs', gl', ⟨h2, h1, hO.1, hO.2, h.nd, h.ns, fun k e => ?_⟩, hk, h3.mono (fun k _ e => ?_), zjM h.st h.dk h3⟩
 ·
  rcases h4 k e with e | e
  · exact h.nf k e
  have := h.dk.lt; have := h.nd; omega
 rcases e with e | e | e
 · rw [e]; exact h.nd
 · exact h.nf k e
 rw [e]; exact h.ns
end
theorem hard_box {w w' : World} {T : Nat → Prop} {sv lv : Value} {h : zC} {b : Nat} (hh : zY w T sv lv h) (hm : Mod (fun k => k = b) w w') (hT : ∀ k, T k → k ≠ b) : zY w' T sv lv h := hh.mod hm (fun k hk e => hT k hk e)
theorem zgX.yes {w w' : World} {N d : Nat} {fv : Value} {D : zJ} {g : zC} {R : zJ × Option zC × Int} {e : Ending} (h : zgX w d fv R e w') (hD : Dsk w d fv D) (hR : R.2.1 = some g) (hd : N ≤ d) (hN : ∀ k, fv.ownBlock = some k → N ≤ k) :
  ∃ s fv' gs gl, e = .returned (.tuple #[.pointer (some ⟨s, 0, none⟩), .int .i64 0]) ∧ StM w' N s d fv' gs gl R.1 g ∧ ∀ s0, Kp N s0 d s fv fv' w w' := by
 obtain ⟨fv', h1, h2, h3, h4⟩ := h
 rw [hR] at h4
 obtain ⟨s, gs, gl, rfl, hc, h5, h6, h7, h8⟩ := h4
 have hdl := hD.lt
 refine ⟨s, fv', gs, gl, by rw [hc], ⟨h5, h1, h6.ho, fun k hk => ?_, hd, by omega, fun k e => ?_⟩, fun s0 => ⟨fun E sv lv x hx => ?_, h2.mono (fun k _ e => ?_), fun b cs t q k1 k2 k3 hb => h2.blk hb (fun e => ?_)⟩⟩
 ·
  rcases hk with e | e
  · exact ⟨fun e2 => by have h8 := h6.1.2 k e; omega, zT h6.1.1 e h5 (by decide), h7 k e⟩
  exact ⟨fun e2 => by have h8 := h6.2.2.2 k e; omega, zT h6.2.1 e h5 (by decide), zbV h6.2.1 h1.2.1 (by decide) e⟩
 ·
  rcases h3 k e with e | e
  · exact hN k e
  omega
 ·
  have h4' := hx.cap.mod h2 (fun k hk e => by
   rcases e with e | e
   · exact hk.1.1.1 e
   exact hk.1.1.2.2 e)
  refine h4'.mono (fun k hk => ⟨⟨hk.1.1.1, by have := hk.2; omega, fun e => ?_⟩, hk.1.2⟩)
  rcases h3 k e with e | e
  · exact hk.1.1.2.2 e
  have := hk.2; omega
 ·
  rcases e with e | e
  · omega
  exact hN k e
 rcases e with e | e
 · exact hD.ne hb k1 e
 exact zT hD.2.1 e hb k3 rfl
theorem DM.of {w w' : World} {d : Nat} {fv : Value} {D' : zJ} (h : Dsk w' d fv D') (hm : Mod (fun k => k = d) w w') : DM w d fv D' w' := ⟨fv, h, hm.mono (fun _ _ e => .inl e), fun _ e => .inl e⟩
structure StP (D : zJ) (g : zC) (room : Int) (m : Nat) : Prop where
 wh : zdG D
 kp : zo7 D.file g
 hd : zeQ g
 rm : D.room = room
 lg : g.log.length ≤ m
theorem StP.save {D : zJ} {g x : zC} {room : Int} {m k : Nat} (h : StP D g room m) (h1 : ∀ y ∈ x.log, y.ok) (h2 : x.conf.ok) (h3 : x.log.length ≤ k) (hm : m ≤ k) (hk : k ≤ 1000000) :
  StP (yQ D g x).1 (yQ D g x).2.1 room k ∧ (((yQ D g x).2.2 = 0 ∧ (yQ D g x).2.1 = x) ∨ ((yQ D g x).2.1 = g ∧ (((yQ D g x).2.2 = 6 ∧ (yG x = false ∨ x.term < g.term ∨ x.base < g.base)) ∨ (yQ D g x).2.2 = 2 ∨ (yQ D g x).2.2 = 5))) := by
 rcases zm5 h.wh h.kp h.hd h1 h2 (by omega) with ⟨a, b, c⟩ | ⟨a, b, c, d, e, f⟩
 · rw [a, b]
   exact ⟨⟨h.wh, h.kp, h.hd, h.rm, by have := h.lg; omega⟩, .inr ⟨rfl, c⟩⟩
 exact ⟨⟨c, by rw [a]; exact d, by rw [a]; exact e, by rw [f]; exact h.rm, by rw [a]; exact h3⟩, .inl ⟨b, a⟩⟩
def yN (c : yF) : zC := ⟨0, -1, 0, 0, c, [], []⟩
theorem zeV {c : yF} (h : jK c = true) (hc : c.ok) : zeQ (yN c) := by
 refine ⟨⟨by simp [yN], by simp [yN], by simp [yN], by simp [yN], by simp [yN], by simp [yN], by simp [yN], by simp [yN], rfl, h, by simp [yN], .inr rfl, rfl⟩, by simp [yN], hc, by simp [yN]⟩
theorem zjN (w : World) (T : Nat → Prop) (c : yF) : zY w T (.slice none 0 0) (.slice none 0 0) (yN c) := ⟨Sl.nil _ _ _, Sl.nil _ _ _, by simp [yN]⟩
theorem zqB (room : Int) : zdG (zJ.new room) := ⟨rfl, rfl, rfl⟩
def wkC : yF := ⟨1, 0, 0, 0⟩
def wkH : zC := { yN wkC with term := 1, vote := 0 }
def wkD : zJ := (yW (zJ.new 65536) (yN wkC)).1
theorem zqC : (yW (zJ.new 65536) (yN wkC)).2.2 = 0 := by decide +kernel
theorem zqD : (yQ wkD (yN wkC) wkH).2.2 = 0 := by decide +kernel
theorem zk3 : jK wkC = true := by decide +kernel
theorem zmH : wkC.ok := by unfold wkC yF.ok I64; simp
theorem zmI : (yW (zJ.new 65536) (yN wkC)).2.1 = some (yN wkC) ∧ StP wkD (yN wkC) 65536 0 := by
 rcases zm8 (zqB 65536) (zeV zk3 zmH) rfl with (h | h) | ⟨h1, h2, h3, h4, h5⟩
 · have := zqC; rw [h] at this; cases this
 · have := zqC; rw [h] at this; cases this
 exact ⟨h1, ⟨h3, h4, zeV zk3 zmH, h5, by simp [yN]⟩⟩
def wkE : zJ := (yQ wkD (yN wkC) wkH).1
theorem zjO : (yQ wkD (yN wkC) wkH).2.1 = wkH ∧ StP wkE wkH 65536 0 := by
 have h := zmI.2.save (x := wkH) (k := 0) (by simp [wkH, yN]) zmH (by simp [wkH, yN]) (by omega) (by omega)
 have h0 := zqD
 rcases h.2 with ⟨h1, h2⟩ | ⟨h1, h2⟩
 · exact ⟨h2, by have h3 := h.1; rw [h2] at h3; exact h3⟩
 rcases h2 with h2 | h2 | h2
 · omega
 · omega
 omega
theorem StP.again {D : zJ} {g first : zC} {room : Int} {m : Nat} (h : StP D g room m) (hok : D.ok) (hc : yG first = true) (k : Int) : yW (D.crash k).start first = (D, some g, 0) := by
 have h1 := zkL h.wh.sync h.wh.on k
 have h2 : ({ D with trip := 0 } : zJ) = D := by
  have := h.wh.trip
  obtain ⟨a, b, c, d, e, f⟩ := D
  simp only at this
  subst this
  rfl
 rw [h1, h2]
 exact zm7 h.wh h.kp hok hc
def atE (h : zC) (i : Int) : Option zI := if i ≤ h.base ∨ h.base + h.log.length < i then none else h.log[(i - h.base - 1).toNat]?
def zeC (h : zC) (i : Int) : Int := if i = h.base then h.baseTerm else match atE h i with
 | none => -1
 | some x => x.term
theorem zmJ : ∀ v ∈ (zE : List Value), v.oneCell' = true := by
 intro u hu; simp only [List.mem_cons, List.not_mem_nil, or_false] at hu; rcases hu with rfl | rfl | rfl | rfl | rfl | rfl | rfl | rfl | rfl | rfl | rfl | rfl | rfl | rfl | rfl | rfl <;> rfl
theorem zbE (w : World) (T : Nat → Prop) (h : zC) (sv lv : Value) (hv : zY w T sv lv h) (hl : h.log.length ≤ 1000000) (hs : h.snap.length ≤ 1000000) :
  Calls Tryz.prog 44 #[.agg #[.int .i64 h.term, .int .i64 h.vote, .int .i64 h.base, .int .i64 h.baseTerm, .int .i64 h.conf.full, .int .i64 h.conf.wit, .int .i64 h.conf.learn, .int .i64 h.conf.learnWit, sv, lv]] w fun e w' => ∃ sv' lv', e = .returned (.agg #[.int .i64 h.term, .int .i64 h.vote, .int .i64 h.base, .int .i64 h.baseTerm, .int .i64 h.conf.full, .int .i64 h.conf.wit, .int .i64 h.conf.learn, .int .i64 h.conf.learnWit, sv', lv']) ∧ jP w w' sv' lv' h ∧ Ext w w' := by
 obtain ⟨As, cs, Al, cl, rfl, rfl⟩ := hv.forms
 obtain ⟨sl, hsl⟩ : ∃ n, h.snap.length = n := ⟨_, rfl⟩
 obtain ⟨ll, hll⟩ : ∃ n, h.log.length = n := ⟨_, rfl⟩
 obtain ⟨W, hW⟩ : ∃ W, W = (w.alloc (.cells (h.cells (.slice As h.snap.length cs) (.slice Al h.log.length cl)).toArray 34)).alloc (.cells zH.toArray 34) := ⟨_, rfl⟩
 obtain ⟨hA, hB, hsz⟩ := zaC w (.cells (h.cells (.slice As h.snap.length cs) (.slice Al h.log.length cl)).toArray 34) (.cells zH.toArray 34)
 obtain ⟨b, hb⟩ : ∃ b, w.heap.size = b := ⟨_, rfl⟩
 rw [← hW, hb] at hA hB
 rw [← hW, hb] at hsz
 have hE : Ext w W := by rw [hW]; exact ((Mod.refl _ w).alloc _).alloc _
 have hvW := hv.mod hE (fun _ _ => id)
 rw [hsl, hll] at hA hW hvW ⊢
 have hv0 := hv
 have Hsl := hJ hsl
 have Hll := hJ hll
 have HW := hJ hW
 have HA := hJ hA
 have HB := hJ hB
 have Hb := hJ hb
 have HE := hJ hE
 have HvW := hJ hvW
 have hld := zF (P := Tryz.prog) (o := 0) (cs := h.cells (.slice As sl cs) (.slice Al ll cl)) zA hA rfl (fun j u hu => by rw [Nat.zero_add]; exact hu)
 have hone : ∀ v ∈ h.cells (.slice As sl cs) (.slice Al ll cl), v.oneCell' = true := by
  intro v hv; simp only [List.mem_cons, List.not_mem_nil, or_false] at hv; rcases hv with rfl | rfl | rfl | rfl | rfl | rfl | rfl | rfl | rfl | rfl <;> rfl
 obtain ⟨q, hq⟩ : ∃ q, W.heap.size = q := ⟨_, rfl⟩
 have hz : (W.alloc (.cells zH.toArray 34)).heap[q]? = some (.cells zH.toArray 34 (0, 0)) := by rw [← hq]; exact heap_alloc_new W _
 have Hq := hJ hq
 have Hqb : Hid (q = b + 2) := hJ (by rw [← hq, hsz])
 clear hW hA hB hb hE hvW hsl hll hsz hq hv
 have HV0 := hJ hv0
 clear hv0
 go_enter Tryz.func44, Tryz.ntmps44
 go_wp2_with (first | (rw [← HW.out, Hb.out]; refine zG rfl 34 _ rfl _ _ rfl hld ?_) | (rw [Hq.out]; refine zD rfl 34 _ _ rfl 10 q 0 (h.cells (.slice As sl cs) (.slice Al ll cl)) rfl rfl zA _ zH (h.cells (.slice As sl cs) (.slice Al ll cl)) hz rfl (by simp) hone rfl ?_))
 intro w1 hb1 hm1 hs1
 have hX1 : Ext W w1 := ((Mod.refl (fun _ => False) W).alloc (.cells zH.toArray 34)).trans hm1 (fun k hk e => by have := Hq.out; omega)
 have HA1 := hJ (hX1.blk HA.out id)
 have HB1 := hJ (hX1.blk HB.out id)
 have HQ1 := hJ hb1
 have HX1 := hJ (HE.out.ext hX1)
 have HW1 := hJ hX1
 have Hv1 := hJ (HvW.out.mod hX1 (fun _ _ => id))
 have c8 : w1.cell? ⟨b, 8, none⟩ = some (.slice As sl cs) := zB (cs := (h.cells (.slice As sl cs) (.slice Al ll cl))) HA1.out rfl
 clear hld hz hm1 hs1 hX1 hb1
 go_wp2_with fail
 refine (k_twin w1 T _ h.snap (by have h1 := Hv1.out.1; exact h1) (by omega)).mono ?_
 rintro e w2 ⟨v2, rfl, hN2, hX2⟩
 obtain ⟨A2, c2, rfl⟩ := zN hN2.1
 rw [Hsl.out]
 have HN2 : Hid (yO w w2 (.slice A2 sl c2) h.snap) := hJ (by have h1 := hN2.up HX1.out; rw [Hsl.out] at h1; exact h1)
 have hR2 := hX2.blk HQ1.out id
 have HX2 := hJ (HX1.out.ext hX2)
 have HA2 := hJ (hX2.blk HA1.out id)
 have HB2 := hJ (hX2.blk HB1.out id)
 have Hv2 := hJ (Hv1.out.mod hX2 (fun _ _ => id))
 have f8 : w2.frozen? ⟨q, 8, none⟩ = false := zK 8 hR2
 have d8 : w2.cell? ⟨q, 8, none⟩ = some (.slice As sl cs) := zB (cs := (h.cells (.slice As sl cs) (.slice Al ll cl))) hR2 rfl
 obtain ⟨w3, hw3⟩ : ∃ w3, w2.setCell ⟨q, 8, none⟩ (.slice A2 sl c2) = w3 := ⟨_, rfl⟩
 have HQ3 : Hid (w3.heap[q]? = some (.cells (h.cells (.slice A2 sl c2) (.slice Al ll cl)).toArray 34 (0, 0))) := hJ (by rw [← hw3]; simp [World.setCell, Array.getElem?_modify, hR2])
 have hM3 : Mod (fun k => k = q) w2 w3 := by rw [← hw3]; exact zO (Mod.refl _ w2) _ _
 have hqw : w.heap.size ≤ q := by rw [Hqb.out, Hb.out]; omega
 have HX3 : Hid (Ext w w3) := hJ (HX2.out.trans hM3 (fun k hk e => by omega))
 have HA3 := hJ (hM3.blk HA2.out (by have := Hqb.out; omega))
 have HB3 := hJ (hM3.blk HB2.out (by have := Hqb.out; omega))
 have HN3 : Hid (yO w w3 (.slice A2 sl c2) h.snap) := hJ ⟨zU HN2.out.1 hM3 (fun g hg => zT HN2.out.1 hg hR2 (by decide)), HN2.out.2⟩
 have Hv3 : Hid (zbJ w3 (fun g => T g ∧ g < w.heap.size) (.slice Al ll cl) h.log) := hJ (by
  have h1 := (HV0.out.cap).2
  rw [Hll.out] at h1
  have h2 := h1.mod HX3.out (fun _ _ => id)
  exact h2)
 have Hw3 := hJ hw3
 have c9 : w2.cell? ⟨b, 9, none⟩ = some (.slice Al ll cl) := zB (cs := (h.cells (.slice As sl cs) (.slice Al ll cl))) HA2.out rfl
 have n1 : ¬ b = q := by have := Hqb.out; omega
 have n2 : ¬ q = b := by have := Hqb.out; omega
 clear hw3 hM3 hR2 hN2 hX2 c8
 go_wp2_with fail
 rw [Hw3.out]
 refine (jG w3 _ _ h.log Hv3.out hl).mono ?_
 rintro e w4 ⟨v4, rfl, hN4, hX4⟩
 obtain ⟨A4, c4, rfl⟩ := zN hN4.1
 rw [Hll.out]
 have hN4' : zaX w w4 (.slice A4 ll c4) h.log := by have h1 := jT hN4 HX3.out.size; rw [Hll.out] at h1; exact h1
 have hN4b := HN3.out.ext hX4
 have hR4 := hX4.blk HQ3.out id
 have HX4 := hJ (HX3.out.ext hX4)
 have HB4 := hJ (hX4.blk HB3.out id)
 have f9 : w4.frozen? ⟨q, 9, none⟩ = false := zK 9 hR4
 have d9 : w4.cell? ⟨q, 9, none⟩ = some (.slice Al ll cl) := zB (cs := (h.cells (.slice A2 sl c2) (.slice Al ll cl))) hR4 rfl
 obtain ⟨w5, hw5⟩ : ∃ w5, w4.setCell ⟨q, 9, none⟩ (.slice A4 ll c4) = w5 := ⟨_, rfl⟩
 have hQ5 : w5.heap[q]? = some (.cells (h.cells (.slice A2 sl c2) (.slice A4 ll c4)).toArray 34 (0, 0)) := by rw [← hw5]; simp [World.setCell, Array.getElem?_modify, hR4]
 have hM5 : Mod (fun k => k = q) w4 w5 := by rw [← hw5]; exact zO (Mod.refl _ w4) _ _
 have HX5 : Hid (Ext w w5) := hJ (HX4.out.trans hM5 (fun k hk e => by omega))
 have HB5 := hJ (hM5.blk HB4.out (by have := Hqb.out; omega))
 have HN5 : Hid (jP w w5 (.slice A2 sl c2) (.slice A4 ll c4) h) := hJ (jP.box ⟨hN4b, hN4'⟩ hR4 hM5 (by decide) (by decide))
 have hld := zF (P := Tryz.prog) (o := 0) (cs := h.cells (.slice A2 sl c2) (.slice A4 ll c4)) zA hQ5 rfl (fun j u hu => by rw [Nat.zero_add]; exact hu)
 have hone5 := xK HN5.out
 have Hw5 := hJ hw5
 clear hw5 hM5 hR4 hN4 hN4' hN4b hX4 hQ5 c9
 go_wp2_with (first | (rw [Hw5.out]; refine zG rfl 34 _ rfl _ _ rfl hld ?_) | (refine zD rfl 34 _ _ rfl 10 (b + 1) 0 (h.cells (.slice A2 sl c2) (.slice A4 ll c4)) rfl rfl zA _ zH (h.cells (.slice A2 sl c2) (.slice A4 ll c4)) HB5.out rfl (by simp) hone5 rfl ?_))
 intro w6 hb6 hm6 hs6
 have HX6 := hJ (HX5.out.trans hm6 (fun k hk e => by have := Hb.out; omega))
 have HN6 := hJ (HN5.out.box HB5.out hm6 (by decide) (by decide))
 clear hm6 hs6 hld
 go_wp2_with fail
 exact bodyPost_ret (v := .agg #[.int .i64 h.term, .int .i64 h.vote, .int .i64 h.base, .int .i64 h.baseTerm, .int .i64 h.conf.full, .int .i64 h.conf.wit, .int .i64 h.conf.learn, .int .i64 h.conf.learnWit, .slice A2 sl c2, .slice A4 ll c4]) (results_cell_row rfl _ _ _ _ _ (0, 0) _ rfl hb6 Tryz.underlying34 rfl (by kernel_rfl)) rfl ⟨_, _, rfl, HN6.out, HX6.out⟩
def zaM (upto : Int) : Int → yF → List zI → yF
 | _, c, [] => c
 | b, c, x :: l => zaM upto (b + 1) (if b + 1 ≤ upto ∧ x.kind = 2 then x.conf else c) l
def zgY (log : List zI) : Nat → List zI → List zI
 | _, [] => log
 | p, x :: l => match log[p]? with
  | some y => if y.term = x.term then zgY log (p + 1) l else log.take p ++ x :: l
  | none => log.take p ++ x :: l
def znR (h : zC) (i : Int) (l : List zI) : Option zC := if i < h.base ∨ zcF h < i ∨ zdK h.term (max (zeC h i) 1) l = false then none else some { h with log := zgY h.log (i - h.base).toNat l }
def zgZ (h : zC) (i : Int) (b : List UInt8) : Option zC := if i < h.base + 1 ∨ min (zcF h) 1099511627776 < i ∨ 16384 < b.length then none else some ⟨h.term, h.vote, i, zeC h i, zaM i h.base h.conf h.log, b, h.log.drop (i - h.base).toNat⟩
def um (n : Int) (m : Nat) : Int := n % 18446744073709551616 % m
theorem zk4 (n : Int) {m : Nat} (h : 0 < m) : 0 ≤ um n m ∧ um n m < m := by
 unfold um
 exact ⟨Int.emod_nonneg _ (by omega), Int.emod_lt_of_pos _ (by omega)⟩
structure AAct where
 d : Int
 n : Int
 keep : Int
 h : zC
 l : List zI
 b : List UInt8
def zcA (h : zC) (a : AAct) : zC :=
 if um a.d 9 = 0 then { h with term := if h.term < 1099511627776 then h.term + 1 + um a.n 2 else h.term, vote := um a.keep 8 - 1 }
 else if um a.d 9 = 1 ∨ um a.d 9 = 2 then (znR h (max (zcF h - um a.n 4) h.base) a.l).getD h
 else if um a.d 9 = 3 then (zgZ h (zcF h - um a.n 3) a.b).getD h
 else if um a.d 9 = 4 then a.h else h
theorem zmK (log : List zI) : ∀ (l : List zI) (p : Nat), (zgY log p l).length ≤ log.length + l.length
 | [], _ => by simp [zgY]
 | x :: l, p => by
  rw [zgY]
  have := zmK log l (p + 1)
  have h2 : (log.take p).length ≤ log.length := by rw [List.length_take]; exact Nat.min_le_right _ _
  split
  ·
   split
   · rw [List.length_cons]; omega
   rw [List.length_append, List.length_cons]; omega
  rw [List.length_append, List.length_cons]; omega
theorem zmL (log : List zI) : ∀ (l : List zI) (p : Nat) (y : zI), y ∈ zgY log p l → y ∈ log ∨ y ∈ l
 | [], _, y, h => .inl h
 | x :: l, p, y, h => by
  rw [zgY] at h
  have h2 : y ∈ log.take p ++ x :: l → y ∈ log ∨ y ∈ x :: l := fun h => by
   rcases List.mem_append.1 h with h | h
   · exact .inl (List.mem_of_mem_take h)
   exact .inr h
  split at h
  ·
   split at h
   · rcases zmL log l (p + 1) y h with h | h
     · exact .inl h
     exact .inr (by simp [h])
   exact h2 h
  exact h2 h
theorem zjP {upto : Int} {P : yF → Prop} : ∀ (l : List zI) (b : Int) (c : yF), P c → (∀ x ∈ l, x.kind = 2 → P x.conf) → P (zaM upto b c l)
 | [], _, _, h, _ => h
 | x :: l, b, c, h, hl => by
  rw [zaM]
  refine zjP l (b + 1) _ ?_ (fun y hy => hl y (by simp [hy]))
  split
  · rename_i h2
    exact hl x (by simp) h2.2
  exact h
def Fit (h : zC) : Prop := (∀ x ∈ h.log, x.ok) ∧ h.conf.ok
theorem next_fit {h : zC} {a : AAct} (hf : Fit h) (ha : Fit a.h) (hl : ∀ x ∈ a.l, x.ok) : Fit (zcA h a) := by
 unfold zcA
 split
 · exact hf
 split
 ·
  unfold znR
  split
  · exact hf
  refine ⟨fun x hx => ?_, hf.2⟩
  rcases zmL _ _ _ _ hx with h | h
  · exact hf.1 x h
  exact hl x h
 split
 ·
  unfold zgZ
  split
  · exact hf
  exact ⟨fun x hx => hf.1 x (List.mem_of_mem_drop hx), zjP (P := yF.ok) _ _ _ hf.2 (fun x hx _ => (hf.1 x hx).2.2.2)⟩
 split
 · exact ha
 exact hf
theorem zmM (h : zC) (a : AAct) : (zcA h a).log.length ≤ max (h.log.length + a.l.length) a.h.log.length ∧ (zcA h a).snap.length ≤ max (max h.snap.length a.h.snap.length) a.b.length := by
 have hself : h.log.length ≤ max (h.log.length + a.l.length) a.h.log.length ∧ h.snap.length ≤ max (max h.snap.length a.h.snap.length) a.b.length := by omega
 unfold zcA
 split
 · exact hself
 split
 ·
  unfold znR
  split
  · exact hself
  have := zmK h.log a.l ((max (zcF h - um a.n 4) h.base) - h.base).toNat
  refine ⟨?_, hself.2⟩
  simp only [Option.getD_some]
  omega
 split
 ·
  unfold zgZ
  split
  · exact hself
  simp only [Option.getD_some, List.length_drop]
  omega
 split
 · omega
 exact hself
end Go.Proofs.YtjhnlncgmejkcaaGreat
