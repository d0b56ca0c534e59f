/-
  Plain functions: records of a hard state's changes (layer 11): what they make, and that those which lead from one to another do. No program is walked here. Cond
-/
import Derived.Test.YtjhnlncgmejkcaaGreatS4
import Derived.Test.YtjhnlncgmejkcaaGreatS8
import Derived.Test.YtjhnlncgmejkcaaGreatGSpec
import Derived.Test.YtjhnlncgmejkcaaGreatS3
import Derived.Test.YtjhnlncgmejkcaaGreatS7
import Derived.Deep.WholeRow
import Derived.Deep.LoopGhost
import Derived.Laws.BitsAllLaws
set_option maxRecDepth 100000
set_option maxHeartbeats 1000000
namespace Go.Proofs.YtjhnlncgmejkcaaGreat
set_option linter.unusedSimpArgs false
theorem zcZ {v : jY} (h : chk v = 0) : zb4 v = true ∧ v.text.size ≤ 32 := by
 obtain ⟨k, x, t⟩ := v
 unfold chk at h
 simp only at h
 split at h
 · cases h
 rename_i h1
 split at h
 · cases h
 rename_i h2
 split at h
 · cases h
 rename_i h3
 split at h
 · cases h
 rename_i h4
 have hk : k = 0 ∨ k = 1 ∨ k = 2 := by omega
 have ht : k ≠ 2 → t = ⟨#[]⟩ := fun hk => emptyT (by
  rcases he : zX t with _ | _
  · exact absurd (.inl ⟨hk, he⟩) h3
  rfl)
 have hx : k ≠ 1 → x = 0 := fun hk => by
  rcases Nat.eq_zero_or_pos x with h | h
  · exact h
  exact absurd (.inr ⟨hk, by omega⟩) h3
 have hc : yU x = x := by
  unfold yU
  split
  ·
   rename_i hn
   rcases Nat.decEq x zaQ with hne | he
   · exact absurd ⟨hn, hne⟩ h4
   exact he.symm
  rfl
 have e0 : zX ⟨#[]⟩ = true := (zbM _).2 rfl
 rcases hk with rfl | rfl | rfl
 · rw [ht (by omega), hx (by omega)]
   exact ⟨by unfold zb4; simp [e0], Nat.zero_le _⟩
 · rw [ht (by omega)]
   exact ⟨by unfold zb4; simp [e0, hc], Nat.zero_le _⟩
 rw [hx (by omega)]
 refine ⟨by unfold zb4; simp, ?_⟩
 have : ¬ 32 < t.size := fun e => h2 ⟨rfl, e⟩
 simp only
 omega
theorem zaU {c : yK} (h : yV c = true) : c = yK.zero := eqC0 (by rw [← zdP]; exact h)
theorem zi3 {c : yF} (h : zcI c = true) : c = yF.zero := eqF0 (by rw [← zfA]; exact h)
theorem zeO {c : yK} (h : zeL c = 0) : chk c.cmd.old = 0 ∧ chk c.cmd.val = 0 ∧ c.cmd.key.size ≤ 8 := by
 unfold zeL at h
 split at h
 · cases h
 unfold zhO at h
 split at h
 · cases h
 split at h
 · cases h
 rename_i h2
 split at h
 · cases h
 rename_i h3
 refine ⟨?_, ?_, by omega⟩
 ·
  rcases Decidable.em (chk c.cmd.old = 0) with h4 | h4
  · exact h4
  exact absurd (.inr (.inr (.inl h4))) h3
 rcases Decidable.em (chk c.cmd.val = 0) with h4 | h4
 · exact h4
 exact absurd (.inr (.inr (.inr h4))) h3
theorem eq00 : jJ yK.zero yK.zero = true ∧ xI yF.zero yF.zero = true := by decide +kernel
theorem jB {x : zI} (h : xB x = true) (ho : x.ok) : fitE x ∧ (xT x).length ≤ 300 := by
 unfold xB at h
 obtain ⟨t, k, c, f⟩ := x
 simp only at h
 have z0 : yK.zero.cmd.key.size = 0 ∧ yK.zero.cmd.old.text.size = 0 ∧ yK.zero.cmd.val.text.size = 0 := ⟨rfl, rfl, rfl⟩
 have l1 := zV t
 have l2 := zV k
 split at h
 ·
  rename_i hk
  rw [Bool.and_eq_true] at h
  have h1 := zaU h.1
  have h2 := zi3 h.2
  subst h1; subst h2; subst hk
  refine ⟨⟨ho, ?_, by simp only; omega, by simp only; omega, by simp only; omega⟩, ?_⟩
  · unfold zcK
    rw [eq00.1, eq00.2]
    simp
  unfold xT zQ
  simp
  omega
 split at h
 ·
  rename_i hk
  rw [Bool.and_eq_true, beq_iff_eq] at h
  obtain ⟨p1, p2, p3⟩ := zeO h.1
  have h2 := zi3 h.2
  obtain ⟨q1, q2⟩ := zcZ p1
  obtain ⟨q3, q4⟩ := zcZ p2
  subst h2; subst hk
  refine ⟨⟨ho, ?_, by simp only; omega, by simp only; omega, by simp only; omega⟩, ?_⟩
  · unfold zcK
    rw [eq00.2, q1, q3]
    simp
  have hv : ∀ v : jY, v.text.size ≤ 32 → (zcY v).length ≤ 60 := fun v hv => by
   unfold zcY yH yT
   have l3 := zV v.kind
   have l4 := zV ((zaF v.text).length : Int)
   have l5 : (zaF v.text).length = v.text.size := rfl
   have l6 := qH 8 (yU v.num)
   split
   · simp only [List.length_append]; omega
   split
   · simp only [List.length_append]; omega
   simp only [List.length_append, List.length_nil]; omega
  have m1 := hv _ q2
  have m2 := hv _ q4
  have l3 := zV c.client
  have l4 := zV c.seq
  have l5 := zV c.cmd.kind
  have l6 := zV ((zaF c.cmd.key).length : Int)
  have l8 := zV (c.cmd.key.size : Int)
  have l7 : (zaF c.cmd.key).length = c.cmd.key.size := rfl
  unfold xT zQ zlF zQ yH
  simp
  omega
 split at h
 ·
  rename_i hk
  rw [Bool.and_eq_true] at h
  have h1 := zaU h.1
  subst h1; subst hk
  refine ⟨⟨ho, ?_, by simp only; omega, by simp only; omega, by simp only; omega⟩, ?_⟩
  · unfold zcK
    rw [eq00.1]
    simp
  have l3 := zV f.full
  have l4 := zV f.wit
  have l5 := zV f.learn
  have l6 := zV f.learnWit
  unfold xT zQ zhY zQ
  simp
  omega
 cases h
theorem zdF {x : zI} (h : xB x = true) (ho : x.ok) : ziL (jR x) = (xT x, 0) := by
 have h1 := jB h ho
 rw [zmX]
 unfold zc6 za0
 rw [h1.1.2.1, if_pos rfl, if_neg (by omega)]
theorem jH {term : Int} : ∀ {l : List zI} {last : Int}, zdK term last l = true → ∀ x ∈ l, xB x = true
 | [], _, _, x, hx => by simp at hx
 | y :: l, last, h, x, hx => by
  rw [zdK, Bool.and_eq_true, Bool.and_eq_true] at h
  rcases List.mem_cons.1 hx with rfl | hx
  · exact h.1.2
  exact jH h.2 x hx
theorem zlW {term : Int} : ∀ {l : List zI} {last : Int} (n : Nat), zdK term last l = true → zdK term last (l.take n) = true
 | [], _, n, _ => by rw [List.take_nil]; rfl
 | _ :: _, _, 0, _ => rfl
 | y :: l, last, n + 1, h => by
  rw [zdK, Bool.and_eq_true] at h
  rw [List.take_succ_cons, zdK, h.1, zlW n h.2]
  rfl
theorem zlX {term term' : Int} (ht : term ≤ term') : ∀ {l : List zI} {last : Int}, zdK term last l = true → zdK term' last l = true
 | [], _, _ => rfl
 | y :: l, last, h => by
  rw [zdK] at h ⊢
  simp only [Bool.and_eq_true, decide_eq_true_eq] at h ⊢
  exact ⟨⟨⟨h.1.1.1, by omega⟩, h.1.2⟩, zlX ht h.2⟩
def zf0 (b : List UInt8) : Option Int := if (RS.int ⟨b, 0⟩).2.done = 0 then some (RS.int ⟨b, 0⟩).1 else none
def zf1 (b : List UInt8) : Option (Int × Int) := if (RS.int ⟨b, 0⟩).2.int.2.done = 0 then some ((RS.int ⟨b, 0⟩).1, (RS.int ⟨b, 0⟩).2.int.1) else none
def xE (o : Option zC) : Option zC := match o with
 | none => none
 | some h => if yG h then some h else none
def zaK : List UInt8 → Option zC
 | [] => none
 | c :: b => if c.toNat = 1 then xE (yR b) else none
def zaB (h : zC) (c : Nat) (b : List UInt8) : Option zC :=
 if c = 2 then match zf1 b with
  | none => none
  | some (t, v) => if t < h.term then none else some { h with term := t, vote := v }
 else if c = 3 then match zf0 b with
  | none => none
  | some n => if n ≤ h.base ∨ h.base + h.log.length < n then none else some { h with log := h.log.take (n - h.base - 1).toNat }
 else if c = 4 then match xU b with
  | none => none
  | some x => some { h with log := h.log ++ [x] }
 else none
def yE (h : zC) : List UInt8 → Option zC
 | [] => none
 | c :: b => xE (zaB h c.toNat b)
def xP (h : zC) : List (List UInt8) → Option zC
 | [] => some h
 | p :: ps => match yE h p with
  | none => none
  | some g => xP g ps
def za6 : List (List UInt8) → Option zC
 | [] => none
 | p :: ps => match zaK p with
  | none => none
  | some h => xP h ps
theorem zbP {h g : zC} : ∀ {ps qs : List (List UInt8)}, xP h ps = some g → xP h (ps ++ qs) = xP g qs := by
 intro ps
 induction ps generalizing h with
 | nil => intro qs e; cases e; rfl
 | cons p ps ih =>
  intro qs e
  rw [List.cons_append, xP]
  rw [xP] at e
  rcases hc : yE h p with _ | h'
  · rw [hc] at e; cases e
  rw [hc] at e
  exact ih e
theorem zkI {g : zC} {ps qs : List (List UInt8)} (h : za6 ps = some g) : za6 (ps ++ qs) = xP g qs := by
 cases ps with
 | nil => cases h
 | cons p ps =>
  rw [List.cons_append, za6]
  rw [za6] at h
  rcases hb : zaK p with _ | h'
  · rw [hb] at h; cases h
  rw [hb] at h
  exact zbP h
theorem zf2 {o : Option zC} {h : zC} (e : xE o = some h) : Right h := by
 unfold xE at e
 split at e
 · cases e
 split at e
 ·
  rename_i h1
  cases e
  exact (yI _).1 h1
 cases e
theorem zdY {h : zC} (hr : Right h) : xE (some h) = some h := by
 unfold xE
 simp only
 rw [(yI _).2 hr]
 rfl
theorem yZ (h : zC) (c : UInt8) (b : List UInt8) : yE h (c :: b) = xE (zaB h c.toNat b) := rfl
theorem turn2 {h : zC} {b : List UInt8} {t v : Int} (hr : zf1 b = some (t, v)) (ht : ¬ t < h.term) : zaB h (2 : UInt8).toNat b = some { h with term := t, vote := v } := by
 unfold zaB
 rw [if_pos (by decide), hr]
 simp only
 rw [if_neg ht]
theorem turn3 {h : zC} {b : List UInt8} {n : Int} (hr : zf0 b = some n) (hn : ¬ (n ≤ h.base ∨ h.base + h.log.length < n)) : zaB h (3 : UInt8).toNat b = some { h with log := h.log.take (n - h.base - 1).toNat } := by
 unfold zaB
 rw [if_neg (by decide), if_pos (by decide), hr]
 simp only
 rw [if_neg hn]
theorem turn4 {h : zC} {b : List UInt8} {x : zI} (hr : xU b = some x) : zaB h (4 : UInt8).toNat b = some { h with log := h.log ++ [x] } := by
 unfold zaB
 rw [if_neg (by decide), if_neg (by decide), if_pos (by decide), hr]
def zf3 (a b : zI) : Bool := (ziL (jR a)).1 == (ziL (jR b)).1
def zaN : List zI → List zI → Nat
 | x :: l, y :: m => if zf3 x y then zaN l m + 1 else 0
 | _, _ => 0
def recV (h : zC) : List UInt8 := 2 :: zQ [h.term, h.vote]
def recC (n : Int) : List UInt8 := 3 :: zQ [n]
def ze2 (x : zI) : List UInt8 := 4 :: xT x
def zbW (g h : zC) : List (List UInt8) := if h.term = g.term ∧ h.vote = g.vote then [] else [recV h]
def zbX (g h : zC) : List (List UInt8) := if zaN h.log g.log < g.log.length then [recC (h.base + zaN h.log g.log + 1)] else []
def zc5 (g h : zC) : List (List UInt8) := zbW g h ++ zbX g h ++ (h.log.drop (zaN h.log g.log)).map ze2
theorem zo2 {x y : zI} (hx : xB x = true) (hxo : x.ok) (hy : xB y = true) (hyo : y.ok) (h : zf3 x y = true) : x = y := by
 unfold zf3 at h
 rw [zdF hx hxo, zdF hy hyo, beq_iff_eq] at h
 have h1 := (zfB (jB hx hxo).1 []).1
 have h2 := (zfB (jB hy hyo).1 []).1
 simp only at h
 rw [h, h2] at h1
 exact ((Prod.mk.injEq _ _ _ _).mp h1).1.symm
theorem zeP : ∀ l m : List zI, zaN l m ≤ l.length ∧ zaN l m ≤ m.length
 | [], _ => by simp [zaN]
 | _ :: _, [] => by simp [zaN]
 | x :: l, y :: m => by
  have := zeP l m
  rw [zaN]
  split <;> simp <;> omega
theorem zf4 : ∀ (l m : List zI) (_ : ∀ x ∈ l, xB x = true ∧ x.ok) (_ : ∀ x ∈ m, xB x = true ∧ x.ok), l.take (zaN l m) = m.take (zaN l m)
 | [], _, _, _ => by simp [zaN]
 | _ :: _, [], _, _ => by simp [zaN]
 | x :: l, y :: m, hl, hm => by
  rw [zaN]
  split
  · rename_i hs
    have e := zo2 (hl x (by simp)).1 (hl x (by simp)).2 (hm y (by simp)).1 (hm y (by simp)).2 hs
    rw [List.take_succ_cons, List.take_succ_cons, e, zf4 l m (fun z hz => hl z (by simp [hz])) (fun z hz => hm z (by simp [hz]))]
  rfl
theorem zhA (x : zI) : zf3 x x = true := by unfold zf3; simp
theorem zi4 : ∀ l : List zI, zaN l l = l.length
 | [] => rfl
 | x :: l => by rw [zaN, if_pos (zhA x), zi4 l]; rfl
theorem zo3 (h : zC) : zc5 h h = [] := by
 unfold zc5 zbW zbX
 rw [zi4, if_pos ⟨rfl, rfl⟩, if_neg (by omega)]
 simp
theorem zo4 {a b : Int} (ha : I64 a) (hb : I64 b) : zf1 (zQ [a, b]) = some (a, b) := by
 have e : zQ [a, b] = zS a ++ (zS b ++ []) := by unfold zQ; simp
 unfold zf1
 rw [e, xH a _ ha.1 ha.2]
 simp only
 rw [xH b [] hb.1 hb.2]
 rfl
theorem zo5 {a : Int} (ha : I64 a) : zf0 (zQ [a]) = some a := by
 have e : zQ [a] = zS a ++ [] := by unfold zQ; simp
 unfold zf0
 rw [e, xH a [] ha.1 ha.2]
 rfl
theorem Right.i64 {h : zC} (r : Right h) : I64 h.term ∧ I64 h.vote ∧ I64 h.base ∧ I64 h.baseTerm := by
 obtain ⟨r1, r2, r3, r4, r5, r6, r7, r8, r9, r10, r11, r12, r13⟩ := r
 unfold I64
 omega
theorem Right.vote {g : zC} (r : Right g) {t v : Int} (ht : g.term ≤ t) (h1 : t ≤ 1099511627776) (h2 : -1 ≤ v) (h3 : v ≤ 6) : Right { g with term := t, vote := v } :=
 ⟨by have := r.t0; simp only; omega, h1, h2, h3, r.b0, r.b1, r.bt0, by have := r.bt1; simp only; omega, r.bb, r.c, r.s, r.bs, zlX ht r.r⟩
theorem Right.cut {g : zC} (r : Right g) (n : Nat) : Right { g with log := g.log.take n } :=
 ⟨r.t0, r.t1, r.v0, r.v1, r.b0, r.b1, r.bt0, r.bt1, r.bb, r.c, r.s, r.bs, zlW n r.r⟩
theorem zm4 {h : zC} (r : Right h) (ho : ∀ x ∈ h.log, x.ok) (k : Nat) : ∀ j, k + j ≤ h.log.length → xP { h with log := h.log.take k } (((h.log.drop k).map ze2).take j) = some { h with log := h.log.take (k + j) } := by
 intro j
 induction j with
 | zero => intro _; rw [List.take_zero]; rfl
 | succ j ih =>
  intro hj
  have hd : k + j < h.log.length := by omega
  have e : ((h.log.drop k).map ze2).take (j + 1) = ((h.log.drop k).map ze2).take j ++ [ze2 h.log[k + j]] := by
   rw [List.take_succ_eq_append_getElem (by simp; omega)]
   simp
  rw [e, zbP (ih (by omega))]
  have hm : h.log[k + j] ∈ h.log := List.getElem_mem _
  have hx := jB (jH r.r _ hm) (ho _ hm)
  have et : h.log.take (k + (j + 1)) = h.log.take (k + j) ++ [h.log[k + j]] := by
   rw [show k + (j + 1) = (k + j) + 1 by omega, List.take_succ_eq_append_getElem hd]
  have hc : yE { h with log := h.log.take (k + j) } (ze2 h.log[k + j]) = some { h with log := h.log.take (k + (j + 1)) } := by
   unfold ze2
   rw [yZ, turn4 (ent_back hx.1 (by omega)), et]
   exact zdY (by rw [← et]; exact r.cut _)
  rw [xP, hc]
  rfl
structure Near (g h : zC) : Prop where
 b : h.base = g.base
 bt : h.baseTerm = g.baseTerm
 c : h.conf = g.conf
 s : h.snap = g.snap
theorem zkJ {g h : zC} (hg : Right g) (hh : Right h) (hgo : ∀ x ∈ g.log, x.ok) (hho : ∀ x ∈ h.log, x.ok) (hn : Near g h) (ht : g.term ≤ h.term) (hgl : g.log.length ≤ 1000000) :
  xP g (zbW g h) = some { g with term := h.term, vote := h.vote } ∧ xP { g with term := h.term, vote := h.vote } (zbX g h) = some { h with log := h.log.take (zaN h.log g.log) } := by
 obtain ⟨k, hk⟩ : ∃ k, zaN h.log g.log = k := ⟨_, rfl⟩
 have hkl := zeP h.log g.log
 have hkt := zf4 h.log g.log (fun x hx => ⟨jH hh.r x hx, hho x hx⟩) (fun x hx => ⟨jH hg.r x hx, hgo x hx⟩)
 rw [hk] at hkl hkt
 obtain ⟨g1, hg1⟩ : ∃ g1 : zC, { g with term := h.term, vote := h.vote } = g1 := ⟨_, rfl⟩
 have r1 : Right g1 := by rw [← hg1]; exact hg.vote ht hh.t1 hh.v0 hh.v1
 have hgh : { g1 with log := g1.log.take k } = ({ h with log := h.log.take k } : zC) := by
  rw [← hg1, hkt]
  obtain ⟨t, v, b, bt, c, s, l⟩ := h
  obtain ⟨t', v', b', bt', c', s', l'⟩ := g
  obtain ⟨n1, n2, n3, n4⟩ := hn
  simp only at n1 n2 n3 n4
  subst n1; subst n2; subst n3; subst n4
  rfl
 rw [hg1, hk]
 refine ⟨?_, ?_⟩
 ·
  unfold zbW
  split
  ·
   rename_i e
   have : g1 = g := by rw [← hg1, e.1, e.2]
   rw [this]
   rfl
  have hc : yE g (recV h) = some g1 := by
   unfold recV
   rw [yZ, turn2 (zo4 hh.i64.1 hh.i64.2.1) (by omega), hg1]
   exact zdY r1
  rw [xP, hc]
  rfl
 unfold zbX
 split
 ·
  rename_i e
  have hb : g1.base = h.base := by rw [← hg1]; exact hn.b.symm
  have hl : g1.log = g.log := by rw [← hg1]
  have h1 := hh.b0
  have h2 := hh.b1
  have h64 : I64 (h.base + k + 1) := by unfold I64; omega
  have hc : yE g1 (recC (h.base + k + 1)) = some { h with log := h.log.take k } := by
   unfold recC
   rw [yZ, turn3 (zo5 h64) (by rw [hb, hl]; omega), ← hgh, show (h.base + k + 1 - g1.base - 1).toNat = k by rw [hb]; omega]
   exact zdY (r1.cut k)
  rw [hk, xP, hc]
  rfl
 rename_i e
 rw [← hgh]
 have : g1.log.take k = g1.log := List.take_of_length_le (by rw [← hg1]; simp only; omega)
 rw [this]
 rfl
theorem zo6 {g h : zC} (hg : Right g) (hh : Right h) (hgo : ∀ x ∈ g.log, x.ok) (hho : ∀ x ∈ h.log, x.ok) (hn : Near g h) (ht : g.term ≤ h.term) (hgl : g.log.length ≤ 1000000) : xP g (zc5 g h) = some h := by
 obtain ⟨hV1, hC1⟩ := zkJ hg hh hgo hho hn ht hgl
 have hkl := zeP h.log g.log
 have he := zm4 hh hho (zaN h.log g.log) (h.log.length - zaN h.log g.log) (by omega)
 have hf : ((h.log.drop (zaN h.log g.log)).map ze2).take (h.log.length - zaN h.log g.log) = (h.log.drop (zaN h.log g.log)).map ze2 := List.take_of_length_le (by rw [List.length_map, List.length_drop]; exact Nat.le_refl _)
 rw [hf] at he
 unfold zc5
 rw [List.append_assoc, zbP hV1, zbP hC1, he, show zaN h.log g.log + (h.log.length - zaN h.log g.log) = h.log.length by omega, List.take_length]
structure zJ where
 room : Int
 file : List UInt8
 synced : Nat
 off : Bool
 trip : Nat
 keep : Int
def zJ.ok (d : zJ) : Prop := 0 ≤ d.room ∧ d.room ≤ 65536 ∧ d.synced ≤ d.file.length ∧ (d.file.length : Int) ≤ d.room ∧ d.trip < 9223372036854775808 ∧ -9223372036854775808 ≤ d.keep ∧ d.keep ≤ 9223372036854775807
def zJ.left (d : zJ) (k : Int) : Nat := d.synced + (max (min k ((d.file.length : Int) - d.synced)) 0).toNat
def zJ.crash (d : zJ) (k : Int) : zJ := if d.off then { d with trip := 0 } else { d with trip := 0, off := true, file := d.file.take (d.left k), synced := d.left k }
def zJ.count (d : zJ) : zJ × Bool := if d.trip = 0 then (d, false) else ({ d with trip := d.trip - 1 }, d.trip == 1)
def zJ.append (d : zJ) (b : List UInt8) : zJ × Int :=
 if d.off then (d, 4) else if d.room - d.file.length < b.length then (d, 5) else
 let e := ({ d with file := d.file ++ b } : zJ).count
 if e.2 then (e.1.crash d.keep, 4) else (e.1, 0)
def zJ.sync (d : zJ) : zJ × Int :=
 if d.off then (d, 4) else
 if d.count.2 then (d.count.1.crash d.keep, 4) else ({ d.count.1 with synced := d.file.length }, 0)
def zJ.replace (d : zJ) (b : List UInt8) : zJ × Int :=
 if d.off then (d, 4) else if d.room < b.length then (d, 5) else
 if d.count.2 then (d.count.1.crash d.keep, 4) else ({ d.count.1 with file := b, synced := b.length }, 0)
def zJ.arm (d : zJ) (n : Int) (k : Int) : zJ := if d.off then d else { d with trip := (max n 0).toNat, keep := k }
def zJ.start (d : zJ) : zJ := { d with off := false }
def zJ.new (room : Int) : zJ := ⟨room, [], 0, false, 0, 0⟩
theorem zkK (d : zJ) (k : Int) (h : d.synced ≤ d.file.length) : d.synced ≤ d.left k ∧ d.left k ≤ d.file.length := by unfold zJ.left; omega
theorem zJ.crash_ok {d : zJ} (h : d.ok) (k : Int) : (d.crash k).ok := by
 obtain ⟨h1, h2, h3, h4, h5, h6, h7⟩ := h
 unfold zJ.crash
 have := zkK d k h3
 split
 · exact ⟨h1, h2, h3, h4, by simp, h6, h7⟩
 refine ⟨h1, h2, ?_, ?_, by simp, h6, h7⟩
 · simp only [List.length_take]; omega
 simp only [List.length_take]; omega
theorem zJ.count_ok {d : zJ} (h : d.ok) : d.count.1.ok := by
 unfold zJ.count
 split
 · exact h
 obtain ⟨h1, h2, h3, h4, h5, h6, h7⟩ := h
 exact ⟨h1, h2, h3, h4, by simp only; omega, h6, h7⟩
theorem zJ.append_ok {d : zJ} (h : d.ok) (b : List UInt8) : (d.append b).1.ok := by
 unfold zJ.append
 split
 · exact h
 split
 · exact h
 rename_i h8 h9
 have he : ({ d with file := d.file ++ b } : zJ).ok := by
  obtain ⟨h1, h2, h3, h4, h5, h6, h7⟩ := h
  exact ⟨h1, h2, by simp only [List.length_append]; omega, by simp only [List.length_append]; omega, h5, h6, h7⟩
 simp only
 split
 · exact zJ.crash_ok (zJ.count_ok he) _
 exact zJ.count_ok he
theorem zJ.sync_ok {d : zJ} (h : d.ok) : d.sync.1.ok := by
 unfold zJ.sync
 split
 · exact h
 split
 · exact zJ.crash_ok (zJ.count_ok h) _
 have hc := zJ.count_ok h
 obtain ⟨h1, h2, h3, h4, h5, h6, h7⟩ := hc
 have hf : d.count.1.file = d.file := by unfold zJ.count; split <;> rfl
 exact ⟨h1, h2, by simp only [hf]; omega, h4, h5, h6, h7⟩
theorem zJ.replace_ok {d : zJ} (h : d.ok) (b : List UInt8) : (d.replace b).1.ok := by
 unfold zJ.replace
 split
 · exact h
 split
 · exact h
 rename_i h8 h9
 have hc := zJ.count_ok h
 have hr : d.count.1.room = d.room := by unfold zJ.count; split <;> rfl
 split
 · exact zJ.crash_ok hc _
 obtain ⟨h1, h2, h3, h4, h5, h6, h7⟩ := hc
 exact ⟨h1, h2, Nat.le_refl _, by simp only [hr]; omega, h5, h6, h7⟩
theorem zJ.arm_ok {d : zJ} (h : d.ok) {n k : Int} (hn : n ≤ 9223372036854775807) (hk : -9223372036854775808 ≤ k ∧ k ≤ 9223372036854775807) : (d.arm n k).ok := by
 unfold zJ.arm
 split
 · exact h
 obtain ⟨h1, h2, h3, h4, h5, h6, h7⟩ := h
 exact ⟨h1, h2, h3, h4, by simp only; omega, hk.1, hk.2⟩
def zcJ (g h : zC) : Bool := h.base == g.base && h.baseTerm == g.baseTerm && xI h.conf g.conf && h.snap == g.snap
def xG (D : zJ) (h : zC) : zJ × Int := if 16384 ≤ h.enc.length then (D, 2) else D.replace (zR (1 :: h.enc))
def zaL (g h : zC) : List UInt8 := (zc5 g h).flatMap zR
def yS (D : zJ) (g h : zC) : zJ × Int :=
 if zcJ g h = false then xG D h else if (zaL g h).length = 0 then (D, 0) else
 if (D.append (zaL g h)).2 = 0 then (D.append (zaL g h)).1.sync else if (D.append (zaL g h)).2 = 5 then xG (D.append (zaL g h)).1 h else D.append (zaL g h)
def yQ (D : zJ) (g h : zC) : zJ × zC × Int :=
 if D.off then (D, g, 4) else if yG h = false ∨ h.term < g.term ∨ h.base < g.base then (D, g, 6) else
 ((yS D g h).1, if (yS D g h).2 = 0 then h else g, (yS D g h).2)
def yW (D : zJ) (first : zC) : zJ × Option zC × Int :=
 if D.off then (D, none, 4) else if yG first = false then (D, none, 6) else
 if D.file.length = 0 then ((xG D first).1, if (xG D first).2 = 0 then some first else none, (xG D first).2) else
 match za6 (yY D.file).1 with
 | none => (D, none, 6)
 | some h => if (yY D.file).2 < D.file.length then ((D.replace (D.file.take (yY D.file).2)).1, if (D.replace (D.file.take (yY D.file).2)).2 = 0 then some h else none, (D.replace (D.file.take (yY D.file).2)).2) else (D, some h, 0)
def zo7 (f : List UInt8) (g : zC) : Prop := ∃ ps, (∀ p ∈ ps, p.length ≤ 16384) ∧ f = ps.flatMap zR ∧ za6 ps = some g
def zeQ (g : zC) : Prop := Right g ∧ (∀ x ∈ g.log, x.ok) ∧ g.conf.ok ∧ g.log.length ≤ 1000000
structure zdG (D : zJ) : Prop where
 on : D.off = false
 trip : D.trip = 0
 sync : D.synced = D.file.length
theorem zo8 {g h : zC} (e : zcJ g h = true) : Near g h := by
 unfold zcJ at e
 simp only [Bool.and_eq_true, beq_iff_eq] at e
 obtain ⟨⟨⟨h1, h2⟩, h3⟩, h4⟩ := e
 refine ⟨h1, h2, ?_, h4⟩
 obtain ⟨_, _, _, _, c, _, _⟩ := h
 obtain ⟨_, _, _, _, c', _, _⟩ := g
 simp only at h3 ⊢
 obtain ⟨a, b, d, f⟩ := c
 obtain ⟨a', b', d', f'⟩ := c'
 unfold xI at h3
 simp only [Bool.and_eq_true, beq_iff_eq] at h3
 obtain ⟨⟨⟨rfl, rfl⟩, rfl⟩, rfl⟩ := h3
 rfl
theorem zo9 (g : zC) : zcJ g g = true := by unfold zcJ xI; simp
theorem recs_len {g h : zC} (hh : zeQ h) : ∀ p ∈ zc5 g h, p.length ≤ 16384 := by
 intro p hp
 unfold zc5 zbW zbX at hp
 rw [List.mem_append, List.mem_append] at hp
 rcases hp with (hp | hp) | hp
 ·
  split at hp
  · simp at hp
  simp only [List.mem_cons, List.not_mem_nil, or_false] at hp
  subst hp
  have h1 := zV h.term
  have h2 := zV h.vote
  unfold recV zQ
  simp
  omega
 ·
  split at hp
  ·
   simp only [List.mem_cons, List.not_mem_nil, or_false] at hp
   subst hp
   have h1 := zV (h.base + zaN h.log g.log + 1)
   unfold recC zQ
   simp
   omega
  simp at hp
 obtain ⟨x, hx, rfl⟩ := List.mem_map.1 hp
 have hx := List.mem_of_mem_drop hx
 have := (jB (jH hh.1.r x hx) (hh.2.1 x hx)).2
 unfold ze2
 simp
 omega
theorem kept_all {h : zC} (hh : zeQ h) (hl : ¬ 16384 ≤ h.enc.length) : zo7 (zR (1 :: h.enc)) h := by
 refine ⟨[1 :: h.enc], fun p hp => ?_, by simp, ?_⟩
 ·
  simp only [List.mem_cons, List.not_mem_nil, or_false] at hp
  subst hp
  simp
  omega
 have hb := zoO hh.1.i64.1 hh.1.i64.2.1 hh.1.i64.2.2.1 hh.1.i64.2.2.2 hh.2.2.1 (fun x hx => (jB (jH hh.1.r x hx) (hh.2.1 x hx)).1) (by omega)
 have hb2 : zaK (1 :: h.enc) = some h := by
  show (if (1 : UInt8).toNat = 1 then xE (yR h.enc) else none) = some h
  rw [hb, if_pos (by decide), zdY hh.1]
 show (match zaK (1 :: h.enc) with
  | none => none
  | some h => xP h []) = some h
 rw [hb2]
 rfl
theorem zi5 {f : List UInt8} {g h : zC} (hk : zo7 f g) (hg : zeQ g) (hh : zeQ h) (hn : zcJ g h = true) (ht : g.term ≤ h.term) : zo7 (f ++ zaL g h) h := by
 obtain ⟨ps, h1, rfl, h2⟩ := hk
 refine ⟨ps ++ zc5 g h, fun p hp => ?_, by unfold zaL; simp, ?_⟩
 ·
  rcases List.mem_append.1 hp with hp | hp
  · exact h1 p hp
  exact recs_len hh p hp
 rw [zkI h2]
 exact zo6 hg.1 hh.1 hg.2.1 hh.2.1 (zo8 hn) ht hg.2.2.2
theorem zdG.replace {D : zJ} (h : zdG D) (b : List UInt8) : (D.replace b = (D, 5) ∧ D.room < b.length) ∨ (D.replace b = ({ D with file := b, synced := b.length }, 0) ∧ (b.length : Int) ≤ D.room) := by
 unfold zJ.replace
 rw [if_neg (by rw [h.on]; simp)]
 split
 · exact .inl ⟨rfl, by assumption⟩
 right
 have hc : D.count = (D, false) := by unfold zJ.count; rw [if_pos h.trip]
 rw [hc]
 exact ⟨rfl, by omega⟩
theorem zdG.anew {D : zJ} (h : zdG D) {g : zC} (hg : zeQ g) : ((xG D g).1 = D ∧ ((xG D g).2 = 2 ∨ (xG D g).2 = 5)) ∨ ((xG D g).2 = 0 ∧ zdG (xG D g).1 ∧ zo7 (xG D g).1.file g ∧ (xG D g).1.room = D.room) := by
 unfold xG
 split
 · exact .inl ⟨rfl, .inl rfl⟩
 rename_i hl
 rcases h.replace (zR (1 :: g.enc)) with ⟨e, _⟩ | ⟨e, _⟩
 · rw [e]; exact .inl ⟨rfl, .inr rfl⟩
 rw [e]; exact .inr ⟨rfl, ⟨h.on, h.trip, rfl⟩, kept_all hg hl, rfl⟩
theorem zdG.append {D : zJ} (h : zdG D) (b : List UInt8) : D.append b = (D, 5) ∨ (D.append b).2 = 0 ∧ (D.append b).1 = { D with file := D.file ++ b } := by
 unfold zJ.append
 rw [if_neg (by rw [h.on]; simp)]
 split
 · exact .inl rfl
 right
 have hc : ({ D with file := D.file ++ b } : zJ).count = ({ D with file := D.file ++ b }, false) := by unfold zJ.count; rw [if_pos h.trip]
 simp only [hc]
 exact ⟨rfl, rfl⟩
theorem sync_on {D : zJ} (h : D.off = false) (ht : D.trip = 0) : D.sync = ({ D with synced := D.file.length }, 0) := by
 unfold zJ.sync
 have hc : D.count = (D, false) := by unfold zJ.count; rw [if_pos ht]
 rw [if_neg (by rw [h]; simp), hc]
 rfl
theorem zm5 {D : zJ} {g h : zC} (hw : zdG D) (hk : zo7 D.file g) (hg : zeQ g) (hho : ∀ x ∈ h.log, x.ok) (hhc : h.conf.ok) (hhl : h.log.length ≤ 1000000) :
  ((yQ D g h).1 = D ∧ (yQ D g h).2.1 = g ∧ (((yQ D g h).2.2 = 6 ∧ (yG h = false ∨ h.term < g.term ∨ h.base < g.base)) ∨ (yQ D g h).2.2 = 2 ∨ (yQ D g h).2.2 = 5)) ∨
  ((yQ D g h).2.1 = h ∧ (yQ D g h).2.2 = 0 ∧ zdG (yQ D g h).1 ∧ zo7 (yQ D g h).1.file h ∧ zeQ h ∧ (yQ D g h).1.room = D.room) := by
 unfold yQ
 rw [hw.on]
 simp only [Bool.false_eq_true, if_false]
 by_cases hb : yG h = false ∨ h.term < g.term ∨ h.base < g.base
 · rw [if_pos hb]
   exact .inl ⟨rfl, rfl, .inl ⟨rfl, hb⟩⟩
 rw [if_neg hb]
 have hr : Right h := (yI h).1 (by
  rcases hc : yG h with _ | _
  · exact absurd (.inl hc) hb
  rfl)
 have hh : zeQ h := ⟨hr, hho, hhc, hhl⟩
 have ht : g.term ≤ h.term := by omega
 suffices hs : ((yS D g h).1 = D ∧ ((yS D g h).2 = 2 ∨ (yS D g h).2 = 5)) ∨ ((yS D g h).2 = 0 ∧ zdG (yS D g h).1 ∧ zo7 (yS D g h).1.file h ∧ (yS D g h).1.room = D.room) by
  rcases hs with ⟨h1, h2⟩ | ⟨h1, h2, h3, h4⟩
  · have : (yS D g h).2 ≠ 0 := by omega
    rw [if_neg this]
    exact .inl ⟨h1, rfl, .inr h2⟩
  rw [if_pos h1]
  exact .inr ⟨rfl, h1, h2, h3, hh, h4⟩
 unfold yS
 by_cases hn : zcJ g h = false
 · rw [if_pos hn]
   exact hw.anew hh
 rw [if_neg hn]
 have hn : zcJ g h = true := by simpa using hn
 by_cases hm : (zaL g h).length = 0
 ·
  rw [if_pos hm]
  refine .inr ⟨rfl, hw, ?_, rfl⟩
  have := zi5 hk hg hh hn ht
  rw [List.eq_nil_of_length_eq_zero hm, List.append_nil] at this
  exact this
 rw [if_neg hm]
 rcases hw.append (zaL g h) with e | ⟨e1, e2⟩
 · rw [e, if_neg (show ¬ (5 : Int) = 0 by omega), if_pos rfl]
   exact hw.anew hh
 rw [if_pos e1, e2, sync_on (D := { D with file := D.file ++ zaL g h }) hw.on hw.trip]
 exact .inr ⟨rfl, ⟨hw.on, hw.trip, rfl⟩, zi5 hk hg hh hn ht, rfl⟩
theorem zpA {D : zJ} {g : zC} (ho : D.off = false) (hg : zeQ g) : yQ D g g = (D, g, 0) := by
 have hc : yG g = true := (yI g).2 hg.1
 have hm : zaL g g = [] := by unfold zaL; rw [zo3]; rfl
 have hwr : yS D g g = (D, 0) := by
  unfold yS
  rw [zo9, hm, if_neg (by decide), if_pos (show ([] : List UInt8).length = 0 from rfl)]
 unfold yQ
 rw [ho, hwr]
 simp only [Bool.false_eq_true, if_false]
 rw [if_neg (by rw [hc]; rintro (h | h | h); { cases h }; { omega }; { omega })]
 rfl
theorem zm6 {ps : List (List UInt8)} (h : ps ≠ []) : (ps.flatMap zR).length ≠ 0 := by
 cases ps with
 | nil => exact absurd rfl h
 | cons p ps =>
  have := yL p
  rw [List.flatMap_cons, List.length_append]
  omega
theorem zpB {D : zJ} {g first : zC} {r f : List UInt8} (ho : D.off = false) (ht : D.trip = 0) (hk : zo7 f g) (hf : D.file = f ++ r) (hr : xD r = none) (hok : D.ok) (hc : yG first = true) (hb : r = [] → D.synced = D.file.length) :
  yW D first = ({ D with file := f, synced := f.length }, some g, 0) := by
 obtain ⟨ps, h1, rfl, h2⟩ := hk
 have hne : ps ≠ [] := fun e => by rw [e] at h2; cases h2
 have hnz := zm6 hne
 unfold yW
 rw [ho, hc]
 simp only [Bool.false_eq_true, if_false, Bool.true_eq_false]
 rw [if_neg (by rw [hf, List.length_append]; omega), hf, zfM ps h1 r hr, h2]
 simp only
 by_cases hr0 : r = []
 ·
  subst hr0
  replace hb := hb rfl
  rw [hf, List.append_nil] at hb
  rw [List.append_nil, if_neg (by omega)]
  rw [List.append_nil] at hf
  obtain ⟨a, b, c, d, e, k⟩ := D
  simp only at hf hb
  subst hf
  rw [← hb, ← ho]
 have hrl : r.length ≠ 0 := fun e => hr0 (List.eq_nil_of_length_eq_zero e)
 rw [if_pos (by rw [List.length_append]; omega), List.take_left]
 have hrp : D.replace (ps.flatMap zR) = ({ D with file := ps.flatMap zR, synced := (ps.flatMap zR).length }, 0) := by
  unfold zJ.replace
  have hcn : D.count = (D, false) := by unfold zJ.count; rw [if_pos ht]
  have hrm := hok.2.2.2.1
  rw [hf, List.length_append] at hrm
  rw [if_neg (by rw [ho]; simp), if_neg (by omega), hcn]
  rfl
 rw [hrp, ← ho]
 rfl
theorem none_nil : xD [] = none := rfl
theorem zm7 {D : zJ} {g first : zC} (hw : zdG D) (hk : zo7 D.file g) (hok : D.ok) (hc : yG first = true) : yW D first = (D, some g, 0) := by
 have := zpB (r := []) hw.on hw.trip hk (by simp) none_nil hok hc (fun _ => hw.sync)
 rw [this]
 have hs := hw.sync
 obtain ⟨a, b, c, d, e, k⟩ := D
 simp only at hs
 rw [hs]
theorem zkL {D : zJ} (hs : D.synced = D.file.length) (hon : D.off = false) (k : Int) : (D.crash k).start = { D with trip := 0 } := by
 unfold zJ.crash zJ.start
 have hl : D.left k = D.file.length := by unfold zJ.left; rw [hs]; omega
 rw [hon]
 simp only [Bool.false_eq_true, if_false, hl, List.take_length]
 obtain ⟨a, b, c, d, e, k⟩ := D
 simp only at hs hon
 rw [hs, hon]
theorem zm8 {D : zJ} {g : zC} (hw : zdG D) (hg : zeQ g) (hf : D.file.length = 0) : (yW D g = (D, none, 2) ∨ yW D g = (D, none, 5)) ∨ ((yW D g).2.1 = some g ∧ (yW D g).2.2 = 0 ∧ zdG (yW D g).1 ∧ zo7 (yW D g).1.file g ∧ (yW D g).1.room = D.room) := by
 unfold yW
 rw [hw.on, (yI g).2 hg.1]
 simp only [Bool.false_eq_true, if_false, Bool.true_eq_false]
 rw [if_pos hf]
 rcases hw.anew hg with ⟨h1, h2 | h2⟩ | ⟨h1, h2, h3, h4⟩
 · rw [h1, h2]; exact .inl (.inl rfl)
 · rw [h1, h2]; exact .inl (.inr rfl)
 rw [if_pos h1]; exact .inr ⟨rfl, h1, h2, h3, h4⟩
open Go.RowKit
def zdH (i j : Nat) : Value := .int .u32 (if j < i then (zoB j : Int) else 0)
def zaP (i : Nat) : Array Value := ((List.range 256).map (zdH i)).toArray
theorem zm9 : zaP 0 = Array.replicate 256 (.int .u32 0) := by
 have : zdH 0 = fun _ => .int .u32 0 := by funext j; simp [zdH]
 unfold zaP
 rw [this]
 apply Array.ext_getElem?
 intro j
 simp [Array.getElem?_replicate]
 by_cases h : j < 256 <;> simp [h]
theorem jM (i : Nat) : (zaP i).size = 256 := by simp [zaP]
theorem zcP (i j : Nat) (h : j < 256) : (zaP i)[j]? = some (zdH i j) := by simp [zaP, h]
theorem zpC (i : Nat) (h : i < 256) : (zaP i).setIfInBounds i (.int .u32 (zoB i : Int)) = zaP (i + 1) := by
 apply Array.ext_getElem?
 intro j
 rw [Array.getElem?_setIfInBounds]
 by_cases hj : j < 256
 ·
  rw [zcP _ _ hj, zcP _ _ hj]
  by_cases he : i = j
  · subst he
    rw [if_pos rfl, jM, if_pos h]
    simp [zdH]
  rw [if_neg he]
  unfold zdH
  have : (j < i) = (j < i + 1) := by rw [eq_iff_iff]; omega
  simp only [this]
 have h1 : (zaP i)[j]? = none := by simp [zaP]; omega
 have h2 : (zaP (i + 1))[j]? = none := by simp [zaP]; omega
 rw [h1, h2, if_neg (by omega)]
theorem zi6 (i : Nat) : (zaP i).all (·.oneCell') = true := by
 rw [Array.all_eq_true]
 intro j hj
 have := zcP i j (by rw [jM] at hj; exact hj)
 rw [Array.getElem?_eq_getElem hj] at this
 rw [Option.some.injEq] at this
 rw [this]
 rfl
theorem zfD : (Tryz.prog.info? 195).map (fun i => (i.zero, i.size)) = some (some (.agg (Array.replicate 256 (.int .u32 0))), 256) := by kernel_rfl
theorem fr_table (w : World) : Calls Tryz.prog 171 #[] w fun e w' => e = .returned (.agg (zaP 256)) ∧ Ext w w' := by
 have hz := (zero_of_info zfD).1
 have hs := (zero_of_info zfD).2
 have Hs := hJ hs
 clear hs
 go_enter Tryz.func171, Tryz.ntmps171
 go_wp2
 rw [← zm9]
 go_loopw [5] (fun iv wr => ∃ i : Nat, i ≤ 256 ∧ iv = .int .i64 i ∧ wr = (w.alloc (.cells (zaP 0) 195)).alloc (.cells (zaP i) 195)) (fun iv _ => 256 - (intOf iv).toNat)
 case atStart => exact ⟨0, by omega, rfl, rfl⟩
 obtain ⟨i, hi, rfl, rfl⟩ := hrel
 by_cases h : i < 256
 ·
  have hsz := jM i
  have hget := zcP i i h
  have Hset := hJ (zpC i h)
  have hi0 : (0 : Int) ≤ (i : Int) := by omega
  have hi1 : (i : Int) < 256 := by omega
  go_wp2
  go_loopw [3, 10] (fun sv kv wr => ∃ k s : Nat, k ≤ 8 ∧ kv = .int .i64 k ∧ sv = .int .u32 (s : Int) ∧ s < 4294967296 ∧ zhW (8 - k) s = zoB i ∧ wr = (w.alloc (.cells (zaP 0) 195)).alloc (.cells (zaP i) 195)) (fun _ kv _ => 8 - (intOf kv).toNat)
  case atStart => exact ⟨0, i, by omega, rfl, rfl, by omega, rfl, rfl⟩
  obtain ⟨k, s, hk, rfl, rfl, hs, ht, rfl⟩ := hrel
  have Ht := hJ ht
  clear ht
  by_cases hk8 : k < 8
  ·
   have Hst : Hid (zhW (8 - (k + 1)) (jO s) = zoB i) := hJ (by have := Ht.out; rw [show 8 - k = (8 - (k + 1)) + 1 by omega, zhW] at this; exact this)
   have Hx := hJ (u32_xor_nat (s / 2) 3988292384 (by omega) (by omega))
   have Hsl := hJ (zeI hs)
   rcases Nat.mod_two_eq_zero_or_one s with hp | hp
   ·
    have hb : bits .and .u32 (s : Int) 1 = 0 := by
     have := u32_and_nat s 1 (by omega) (by omega)
     rw [Nat.and_one_is_mod, hp] at this
     exact this
    have e : jO s = s / 2 := by unfold jO; rw [if_neg (by omega)]
    rw [e] at Hst Hsl
    clear hp e
    go_wp2
    exact ⟨⟨k + 1, s / 2, by omega, by go_num, by go_num, Hsl.out, Hst.out, trivial⟩, by simp [intOf]; omega⟩
   have hb : bits .and .u32 (s : Int) 1 = 1 := by
    have := u32_and_nat s 1 (by omega) (by omega)
    rw [Nat.and_one_is_mod, hp] at this
    exact this
   have e : jO s = s / 2 ^^^ 3988292384 := by unfold jO; rw [if_pos hp]
   rw [e] at Hst Hsl
   clear hp e
   go_wp2
   refine ⟨⟨k + 1, _, by omega, by go_num, ?_, Hsl.out, Hst.out, trivial⟩, by simp [intOf]; omega⟩
   have hx := Hx.out
   rw [Int.natCast_ediv] at hx
   rw [show ((3988292384 : Nat) : Int) = 3988292384 from rfl, show ((2 : Nat) : Int) = 2 from rfl] at hx
   rw [hx]
  have hs' : s = zoB i := by have := Ht.out; rw [show 8 - k = 0 by omega] at this; exact this
  subst hs'
  go_wp2
  exact ⟨⟨i + 1, by omega, by go_num, by rw [Hset.out]⟩, by simp [intOf]; omega⟩
 obtain rfl : i = 256 := by omega
 have hiz : ¬ ((256 : Nat) : Int) < 256 := by omega
 obtain ⟨w2, hw2⟩ : ∃ w2, (w.alloc (.cells (zaP 0) 195)).alloc (.cells (zaP 256) 195) = w2 := ⟨_, rfl⟩
 have hg0 : w2.heap[w.heap.size]? = some (.cells (zaP 0) 195 (0, 0)) := by rw [← hw2]; exact heap_alloc2_old w _ _
 have hg1 : w2.heap[w.heap.size + 1]? = some (.cells (zaP 256) 195 (0, 0)) := by rw [← hw2]; exact heap_alloc2_new w _ _
 have hE : Ext w w2 := by rw [← hw2]; exact ((Mod.refl _ w).alloc _).alloc _
 rw [hw2]
 have Hg0 := hJ hg0
 have Hg1 := hJ hg1
 have HE := hJ hE
 clear hw2 hg0 hg1 hE hi
 go_wp2_with (first
  | refine wpList_load_row rfl 195 _ rfl (w.heap.size + 1) rfl 195 (zaP 256) (0, 0) _ Hg1.out Tryz.underlying195 rfl (by rw [jM]; exact Hs.out) ?_
  | refine wpList_store_row rfl 195 _ _ rfl w.heap.size (zaP 256) rfl rfl 195 (zaP 0) Hg0.out (by rw [jM]; exact Hs.out) (by rw [jM, jM]) (zi6 256) ?_)
 refine bodyPost_ret (v := .agg (zaP 256)) (results_cell_row rfl _ _ _ _ _ (0, 0) _ rfl (setRow_heap w2 _ _ _ _ _ Hg0.out) Tryz.underlying195 rfl (by rw [jM]; exact Hs.out)) rfl ⟨rfl, Mod.setRow HE.out (.inl (Nat.le_refl _)) _⟩
theorem cell_u32 (s : Nat) (c : UInt8) : bits .xor .u8 ((s : Int) % 256) (c.toNat : Int) = (((s % 256) ^^^ c.toNat : Nat) : Int) := by
 have h := u8_xor_nat (s % 256) c.toNat (by omega) c.toNat_lt
 rw [Int.natCast_emod] at h
 exact h
theorem zpD (w : World) (T : Nat → Prop) (s : Nat) (hs : s < 4294967296) (A : Option Addr) (n c : Nat) (l : List UInt8) (h : Byt w T (.slice A n c) l) (hn : l.length = n) (hnl : n ≤ 1000000) :
  Calls Tryz.prog 130 #[.int .u32 (s : Int), .slice A n c] w fun e w' => e = .returned (.int .u32 (xY s l : Int)) ∧ Ext w w' := by
 have Hs := hJ (zero_of_info zfD).2
 have Hz := hJ (zero_of_info zfD).1
 have h : Sl w T 1 (.slice A n c) n (l.map B) := by unfold Byt at h; rw [hn] at h; exact h
 have Hn := hJ hn
 clear hn
 go_enter Tryz.func130, Tryz.ntmps130
 go_wp2_with fail
 refine (fr_table w).mono ?_
 rintro e w1 ⟨rfl, hE⟩
 have h1 := h.ext hE
 have HE := hJ hE
 clear hE h
 have hz := Hz.out
 obtain ⟨w2, hw2⟩ : ∃ w2, w1.alloc (.cells (zaP 256) 195) = w2 := ⟨_, rfl⟩
 have hc2 : ∀ j, j < 256 → w2.cell? ⟨w1.heap.size, j, none⟩ = some (.int .u32 (zoB j : Int)) := fun j hj => by
  rw [← hw2, cell_of_row _ _ _ _ _ _ (heap_alloc_new w1 _), zcP 256 j hj]
  unfold zdH
  rw [if_pos hj]
 have hE2 : Ext w1 w2 := by rw [← hw2]; exact (Mod.refl _ w1).alloc _
 have h2 := h1.ext hE2
 have HE2 := hJ (HE.out.ext hE2)
 have Hc2 := hJ hc2
 have Hw2 := hJ hw2
 clear hE2 hc2 h1 HE hw2
 go_wp2_with (refine wpList_store_row rfl 195 _ _ rfl w1.heap.size (zaP 256) rfl rfl 195 (Array.replicate 256 (.int .u32 0)) (heap_alloc_new w1 _) (by rw [jM]; exact Hs.out) (by rw [jM, Array.size_replicate]) (zi6 256) ?_; rw [World.setRow_alloc_new, Hw2.out])
 clear hz
 go_loopw [0, 11] (fun sv iv wr => ∃ i x : Nat, i ≤ n ∧ iv = .int .i64 i ∧ sv = .int .u32 (x : Int) ∧ x < 4294967296 ∧ x = xY s (l.take i) ∧ wr = w2) (fun _ iv _ => n - (intOf iv).toNat)
 case atStart => exact ⟨0, s, by omega, rfl, rfl, hs, rfl, rfl⟩
 obtain ⟨i, x, hi, rfl, rfl, hx, hxe, rfl⟩ := hrel
 have Hxe := hJ hxe
 clear hxe
 by_cases h : i < n
 ·
  obtain ⟨g, off, y, hv, hy, c0⟩ := zb0 h2 (i := i) h
  subst hv
  have hi0 : (0 : Int) ≤ (i : Int) := by omega
  have hi1 : (i : Int) < (n : Int) := by omega
  have hxl : (x % 256) ^^^ y.toNat < 256 := Nat.xor_lt_two_pow (n := 8) (by omega) y.toNat_lt
  have hcx := cell_u32 x y
  have hcell := Hc2.out _ hxl
  have ht : zoB ((x % 256) ^^^ y.toNat) < 4294967296 := zkA 8 _ (by omega)
  have hxx := u32_xor_nat (zoB ((x % 256) ^^^ y.toNat)) (x / 256) ht (by omega)
  obtain ⟨j, hj⟩ : ∃ j, (x % 256) ^^^ y.toNat = j := ⟨_, rfl⟩
  rw [hj] at hcx hxl hcell hxx ht
  rw [Int.natCast_ediv] at hxx
  have Hst := hJ (zg2 (s := x) y (by omega))
  have Hse : Hid (zaS x y = xY s (l.take (i + 1))) := hJ (by
   show _ = (l.take (i + 1)).foldl zaS s
   rw [List.take_add_one, hy, List.foldl_append]
   show zaS x y = zaS (xY s (l.take i)) y
   rw [← Hxe.out])
  have Hsx : Hid (zoB j ^^^ x / 256 = zaS x y) := hJ (by rw [← hj]; rfl)
  clear hy h2
  go_wp2
  refine ⟨⟨i + 1, zaS x y, by omega, by go_num, ?_, Hst.out, Hse.out, trivial⟩, by simp [intOf]; omega⟩
  have e := Hsx.out
  rw [← e, ← hxx]
  rfl
 obtain rfl : i = n := by omega
 have hf : x = xY s l := by rw [Hxe.out, ← Hn.out, List.take_length]
 go_wp2
 go_ret
 exact ⟨by first | rfl | (show Ending.returned (.int .u32 (x : Int)) = _; rw [hf]), HE2.out⟩
end Go.Proofs.YtjhnlncgmejkcaaGreat
