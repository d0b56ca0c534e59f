/-
 Plain functions: records of a hard state's changes (layer 11): what they make, and that those which lead from one to another do. No program is walked here. Conditions: as each theorem names them.
 Plain functions: a disk, as package disk and the page (layer 4) have it. No program is walked here. Conditions: as each theorem names them.
 Plain functions: package stable's Open and Save (layer 11), and what a disk has behind them. No program is walked here. Conditions: as each theorem names them.
 The contract of frame.table: what each byte does to a sum. Conditions: as each theorem names them.
-/
import Derived.Test.YtjhnlncgmejkcaaGreatS4
import Derived.Test.YtjhnlncgmejkcaaGreatS8
import Derived.Test.YtjhnlncgmejkcaaGreatGSpec
import Derived.Test.YtjhnlncgmejkcaaGreatS3
import Derived.Test.YtjhnlncgmejkcaaGreatS7
import Derived.Deep.WholeRow
import Derived.Deep.LoopGhost
import Derived.Laws.BitsAllLaws
namespace Go.Proofs.YtjhnlncgmejkcaaGreat
set_option linter.unusedSimpArgs false

theorem chk_valB {v : AVal} (h : chk v = 0) : valB v = true ∧ v.text.size ≤ 32 := by
 obtain ⟨k, x, t⟩ := v
 unfold chk at h
 simp only at h
 split at h
 ·
  cases h
 rename_i h1
 split at h
 ·
  cases h
 rename_i h2
 split at h
 ·
  cases h
 rename_i h3
 split at h
 ·
  cases h
 rename_i h4
 have hk : k = 0 ∨ k = 1 ∨ k = 2 := by omega
 have ht : k ≠ 2 → t = ⟨#[]⟩ := fun hk => emptyT (by
  rcases he : isEmptyT t with _ | _
  ·
   exact absurd (.inl ⟨hk, he⟩) h3
  ·
   rfl)
 have hx : k ≠ 1 → x = 0 := fun hk => by
  rcases Nat.eq_zero_or_pos x with h | h
  ·
   exact h
  ·
   exact absurd (.inr ⟨hk, by omega⟩) h3
 have hc : canon x = x := by
  unfold canon
  split
  ·
   rename_i hn
   rcases Nat.decEq x theNaN with hne | he
   ·
    exact absurd ⟨hn, hne⟩ h4
   ·
    exact he.symm
  ·
   rfl
 have e0 : isEmptyT ⟨#[]⟩ = true := (isEmptyT_iff _).2 rfl
 rcases hk with rfl | rfl | rfl
 ·
  rw [ht (by omega), hx (by omega)]
  exact ⟨by unfold valB; simp [e0], Nat.zero_le _⟩
 ·
  rw [ht (by omega)]
  exact ⟨by unfold valB; simp [e0, hc], Nat.zero_le _⟩
 ·
  rw [hx (by omega)]
  refine ⟨by unfold valB; simp, ?_⟩
  have : ¬ 32 < t.size := fun e => h2 ⟨rfl, e⟩
  simp only
  omega
theorem noCall_zero {c : ACall} (h : noCallB c = true) : c = ACall.zero := eqC0 (by rw [← noCall_eq]; exact h)
theorem conf_zero {c : AConf} (h : confB c = true) : c = AConf.zero := eqF0 (by rw [← confB_eq]; exact h)
theorem call_parts {c : ACall} (h : callE c = 0) : chk c.cmd.old = 0 ∧ chk c.cmd.val = 0 ∧ c.cmd.key.size ≤ 8 := by
 unfold callE at h
 split at h
 ·
  cases h
 unfold cmdE at h
 split at h
 ·
  cases h
 split at h
 ·
  cases h
 rename_i h2
 split at h
 ·
  cases h
 rename_i h3
 refine ⟨?_, ?_, by omega⟩
 ·
  rcases Decidable.em (chk c.cmd.old = 0) with h4 | h4
  ·
   exact h4
  ·
   exact absurd (.inr (.inr (.inl h4))) h3
 ·
  rcases Decidable.em (chk c.cmd.val = 0) with h4 | h4
  ·
   exact h4
  ·
   exact absurd (.inr (.inr (.inr h4))) h3
theorem eq00 : eqCall ACall.zero ACall.zero = true ∧ eqConf AConf.zero AConf.zero = true := by decide +kernel
/-- A right entry may be written. -/
theorem right_fit {x : AEntry} (h : rightE x = true) (ho : x.ok) : fitE x ∧ (encE x).length ≤ 300 := by
 unfold rightE at h
 obtain ⟨t, k, c, f⟩ := x
 simp only at h
 have z0 : ACall.zero.cmd.key.size = 0 ∧ ACall.zero.cmd.old.text.size = 0 ∧ ACall.zero.cmd.val.text.size = 0 := ⟨rfl, rfl, rfl⟩
 have l1 := encInt_len t
 have l2 := encInt_len k
 split at h
 ·
  rename_i hk
  rw [Bool.and_eq_true] at h
  have h1 := noCall_zero h.1
  have h2 := conf_zero h.2
  subst h1; subst h2; subst hk
  refine ⟨⟨ho, ?_, by simp only; omega, by simp only; omega, by simp only; omega⟩, ?_⟩
  ·
   unfold entB
   rw [eq00.1, eq00.2]
   simp
  ·
   unfold encE encInts
   simp
   omega
 split at h
 ·
  rename_i hk
  rw [Bool.and_eq_true, beq_iff_eq] at h
  obtain ⟨p1, p2, p3⟩ := call_parts h.1
  have h2 := conf_zero h.2
  obtain ⟨q1, q2⟩ := chk_valB p1
  obtain ⟨q3, q4⟩ := chk_valB p2
  subst h2; subst hk
  refine ⟨⟨ho, ?_, by simp only; omega, by simp only; omega, by simp only; omega⟩, ?_⟩
  ·
   unfold entB
   rw [eq00.2, q1, q3]
   simp
  ·
   have hv : ∀ v : AVal, v.text.size ≤ 32 → (encV v).length ≤ 60 := fun v hv => by
    unfold encV encText encFloat
    have l3 := encInt_len v.kind
    have l4 := encInt_len ((bsOf v.text).length : Int)
    have l5 : (bsOf v.text).length = v.text.size := rfl
    have l6 := hib_len 8 (canon v.num)
    split
    ·
     simp only [List.length_append]; omega
    split
    ·
     simp only [List.length_append]; omega
    ·
     simp only [List.length_append, List.length_nil]; omega
   have m1 := hv _ q2
   have m2 := hv _ q4
   have l3 := encInt_len c.client
   have l4 := encInt_len c.seq
   have l5 := encInt_len c.cmd.kind
   have l6 := encInt_len ((bsOf c.cmd.key).length : Int)
   have l8 := encInt_len (c.cmd.key.size : Int)
   have l7 : (bsOf c.cmd.key).length = c.cmd.key.size := rfl
   unfold encE encInts encC encInts encText
   simp
   omega
 split at h
 ·
  rename_i hk
  rw [Bool.and_eq_true] at h
  have h1 := noCall_zero h.1
  subst h1; subst hk
  refine ⟨⟨ho, ?_, by simp only; omega, by simp only; omega, by simp only; omega⟩, ?_⟩
  ·
   unfold entB
   rw [eq00.1]
   simp
  ·
   have l3 := encInt_len f.full
   have l4 := encInt_len f.wit
   have l5 := encInt_len f.learn
   have l6 := encInt_len f.learnWit
   unfold encE encInts encF encInts
   simp
   omega
 ·
  cases h
theorem entry_right {x : AEntry} (h : rightE x = true) (ho : x.ok) : told (wEntry x) = (encE x, 0) := by
 have h1 := right_fit h ho
 rw [told_entry]
 unfold entryP sizedP
 rw [h1.1.2.1, if_pos rfl, if_neg (by omega)]
/-! Rows of entries. -/
theorem row_all {term : Int} : ∀ {l : List AEntry} {last : Int}, rowB term last l = true → ∀ x ∈ l, rightE x = true
 | [], _, _, x, hx => by simp at hx
 | y :: l, last, h, x, hx => by
  rw [rowB, Bool.and_eq_true, Bool.and_eq_true] at h
  rcases List.mem_cons.1 hx with rfl | hx
  ·
   exact h.1.2
  ·
   exact row_all h.2 x hx
theorem row_take {term : Int} : ∀ {l : List AEntry} {last : Int} (n : Nat), rowB term last l = true → rowB term last (l.take n) = true
 | [], _, n, _ => by rw [List.take_nil]; rfl
 | _ :: _, _, 0, _ => rfl
 | y :: l, last, n + 1, h => by
  rw [rowB, Bool.and_eq_true] at h
  rw [List.take_succ_cons, rowB, h.1, row_take n h.2]
  rfl
theorem row_term {term term' : Int} (ht : term ≤ term') : ∀ {l : List AEntry} {last : Int}, rowB term last l = true → rowB term' last l = true
 | [], _, _ => rfl
 | y :: l, last, h => by
  rw [rowB] at h ⊢
  simp only [Bool.and_eq_true, decide_eq_true_eq] at h ⊢
  exact ⟨⟨⟨h.1.1.1, by omega⟩, h.1.2⟩, row_term ht h.2⟩
/-! What records make. -/
def read1 (b : List UInt8) : Option Int := if (RS.int ⟨b, 0⟩).2.done = 0 then some (RS.int ⟨b, 0⟩).1 else none
def read2 (b : List UInt8) : Option (Int × Int) := if (RS.int ⟨b, 0⟩).2.int.2.done = 0 then some ((RS.int ⟨b, 0⟩).1, (RS.int ⟨b, 0⟩).2.int.1) else none
def rightO (o : Option AHard) : Option AHard := match o with
 | none => none
 | some h => if checkH h then some h else none
def begunP : List UInt8 → Option AHard
 | [] => none
 | c :: b => if c.toNat = 1 then rightO (wReadHard b) else none
def turnP (h : AHard) (c : Nat) (b : List UInt8) : Option AHard :=
 if c = 2 then match read2 b with
  | none => none
  | some (t, v) => if t < h.term then none else some { h with term := t, vote := v }
 else if c = 3 then match read1 b with
  | none => none
  | some n => if n ≤ h.base ∨ h.base + h.log.length < n then none else some { h with log := h.log.take (n - h.base - 1).toNat }
 else if c = 4 then match wReadEnt b with
  | none => none
  | some x => some { h with log := h.log ++ [x] }
 else none
def changedP (h : AHard) : List UInt8 → Option AHard
 | [] => none
 | c :: b => rightO (turnP h c.toNat b)
def applyP (h : AHard) : List (List UInt8) → Option AHard
 | [] => some h
 | p :: ps => match changedP h p with
  | none => none
  | some g => applyP g ps
def madeP : List (List UInt8) → Option AHard
 | [] => none
 | p :: ps => match begunP p with
  | none => none
  | some h => applyP h ps
theorem apply_append {h g : AHard} : ∀ {ps qs : List (List UInt8)}, applyP h ps = some g → applyP h (ps ++ qs) = applyP g qs := by
 intro ps
 induction ps generalizing h with
 | nil => intro qs e; cases e; rfl
 | cons p ps ih =>
  intro qs e
  rw [List.cons_append, applyP]
  rw [applyP] at e
  rcases hc : changedP h p with _ | h'
  ·
   rw [hc] at e; cases e
  ·
   rw [hc] at e
   exact ih e
theorem made_append {g : AHard} {ps qs : List (List UInt8)} (h : madeP ps = some g) : madeP (ps ++ qs) = applyP g qs := by
 cases ps with
 | nil => cases h
 | cons p ps =>
  rw [List.cons_append, madeP]
  rw [madeP] at h
  rcases hb : begunP p with _ | h'
  ·
   rw [hb] at h; cases h
  ·
   rw [hb] at h
   exact apply_append h
theorem rightO_some {o : Option AHard} {h : AHard} (e : rightO o = some h) : Right h := by
 unfold rightO at e
 split at e
 ·
  cases e
 ·
  split at e
  ·
   rename_i h1
   cases e
   exact (checkH_iff _).1 h1
  ·
   cases e
theorem rightO_of {h : AHard} (hr : Right h) : rightO (some h) = some h := by
 unfold rightO
 simp only
 rw [(checkH_iff _).2 hr]
 rfl
theorem changed_cons (h : AHard) (c : UInt8) (b : List UInt8) : changedP h (c :: b) = rightO (turnP h c.toNat b) := rfl
theorem turn2 {h : AHard} {b : List UInt8} {t v : Int} (hr : read2 b = some (t, v)) (ht : ¬ t < h.term) : turnP h (2 : UInt8).toNat b = some { h with term := t, vote := v } := by
 unfold turnP
 rw [if_pos (by decide), hr]
 simp only
 rw [if_neg ht]
theorem turn3 {h : AHard} {b : List UInt8} {n : Int} (hr : read1 b = some n) (hn : ¬ (n ≤ h.base ∨ h.base + h.log.length < n)) : turnP h (3 : UInt8).toNat b = some { h with log := h.log.take (n - h.base - 1).toNat } := by
 unfold turnP
 rw [if_neg (by decide), if_pos (by decide), hr]
 simp only
 rw [if_neg hn]
theorem turn4 {h : AHard} {b : List UInt8} {x : AEntry} (hr : wReadEnt b = some x) : turnP h (4 : UInt8).toNat b = some { h with log := h.log ++ [x] } := by
 unfold turnP
 rw [if_neg (by decide), if_neg (by decide), if_pos (by decide), hr]
/-! Which records lead from one hard state to another of the same snapshot. -/
def sameB (a b : AEntry) : Bool := (told (wEntry a)).1 == (told (wEntry b)).1
def comN : List AEntry → List AEntry → Nat
 | x :: l, y :: m => if sameB x y then comN l m + 1 else 0
 | _, _ => 0
def recV (h : AHard) : List UInt8 := 2 :: encInts [h.term, h.vote]
def recC (n : Int) : List UInt8 := 3 :: encInts [n]
def recE (x : AEntry) : List UInt8 := 4 :: encE x
def recsV (g h : AHard) : List (List UInt8) := if h.term = g.term ∧ h.vote = g.vote then [] else [recV h]
def recsC (g h : AHard) : List (List UInt8) := if comN h.log g.log < g.log.length then [recC (h.base + comN h.log g.log + 1)] else []
def recsP (g h : AHard) : List (List UInt8) := recsV g h ++ recsC g h ++ (h.log.drop (comN h.log g.log)).map recE
theorem same_eq {x y : AEntry} (hx : rightE x = true) (hxo : x.ok) (hy : rightE y = true) (hyo : y.ok) (h : sameB x y = true) : x = y := by
 unfold sameB at h
 rw [entry_right hx hxo, entry_right hy hyo, beq_iff_eq] at h
 have h1 := (entP_enc (right_fit hx hxo).1 []).1
 have h2 := (entP_enc (right_fit hy hyo).1 []).1
 simp only at h
 rw [h, h2] at h1
 exact ((Prod.mk.injEq _ _ _ _).mp h1).1.symm
theorem comN_le : ∀ l m : List AEntry, comN l m ≤ l.length ∧ comN l m ≤ m.length
 | [], _ => by simp [comN]
 | _ :: _, [] => by simp [comN]
 | x :: l, y :: m => by
  have := comN_le l m
  rw [comN]
  split <;> simp <;> omega
theorem comN_take : ∀ (l m : List AEntry) (_ : ∀ x ∈ l, rightE x = true ∧ x.ok) (_ : ∀ x ∈ m, rightE x = true ∧ x.ok), l.take (comN l m) = m.take (comN l m)
 | [], _, _, _ => by simp [comN]
 | _ :: _, [], _, _ => by simp [comN]
 | x :: l, y :: m, hl, hm => by
  rw [comN]
  split
  ·
   rename_i hs
   have e := same_eq (hl x (by simp)).1 (hl x (by simp)).2 (hm y (by simp)).1 (hm y (by simp)).2 hs
   rw [List.take_succ_cons, List.take_succ_cons, e, comN_take l m (fun z hz => hl z (by simp [hz])) (fun z hz => hm z (by simp [hz]))]
  ·
   rfl
theorem sameB_refl (x : AEntry) : sameB x x = true := by unfold sameB; simp
theorem comN_self : ∀ l : List AEntry, comN l l = l.length
 | [] => rfl
 | x :: l => by rw [comN, if_pos (sameB_refl x), comN_self l]; rfl
theorem recs_same (h : AHard) : recsP h h = [] := by
 unfold recsP recsV recsC
 rw [comN_self, if_pos ⟨rfl, rfl⟩, if_neg (by omega)]
 simp
theorem read2_enc {a b : Int} (ha : I64 a) (hb : I64 b) : read2 (encInts [a, b]) = some (a, b) := by
 have e : encInts [a, b] = encInt a ++ (encInt b ++ []) := by unfold encInts; simp
 unfold read2
 rw [e, int_enc a _ ha.1 ha.2]
 simp only
 rw [int_enc b [] hb.1 hb.2]
 rfl
theorem read1_enc {a : Int} (ha : I64 a) : read1 (encInts [a]) = some a := by
 have e : encInts [a] = encInt a ++ [] := by unfold encInts; simp
 unfold read1
 rw [e, int_enc a [] ha.1 ha.2]
 rfl
theorem Right.i64 {h : AHard} (r : Right h) : I64 h.term ∧ I64 h.vote ∧ I64 h.base ∧ I64 h.baseTerm := by
 obtain ⟨r1, r2, r3, r4, r5, r6, r7, r8, r9, r10, r11, r12, r13⟩ := r
 unfold I64
 omega
theorem Right.vote {g : AHard} (r : Right g) {t v : Int} (ht : g.term ≤ t) (h1 : t ≤ 1099511627776) (h2 : -1 ≤ v) (h3 : v ≤ 6) : Right { g with term := t, vote := v } :=
 ⟨by have := r.t0; simp only; omega, h1, h2, h3, r.b0, r.b1, r.bt0, by have := r.bt1; simp only; omega, r.bb, r.c, r.s, r.bs, row_term ht r.r⟩
theorem Right.cut {g : AHard} (r : Right g) (n : Nat) : Right { g with log := g.log.take n } :=
 ⟨r.t0, r.t1, r.v0, r.v1, r.b0, r.b1, r.bt0, r.bt1, r.bb, r.c, r.s, r.bs, row_take n r.r⟩
/-- Entries, one by one. -/
theorem apply_ents {h : AHard} (r : Right h) (ho : ∀ x ∈ h.log, x.ok) (k : Nat) : ∀ j, k + j ≤ h.log.length → applyP { h with log := h.log.take k } (((h.log.drop k).map recE).take j) = some { h with log := h.log.take (k + j) } := by
 intro j
 induction j with
 | zero => intro _; rw [List.take_zero]; rfl
 | succ j ih =>
  intro hj
  have hd : k + j < h.log.length := by omega
  have e : ((h.log.drop k).map recE).take (j + 1) = ((h.log.drop k).map recE).take j ++ [recE h.log[k + j]] := by
   rw [List.take_succ_eq_append_getElem (by simp; omega)]
   simp
  rw [e, apply_append (ih (by omega))]
  have hm : h.log[k + j] ∈ h.log := List.getElem_mem _
  have hx := right_fit (row_all r.r _ hm) (ho _ hm)
  have et : h.log.take (k + (j + 1)) = h.log.take (k + j) ++ [h.log[k + j]] := by
   rw [show k + (j + 1) = (k + j) + 1 by omega, List.take_succ_eq_append_getElem hd]
  have hc : changedP { h with log := h.log.take (k + j) } (recE h.log[k + j]) = some { h with log := h.log.take (k + (j + 1)) } := by
   unfold recE
   rw [changed_cons, turn4 (ent_back hx.1 (by omega)), et]
   exact rightO_of (by rw [← et]; exact r.cut _)
  rw [applyP, hc]
  rfl
/-- What is between one hard state and another of the same snapshot. -/
def Btwn (g h x : AHard) : Prop := x = g ∨ x = { g with term := h.term, vote := h.vote } ∨ ∃ i, comN h.log g.log ≤ i ∧ i ≤ h.log.length ∧ x = { h with log := h.log.take i }
structure Near (g h : AHard) : Prop where
 b : h.base = g.base
 bt : h.baseTerm = g.baseTerm
 c : h.conf = g.conf
 s : h.snap = g.snap
theorem apply_parts {g h : AHard} (hg : Right g) (hh : Right h) (hgo : ∀ x ∈ g.log, x.ok) (hho : ∀ x ∈ h.log, x.ok) (hn : Near g h) (ht : g.term ≤ h.term) (hgl : g.log.length ≤ 1000000) :
  applyP g (recsV g h) = some { g with term := h.term, vote := h.vote } ∧ applyP { g with term := h.term, vote := h.vote } (recsC g h) = some { h with log := h.log.take (comN h.log g.log) } := by
 obtain ⟨k, hk⟩ : ∃ k, comN h.log g.log = k := ⟨_, rfl⟩
 have hkl := comN_le h.log g.log
 have hkt := comN_take h.log g.log (fun x hx => ⟨row_all hh.r x hx, hho x hx⟩) (fun x hx => ⟨row_all hg.r x hx, hgo x hx⟩)
 rw [hk] at hkl hkt
 obtain ⟨g1, hg1⟩ : ∃ g1 : AHard, { g with term := h.term, vote := h.vote } = g1 := ⟨_, rfl⟩
 have r1 : Right g1 := by rw [← hg1]; exact hg.vote ht hh.t1 hh.v0 hh.v1
 have hgh : { g1 with log := g1.log.take k } = ({ h with log := h.log.take k } : AHard) := by
  rw [← hg1, hkt]
  obtain ⟨t, v, b, bt, c, s, l⟩ := h
  obtain ⟨t', v', b', bt', c', s', l'⟩ := g
  obtain ⟨n1, n2, n3, n4⟩ := hn
  simp only at n1 n2 n3 n4
  subst n1; subst n2; subst n3; subst n4
  rfl
 rw [hg1, hk]
 refine ⟨?_, ?_⟩
 ·
  unfold recsV
  split
  ·
   rename_i e
   have : g1 = g := by rw [← hg1, e.1, e.2]
   rw [this]
   rfl
  ·
   have hc : changedP g (recV h) = some g1 := by
    unfold recV
    rw [changed_cons, turn2 (read2_enc hh.i64.1 hh.i64.2.1) (by omega), hg1]
    exact rightO_of r1
   rw [applyP, hc]
   rfl
 ·
  unfold recsC
  split
  ·
   rename_i e
   have hb : g1.base = h.base := by rw [← hg1]; exact hn.b.symm
   have hl : g1.log = g.log := by rw [← hg1]
   have h1 := hh.b0
   have h2 := hh.b1
   have h64 : I64 (h.base + k + 1) := by unfold I64; omega
   have hc : changedP g1 (recC (h.base + k + 1)) = some { h with log := h.log.take k } := by
    unfold recC
    rw [changed_cons, turn3 (read1_enc h64) (by rw [hb, hl]; omega), ← hgh, show (h.base + k + 1 - g1.base - 1).toNat = k by rw [hb]; omega]
    exact rightO_of (r1.cut k)
   rw [hk, applyP, hc]
   rfl
  ·
   rename_i e
   rw [← hgh]
   have : g1.log.take k = g1.log := List.take_of_length_le (by rw [← hg1]; simp only; omega)
   rw [this]
   rfl
theorem apply_recs {g h : AHard} (hg : Right g) (hh : Right h) (hgo : ∀ x ∈ g.log, x.ok) (hho : ∀ x ∈ h.log, x.ok) (hn : Near g h) (ht : g.term ≤ h.term) (hgl : g.log.length ≤ 1000000) (j : Nat) : ∃ x, applyP g ((recsP g h).take j) = some x ∧ Btwn g h x := by
 obtain ⟨hV1, hC1⟩ := apply_parts hg hh hgo hho hn ht hgl
 obtain ⟨k, hk⟩ : ∃ k, comN h.log g.log = k := ⟨_, rfl⟩
 have hkl := comN_le h.log g.log
 rw [hk] at hkl hC1
 have hlV : (recsV g h).length ≤ 1 := by unfold recsV; split <;> simp
 have hlC : (recsC g h).length ≤ 1 := by unfold recsC; split <;> simp
 unfold recsP
 rw [hk, List.append_assoc, List.take_append]
 by_cases h1 : j < (recsV g h).length
 ·
  rw [show j = 0 by omega, Nat.zero_sub, List.take_zero, List.take_zero]
  exact ⟨g, rfl, .inl rfl⟩
 rw [List.take_of_length_le (by omega), apply_append hV1, List.take_append]
 obtain ⟨j1, hj1⟩ : ∃ j1, j - (recsV g h).length = j1 := ⟨_, rfl⟩
 rw [hj1]
 by_cases h2 : j1 < (recsC g h).length
 ·
  rw [show j1 = 0 by omega, Nat.zero_sub, List.take_zero, List.take_zero]
  exact ⟨_, rfl, .inr (.inl rfl)⟩
 rw [List.take_of_length_le (by omega), apply_append hC1]
 obtain ⟨j2, hj2⟩ : ∃ j2, j1 - (recsC g h).length = j2 := ⟨_, rfl⟩
 rw [hj2]
 by_cases h3 : k + j2 ≤ h.log.length
 ·
  exact ⟨_, apply_ents hh hho k j2 h3, .inr (.inr ⟨k + j2, by omega, h3, rfl⟩)⟩
 ·
  have := apply_ents hh hho k (h.log.length - k) (by omega)
  have hf : ((h.log.drop k).map recE).take (h.log.length - k) = (h.log.drop k).map recE := List.take_of_length_le (by rw [List.length_map, List.length_drop]; exact Nat.le_refl _)
  have hf2 : ((h.log.drop k).map recE).take j2 = (h.log.drop k).map recE := List.take_of_length_le (by rw [List.length_map, List.length_drop]; omega)
  rw [hf] at this
  rw [hf2, this]
  exact ⟨_, rfl, .inr (.inr ⟨k + (h.log.length - k), by omega, by omega, rfl⟩)⟩
/-- All of them lead to the other one. -/
theorem apply_all {g h : AHard} (hg : Right g) (hh : Right h) (hgo : ∀ x ∈ g.log, x.ok) (hho : ∀ x ∈ h.log, x.ok) (hn : Near g h) (ht : g.term ≤ h.term) (hgl : g.log.length ≤ 1000000) : applyP g (recsP g h) = some h := by
 obtain ⟨hV1, hC1⟩ := apply_parts hg hh hgo hho hn ht hgl
 have hkl := comN_le h.log g.log
 have he := apply_ents hh hho (comN h.log g.log) (h.log.length - comN h.log g.log) (by omega)
 have hf : ((h.log.drop (comN h.log g.log)).map recE).take (h.log.length - comN h.log g.log) = (h.log.drop (comN h.log g.log)).map recE := List.take_of_length_le (by rw [List.length_map, List.length_drop]; exact Nat.le_refl _)
 rw [hf] at he
 unfold recsP
 rw [List.append_assoc, apply_append hV1, apply_append hC1, he, show comN h.log g.log + (h.log.length - comN h.log g.log) = h.log.length by omega, List.take_length]
end Go.Proofs.YtjhnlncgmejkcaaGreat
namespace Go.Proofs.YtjhnlncgmejkcaaGreat
set_option linter.unusedSimpArgs false

structure ADisk where
 room : Int
 file : List UInt8
 synced : Nat
 off : Bool
 trip : Nat
 keep : Int
def ADisk.ok (d : ADisk) : Prop := 0 ≤ d.room ∧ d.room ≤ 65536 ∧ d.synced ≤ d.file.length ∧ (d.file.length : Int) ≤ d.room ∧ d.trip < 9223372036854775808 ∧ -9223372036854775808 ≤ d.keep ∧ d.keep ≤ 9223372036854775807
/-- So much stays where the power goes. -/
def ADisk.left (d : ADisk) (k : Int) : Nat := d.synced + (max (min k ((d.file.length : Int) - d.synced)) 0).toNat
def ADisk.crash (d : ADisk) (k : Int) : ADisk := if d.off then { d with trip := 0 } else { d with trip := 0, off := true, file := d.file.take (d.left k), synced := d.left k }
/-- A write is made: is it the last one? -/
def ADisk.count (d : ADisk) : ADisk × Bool := if d.trip = 0 then (d, false) else ({ d with trip := d.trip - 1 }, d.trip == 1)
def ADisk.append (d : ADisk) (b : List UInt8) : ADisk × Int :=
 if d.off then (d, 4) else if d.room - d.file.length < b.length then (d, 5) else
 let e := ({ d with file := d.file ++ b } : ADisk).count
 if e.2 then (e.1.crash d.keep, 4) else (e.1, 0)
def ADisk.sync (d : ADisk) : ADisk × Int :=
 if d.off then (d, 4) else
 if d.count.2 then (d.count.1.crash d.keep, 4) else ({ d.count.1 with synced := d.file.length }, 0)
def ADisk.replace (d : ADisk) (b : List UInt8) : ADisk × Int :=
 if d.off then (d, 4) else if d.room < b.length then (d, 5) else
 if d.count.2 then (d.count.1.crash d.keep, 4) else ({ d.count.1 with file := b, synced := b.length }, 0)
def ADisk.arm (d : ADisk) (n : Int) (k : Int) : ADisk := if d.off then d else { d with trip := (max n 0).toNat, keep := k }
def ADisk.start (d : ADisk) : ADisk := { d with off := false }
def ADisk.new (room : Int) : ADisk := ⟨room, [], 0, false, 0, 0⟩
theorem left_le (d : ADisk) (k : Int) (h : d.synced ≤ d.file.length) : d.synced ≤ d.left k ∧ d.left k ≤ d.file.length := by unfold ADisk.left; omega
theorem ADisk.crash_ok {d : ADisk} (h : d.ok) (k : Int) : (d.crash k).ok := by
 obtain ⟨h1, h2, h3, h4, h5, h6, h7⟩ := h
 unfold ADisk.crash
 have := left_le d k h3
 split
 ·
  exact ⟨h1, h2, h3, h4, by simp, h6, h7⟩
 ·
  refine ⟨h1, h2, ?_, ?_, by simp, h6, h7⟩
  ·
   simp only [List.length_take]; omega
  ·
   simp only [List.length_take]; omega
theorem ADisk.count_ok {d : ADisk} (h : d.ok) : d.count.1.ok := by
 unfold ADisk.count
 split
 ·
  exact h
 ·
  obtain ⟨h1, h2, h3, h4, h5, h6, h7⟩ := h
  exact ⟨h1, h2, h3, h4, by simp only; omega, h6, h7⟩
theorem ADisk.append_ok {d : ADisk} (h : d.ok) (b : List UInt8) : (d.append b).1.ok := by
 unfold ADisk.append
 split
 ·
  exact h
 split
 ·
  exact h
 ·
  rename_i h8 h9
  have he : ({ d with file := d.file ++ b } : ADisk).ok := by
   obtain ⟨h1, h2, h3, h4, h5, h6, h7⟩ := h
   exact ⟨h1, h2, by simp only [List.length_append]; omega, by simp only [List.length_append]; omega, h5, h6, h7⟩
  simp only
  split
  ·
   exact ADisk.crash_ok (ADisk.count_ok he) _
  ·
   exact ADisk.count_ok he
theorem ADisk.sync_ok {d : ADisk} (h : d.ok) : d.sync.1.ok := by
 unfold ADisk.sync
 split
 ·
  exact h
 split
 ·
  exact ADisk.crash_ok (ADisk.count_ok h) _
 ·
  have hc := ADisk.count_ok h
  obtain ⟨h1, h2, h3, h4, h5, h6, h7⟩ := hc
  have hf : d.count.1.file = d.file := by unfold ADisk.count; split <;> rfl
  exact ⟨h1, h2, by simp only [hf]; omega, h4, h5, h6, h7⟩
theorem ADisk.replace_ok {d : ADisk} (h : d.ok) (b : List UInt8) : (d.replace b).1.ok := by
 unfold ADisk.replace
 split
 ·
  exact h
 split
 ·
  exact h
 ·
  rename_i h8 h9
  have hc := ADisk.count_ok h
  have hr : d.count.1.room = d.room := by unfold ADisk.count; split <;> rfl
  split
  ·
   exact ADisk.crash_ok hc _
  ·
   obtain ⟨h1, h2, h3, h4, h5, h6, h7⟩ := hc
   exact ⟨h1, h2, Nat.le_refl _, by simp only [hr]; omega, h5, h6, h7⟩
theorem ADisk.arm_ok {d : ADisk} (h : d.ok) {n k : Int} (hn : n ≤ 9223372036854775807) (hk : -9223372036854775808 ≤ k ∧ k ≤ 9223372036854775807) : (d.arm n k).ok := by
 unfold ADisk.arm
 split
 ·
  exact h
 ·
  obtain ⟨h1, h2, h3, h4, h5, h6, h7⟩ := h
  exact ⟨h1, h2, h3, h4, by simp only; omega, hk.1, hk.2⟩
end Go.Proofs.YtjhnlncgmejkcaaGreat
namespace Go.Proofs.YtjhnlncgmejkcaaGreat
set_option linter.unusedSimpArgs false

def nearB (g h : AHard) : Bool := h.base == g.base && h.baseTerm == g.baseTerm && eqConf h.conf g.conf && h.snap == g.snap
def anewP (D : ADisk) (h : AHard) : ADisk × Int := if 16384 ≤ h.enc.length then (D, 2) else D.replace (frameP (1 :: h.enc))
def moreP (g h : AHard) : List UInt8 := (recsP g h).flatMap frameP
def writeP (D : ADisk) (g h : AHard) : ADisk × Int :=
 if nearB g h = false then anewP D h else if (moreP g h).length = 0 then (D, 0) else
 if (D.append (moreP g h)).2 = 0 then (D.append (moreP g h)).1.sync else if (D.append (moreP g h)).2 = 5 then anewP (D.append (moreP g h)).1 h else D.append (moreP g h)
def saveP (D : ADisk) (g h : AHard) : ADisk × AHard × Int :=
 if D.off then (D, g, 4) else if checkH h = false ∨ h.term < g.term ∨ h.base < g.base then (D, g, 6) else
 ((writeP D g h).1, if (writeP D g h).2 = 0 then h else g, (writeP D g h).2)
def openP (D : ADisk) (first : AHard) : ADisk × Option AHard × Int :=
 if D.off then (D, none, 4) else if checkH first = false then (D, none, 6) else
 if D.file.length = 0 then ((anewP D first).1, if (anewP D first).2 = 0 then some first else none, (anewP D first).2) else
 match madeP (scanP D.file).1 with
 | none => (D, none, 6)
 | some h => if (scanP D.file).2 < D.file.length then ((D.replace (D.file.take (scanP D.file).2)).1, if (D.replace (D.file.take (scanP D.file).2)).2 = 0 then some h else none, (D.replace (D.file.take (scanP D.file).2)).2) else (D, some h, 0)

/-- A file's bytes are whole frames of records that make a hard state. -/
def Kept (f : List UInt8) (g : AHard) : Prop := ∃ ps, (∀ p ∈ ps, p.length ≤ 16384) ∧ f = ps.flatMap frameP ∧ madeP ps = some g
/-- A hard state that a store may have. -/
def Held (g : AHard) : Prop := Right g ∧ (∀ x ∈ g.log, x.ok) ∧ g.conf.ok ∧ g.log.length ≤ 1000000
structure Whole (D : ADisk) : Prop where
 on : D.off = false
 trip : D.trip = 0
 sync : D.synced = D.file.length
theorem near_of {g h : AHard} (e : nearB g h = true) : Near g h := by
 unfold nearB at e
 simp only [Bool.and_eq_true, beq_iff_eq] at e
 obtain ⟨⟨⟨h1, h2⟩, h3⟩, h4⟩ := e
 refine ⟨h1, h2, ?_, h4⟩
 obtain ⟨_, _, _, _, c, _, _⟩ := h
 obtain ⟨_, _, _, _, c', _, _⟩ := g
 simp only at h3 ⊢
 obtain ⟨a, b, d, f⟩ := c
 obtain ⟨a', b', d', f'⟩ := c'
 unfold eqConf at h3
 simp only [Bool.and_eq_true, beq_iff_eq] at h3
 obtain ⟨⟨⟨rfl, rfl⟩, rfl⟩, rfl⟩ := h3
 rfl
theorem near_refl (g : AHard) : nearB g g = true := by unfold nearB eqConf; simp
theorem recs_len {g h : AHard} (hh : Held h) : ∀ p ∈ recsP g h, p.length ≤ 16384 := by
 intro p hp
 unfold recsP recsV recsC at hp
 rw [List.mem_append, List.mem_append] at hp
 rcases hp with (hp | hp) | hp
 ·
  split at hp
  ·
   simp at hp
  ·
   simp only [List.mem_cons, List.not_mem_nil, or_false] at hp
   subst hp
   have h1 := encInt_len h.term
   have h2 := encInt_len h.vote
   unfold recV encInts
   simp
   omega
 ·
  split at hp
  ·
   simp only [List.mem_cons, List.not_mem_nil, or_false] at hp
   subst hp
   have h1 := encInt_len (h.base + comN h.log g.log + 1)
   unfold recC encInts
   simp
   omega
  ·
   simp at hp
 ·
  obtain ⟨x, hx, rfl⟩ := List.mem_map.1 hp
  have hx := List.mem_of_mem_drop hx
  have := (right_fit (row_all hh.1.r x hx) (hh.2.1 x hx)).2
  unfold recE
  simp
  omega
theorem kept_all {h : AHard} (hh : Held h) (hl : ¬ 16384 ≤ h.enc.length) : Kept (frameP (1 :: h.enc)) h := by
 refine ⟨[1 :: h.enc], fun p hp => ?_, by simp, ?_⟩
 ·
  simp only [List.mem_cons, List.not_mem_nil, or_false] at hp
  subst hp
  simp
  omega
 ·
  have hb := hard_back hh.1.i64.1 hh.1.i64.2.1 hh.1.i64.2.2.1 hh.1.i64.2.2.2 hh.2.2.1 (fun x hx => (right_fit (row_all hh.1.r x hx) (hh.2.1 x hx)).1) (by omega)
  have hb2 : begunP (1 :: h.enc) = some h := by
   show (if (1 : UInt8).toNat = 1 then rightO (wReadHard h.enc) else none) = some h
   rw [hb, if_pos (by decide), rightO_of hh.1]
  show (match begunP (1 :: h.enc) with
   | none => none
   | some h => applyP h []) = some h
  rw [hb2]
  rfl
theorem kept_more {f : List UInt8} {g h : AHard} (hk : Kept f g) (hg : Held g) (hh : Held h) (hn : nearB g h = true) (ht : g.term ≤ h.term) : Kept (f ++ moreP g h) h := by
 obtain ⟨ps, h1, rfl, h2⟩ := hk
 refine ⟨ps ++ recsP g h, fun p hp => ?_, by unfold moreP; simp, ?_⟩
 ·
  rcases List.mem_append.1 hp with hp | hp
  ·
   exact h1 p hp
  ·
   exact recs_len hh p hp
 ·
  rw [made_append h2]
  exact apply_all hg.1 hh.1 hg.2.1 hh.2.1 (near_of hn) ht hg.2.2.2
theorem Whole.replace {D : ADisk} (h : Whole D) (b : List UInt8) : (D.replace b = (D, 5) ∧ D.room < b.length) ∨ (D.replace b = ({ D with file := b, synced := b.length }, 0) ∧ (b.length : Int) ≤ D.room) := by
 unfold ADisk.replace
 rw [if_neg (by rw [h.on]; simp)]
 split
 ·
  exact .inl ⟨rfl, by assumption⟩
 ·
  right
  have hc : D.count = (D, false) := by unfold ADisk.count; rw [if_pos h.trip]
  rw [hc]
  exact ⟨rfl, by omega⟩
theorem Whole.anew {D : ADisk} (h : Whole D) {g : AHard} (hg : Held g) : ((anewP D g).1 = D ∧ ((anewP D g).2 = 2 ∨ (anewP D g).2 = 5)) ∨ ((anewP D g).2 = 0 ∧ Whole (anewP D g).1 ∧ Kept (anewP D g).1.file g ∧ (anewP D g).1.room = D.room) := by
 unfold anewP
 split
 ·
  exact .inl ⟨rfl, .inl rfl⟩
 ·
  rename_i hl
  rcases h.replace (frameP (1 :: g.enc)) with ⟨e, _⟩ | ⟨e, _⟩
  ·
   rw [e]; exact .inl ⟨rfl, .inr rfl⟩
  ·
   rw [e]; exact .inr ⟨rfl, ⟨h.on, h.trip, rfl⟩, kept_all hg hl, rfl⟩
theorem Whole.append {D : ADisk} (h : Whole D) (b : List UInt8) : D.append b = (D, 5) ∨ (D.append b).2 = 0 ∧ (D.append b).1 = { D with file := D.file ++ b } := by
 unfold ADisk.append
 rw [if_neg (by rw [h.on]; simp)]
 split
 ·
  exact .inl rfl
 ·
  right
  have hc : ({ D with file := D.file ++ b } : ADisk).count = ({ D with file := D.file ++ b }, false) := by unfold ADisk.count; rw [if_pos h.trip]
  simp only [hc]
  exact ⟨rfl, rfl⟩
theorem sync_on {D : ADisk} (h : D.off = false) (ht : D.trip = 0) : D.sync = ({ D with synced := D.file.length }, 0) := by
 unfold ADisk.sync
 have hc : D.count = (D, false) := by unfold ADisk.count; rw [if_pos ht]
 rw [if_neg (by rw [h]; simp), hc]
 rfl
/-- A save on a disk without trips: it is done, or refused. -/
theorem save_whole {D : ADisk} {g h : AHard} (hw : Whole D) (hk : Kept D.file g) (hg : Held g) (hho : ∀ x ∈ h.log, x.ok) (hhc : h.conf.ok) (hhl : h.log.length ≤ 1000000) :
  ((saveP D g h).1 = D ∧ (saveP D g h).2.1 = g ∧ (((saveP D g h).2.2 = 6 ∧ (checkH h = false ∨ h.term < g.term ∨ h.base < g.base)) ∨ (saveP D g h).2.2 = 2 ∨ (saveP D g h).2.2 = 5)) ∨
  ((saveP D g h).2.1 = h ∧ (saveP D g h).2.2 = 0 ∧ Whole (saveP D g h).1 ∧ Kept (saveP D g h).1.file h ∧ Held h ∧ (saveP D g h).1.room = D.room) := by
 unfold saveP
 rw [hw.on]
 simp only [Bool.false_eq_true, if_false]
 by_cases hb : checkH h = false ∨ h.term < g.term ∨ h.base < g.base
 ·
  rw [if_pos hb]
  exact .inl ⟨rfl, rfl, .inl ⟨rfl, hb⟩⟩
 rw [if_neg hb]
 have hr : Right h := (checkH_iff h).1 (by
  rcases hc : checkH h with _ | _
  ·
   exact absurd (.inl hc) hb
  ·
   rfl)
 have hh : Held h := ⟨hr, hho, hhc, hhl⟩
 have ht : g.term ≤ h.term := by omega
 suffices hs : ((writeP D g h).1 = D ∧ ((writeP D g h).2 = 2 ∨ (writeP D g h).2 = 5)) ∨ ((writeP D g h).2 = 0 ∧ Whole (writeP D g h).1 ∧ Kept (writeP D g h).1.file h ∧ (writeP D g h).1.room = D.room) by
  rcases hs with ⟨h1, h2⟩ | ⟨h1, h2, h3, h4⟩
  ·
   have : (writeP D g h).2 ≠ 0 := by omega
   rw [if_neg this]
   exact .inl ⟨h1, rfl, .inr h2⟩
  ·
   rw [if_pos h1]
   exact .inr ⟨rfl, h1, h2, h3, hh, h4⟩
 unfold writeP
 by_cases hn : nearB g h = false
 ·
  rw [if_pos hn]
  exact hw.anew hh
 rw [if_neg hn]
 have hn : nearB g h = true := by simpa using hn
 by_cases hm : (moreP g h).length = 0
 ·
  rw [if_pos hm]
  refine .inr ⟨rfl, hw, ?_, rfl⟩
  have := kept_more hk hg hh hn ht
  rw [List.eq_nil_of_length_eq_zero hm, List.append_nil] at this
  exact this
 rw [if_neg hm]
 rcases hw.append (moreP g h) with e | ⟨e1, e2⟩
 ·
  rw [e, if_neg (show ¬ (5 : Int) = 0 by omega), if_pos rfl]
  exact hw.anew hh
 ·
  rw [if_pos e1, e2, sync_on (D := { D with file := D.file ++ moreP g h }) hw.on hw.trip]
  exact .inr ⟨rfl, ⟨hw.on, hw.trip, rfl⟩, kept_more hk hg hh hn ht, rfl⟩
/-- The same is saved without a write, whatever trips. -/
theorem save_same {D : ADisk} {g : AHard} (ho : D.off = false) (hg : Held g) : saveP D g g = (D, g, 0) := by
 have hc : checkH g = true := (checkH_iff g).2 hg.1
 have hm : moreP g g = [] := by unfold moreP; rw [recs_same]; rfl
 have hwr : writeP D g g = (D, 0) := by
  unfold writeP
  rw [near_refl, hm, if_neg (by decide), if_pos (show ([] : List UInt8).length = 0 from rfl)]
 unfold saveP
 rw [ho, hwr]
 simp only [Bool.false_eq_true, if_false]
 rw [if_neg (by rw [hc]; rintro (h | h | h); { cases h }; { omega }; { omega })]
 rfl
theorem frames_nil {ps : List (List UInt8)} (h : ps ≠ []) : (ps.flatMap frameP).length ≠ 0 := by
 cases ps with
 | nil => exact absurd rfl h
 | cons p ps =>
  have := frame_len p
  rw [List.flatMap_cons, List.length_append]
  omega
/-- Opened once more: the same, and what is behind whole frames is gone. -/
theorem open_torn {D : ADisk} {g first : AHard} {r f : List UInt8} (ho : D.off = false) (ht : D.trip = 0) (hk : Kept f g) (hf : D.file = f ++ r) (hr : firstP r = none) (hok : D.ok) (hc : checkH first = true) (hb : r = [] → D.synced = D.file.length) :
  openP D first = ({ D with file := f, synced := f.length }, some g, 0) := by
 obtain ⟨ps, h1, rfl, h2⟩ := hk
 have hne : ps ≠ [] := fun e => by rw [e] at h2; cases h2
 have hnz := frames_nil hne
 unfold openP
 rw [ho, hc]
 simp only [Bool.false_eq_true, if_false, Bool.true_eq_false]
 rw [if_neg (by rw [hf, List.length_append]; omega), hf, scan_frames ps h1 r hr, h2]
 simp only
 by_cases hr0 : r = []
 ·
  subst hr0
  replace hb := hb rfl
  rw [hf, List.append_nil] at hb
  rw [List.append_nil, if_neg (by omega)]
  rw [List.append_nil] at hf
  obtain ⟨a, b, c, d, e, k⟩ := D
  simp only at hf hb
  subst hf
  rw [← hb, ← ho]
 ·
  have hrl : r.length ≠ 0 := fun e => hr0 (List.eq_nil_of_length_eq_zero e)
  rw [if_pos (by rw [List.length_append]; omega), List.take_left]
  have hrp : D.replace (ps.flatMap frameP) = ({ D with file := ps.flatMap frameP, synced := (ps.flatMap frameP).length }, 0) := by
   unfold ADisk.replace
   have hcn : D.count = (D, false) := by unfold ADisk.count; rw [if_pos ht]
   have hrm := hok.2.2.2.1
   rw [hf, List.length_append] at hrm
   rw [if_neg (by rw [ho]; simp), if_neg (by omega), hcn]
   rfl
  rw [hrp, ← ho]
  rfl
theorem none_nil : firstP [] = none := rfl
theorem open_whole {D : ADisk} {g first : AHard} (hw : Whole D) (hk : Kept D.file g) (hok : D.ok) (hc : checkH first = true) : openP D first = (D, some g, 0) := by
 have := open_torn (r := []) hw.on hw.trip hk (by simp) none_nil hok hc (fun _ => hw.sync)
 rw [this]
 have hs := hw.sync
 obtain ⟨a, b, c, d, e, k⟩ := D
 simp only at hs
 rw [hs]
theorem crash_whole {D : ADisk} (hs : D.synced = D.file.length) (hon : D.off = false) (k : Int) : (D.crash k).start = { D with trip := 0 } := by
 unfold ADisk.crash ADisk.start
 have hl : D.left k = D.file.length := by unfold ADisk.left; rw [hs]; omega
 rw [hon]
 simp only [Bool.false_eq_true, if_false, hl, List.take_length]
 obtain ⟨a, b, c, d, e, k⟩ := D
 simp only at hs hon
 rw [hs, hon]
/-- A first opening of a new disk. -/
theorem open_first {D : ADisk} {g : AHard} (hw : Whole D) (hg : Held g) (hf : D.file.length = 0) : (openP D g = (D, none, 2) ∨ openP D g = (D, none, 5)) ∨ ((openP D g).2.1 = some g ∧ (openP D g).2.2 = 0 ∧ Whole (openP D g).1 ∧ Kept (openP D g).1.file g ∧ (openP D g).1.room = D.room) := by
 unfold openP
 rw [hw.on, (checkH_iff g).2 hg.1]
 simp only [Bool.false_eq_true, if_false, Bool.true_eq_false]
 rw [if_pos hf]
 rcases hw.anew hg with ⟨h1, h2 | h2⟩ | ⟨h1, h2, h3, h4⟩
 ·
  rw [h1, h2]; exact .inl (.inl rfl)
 ·
  rw [h1, h2]; exact .inl (.inr rfl)
 ·
  rw [if_pos h1]; exact .inr ⟨rfl, h1, h2, h3, h4⟩
end Go.Proofs.YtjhnlncgmejkcaaGreat
namespace Go.Proofs.YtjhnlncgmejkcaaGreat
set_option linter.unusedSimpArgs false
open Go.RowKit

def tabCell (i j : Nat) : Value := .int .u32 (if j < i then (tabE j : Int) else 0)
/-- The table, made up to a place. -/
def tabAr (i : Nat) : Array Value := ((List.range 256).map (tabCell i)).toArray
theorem tabAr_zero : tabAr 0 = Array.replicate 256 (.int .u32 0) := by
 have : tabCell 0 = fun _ => .int .u32 0 := by funext j; simp [tabCell]
 unfold tabAr
 rw [this]
 apply Array.ext_getElem?
 intro j
 simp [Array.getElem?_replicate]
 by_cases h : j < 256 <;> simp [h]
theorem tabAr_size (i : Nat) : (tabAr i).size = 256 := by simp [tabAr]
theorem tabAr_get (i j : Nat) (h : j < 256) : (tabAr i)[j]? = some (tabCell i j) := by simp [tabAr, h]
theorem tabAr_set (i : Nat) (h : i < 256) : (tabAr i).setIfInBounds i (.int .u32 (tabE i : Int)) = tabAr (i + 1) := by
 apply Array.ext_getElem?
 intro j
 rw [Array.getElem?_setIfInBounds]
 by_cases hj : j < 256
 ·
  rw [tabAr_get _ _ hj, tabAr_get _ _ hj]
  by_cases he : i = j
  ·
   subst he
   rw [if_pos rfl, tabAr_size, if_pos h]
   simp [tabCell]
  ·
   rw [if_neg he]
   unfold tabCell
   have : (j < i) = (j < i + 1) := by rw [eq_iff_iff]; omega
   simp only [this]
 ·
  have h1 : (tabAr i)[j]? = none := by simp [tabAr]; omega
  have h2 : (tabAr (i + 1))[j]? = none := by simp [tabAr]; omega
  rw [h1, h2, if_neg (by omega)]
theorem tabAr_one (i : Nat) : (tabAr i).all (·.oneCell') = true := by
 rw [Array.all_eq_true]
 intro j hj
 have := tabAr_get i j (by rw [tabAr_size] at hj; exact hj)
 rw [Array.getElem?_eq_getElem hj] at this
 rw [Option.some.injEq] at this
 rw [this]
 rfl
theorem info_tab : (Tryz.prog.info? 195).map (fun i => (i.zero, i.size)) = some (some (.agg (Array.replicate 256 (.int .u32 0))), 256) := by kernel_rfl

set_option maxRecDepth 100000 in
set_option maxHeartbeats 1000000 in
theorem fr_table (w : World) : Calls Tryz.prog 171 #[] w fun e w' => e = .returned (.agg (tabAr 256)) ∧ Ext w w' := by
 have hz := (zero_of_info info_tab).1
 have hs := (zero_of_info info_tab).2
 have Hs := Lib.hid hs
 clear hs
 go_enter Tryz.func171, Tryz.ntmps171
 go_wp2
 rw [← tabAr_zero]
 go_loopw [5] (fun iv wr => ∃ i : Nat, i ≤ 256 ∧ iv = .int .i64 i ∧ wr = (w.alloc (.cells (tabAr 0) 195)).alloc (.cells (tabAr i) 195)) (fun iv _ => 256 - (intOf iv).toNat)
 case atStart => exact ⟨0, by omega, rfl, rfl⟩
 case round =>
  obtain ⟨i, hi, rfl, rfl⟩ := hrel
  by_cases h : i < 256
  ·
   have hsz := tabAr_size i
   have hget := tabAr_get i i h
   have Hset := Lib.hid (tabAr_set i h)
   have hi0 : (0 : Int) ≤ (i : Int) := by omega
   have hi1 : (i : Int) < 256 := by omega
   go_wp2
   go_loopw [3, 10] (fun sv kv wr => ∃ k s : Nat, k ≤ 8 ∧ kv = .int .i64 k ∧ sv = .int .u32 (s : Int) ∧ s < 4294967296 ∧ tabN (8 - k) s = tabE i ∧ wr = (w.alloc (.cells (tabAr 0) 195)).alloc (.cells (tabAr i) 195)) (fun _ kv _ => 8 - (intOf kv).toNat)
   case atStart => exact ⟨0, i, by omega, rfl, rfl, by omega, rfl, rfl⟩
   case round =>
    obtain ⟨k, s, hk, rfl, rfl, hs, ht, rfl⟩ := hrel
    have Ht := Lib.hid ht
    clear ht
    by_cases hk8 : k < 8
    ·
     have Hst : Hid (tabN (8 - (k + 1)) (tabStep s) = tabE i) := Lib.hid (by have := Ht.out; rw [show 8 - k = (8 - (k + 1)) + 1 by omega, tabN] at this; exact this)
     have Hx := Lib.hid (u32_xor_nat (s / 2) 3988292384 (by omega) (by omega))
     have Hsl := Lib.hid (tabStep_lt hs)
     rcases Nat.mod_two_eq_zero_or_one s with hp | hp
     ·
      have hb : bits .and .u32 (s : Int) 1 = 0 := by
       have := u32_and_nat s 1 (by omega) (by omega)
       rw [Nat.and_one_is_mod, hp] at this
       exact this
      have e : tabStep s = s / 2 := by unfold tabStep; rw [if_neg (by omega)]
      rw [e] at Hst Hsl
      clear hp e
      go_wp2
      exact ⟨⟨k + 1, s / 2, by omega, by go_num, by go_num, Hsl.out, Hst.out, trivial⟩, by simp [intOf]; omega⟩
     ·
      have hb : bits .and .u32 (s : Int) 1 = 1 := by
       have := u32_and_nat s 1 (by omega) (by omega)
       rw [Nat.and_one_is_mod, hp] at this
       exact this
      have e : tabStep s = s / 2 ^^^ 3988292384 := by unfold tabStep; rw [if_pos hp]
      rw [e] at Hst Hsl
      clear hp e
      go_wp2
      refine ⟨⟨k + 1, _, by omega, by go_num, ?_, Hsl.out, Hst.out, trivial⟩, by simp [intOf]; omega⟩
      have hx := Hx.out
      rw [Int.natCast_ediv] at hx
      rw [show ((3988292384 : Nat) : Int) = 3988292384 from rfl, show ((2 : Nat) : Int) = 2 from rfl] at hx
      rw [hx]
    ·
     have hs' : s = tabE i := by have := Ht.out; rw [show 8 - k = 0 by omega] at this; exact this
     subst hs'
     go_wp2
     exact ⟨⟨i + 1, by omega, by go_num, by rw [Hset.out]⟩, by simp [intOf]; omega⟩
  ·
   obtain rfl : i = 256 := by omega
   have hiz : ¬ ((256 : Nat) : Int) < 256 := by omega
   obtain ⟨w2, hw2⟩ : ∃ w2, (w.alloc (.cells (tabAr 0) 195)).alloc (.cells (tabAr 256) 195) = w2 := ⟨_, rfl⟩
   have hg0 : w2.heap[w.heap.size]? = some (.cells (tabAr 0) 195 (0, 0)) := by rw [← hw2]; exact heap_alloc2_old w _ _
   have hg1 : w2.heap[w.heap.size + 1]? = some (.cells (tabAr 256) 195 (0, 0)) := by rw [← hw2]; exact heap_alloc2_new w _ _
   have hE : Ext w w2 := by rw [← hw2]; exact ((Mod.refl _ w).alloc _).alloc _
   rw [hw2]
   have Hg0 := Lib.hid hg0
   have Hg1 := Lib.hid hg1
   have HE := Lib.hid hE
   clear hw2 hg0 hg1 hE hi
   go_wp2_with (first
    | refine wpList_load_row rfl 195 _ rfl (w.heap.size + 1) rfl 195 (tabAr 256) (0, 0) _ Hg1.out Tryz.underlying195 rfl (by rw [tabAr_size]; exact Hs.out) ?_
    | refine wpList_store_row rfl 195 _ _ rfl w.heap.size (tabAr 256) rfl rfl 195 (tabAr 0) Hg0.out (by rw [tabAr_size]; exact Hs.out) (by rw [tabAr_size, tabAr_size]) (tabAr_one 256) ?_)
   refine bodyPost_ret (v := .agg (tabAr 256)) (results_cell_row rfl _ _ _ _ _ (0, 0) _ rfl (setRow_heap w2 _ _ _ _ _ Hg0.out) Tryz.underlying195 rfl (by rw [tabAr_size]; exact Hs.out)) rfl ⟨rfl, Mod.setRow HE.out (.inl (Nat.le_refl _)) _⟩
theorem cell_u32 (s : Nat) (c : UInt8) : bits .xor .u8 ((s : Int) % 256) (c.toNat : Int) = (((s % 256) ^^^ c.toNat : Nat) : Int) := by
 have h := u8_xor_nat (s % 256) c.toNat (by omega) c.toNat_lt
 rw [Int.natCast_emod] at h
 exact h
set_option maxRecDepth 100000 in
set_option maxHeartbeats 1000000 in
theorem fr_more (w : World) (T : Nat → Prop) (s : Nat) (hs : s < 4294967296) (A : Option Addr) (n c : Nat) (l : List UInt8) (h : Byt w T (.slice A n c) l) (hn : l.length = n) (hnl : n ≤ 1000000) :
  Calls Tryz.prog 130 #[.int .u32 (s : Int), .slice A n c] w fun e w' => e = .returned (.int .u32 (crcMore s l : Int)) ∧ Ext w w' := by
 have Hs := Lib.hid (zero_of_info info_tab).2
 have Hz := Lib.hid (zero_of_info info_tab).1
 have h : Sl w T 1 (.slice A n c) n (l.map B) := by unfold Byt at h; rw [hn] at h; exact h
 have Hn := Lib.hid hn
 clear hn
 go_enter Tryz.func130, Tryz.ntmps130
 go_wp2_with fail
 refine (fr_table w).mono ?_
 rintro e w1 ⟨rfl, hE⟩
 have h1 := h.ext hE
 have HE := Lib.hid hE
 clear hE h
 have hz := Hz.out
 obtain ⟨w2, hw2⟩ : ∃ w2, w1.alloc (.cells (tabAr 256) 195) = w2 := ⟨_, rfl⟩
 have hc2 : ∀ j, j < 256 → w2.cell? ⟨w1.heap.size, j, none⟩ = some (.int .u32 (tabE j : Int)) := fun j hj => by
  rw [← hw2, cell_of_row _ _ _ _ _ _ (heap_alloc_new w1 _), tabAr_get 256 j hj]
  unfold tabCell
  rw [if_pos hj]
 have hE2 : Ext w1 w2 := by rw [← hw2]; exact (Mod.refl _ w1).alloc _
 have h2 := h1.ext hE2
 have HE2 := Lib.hid (HE.out.ext hE2)
 have Hc2 := Lib.hid hc2
 have Hw2 := Lib.hid hw2
 clear hE2 hc2 h1 HE hw2
 go_wp2_with (refine wpList_store_row rfl 195 _ _ rfl w1.heap.size (tabAr 256) rfl rfl 195 (Array.replicate 256 (.int .u32 0)) (heap_alloc_new w1 _) (by rw [tabAr_size]; exact Hs.out) (by rw [tabAr_size, Array.size_replicate]) (tabAr_one 256) ?_; rw [World.setRow_alloc_new, Hw2.out])
 clear hz
 go_loopw [0, 11] (fun sv iv wr => ∃ i x : Nat, i ≤ n ∧ iv = .int .i64 i ∧ sv = .int .u32 (x : Int) ∧ x < 4294967296 ∧ x = crcMore s (l.take i) ∧ wr = w2) (fun _ iv _ => n - (intOf iv).toNat)
 case atStart => exact ⟨0, s, by omega, rfl, rfl, hs, rfl, rfl⟩
 case round =>
  obtain ⟨i, x, hi, rfl, rfl, hx, hxe, rfl⟩ := hrel
  have Hxe := Lib.hid hxe
  clear hxe
  by_cases h : i < n
  ·
   obtain ⟨g, off, y, hv, hy, c0⟩ := cellB h2 (i := i) h
   subst hv
   have hi0 : (0 : Int) ≤ (i : Int) := by omega
   have hi1 : (i : Int) < (n : Int) := by omega
   have hxl : (x % 256) ^^^ y.toNat < 256 := Nat.xor_lt_two_pow (n := 8) (by omega) y.toNat_lt
   have hcx := cell_u32 x y
   have hcell := Hc2.out _ hxl
   have ht : tabE ((x % 256) ^^^ y.toNat) < 4294967296 := tabN_lt 8 _ (by omega)
   have hxx := u32_xor_nat (tabE ((x % 256) ^^^ y.toNat)) (x / 256) ht (by omega)
   obtain ⟨j, hj⟩ : ∃ j, (x % 256) ^^^ y.toNat = j := ⟨_, rfl⟩
   rw [hj] at hcx hxl hcell hxx ht
   rw [Int.natCast_ediv] at hxx
   have Hst := Lib.hid (crcStep_lt (s := x) y (by omega))
   have Hse : Hid (crcStep x y = crcMore s (l.take (i + 1))) := Lib.hid (by
    show _ = (l.take (i + 1)).foldl crcStep s
    rw [List.take_add_one, hy, List.foldl_append]
    show crcStep x y = crcStep (crcMore s (l.take i)) y
    rw [← Hxe.out])
   have Hsx : Hid (tabE j ^^^ x / 256 = crcStep x y) := Lib.hid (by rw [← hj]; rfl)
   clear hy h2
   go_wp2
   refine ⟨⟨i + 1, crcStep x y, by omega, by go_num, ?_, Hst.out, Hse.out, trivial⟩, by simp [intOf]; omega⟩
   have e := Hsx.out
   rw [← e, ← hxx]
   rfl
  ·
   obtain rfl : i = n := by omega
   have hf : x = crcMore s l := by rw [Hxe.out, ← Hn.out, List.take_length]
   go_wp2
   go_ret
   exact ⟨by first | rfl | (show Ending.returned (.int .u32 (x : Int)) = _; rw [hf]), HE2.out⟩
end Go.Proofs.YtjhnlncgmejkcaaGreat
