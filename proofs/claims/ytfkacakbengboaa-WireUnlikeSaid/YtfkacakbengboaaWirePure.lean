/-
  Plain laws: what package wire writes is a code, so that unlike data have unlike bytes. No program is walked here. Conditions: as each theorem names them.
-/
import Derived.Test.YtfkacakbengboaaPackPure
import Derived.Test.YtfkacakbengboaaWireN
import Derived.Test.YtfkacakbengboaaKeepMsgD
namespace Go.Proofs.Ytfkacakbengboaa

/-- Two writings: bytes of the one with something behind are bytes of the other with something behind just if E, and what is behind is the same. -/
def Pc (p q : WO) (E : Prop) : Prop := ∀ x y, p = some (x, false) → q = some (y, false) → ∀ r s : List UInt8, (x ++ r = y ++ s ↔ E ∧ r = s)
/-- Written without a fault. -/
def Fine (p : WO) : Prop := ∃ x, p = some (x, false)
theorem Fine.seq {p q : WO} : Fine (p.seq q) ↔ Fine p ∧ Fine q := by
  constructor
  · rintro ⟨x, h⟩
    rcases p with _ | ⟨a, l⟩
    · rw [seq_none] at h; cases h
    · rcases q with _ | ⟨b, m⟩
      · rw [seq_some_none] at h; cases h
      · rw [seq_some] at h
        simp only [Option.some.injEq, Prod.mk.injEq, Bool.or_eq_false_iff] at h
        obtain ⟨_, rfl, rfl⟩ := h
        exact ⟨⟨a, rfl⟩, b, rfl⟩
  · rintro ⟨⟨x, rfl⟩, y, rfl⟩
    exact ⟨x ++ y, rfl⟩
theorem Fine.must {c : Bool} : Fine (wMust c) ↔ c = true := by
  unfold wMust Fine
  cases c <;> simp
theorem Pc.seq {p q p' q' : WO} {E E' : Prop} (h : Pc p q E) (h' : E → Fine p → Fine q → Pc p' q' E') : Pc (p.seq p') (q.seq q') (E ∧ E') := by
  intro x y hx hy r s
  obtain ⟨⟨x1, rfl⟩, x2, rfl⟩ := Fine.seq.1 ⟨x, hx⟩
  obtain ⟨⟨y1, rfl⟩, y2, rfl⟩ := Fine.seq.1 ⟨y, hy⟩
  rw [seq_some] at hx hy
  injection hx with hx; injection hx with hx _
  injection hy with hy; injection hy with hy _
  subst hx; subst hy
  have h1 := h x1 y1 rfl rfl (x2 ++ r) (y2 ++ s)
  rw [List.append_assoc, List.append_assoc, h1]
  constructor
  · rintro ⟨e, h2⟩
    have := (h' e ⟨_, rfl⟩ ⟨_, rfl⟩ x2 y2 rfl rfl r s).1 h2
    exact ⟨⟨e, this.1⟩, this.2⟩
  · rintro ⟨⟨e, e'⟩, h2⟩
    exact ⟨e, (h' e ⟨_, rfl⟩ ⟨_, rfl⟩ x2 y2 rfl rfl r s).2 ⟨e', h2⟩⟩
theorem Pc.congr {p q : WO} {E E' : Prop} (h : Pc p q E) (he : Fine p → Fine q → (E ↔ E')) : Pc p q E' := by
  intro x y hx hy r s
  rw [h x y hx hy r s, he ⟨x, hx⟩ ⟨y, hy⟩]
theorem Pc.none {q : WO} {E : Prop} : Pc none q E := by intro x y hx; cases hx
theorem Pc.must (c d : Bool) : Pc (wMust c) (wMust d) True := by
  intro x y hx hy r s
  unfold wMust at hx hy
  cases c <;> cases d <;> simp at hx hy
  subst hx; subst hy; simp
theorem Pc.nil : Pc (wRaw []) (wRaw []) True := by
  intro x y hx hy r s
  simp [wRaw] at hx hy
  subst hx; subst hy; simp
theorem pc_int {n m : Int} (hn : I64 n) (hm : I64 m) : Pc (wRaw (encInt n)) (wRaw (encInt m)) (n = m) := by
  intro x y hx hy r s
  simp only [wRaw, Option.some.injEq, Prod.mk.injEq, and_true] at hx hy
  subst hx; subst hy
  constructor
  · intro h
    have h1 := int_enc n r hn.1 hn.2
    have h2 := int_enc m s hm.1 hm.2
    rw [h, h2] at h1
    simp only [Prod.mk.injEq, RS.mk.injEq, and_true] at h1
    exact ⟨h1.1.symm, h1.2.symm⟩
  · rintro ⟨rfl, rfl⟩; rfl
theorem pc_mark (a b : Bool) : Pc (wRaw (encMark a)) (wRaw (encMark b)) (a = b) := by
  intro x y hx hy r s
  simp only [wRaw, Option.some.injEq, Prod.mk.injEq, and_true] at hx hy
  subst hx; subst hy
  cases a <;> cases b <;> simp [encMark]
theorem pc_float {a b : Nat} (ha : a < 18446744073709551616) (hb : b < 18446744073709551616) : Pc (wRaw (encFloat a)) (wRaw (encFloat b)) (canon a = canon b) := by
  intro x y hx hy r s
  simp only [wRaw, Option.some.injEq, Prod.mk.injEq, and_true] at hx hy
  subst hx; subst hy
  constructor
  · intro h
    have h1 := float_enc a r ha
    have h2 := float_enc b s hb
    rw [h, h2] at h1
    simp only [Prod.mk.injEq, RS.mk.injEq, and_true] at h1
    exact ⟨h1.1.symm, h1.2.symm⟩
  · rintro ⟨h, rfl⟩; unfold encFloat; rw [h]
theorem pc_text (a b : List UInt8) : Pc (wText a) (wText b) (a = b) := by
  intro x y hx hy r s
  unfold wText at hx hy
  split at hx
  · simp at hx
  split at hy
  · simp at hy
  simp only [Option.some.injEq, Prod.mk.injEq, and_true] at hx hy
  subst hx; subst hy
  constructor
  · intro h
    have h1 := text_enc a r (by omega)
    have h2 := text_enc b s (by omega)
    rw [h, h2] at h1
    simp only [Prod.mk.injEq, RS.mk.injEq, and_true] at h1
    exact ⟨h1.1.symm, h1.2.symm⟩
  · rintro ⟨rfl, rfl⟩; rfl
theorem wRaw_append (a b : List UInt8) : wRaw (a ++ b) = (wRaw a).seq (wRaw b) := rfl
theorem pc_ints : ∀ (a b : List Int), a.length = b.length → (∀ n ∈ a, I64 n) → (∀ n ∈ b, I64 n) → Pc (wRaw (encInts a)) (wRaw (encInts b)) (a = b)
  | [], [], _, _, _ => by simpa [encInts] using Pc.nil
  | n :: a, m :: b, hl, ha, hb => by
    have e1 : encInts (n :: a) = encInt n ++ encInts a := rfl
    have e2 : encInts (m :: b) = encInt m ++ encInts b := rfl
    rw [e1, e2, wRaw_append, wRaw_append]
    refine ((pc_int (ha n (by simp)) (hb m (by simp))).seq fun _ _ _ => pc_ints a b (by simpa using hl) (fun k hk => ha k (by simp [hk])) (fun k hk => hb k (by simp [hk]))).congr fun _ _ => ?_
    simp
theorem canon_zero : canon 0 = 0 := by kernel_rfl
theorem num_zero {n : Nat} (h : sameNum n 0 = true) : n = 0 := by
  unfold sameNum at h
  rw [canon_zero, beq_iff_eq] at h
  unfold canon at h
  split at h
  · simp [theNaN] at h
  · exact h
theorem sameF_iff {a b : Nat} (ha : canonB a = true) (hb : canonB b = true) : sameF a b = true ↔ a = b := by
  unfold canonB at ha hb
  rw [beq_iff_eq] at ha hb
  unfold sameF
  constructor
  · intro h
    rcases Bool.or_eq_true_iff.1 h with h | h
    · rw [Bool.and_eq_true] at h
      rw [← ha, ← hb, canon_yes h.1, canon_yes h.2]
    · exact beq_iff_eq.1 h
  · rintro rfl; simp
theorem sameF_self (a : Nat) : sameF a a = true := by simp [sameF]

/-- A plain value's bytes. -/
theorem pc_value (a b : AVal) (ha : a.ok) (hb : b.ok) : Pc (wValue a) (wValue b) (eqVal a b = true) := by
  unfold wValue
  refine ((pc_int ha.1 hb.1).seq (E' := eqVal a b = true) fun hk _ _ => ?_).congr fun _ _ => ⟨fun h => h.2, fun h => ⟨?_, h⟩⟩
  · rw [← hk]
    by_cases h0 : a.kind = 0
    · rw [if_pos h0, if_pos h0]
      refine (Pc.must _ _).congr fun h1 h2 => ?_
      rw [Fine.must, Bool.and_eq_true, isEmptyT_iff] at h1 h2
      have e1 := num_zero h1.1
      have e2 := num_zero h2.1
      simp [eqVal, eqT_iff, e1, e2, h1.2, h2.2, hk, sameF_self]
    rw [if_neg h0, if_neg h0]
    by_cases h1 : a.kind = 1
    · rw [if_pos h1, if_pos h1]
      refine ((Pc.must _ _).seq fun _ _ _ => pc_float ha.2.1 hb.2.1).congr fun h1 h2 => ?_
      have g1 := (Fine.seq.1 h1).1
      have g2 := (Fine.seq.1 h2).1
      rw [Fine.must, Bool.and_eq_true, isEmptyT_iff] at g1 g2
      have c1 : canon a.num = a.num := beq_iff_eq.1 g1.1
      have c2 : canon b.num = b.num := beq_iff_eq.1 g2.1
      simp only [eqVal, Bool.and_eq_true, beq_iff_eq, eqT_iff, sameF_iff g1.1 g2.1, c1, c2, g1.2, g2.2, hk, true_and, and_true]
    rw [if_neg h1, if_neg h1]
    by_cases h2 : a.kind = 2
    · rw [if_pos h2, if_pos h2]
      refine ((Pc.must _ _).seq fun _ _ _ => pc_text _ _).congr fun h1 h2 => ?_
      have g1 := (Fine.seq.1 h1).1
      have g2 := (Fine.seq.1 h2).1
      rw [Fine.must] at g1 g2
      have e1 := num_zero g1
      have e2 := num_zero g2
      simp only [eqVal, Bool.and_eq_true, beq_iff_eq, eqT_iff, e1, e2, hk, true_and, sameF_self]
      exact ⟨fun h => bsOf_inj h, fun h => by rw [h]⟩
    · rw [if_neg h2]
      exact Pc.none
  · unfold eqVal at h
    simp only [Bool.and_eq_true, beq_iff_eq] at h
    exact h.1.1
theorem pc_call (a b : ACall) (ha : a.ok) (hb : b.ok) : Pc (wCall a) (wCall b) (eqCall a b = true) := by
  unfold wCall
  refine ((((pc_ints [a.client, a.seq, a.cmd.kind] [b.client, b.seq, b.cmd.kind] rfl (by simp; exact ⟨ha.1, ha.2.1, ha.2.2.1⟩) (by simp; exact ⟨hb.1, hb.2.1, hb.2.2.1⟩)).seq fun _ _ _ => pc_text _ _).seq fun _ _ _ => pc_value _ _ ha.2.2.2.2.1 hb.2.2.2.2.1).seq fun _ _ _ => pc_value _ _ ha.2.2.2.2.2 hb.2.2.2.2.2).congr fun _ _ => ?_
  have hb' : bsOf a.cmd.key = bsOf b.cmd.key ↔ a.cmd.key = b.cmd.key := ⟨fun h => bsOf_inj h, fun h => by rw [h]⟩
  simp only [eqCall, eqCmd, Bool.and_eq_true, beq_iff_eq, eqT_iff, List.cons.injEq, and_true, hb']
  constructor
  · rintro ⟨⟨⟨⟨h1, h2, h3⟩, h4⟩, h5⟩, h6⟩; exact ⟨⟨h1, h2⟩, ⟨⟨h3, h4⟩, h5⟩, h6⟩
  · rintro ⟨⟨h1, h2⟩, ⟨⟨h3, h4⟩, h5⟩, h6⟩; exact ⟨⟨⟨⟨h1, h2, h3⟩, h4⟩, h5⟩, h6⟩
theorem pc_conf (a b : AConf) (ha : a.ok) (hb : b.ok) : Pc (wConf a) (wConf b) (eqConf a b = true) := by
  unfold wConf
  refine (pc_ints [a.full, a.wit, a.learn, a.learnWit] [b.full, b.wit, b.learn, b.learnWit] rfl (by simp; exact ha) (by simp; exact hb)).congr fun _ _ => ?_
  simp only [eqConf, Bool.and_eq_true, beq_iff_eq, List.cons.injEq, and_true]
  constructor
  · rintro ⟨h1, h2, h3, h4⟩; exact ⟨⟨⟨h1, h2⟩, h3⟩, h4⟩
  · rintro ⟨⟨⟨h1, h2⟩, h3⟩, h4⟩; exact ⟨h1, h2, h3, h4⟩
theorem noneV_same {a b : AVal} (ha : noneV a = true) (hb : noneV b = true) : eqVal a b = true := by
  simp only [noneV, Bool.and_eq_true, beq_iff_eq, isEmptyT_iff] at ha hb
  simp [eqVal, eqT_iff, ha.1.1, hb.1.1, num_zero ha.1.2, num_zero hb.1.2, ha.2, hb.2, sameF_self]
theorem noCall_same {a b : ACall} (ha : noCallB a = true) (hb : noCallB b = true) : eqCall a b = true := by
  simp only [noCallB, Bool.and_eq_true, beq_iff_eq, isEmptyT_iff] at ha hb
  obtain ⟨⟨⟨⟨⟨a1, a2⟩, a3⟩, a4⟩, a5⟩, a6⟩ := ha
  obtain ⟨⟨⟨⟨⟨b1, b2⟩, b3⟩, b4⟩, b5⟩, b6⟩ := hb
  simp [eqCall, eqCmd, eqT_iff, a1, a2, a3, a4, b1, b2, b3, b4, noneV_same a5 b5, noneV_same a6 b6]
theorem confB_same {a b : AConf} (ha : confB a = true) (hb : confB b = true) : eqConf a b = true := by
  simp only [confB, Bool.and_eq_true, beq_iff_eq] at ha hb
  simp [eqConf, ha.1.1.1, ha.1.1.2, ha.1.2, ha.2, hb.1.1.1, hb.1.1.2, hb.1.2, hb.2]
theorem pc_entry (a b : AEntry) (ha : a.ok) (hb : b.ok) : Pc (wEntry a) (wEntry b) (eqEntry a b = true) := by
  unfold wEntry
  refine (((((pc_ints [a.term, a.kind] [b.term, b.kind] rfl (by simp; exact ⟨ha.1, ha.2.1⟩) (by simp; exact ⟨hb.1, hb.2.1⟩)).seq fun _ _ _ => Pc.must _ _).seq fun _ _ _ => Pc.must _ _).seq fun _ _ _ => Pc.must _ _).seq (E' := eqEntry a b = true) fun hk h1 h2 => ?_).congr fun _ _ => ⟨fun h => h.2, fun h => ⟨?_, h⟩⟩
  · have hk := hk.1.1.1
    simp only [List.cons.injEq, and_true] at hk
    rw [Fine.seq, Fine.seq, Fine.must, Fine.must] at h1 h2
    have e : eqEntry a b = (eqCall a.call b.call && eqConf a.conf b.conf) := by simp [eqEntry, hk.1, hk.2]
    rw [e]
    obtain ⟨⟨_, h1c⟩, h1f⟩ := h1
    obtain ⟨⟨_, h2c⟩, h2f⟩ := h2
    rw [← hk.2] at h2c h2f ⊢
    by_cases k1 : a.kind = 1
    · rw [if_pos k1, if_pos k1]
      refine (pc_call _ _ ha.2.2.1 hb.2.2.1).congr fun _ _ => ?_
      have := confB_same (a := a.conf) (b := b.conf) (by simpa [k1] using h1f) (by simpa [k1] using h2f)
      simp [this]
    rw [if_neg k1, if_neg k1]
    have hc := noCall_same (a := a.call) (b := b.call) (by simpa [k1] using h1c) (by simpa [k1] using h2c)
    by_cases k2 : a.kind = 2
    · rw [if_pos k2, if_pos k2]
      refine (pc_conf _ _ ha.2.2.2 hb.2.2.2).congr fun _ _ => ?_
      simp [hc]
    · rw [if_neg k2, if_neg k2]
      refine Pc.nil.congr fun _ _ => ?_
      have := confB_same (a := a.conf) (b := b.conf) (by simpa [k2] using h1f) (by simpa [k2] using h2f)
      simp [hc, this]
  · simp only [eqEntry, Bool.and_eq_true, beq_iff_eq] at h
    simp [h.1.1.1, h.1.1.2]
theorem pc_entries : ∀ (a b : List AEntry), a.length = b.length → (∀ x ∈ a, x.ok) → (∀ x ∈ b, x.ok) → Pc (wEntries a) (wEntries b) (eqEnts a b = true)
  | [], [], _, _, _ => by simpa [wEntries, eqEnts, eqL] using Pc.nil
  | x :: a, y :: b, hl, ha, hb => by
    unfold wEntries
    refine ((pc_entry x y (ha x (by simp)) (hb y (by simp))).seq fun _ _ _ => pc_entries a b (by simpa using hl) (fun k hk => ha k (by simp [hk])) (fun k hk => hb k (by simp [hk]))).congr fun _ _ => ?_
    simp [eqEnts, eqL]
theorem i64_len {n : Nat} (h : n ≤ maxLen) : I64 (n : Int) := by unfold maxLen at h; unfold I64; omega
theorem pc_list (a b : List AEntry) (la : a.length ≤ maxLen) (lb : b.length ≤ maxLen) (ha : ∀ x ∈ a, x.ok) (hb : ∀ x ∈ b, x.ok) : Pc (wList a) (wList b) (eqEnts a b = true) := by
  unfold wList
  refine ((pc_int (i64_len la) (i64_len lb)).seq fun h _ _ => pc_entries a b (by omega) ha hb).congr fun _ _ => ⟨fun h => h.2, fun h => ⟨?_, h⟩⟩
  have := ((eqL_iff _ _ _).1 h).1
  omega
/-- The plain part of AHead.ok. -/
def AHead.fit (h : AHead) : Prop := (∀ n ∈ h.ints, I64 n) ∧ h.ents.length ≤ maxLen ∧ (∀ x ∈ h.ents, x.ok) ∧ h.conf.ok ∧ h.inn ≤ maxLen
theorem AHead.ok.fit {w : World} {T : Nat → Prop} {h : AHead} (k : h.ok w T) : h.fit := ⟨k.1, k.2.1.1.le, k.2.1.2, k.2.2.1, k.2.2.2.2.2⟩
def eqHead0 (a b : AHead) : Bool := a.kind == b.kind && a.src == b.src && a.dst == b.dst && a.term == b.term && a.index == b.index && a.logTerm == b.logTerm && a.commit == b.commit && a.round == b.round && a.yes == b.yes && eqEnts a.ents b.ents && eqConf a.conf b.conf && (a.snap == b.snap)
theorem eqHead_eq (a b : AHead) : eqHead a b = (eqHead0 a b && a.inn == b.inn) := rfl
theorem pc_head (a b : AHead) (ha : a.fit) (hb : b.fit) : Pc (wHead a) (wHead b) (eqHead0 a b = true) := by
  unfold wHead
  refine ((((((pc_ints a.ints b.ints rfl ha.1 hb.1).seq fun _ _ _ => pc_mark _ _).seq fun _ _ _ => Pc.must _ _).seq fun _ _ _ => pc_list _ _ ha.2.1 hb.2.1 ha.2.2.1 hb.2.2.1).seq fun _ _ _ => pc_conf _ _ ha.2.2.2.1 hb.2.2.2.1).seq fun _ _ _ => pc_text _ _).congr fun _ _ => ?_
  simp only [eqHead0, Bool.and_eq_true, beq_iff_eq, List.cons.injEq, and_true]
  constructor
  · rintro ⟨⟨⟨⟨⟨h1, h2, h3, h4, h5, h6, h7, h8⟩, h9⟩, h10⟩, h11⟩, h12⟩
    exact ⟨⟨⟨⟨⟨⟨⟨⟨⟨⟨⟨h1, h2⟩, h3⟩, h4⟩, h5⟩, h6⟩, h7⟩, h8⟩, h9⟩, h10⟩, h11⟩, h12⟩
  · rintro ⟨⟨⟨⟨⟨⟨⟨⟨⟨⟨⟨h1, h2⟩, h3⟩, h4⟩, h5⟩, h6⟩, h7⟩, h8⟩, h9⟩, h10⟩, h11⟩, h12⟩
    exact ⟨⟨⟨⟨⟨h1, h2, h3, h4, h5, h6, h7, h8⟩, h9⟩, h10⟩, h11⟩, h12⟩
theorem pc_msg0 (a b : AHead) (ha : a.fit) (hb : b.fit) : Pc (wMsg0 a) (wMsg0 b) (eqHead a b = true) := by
  unfold wMsg0
  refine (((pc_head a b ha hb).seq fun _ _ _ => Pc.must _ _).seq fun _ _ _ => pc_int (by simp [I64]) (by simp [I64])).congr fun h1 h2 => ?_
  rw [Fine.seq, Fine.seq, Fine.must, decide_eq_true_iff] at h1 h2
  rw [eqHead_eq, h1.1.2, h2.1.2]
  simp
theorem pc_inner (a : List AHead) : ∀ (b : List AHead), a.length = b.length → (∀ x ∈ a, x.fit) → (∀ x ∈ b, x.fit) → Pc (wInner a) (wInner b) (eqL eqHead a b = true) := by
  induction a with
  | nil =>
    intro b hl _ _
    cases b with
    | nil => exact Pc.nil.congr fun _ _ => by simp [eqL]
    | cons y b => simp at hl
  | cons x a ih =>
    intro b hl ha hb
    cases b with
    | nil => simp at hl
    | cons y b =>
      refine Pc.congr (p := (wMsg0 x).seq (wInner a)) (q := (wMsg0 y).seq (wInner b)) ((pc_msg0 x y (ha x (by simp)) (hb y (by simp))).seq fun _ _ _ => ih b (Nat.succ.inj hl) (fun k hk => ha k (List.mem_cons_of_mem _ hk)) (fun k hk => hb k (List.mem_cons_of_mem _ hk))) fun _ _ => ?_
      rw [eqL, Bool.and_eq_true]
theorem pc_msg (a b : AHead) (la lb : List AHead) (ha : a.fit) (hb : b.fit) (na : a.inn = la.length) (nb : b.inn = lb.length) (hla : ∀ x ∈ la, x.fit) (hlb : ∀ x ∈ lb, x.fit) : Pc (wMsg a la) (wMsg b lb) ((eqHead a b && eqL eqHead la lb) = true) := by
  unfold wMsg
  have h1 := ha.2.2.2.2
  have h2 := hb.2.2.2.2
  rw [na] at h1
  rw [nb] at h2
  refine (((pc_head a b ha hb).seq fun _ _ _ => Pc.must _ _).seq fun _ _ _ => (pc_int (i64_len h1) (i64_len h2)).seq fun h _ _ => pc_inner la lb (by omega) hla hlb).congr fun _ _ => ?_
  rw [eqHead_eq, na, nb]
  simp only [Bool.and_eq_true, beq_iff_eq]
  constructor
  · rintro ⟨⟨h1, _⟩, h2, h3⟩; exact ⟨⟨h1, by omega⟩, h3⟩
  · rintro ⟨⟨h1, h2⟩, h3⟩; exact ⟨⟨h1, trivial⟩, by omega, h3⟩
/-- Unlike messages have unlike bytes. -/
theorem unlike (a b : AHead) (la lb : List AHead) (ha : a.fit) (hb : b.fit) (na : a.inn = la.length) (nb : b.inn = lb.length) (hla : ∀ x ∈ la, x.fit) (hlb : ∀ x ∈ lb, x.fit)
    (e1 : (told (wMsg a la)).2 = 0) (e2 : (told (wMsg b lb)).2 = 0) : ((told (wMsg a la)).1 == (told (wMsg b lb)).1) = (eqHead a b && eqL eqHead la lb) := by
  have fine : ∀ o : WO, (told o).2 = 0 → ∃ d, o = some (d, false) ∧ (told o).1 = d := by
    intro o h
    unfold told at h ⊢
    rcases o with _ | ⟨d, l⟩
    · simp at h
    · by_cases hl : (l || decide (16384 < d.length)) = true
      · simp only [hl, if_true] at h; simp at h
      · simp only [hl] at h ⊢
        cases l
        · exact ⟨d, rfl, rfl⟩
        · simp at hl
  obtain ⟨x, hx, hx'⟩ := fine _ e1
  obtain ⟨y, hy, hy'⟩ := fine _ e2
  have := pc_msg a b la lb ha hb na nb hla hlb x y hx hy [] []
  rw [hx', hy', Bool.eq_iff_iff, beq_iff_eq]
  simpa using this
end Go.Proofs.Ytfkacakbengboaa
