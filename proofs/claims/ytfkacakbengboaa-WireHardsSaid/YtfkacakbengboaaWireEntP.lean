/-
 Plain functions: what the page (layer 10) says of an entry's and of a hard state's bytes; what package wire writes is the same. No program is walked here. Conditions: as each theorem names them.
-/
import Derived.Test.YtfkacakbengboaaGSpec
namespace Go.Proofs.Ytfkacakbengboaa
set_option linter.unusedSimpArgs false

/-- May a value be written? -/
def valB (v : AVal) : Bool := !(decide (v.kind < 0) || decide (2 < v.kind) || (v.kind != 2 && !isEmptyT v.text)) && ((v.kind == 1 && v.num == canon v.num) || (v.kind != 1 && v.num == 0))
/-- An entry? -/
def entB (x : AEntry) : Bool := !(decide (x.kind < 0) || decide (2 < x.kind) || (x.kind != 1 && !eqCall x.call ACall.zero) || (x.kind != 2 && !eqConf x.conf AConf.zero)) && (x.kind != 1 || valB x.call.cmd.old && valB x.call.cmd.val)
def encC (c : ACall) : List UInt8 := encInts [c.client, c.seq, c.cmd.kind] ++ encText (bsOf c.cmd.key) ++ encV c.cmd.old ++ encV c.cmd.val
def encF (c : AConf) : List UInt8 := encInts [c.full, c.wit, c.learn, c.learnWit]
def encE (x : AEntry) : List UInt8 := encInts [x.term, x.kind] ++ (if x.kind = 1 then encC x.call else if x.kind = 2 then encF x.conf else [])
def encEs (l : List AEntry) : List UInt8 := encInt l.length ++ l.flatMap encE
/-- Bytes, or that they are too long. -/
def sizedP (b : List UInt8) : List UInt8 × Int := if 16384 < b.length then ([], 2) else (b, 0)
def entryP (x : AEntry) : List UInt8 × Int := if entB x then sizedP (encE x) else ([], 3)
def encH (t v b bt : Int) (c : AConf) (snap : List UInt8) (l : List AEntry) : List UInt8 := encInts [t, v, b, bt] ++ encF c ++ encText snap ++ encEs l
def hardP (t v b bt : Int) (c : AConf) (snap : List UInt8) (l : List AEntry) : List UInt8 × Int := if l.all entB then sizedP (encH t v b bt c snap l) else ([], 3)
/-- What package wire writes of a hard state. -/
def wHard (t v b bt : Int) (c : AConf) (snap : List UInt8) (l : List AEntry) : WO := (((wRaw (encInts [t, v, b, bt])).seq (wConf c)).seq (wText snap)).seq (wList l)
/-- What is written, if it may be (ok), is d; a text that is too long has made d too long. -/
def WRel (o : WO) (ok : Bool) (d : List UInt8) : Prop := if ok then ∃ y l, o = some (y, l) ∧ (l = false → y = d) ∧ (l = true → 16384 < d.length) else o = none
theorem WRel.seq {a b : WO} {p q : Bool} {d e : List UInt8} (h : WRel a p d) (k : WRel b q e) : WRel (a.seq b) (p && q) (d ++ e) := by
 unfold WRel at *
 rcases p with _ | _
 ·
  rw [if_neg (by simp)] at h
  rw [if_neg (by simp), h]
  rfl
 ·
  rw [if_pos rfl] at h
  obtain ⟨y, l, rfl, h1, h2⟩ := h
  rcases q with _ | _
  ·
   rw [if_neg (by simp)] at k
   rw [if_neg (by simp), k]
   rfl
  ·
   rw [if_pos rfl] at k
   obtain ⟨z, m, rfl, k1, k2⟩ := k
   rw [if_pos (by rfl)]
   refine ⟨y ++ z, l || m, rfl, fun hl => ?_, fun hl => ?_⟩
   ·
    rw [Bool.or_eq_false_iff] at hl
    rw [h1 hl.1, k1 hl.2]
   ·
    rw [List.length_append]
    rw [Bool.or_eq_true] at hl
    rcases hl with hl | hl
    ·
     have := h2 hl; omega
    ·
     have := k2 hl; omega
theorem wrel_raw (d : List UInt8) : WRel (wRaw d) true d := by
 unfold WRel
 rw [if_pos rfl]
 exact ⟨d, false, rfl, fun _ => rfl, fun h => by cases h⟩
theorem wrel_must (b : Bool) : WRel (wMust b) b [] := by
 unfold WRel wMust
 rcases b with _ | _
 ·
  rfl
 ·
  exact ⟨[], false, rfl, fun _ => rfl, fun h => by cases h⟩
theorem wrel_text (t : List UInt8) : WRel (wText t) true (encText t) := by
 unfold WRel wText
 rw [if_pos rfl]
 split
 ·
  refine ⟨[], true, rfl, fun h => (by cases h), fun _ => ?_⟩
  unfold encText
  rw [List.length_append]
  omega
 ·
  exact ⟨_, false, rfl, fun _ => rfl, fun h => by cases h⟩
theorem wrel_told {o : WO} {ok : Bool} {d : List UInt8} (h : WRel o ok d) : told o = if ok then sizedP d else ([], 3) := by
 unfold WRel at h
 rcases ok with _ | _
 ·
  rw [if_neg (by simp)] at h
  rw [h]
  rfl
 ·
  rw [if_pos rfl] at h
  obtain ⟨y, l, rfl, h1, h2⟩ := h
  unfold told sizedP
  simp only [if_true]
  rcases l with _ | _
  ·
   rw [h1 rfl]
   simp
  ·
   have := h2 rfl
   rw [if_pos this]
   rfl
theorem WRel.cast {o : WO} {p q : Bool} {d e : List UInt8} (h : WRel o p d) (hp : p = q) (hd : q = true → d = e) : WRel o q e := by
 subst hp
 rcases p with _ | _
 ·
  exact h
 ·
  rw [← hd rfl]; exact h
theorem canon_zero (n : Nat) : sameNum n 0 = (n == 0) := by
 unfold sameNum
 have h0 : canon 0 = 0 := by decide +kernel
 rw [h0, Bool.eq_iff_iff, beq_iff_eq, beq_iff_eq]
 unfold canon
 split
 ·
  rename_i h
  constructor
  ·
   intro e; exact absurd e (by decide)
  ·
   intro e; subst e; exact absurd h (by decide +kernel)
 ·
  rfl
theorem wrel_value (v : AVal) : WRel (wValue v) (valB v) (encV v) := by
 unfold wValue
 refine ((wrel_raw (encInt v.kind)).seq (q := valB v) (e := if v.kind = 1 then encFloat v.num else if v.kind = 2 then encText (bsOf v.text) else []) ?_).cast (by simp) (fun _ => rfl)
 rcases ht : isEmptyT v.text with _ | _ <;> rcases hn : (v.num == 0) with _ | _ <;> rcases hc : (v.num == canon v.num) with _ | _
 all_goals
  have hc' : (canon v.num == v.num) = (v.num == canon v.num) := by rw [Bool.eq_iff_iff, beq_iff_eq, beq_iff_eq]; exact eq_comm
  split
  ·
   rename_i h0
   refine (wrel_must _).cast ?_ (fun _ => by first | rfl | rw [if_neg (by omega), if_neg (by omega)])
   unfold valB
   rw [canon_zero, ht, hn, h0]
   simp
  split
  ·
   rename_i h0 h1
   refine ((wrel_must _).seq (wrel_raw _)).cast ?_ (fun _ => by first | rfl | (rw [if_pos h1]; rfl))
   unfold valB canonB
   rw [hc', hc, ht, h1]
   simp
  split
  ·
   rename_i h0 h1 h2
   refine ((wrel_must _).seq (wrel_text _)).cast ?_ (fun _ => by first | rfl | (rw [if_neg h1, if_pos h2]; rfl))
   unfold valB
   rw [canon_zero, hn, ht, h2]
   simp
  ·
   rename_i h0 h1 h2
   have hv : valB v = false := by
    unfold valB
    rcases Int.lt_or_le v.kind 0 with h | h
    ·
     rw [decide_eq_true h]; rfl
    ·
     have : 2 < v.kind := by omega
     rw [decide_eq_true this]; simp
   rw [hv]
   rfl
theorem wrel_call (c : ACall) : WRel (wCall c) (valB c.cmd.old && valB c.cmd.val) (encC c) :=
 ((((wrel_raw _).seq (wrel_text _)).seq (wrel_value _)).seq (wrel_value _)).cast (by simp) (fun _ => rfl)
theorem noneV_eq (v : AVal) : noneV v = eqVal v AVal.zero := by
 unfold noneV eqVal sameF
 rw [canon_zero]
 have h0 : isNaN AVal.zero.num = false := by decide +kernel
 rw [h0, Bool.and_false, Bool.false_or]
 have : isEmptyT v.text = eqT v.text AVal.zero.text := by
  rw [Bool.eq_iff_iff, isEmptyT_iff, eqT_iff]
  rfl
 rw [this]
 rfl
theorem noCall_eq (c : ACall) : noCallB c = eqCall c ACall.zero := by
 unfold noCallB eqCall eqCmd
 rw [noneV_eq, noneV_eq]
 have : isEmptyT c.cmd.key = eqT c.cmd.key ACall.zero.cmd.key := by
  rw [Bool.eq_iff_iff, isEmptyT_iff, eqT_iff]
  rfl
 rw [this]
 simp only [Bool.and_assoc]
 rfl
theorem confB_eq (c : AConf) : confB c = eqConf c AConf.zero := rfl
theorem wrel_entry (x : AEntry) : WRel (wEntry x) (entB x) (encE x) := by
 unfold wEntry
 have hlast : WRel (if x.kind = 1 then wCall x.call else if x.kind = 2 then wConf x.conf else wRaw []) (x.kind != 1 || valB x.call.cmd.old && valB x.call.cmd.val) (if x.kind = 1 then encC x.call else if x.kind = 2 then encF x.conf else []) := by
  split
  ·
   rename_i h
   exact (wrel_call _).cast (by rw [h]; simp) (fun _ => rfl)
  ·
   rename_i h
   have hk : (x.kind != 1) = true := by simpa using h
   split
   ·
    exact (wrel_raw _).cast (by rw [hk]; rfl) (fun _ => rfl)
   ·
    exact (wrel_raw _).cast (by rw [hk]; rfl) (fun _ => rfl)
 refine (((((wrel_raw _).seq (wrel_must _)).seq (wrel_must _)).seq (wrel_must _)).seq hlast).cast ?_ (fun _ => by unfold encE; simp)
 unfold entB
 rw [noCall_eq, confB_eq]
 have e : decide (0 ≤ x.kind ∧ x.kind ≤ 2) = !(decide (x.kind < 0) || decide (2 < x.kind)) := by
  rw [Bool.eq_iff_iff]
  simp <;> omega
 rw [e]
 generalize (x.kind != 1 || valB x.call.cmd.old && valB x.call.cmd.val) = Z
 have e1 : (x.kind == 1) = !(x.kind != 1) := (Bool.not_not _).symm
 have e2 : (x.kind == 2) = !(x.kind != 2) := (Bool.not_not _).symm
 rw [e1, e2]
 generalize (x.kind != 1) = a
 generalize (x.kind != 2) = b
 generalize eqCall x.call ACall.zero = c
 generalize eqConf x.conf AConf.zero = d
 generalize decide (x.kind < 0) = f
 generalize decide (2 < x.kind) = g
 cases a <;> cases b <;> cases c <;> cases d <;> cases f <;> cases g <;> cases Z <;> rfl
/-- An entry's bytes are the page's. -/
theorem told_entry (x : AEntry) : told (wEntry x) = entryP x := wrel_told (wrel_entry x)
theorem wrel_entries : ∀ l : List AEntry, WRel (wEntries l) (l.all entB) (l.flatMap encE) := by
 intro l
 induction l with
 | nil => exact wrel_raw []
 | cons x l ih =>
  rw [wEntries, List.all_cons, List.flatMap_cons]
  exact (wrel_entry x).seq ih
theorem wrel_list (l : List AEntry) : WRel (wList l) (l.all entB) (encEs l) := ((wrel_raw _).seq (wrel_entries l)).cast (by simp) (fun _ => rfl)
/-- A hard state's bytes are the page's. -/
theorem told_hard (t v b bt : Int) (c : AConf) (snap : List UInt8) (l : List AEntry) : told (wHard t v b bt c snap l) = hardP t v b bt c snap l :=
 wrel_told (((((wrel_raw _).seq (wrel_raw _)).seq (wrel_text _)).seq (wrel_list l)).cast (by simp) (fun _ => rfl))
end Go.Proofs.Ytfkacakbengboaa
