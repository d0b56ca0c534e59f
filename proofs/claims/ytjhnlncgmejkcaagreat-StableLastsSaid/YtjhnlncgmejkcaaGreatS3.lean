/-
 Plain functions: frames, as package frame and the page make and read them. No program is walked here. Conditions: as each theorem names them.
 Plain functions: what the page (layer 10) says of an entry's and of a hard state's bytes; what package wire writes is the same. No program is walked here. Conditions: as each theorem names them.
 A value that is read: what it is, and what is left. No program is walked here. Conditions: none.
 Plain functions: entries that are read, as the page (layer 10) reads them; where package wire throws, an error is kept there. No program is walked here. Conditions: as each theorem names them.
-/
import Derived.Test.YtjhnlncgmejkcaaGreatPackPure
import Derived.Test.YtjhnlncgmejkcaaGreatGSpec
namespace Go.Proofs.YtjhnlncgmejkcaaGreat
set_option linter.unusedSimpArgs false

/-- One step of a sum's table. -/
def tabStep (s : Nat) : Nat := if s % 2 = 1 then (s / 2) ^^^ 3988292384 else s / 2
def tabN : Nat → Nat → Nat
 | 0, s => s
 | k + 1, s => tabN k (tabStep s)
def tabE (i : Nat) : Nat := tabN 8 i
def crcStep (s : Nat) (c : UInt8) : Nat := tabE ((s % 256) ^^^ c.toNat) ^^^ (s / 256)
def crcMore (s : Nat) (b : List UInt8) : Nat := b.foldl crcStep s
/-- The sum of a length and a payload. -/
def crcOf (a p : List UInt8) : Nat := 4294967295 - crcMore (crcMore 4294967295 a) p
theorem tabStep_lt {s : Nat} (h : s < 4294967296) : tabStep s < 4294967296 := by
 unfold tabStep
 split
 ·
  exact Nat.xor_lt_two_pow (n := 32) (by omega) (by decide)
 ·
  omega
theorem tabN_lt : ∀ (k s : Nat), s < 4294967296 → tabN k s < 4294967296
 | 0, _, h => h
 | k + 1, _, h => tabN_lt k _ (tabStep_lt h)
theorem crcStep_lt {s : Nat} (c : UInt8) (h : s < 4294967296) : crcStep s c < 4294967296 := by
 unfold crcStep
 have hx : (s % 256) ^^^ c.toNat < 256 := Nat.xor_lt_two_pow (n := 8) (by omega) c.toNat_lt
 exact Nat.xor_lt_two_pow (n := 32) (tabN_lt 8 _ (by omega)) (by omega)
theorem crcMore_lt : ∀ (b : List UInt8) (s : Nat), s < 4294967296 → crcMore s b < 4294967296
 | [], _, h => h
 | c :: b, _, h => crcMore_lt b _ (crcStep_lt c h)
theorem crcOf_lt (a p : List UInt8) : crcOf a p < 4294967296 := by unfold crcOf; omega

/-- The frame of a payload. -/
def frameP (p : List UInt8) : List UInt8 := 157 :: (hib 4 p.length ++ (hib 4 (crcOf (hib 4 p.length) p) ++ p))
/-- The frame at the beginning of bytes: its payload, and its size. -/
def firstP (b : List UInt8) : Option (List UInt8 × Nat) :=
 if b.length < 9 ∨ b[0]? ≠ some 157 then none else
 let n := num8 ((b.drop 1).take 4)
 if 16384 < n ∨ b.length - 9 < n then none else
 if crcOf ((b.drop 1).take 4) ((b.drop 9).take n) ≠ num8 ((b.drop 5).take 4) then none else some ((b.drop 9).take n, 9 + n)
def scanF : Nat → List UInt8 → List (List UInt8) × Nat
 | 0, _ => ([], 0)
 | f + 1, b => match firstP b with
  | none => ([], 0)
  | some (p, n) => (p :: (scanF f (b.drop n)).1, n + (scanF f (b.drop n)).2)
/-- The whole frames at the beginning of bytes: their payloads, and their size. -/
def scanP (b : List UInt8) : List (List UInt8) × Nat := scanF b.length b
theorem frame_len (p : List UInt8) : (frameP p).length = 9 + p.length := by
 simp [frameP, hib_len]
 omega
theorem first_size {b p : List UInt8} {n : Nat} (h : firstP b = some (p, n)) : n = 9 + p.length ∧ n ≤ b.length ∧ p.length ≤ 16384 := by
 unfold firstP at h
 split at h
 ·
  cases h
 ·
  rename_i h0
  simp only at h
  split at h
  ·
   cases h
  ·
   rename_i h1
   split at h
   ·
    cases h
   ·
    simp only [Option.some.injEq, Prod.mk.injEq] at h
    obtain ⟨rfl, rfl⟩ := h
    have : ((b.drop 9).take (num8 ((b.drop 1).take 4))).length = num8 ((b.drop 1).take 4) := by rw [List.length_take, List.length_drop]; omega
    rw [this]
    omega
theorem first_frame {p : List UInt8} (hp : p.length ≤ 16384) (r : List UInt8) : firstP (frameP p ++ r) = some (p, 9 + p.length) := by
 have hl := frame_len p
 have h4 : ∀ x, (hib 4 x).length = 4 := fun x => hib_len 4 x
 obtain ⟨a, ha⟩ : ∃ a, hib 4 p.length = a := ⟨_, rfl⟩
 obtain ⟨c, hc⟩ : ∃ c, hib 4 (crcOf a p) = c := ⟨_, rfl⟩
 have hal : a.length = 4 := by rw [← ha]; exact h4 _
 have hcl : c.length = 4 := by rw [← hc]; exact h4 _
 have hf : frameP p ++ r = 157 :: (a ++ (c ++ (p ++ r))) := by unfold frameP; rw [ha, hc]; simp
 have e1 : (List.drop 1 (frameP p ++ r)).take 4 = a := by rw [hf]; simp [List.take_append, hal]
 have e5 : (List.drop 5 (frameP p ++ r)).take 4 = c := by
  rw [hf]
  simp [List.drop_append, List.take_append, hal, hcl]
 have e9 : (List.drop 9 (frameP p ++ r)) = p ++ r := by
  rw [hf]
  simp [List.drop_append, hal, hcl]
 have hn : num8 a = p.length := by rw [← ha, num8_hib]; exact Nat.mod_eq_of_lt (by omega)
 have hs : num8 c = crcOf a p := by rw [← hc, num8_hib]; exact Nat.mod_eq_of_lt (by have := crcOf_lt a p; omega)
 unfold firstP
 simp only [e1, e5, e9, hn, hs]
 have hp2 : (p ++ r).take p.length = p := by simp
 rw [hp2, if_neg, if_neg, if_neg]
 ·
  simp
 ·
  rw [List.length_append, hl]; omega
 ·
  rintro (h | h)
  ·
   rw [List.length_append, hl] at h; omega
  ·
   rw [hf] at h; simp at h
/-- A strict beginning of a frame is none. -/
theorem first_cut {p : List UInt8} (hp : p.length ≤ 16384) {k : Nat} (hk : k < (frameP p).length) : firstP ((frameP p).take k) = none := by
 have hl := frame_len p
 unfold firstP
 by_cases h9 : k < 9
 ·
  rw [if_pos]
  left
  rw [List.length_take]
  omega
 split
 ·
  rfl
 ·
  simp only
  have e1 : (List.drop 1 ((frameP p).take k)).take 4 = hib 4 p.length := by
   have h1 : (List.drop 1 ((frameP p).take k)).take 4 = (List.drop 1 (frameP p)).take 4 := by
    rw [List.drop_take, List.take_take]
    congr 1
    omega
   rw [h1]
   unfold frameP
   simp [List.take_append, hib_len]
  have hn : num8 (hib 4 p.length) = p.length := by rw [num8_hib]; exact Nat.mod_eq_of_lt (by omega)
  rw [e1, hn, if_pos]
  right
  rw [List.length_take]
  omega
theorem scanF_more : ∀ (f g : Nat) (b : List UInt8), b.length ≤ f → f ≤ g → scanF g b = scanF f b := by
 intro f
 induction f with
 | zero =>
  intro g b hb hg
  have : b = [] := List.eq_nil_of_length_eq_zero (by omega)
  subst this
  cases g with
  | zero => rfl
  | succ g => rfl
 | succ f ih =>
  intro g b hb hg
  cases g with
  | zero => omega
  | succ g =>
   rw [scanF, scanF]
   rcases h : firstP b with _ | ⟨p, n⟩
   ·
    rfl
   ·
    obtain ⟨h1, h2, _⟩ := first_size h
    simp only
    rw [ih g (b.drop n) (by rw [List.length_drop]; omega) (by omega)]
theorem scan_none {b : List UInt8} (h : firstP b = none) : scanP b = ([], 0) := by
 unfold scanP
 cases b with
 | nil => rfl
 | cons c b => rw [List.length_cons, scanF, h]
theorem scan_step {b p : List UInt8} {n : Nat} (h : firstP b = some (p, n)) : scanP b = (p :: (scanP (b.drop n)).1, n + (scanP (b.drop n)).2) := by
 obtain ⟨h1, h2, _⟩ := first_size h
 unfold scanP
 obtain ⟨f, hf⟩ : ∃ f, b.length = f + 1 := ⟨b.length - 1, by omega⟩
 rw [hf, scanF, h]
 simp only
 rw [scanF_more (b.drop n).length f (b.drop n) (Nat.le_refl _) (by rw [List.length_drop]; omega)]
theorem scan_le (b : List UInt8) : (scanP b).2 ≤ b.length := by
 obtain ⟨n, hn⟩ : ∃ n, b.length = n := ⟨_, rfl⟩
 induction n using Nat.strongRecOn generalizing b with
 | _ n ih =>
  rcases h : firstP b with _ | ⟨p, m⟩
  ·
   rw [scan_none h]; exact Nat.zero_le _
  ·
   obtain ⟨h1, h2, _⟩ := first_size h
   rw [scan_step h]
   have := ih (b.drop m).length (by rw [List.length_drop]; omega) (b.drop m) rfl
   rw [List.length_drop] at this
   simp only
   omega
/-- Whole frames, and what is none behind them. -/
theorem scan_frames : ∀ (ps : List (List UInt8)) (_ : ∀ p ∈ ps, p.length ≤ 16384) (r : List UInt8) (_ : firstP r = none), scanP (ps.flatMap frameP ++ r) = (ps, (ps.flatMap frameP).length)
 | [], _, r, h => by
  rw [List.flatMap_nil, List.nil_append, scan_none h]
  rfl
 | p :: ps, hp, r, h => by
  have hp1 := hp p (by simp)
  have ih := scan_frames ps (fun q hq => hp q (by simp [hq])) r h
  rw [List.flatMap_cons, List.append_assoc, scan_step (first_frame hp1 _)]
  have hd : (frameP p ++ (ps.flatMap frameP ++ r)).drop (9 + p.length) = ps.flatMap frameP ++ r := by
   rw [← frame_len p, List.drop_left]
  rw [hd, ih, List.length_append, frame_len]
/-- A beginning of frames: whole ones, and what is none. -/
theorem frames_cut : ∀ (ps : List (List UInt8)) (_ : ∀ p ∈ ps, p.length ≤ 16384) (k : Nat), ∃ j r, j ≤ ps.length ∧ (ps.flatMap frameP).take k = (ps.take j).flatMap frameP ++ r ∧ firstP r = none
 | [], _, k => ⟨0, [], Nat.le_refl _, by simp, rfl⟩
 | p :: ps, hp, k => by
  have hp1 := hp p (by simp)
  by_cases hk : k < (frameP p).length
  ·
   refine ⟨0, (frameP p).take k, Nat.zero_le _, ?_, first_cut hp1 hk⟩
   rw [List.flatMap_cons, List.take_append_of_le_length (by omega)]
   simp
  ·
   obtain ⟨j, r, h1, h2, h3⟩ := frames_cut ps (fun q hq => hp q (by simp [hq])) (k - (frameP p).length)
   refine ⟨j + 1, r, by simp; omega, ?_, h3⟩
   rw [List.flatMap_cons, List.take_append, List.take_of_length_le (by omega), h2, List.take_succ_cons, List.flatMap_cons, List.append_assoc]
end Go.Proofs.YtjhnlncgmejkcaaGreat
namespace Go.Proofs.YtjhnlncgmejkcaaGreat
set_option linter.unusedSimpArgs false

/-- May a value be written? -/
def valB (v : AVal) : Bool := !(decide (v.kind < 0) || decide (2 < v.kind) || (v.kind != 2 && !isEmptyT v.text)) && ((v.kind == 1 && v.num == canon v.num) || (v.kind != 1 && v.num == 0))
/-- An entry? -/
def entB (x : AEntry) : Bool := !(decide (x.kind < 0) || decide (2 < x.kind) || (x.kind != 1 && !eqCall x.call ACall.zero) || (x.kind != 2 && !eqConf x.conf AConf.zero)) && (x.kind != 1 || valB x.call.cmd.old && valB x.call.cmd.val)
def encC (c : ACall) : List UInt8 := encInts [c.client, c.seq, c.cmd.kind] ++ encText (bsOf c.cmd.key) ++ encV c.cmd.old ++ encV c.cmd.val
def encF (c : AConf) : List UInt8 := encInts [c.full, c.wit, c.learn, c.learnWit]
def encE (x : AEntry) : List UInt8 := encInts [x.term, x.kind] ++ (if x.kind = 1 then encC x.call else if x.kind = 2 then encF x.conf else [])
def encEs (l : List AEntry) : List UInt8 := encInt l.length ++ l.flatMap encE
/-- Bytes, or that they are too long. -/
def sizedP (b : List UInt8) : List UInt8 × Int := if 16384 < b.length then ([], 2) else (b, 0)
def entryP (x : AEntry) : List UInt8 × Int := if entB x then sizedP (encE x) else ([], 3)
def encH (t v b bt : Int) (c : AConf) (snap : List UInt8) (l : List AEntry) : List UInt8 := encInts [t, v, b, bt] ++ encF c ++ encText snap ++ encEs l
def hardP (t v b bt : Int) (c : AConf) (snap : List UInt8) (l : List AEntry) : List UInt8 × Int := if l.all entB then sizedP (encH t v b bt c snap l) else ([], 3)
/-- What package wire writes of a hard state. -/
def wHard (t v b bt : Int) (c : AConf) (snap : List UInt8) (l : List AEntry) : WO := (((wRaw (encInts [t, v, b, bt])).seq (wConf c)).seq (wText snap)).seq (wList l)
/-- What is written, if it may be (ok), is d; a text that is too long has made d too long. -/
def WRel (o : WO) (ok : Bool) (d : List UInt8) : Prop := if ok then ∃ y l, o = some (y, l) ∧ (l = false → y = d) ∧ (l = true → 16384 < d.length) else o = none
theorem WRel.seq {a b : WO} {p q : Bool} {d e : List UInt8} (h : WRel a p d) (k : WRel b q e) : WRel (a.seq b) (p && q) (d ++ e) := by
 unfold WRel at *
 rcases p with _ | _
 ·
  rw [if_neg (by simp)] at h
  rw [if_neg (by simp), h]
  rfl
 ·
  rw [if_pos rfl] at h
  obtain ⟨y, l, rfl, h1, h2⟩ := h
  rcases q with _ | _
  ·
   rw [if_neg (by simp)] at k
   rw [if_neg (by simp), k]
   rfl
  ·
   rw [if_pos rfl] at k
   obtain ⟨z, m, rfl, k1, k2⟩ := k
   rw [if_pos (by rfl)]
   refine ⟨y ++ z, l || m, rfl, fun hl => ?_, fun hl => ?_⟩
   ·
    rw [Bool.or_eq_false_iff] at hl
    rw [h1 hl.1, k1 hl.2]
   ·
    rw [List.length_append]
    rw [Bool.or_eq_true] at hl
    rcases hl with hl | hl
    ·
     have := h2 hl; omega
    ·
     have := k2 hl; omega
theorem wrel_raw (d : List UInt8) : WRel (wRaw d) true d := by
 unfold WRel
 rw [if_pos rfl]
 exact ⟨d, false, rfl, fun _ => rfl, fun h => by cases h⟩
theorem wrel_must (b : Bool) : WRel (wMust b) b [] := by
 unfold WRel wMust
 rcases b with _ | _
 ·
  rfl
 ·
  exact ⟨[], false, rfl, fun _ => rfl, fun h => by cases h⟩
theorem wrel_text (t : List UInt8) : WRel (wText t) true (encText t) := by
 unfold WRel wText
 rw [if_pos rfl]
 split
 ·
  refine ⟨[], true, rfl, fun h => (by cases h), fun _ => ?_⟩
  unfold encText
  rw [List.length_append]
  omega
 ·
  exact ⟨_, false, rfl, fun _ => rfl, fun h => by cases h⟩
theorem wrel_told {o : WO} {ok : Bool} {d : List UInt8} (h : WRel o ok d) : told o = if ok then sizedP d else ([], 3) := by
 unfold WRel at h
 rcases ok with _ | _
 ·
  rw [if_neg (by simp)] at h
  rw [h]
  rfl
 ·
  rw [if_pos rfl] at h
  obtain ⟨y, l, rfl, h1, h2⟩ := h
  unfold told sizedP
  simp only [if_true]
  rcases l with _ | _
  ·
   rw [h1 rfl]
   simp
  ·
   have := h2 rfl
   rw [if_pos this]
   rfl
theorem WRel.cast {o : WO} {p q : Bool} {d e : List UInt8} (h : WRel o p d) (hp : p = q) (hd : q = true → d = e) : WRel o q e := by
 subst hp
 rcases p with _ | _
 ·
  exact h
 ·
  rw [← hd rfl]; exact h
theorem canon_zero (n : Nat) : sameNum n 0 = (n == 0) := by
 unfold sameNum
 have h0 : canon 0 = 0 := by decide +kernel
 rw [h0, Bool.eq_iff_iff, beq_iff_eq, beq_iff_eq]
 unfold canon
 split
 ·
  rename_i h
  constructor
  ·
   intro e; exact absurd e (by decide)
  ·
   intro e; subst e; exact absurd h (by decide +kernel)
 ·
  rfl
theorem wrel_value (v : AVal) : WRel (wValue v) (valB v) (encV v) := by
 unfold wValue
 refine ((wrel_raw (encInt v.kind)).seq (q := valB v) (e := if v.kind = 1 then encFloat v.num else if v.kind = 2 then encText (bsOf v.text) else []) ?_).cast (by simp) (fun _ => rfl)
 rcases ht : isEmptyT v.text with _ | _ <;> rcases hn : (v.num == 0) with _ | _ <;> rcases hc : (v.num == canon v.num) with _ | _
 all_goals
  have hc' : (canon v.num == v.num) = (v.num == canon v.num) := by rw [Bool.eq_iff_iff, beq_iff_eq, beq_iff_eq]; exact eq_comm
  split
  ·
   rename_i h0
   refine (wrel_must _).cast ?_ (fun _ => by first | rfl | rw [if_neg (by omega), if_neg (by omega)])
   unfold valB
   rw [canon_zero, ht, hn, h0]
   simp
  split
  ·
   rename_i h0 h1
   refine ((wrel_must _).seq (wrel_raw _)).cast ?_ (fun _ => by first | rfl | (rw [if_pos h1]; rfl))
   unfold valB canonB
   rw [hc', hc, ht, h1]
   simp
  split
  ·
   rename_i h0 h1 h2
   refine ((wrel_must _).seq (wrel_text _)).cast ?_ (fun _ => by first | rfl | (rw [if_neg h1, if_pos h2]; rfl))
   unfold valB
   rw [canon_zero, hn, ht, h2]
   simp
  ·
   rename_i h0 h1 h2
   have hv : valB v = false := by
    unfold valB
    rcases Int.lt_or_le v.kind 0 with h | h
    ·
     rw [decide_eq_true h]; rfl
    ·
     have : 2 < v.kind := by omega
     rw [decide_eq_true this]; simp
   rw [hv]
   rfl
theorem wrel_call (c : ACall) : WRel (wCall c) (valB c.cmd.old && valB c.cmd.val) (encC c) :=
 ((((wrel_raw _).seq (wrel_text _)).seq (wrel_value _)).seq (wrel_value _)).cast (by simp) (fun _ => rfl)
theorem noneV_eq (v : AVal) : noneV v = eqVal v AVal.zero := by
 unfold noneV eqVal sameF
 rw [canon_zero]
 have h0 : isNaN AVal.zero.num = false := by decide +kernel
 rw [h0, Bool.and_false, Bool.false_or]
 have : isEmptyT v.text = eqT v.text AVal.zero.text := by
  rw [Bool.eq_iff_iff, isEmptyT_iff, eqT_iff]
  rfl
 rw [this]
 rfl
theorem noCall_eq (c : ACall) : noCallB c = eqCall c ACall.zero := by
 unfold noCallB eqCall eqCmd
 rw [noneV_eq, noneV_eq]
 have : isEmptyT c.cmd.key = eqT c.cmd.key ACall.zero.cmd.key := by
  rw [Bool.eq_iff_iff, isEmptyT_iff, eqT_iff]
  rfl
 rw [this]
 simp only [Bool.and_assoc]
 rfl
theorem confB_eq (c : AConf) : confB c = eqConf c AConf.zero := rfl
theorem wrel_entry (x : AEntry) : WRel (wEntry x) (entB x) (encE x) := by
 unfold wEntry
 have hlast : WRel (if x.kind = 1 then wCall x.call else if x.kind = 2 then wConf x.conf else wRaw []) (x.kind != 1 || valB x.call.cmd.old && valB x.call.cmd.val) (if x.kind = 1 then encC x.call else if x.kind = 2 then encF x.conf else []) := by
  split
  ·
   rename_i h
   exact (wrel_call _).cast (by rw [h]; simp) (fun _ => rfl)
  ·
   rename_i h
   have hk : (x.kind != 1) = true := by simpa using h
   split
   ·
    exact (wrel_raw _).cast (by rw [hk]; rfl) (fun _ => rfl)
   ·
    exact (wrel_raw _).cast (by rw [hk]; rfl) (fun _ => rfl)
 refine (((((wrel_raw _).seq (wrel_must _)).seq (wrel_must _)).seq (wrel_must _)).seq hlast).cast ?_ (fun _ => by unfold encE; simp)
 unfold entB
 rw [noCall_eq, confB_eq]
 have e : decide (0 ≤ x.kind ∧ x.kind ≤ 2) = !(decide (x.kind < 0) || decide (2 < x.kind)) := by
  rw [Bool.eq_iff_iff]
  simp <;> omega
 rw [e]
 generalize (x.kind != 1 || valB x.call.cmd.old && valB x.call.cmd.val) = Z
 have e1 : (x.kind == 1) = !(x.kind != 1) := (Bool.not_not _).symm
 have e2 : (x.kind == 2) = !(x.kind != 2) := (Bool.not_not _).symm
 rw [e1, e2]
 generalize (x.kind != 1) = a
 generalize (x.kind != 2) = b
 generalize eqCall x.call ACall.zero = c
 generalize eqConf x.conf AConf.zero = d
 generalize decide (x.kind < 0) = f
 generalize decide (2 < x.kind) = g
 cases a <;> cases b <;> cases c <;> cases d <;> cases f <;> cases g <;> cases Z <;> rfl
/-- An entry's bytes are the page's. -/
theorem told_entry (x : AEntry) : told (wEntry x) = entryP x := wrel_told (wrel_entry x)
theorem wrel_entries : ∀ l : List AEntry, WRel (wEntries l) (l.all entB) (l.flatMap encE) := by
 intro l
 induction l with
 | nil => exact wrel_raw []
 | cons x l ih =>
  rw [wEntries, List.all_cons, List.flatMap_cons]
  exact (wrel_entry x).seq ih
theorem wrel_list (l : List AEntry) : WRel (wList l) (l.all entB) (encEs l) := ((wrel_raw _).seq (wrel_entries l)).cast (by simp) (fun _ => rfl)
/-- A hard state's bytes are the page's. -/
theorem told_hard (t v b bt : Int) (c : AConf) (snap : List UInt8) (l : List AEntry) : told (wHard t v b bt c snap l) = hardP t v b bt c snap l :=
 wrel_told (((((wrel_raw _).seq (wrel_raw _)).seq (wrel_text _)).seq (wrel_list l)).cast (by simp) (fun _ => rfl))
end Go.Proofs.YtjhnlncgmejkcaaGreat
namespace Go.Proofs.YtjhnlncgmejkcaaGreat

/-- A value read. -/
def RS.val (r : RS) : AVal × RS :=
 if r.int.1 = 1 then (⟨1, r.int.2.float.1, ⟨#[]⟩⟩, r.int.2.float.2)
 else if r.int.1 = 2 then (⟨2, 0, ⟨r.int.2.text.1.toArray⟩⟩, r.int.2.text.2)
 else (⟨r.int.1, 0, ⟨#[]⟩⟩, r.int.2)
/-- As the page reads it: a kind that is none is an error. -/
def RS.valP (r : RS) : AVal × RS := if r.int.1 = 0 ∨ r.int.1 = 1 ∨ r.int.1 = 2 then r.val else (⟨r.int.1, 0, ⟨#[]⟩⟩, r.int.2.fail 3)
end Go.Proofs.YtjhnlncgmejkcaaGreat
namespace Go.Proofs.YtjhnlncgmejkcaaGreat
set_option linter.unusedSimpArgs false

def RS.callP (r : RS) : ACall × RS :=
 let a := r.int; let b := a.2.int; let k := b.2.int; let t := k.2.text; let o := t.2.valP; let v := o.2.valP
 (⟨a.1, b.1, ⟨k.1, ⟨t.1.toArray⟩, o.1, v.1⟩⟩, v.2)
def RS.confP (r : RS) : AConf × RS :=
 let a := r.int; let b := a.2.int; let c := b.2.int; let d := c.2.int
 (⟨a.1, b.1, c.1, d.1⟩, d.2)
def RS.entP (r : RS) : AEntry × RS :=
 let a := r.int; let k := a.2.int
 if k.1 = 0 then (⟨a.1, k.1, ACall.zero, AConf.zero⟩, k.2)
 else if k.1 = 1 then (⟨a.1, k.1, k.2.callP.1, AConf.zero⟩, k.2.callP.2)
 else if k.1 = 2 then (⟨a.1, k.1, ACall.zero, k.2.confP.1⟩, k.2.confP.2)
 else (⟨a.1, k.1, ACall.zero, AConf.zero⟩, k.2.fail 3)
/-- What the page tells of bytes: the entry, if there is one. -/
def readEntP (b : List UInt8) : Option AEntry := if (RS.entP ⟨b, 0⟩).2.done = 0 ∧ b.length ≤ 16384 then some (RS.entP ⟨b, 0⟩).1 else none
/-- Where package wire throws. -/
def RS.valT (r : RS) : Bool := !(r.int.1 == 0 || r.int.1 == 1 || r.int.1 == 2)
def RS.callT (r : RS) : Bool := r.int.2.int.2.int.2.text.2.valT || r.int.2.int.2.int.2.text.2.valP.2.valT
def RS.entT (r : RS) : Bool := !(r.int.2.int.1 == 0 || r.int.2.int.1 == 1 || r.int.2.int.1 == 2) || (r.int.2.int.1 == 1 && r.int.2.int.2.callT)
/-- What package wire reads of bytes. -/
def wReadEnt (b : List UInt8) : Option AEntry := if 16384 < b.length then none else if RS.entT ⟨b, 0⟩ then none else if (RS.entP ⟨b, 0⟩).2.done ≠ 0 then none else some (RS.entP ⟨b, 0⟩).1
theorem fail_e (r : RS) : (r.fail 3).e ≠ 0 := by
 unfold RS.fail
 split
 ·
  simp
 ·
  rename_i h; exact h
theorem int_st {r : RS} (h : r.e ≠ 0) : r.int = (0, r) := by unfold RS.int; rw [if_pos h]
theorem text_st {r : RS} (h : r.e ≠ 0) : r.text = ([], r) := by
 unfold RS.text
 rw [int_st h, if_pos h]
theorem valP_st {r : RS} (h : r.e ≠ 0) : r.valP.2 = r := by
 unfold RS.valP RS.val
 rw [int_st h]
 simp
theorem valT_st {r : RS} (h : r.e ≠ 0) : r.valT = false := by
 unfold RS.valT
 rw [int_st h]
 rfl
theorem valT_e {r : RS} (h : r.valT = true) : r.valP.2.e ≠ 0 := by
 unfold RS.valT at h
 simp only [Bool.not_eq_true', Bool.or_eq_false_iff, beq_eq_false_iff_ne] at h
 unfold RS.valP
 rw [if_neg (by rintro (e | e | e); { exact h.1.1 e }; { exact h.1.2 e }; { exact h.2 e })]
 exact fail_e _
theorem callT_e {r : RS} (h : r.callT = true) : r.callP.2.e ≠ 0 := by
 unfold RS.callT at h
 unfold RS.callP
 simp only
 rw [Bool.or_eq_true] at h
 rcases h with h | h
 ·
  have := valT_e h
  rw [valP_st this]
  exact this
 ·
  exact valT_e h
theorem entT_e {r : RS} (h : r.entT = true) : r.entP.2.e ≠ 0 := by
 unfold RS.entT at h
 unfold RS.entP
 simp only
 rw [Bool.or_eq_true] at h
 rcases h with h | h
 ·
  simp only [Bool.not_eq_true', Bool.or_eq_false_iff, beq_eq_false_iff_ne] at h
  rw [if_neg h.1.1, if_neg h.1.2, if_neg h.2]
  exact fail_e _
 ·
  rw [Bool.and_eq_true, beq_iff_eq] at h
  rw [if_neg (by omega), if_pos h.1]
  exact callT_e h.2
/-- The entry of any bytes is the page's. -/
theorem read_ent (b : List UInt8) : wReadEnt b = readEntP b := by
 unfold wReadEnt readEntP
 by_cases hl : 16384 < b.length
 ·
  rw [if_pos hl, if_neg (by omega)]
 rw [if_neg hl]
 rcases ht : RS.entT ⟨b, 0⟩ with _ | _
 ·
  rw [if_neg (by simp)]
  by_cases hd : (RS.entP ⟨b, 0⟩).2.done = 0
  ·
   rw [if_neg (by simpa using hd), if_pos ⟨hd, by omega⟩]
  ·
   rw [if_pos hd, if_neg (fun h => hd h.1)]
 ·
  rw [if_pos rfl, if_neg ?_]
  rintro ⟨hd, _⟩
  have := entT_e ht
  unfold RS.done at hd
  split at hd
  ·
   cases hd
  ·
   exact this hd
end Go.Proofs.YtjhnlncgmejkcaaGreat
