/-
  Plain functions: frames, as package frame and the page make and read them. No program is walked here. Conditions: as each theorem names them.
-/
import Derived.Test.YtjhnlncgmejkcaaGreatPackPure
import Derived.Test.YtjhnlncgmejkcaaGreatGSpec
namespace Go.Proofs.YtjhnlncgmejkcaaGreat
set_option linter.unusedSimpArgs false
def jO (s : Nat) : Nat := if s % 2 = 1 then (s / 2) ^^^ 3988292384 else s / 2
def zhW : Nat → Nat → Nat
 | 0, s => s
 | k + 1, s => zhW k (jO s)
def zoB (i : Nat) : Nat := zhW 8 i
def zaS (s : Nat) (c : UInt8) : Nat := zoB ((s % 256) ^^^ c.toNat) ^^^ (s / 256)
def xY (s : Nat) (b : List UInt8) : Nat := b.foldl zaS s
def zc4 (a p : List UInt8) : Nat := 4294967295 - xY (xY 4294967295 a) p
theorem zeI {s : Nat} (h : s < 4294967296) : jO s < 4294967296 := by
 unfold jO
 split
 · exact Nat.xor_lt_two_pow (n := 32) (by omega) (by decide)
 omega
theorem zkA : ∀ (k s : Nat), s < 4294967296 → zhW k s < 4294967296
 | 0, _, h => h
 | k + 1, _, h => zkA k _ (zeI h)
theorem zg2 {s : Nat} (c : UInt8) (h : s < 4294967296) : zaS s c < 4294967296 := by
 unfold zaS
 have hx : (s % 256) ^^^ c.toNat < 256 := Nat.xor_lt_two_pow (n := 8) (by omega) c.toNat_lt
 exact Nat.xor_lt_two_pow (n := 32) (zkA 8 _ (by omega)) (by omega)
theorem zeJ : ∀ (b : List UInt8) (s : Nat), s < 4294967296 → xY s b < 4294967296
 | [], _, h => h
 | c :: b, _, h => zeJ b _ (zg2 c h)
theorem ze9 (a p : List UInt8) : zc4 a p < 4294967296 := by unfold zc4; omega
def zR (p : List UInt8) : List UInt8 := 157 :: (hib 4 p.length ++ (hib 4 (zc4 (hib 4 p.length) p) ++ p))
def xD (b : List UInt8) : Option (List UInt8 × Nat) :=
 if b.length < 9 ∨ b[0]? ≠ some 157 then none else
 let n := zaZ ((b.drop 1).take 4)
 if 16384 < n ∨ b.length - 9 < n then none else
 if zc4 ((b.drop 1).take 4) ((b.drop 9).take n) ≠ zaZ ((b.drop 5).take 4) then none else some ((b.drop 9).take n, 9 + n)
def zhX : Nat → List UInt8 → List (List UInt8) × Nat
 | 0, _ => ([], 0)
 | f + 1, b => match xD b with
  | none => ([], 0)
  | some (p, n) => (p :: (zhX f (b.drop n)).1, n + (zhX f (b.drop n)).2)
def yY (b : List UInt8) : List (List UInt8) × Nat := zhX b.length b
theorem yL (p : List UInt8) : (zR p).length = 9 + p.length := by
 simp [zR, qH]
 omega
theorem zaT {b p : List UInt8} {n : Nat} (h : xD b = some (p, n)) : n = 9 + p.length ∧ n ≤ b.length ∧ p.length ≤ 16384 := by
 unfold xD at h
 split at h
 · cases h
 rename_i h0
 simp only at h
 split at h
 · cases h
 rename_i h1
 split at h
 · cases h
 simp only [Option.some.injEq, Prod.mk.injEq] at h
 obtain ⟨rfl, rfl⟩ := h
 have : ((b.drop 9).take (zaZ ((b.drop 1).take 4))).length = zaZ ((b.drop 1).take 4) := by rw [List.length_take, List.length_drop]; omega
 rw [this]
 omega
theorem zkB {p : List UInt8} (hp : p.length ≤ 16384) (r : List UInt8) : xD (zR p ++ r) = some (p, 9 + p.length) := by
 have hl := yL p
 have h4 : ∀ x, (hib 4 x).length = 4 := fun x => qH 4 x
 obtain ⟨a, ha⟩ : ∃ a, hib 4 p.length = a := ⟨_, rfl⟩
 obtain ⟨c, hc⟩ : ∃ c, hib 4 (zc4 a p) = c := ⟨_, rfl⟩
 have hal : a.length = 4 := by rw [← ha]; exact h4 _
 have hcl : c.length = 4 := by rw [← hc]; exact h4 _
 have hf : zR p ++ r = 157 :: (a ++ (c ++ (p ++ r))) := by unfold zR; rw [ha, hc]; simp
 have e1 : (List.drop 1 (zR p ++ r)).take 4 = a := by rw [hf]; simp [List.take_append, hal]
 have e5 : (List.drop 5 (zR p ++ r)).take 4 = c := by
  rw [hf]
  simp [List.drop_append, List.take_append, hal, hcl]
 have e9 : (List.drop 9 (zR p ++ r)) = p ++ r := by
  rw [hf]
  simp [List.drop_append, hal, hcl]
 have hn : zaZ a = p.length := by rw [← ha, ze8]; exact Nat.mod_eq_of_lt (by omega)
 have hs : zaZ c = zc4 a p := by rw [← hc, ze8]; exact Nat.mod_eq_of_lt (by have := ze9 a p; omega)
 unfold xD
 simp only [e1, e5, e9, hn, hs]
 have hp2 : (p ++ r).take p.length = p := by simp
 rw [hp2, if_neg, if_neg, if_neg]
 · simp
 · rw [List.length_append, hl]; omega
 rintro (h | h)
 · rw [List.length_append, hl] at h; omega
 rw [hf] at h; simp at h
theorem zmW : ∀ (f g : Nat) (b : List UInt8), b.length ≤ f → f ≤ g → zhX g b = zhX f b := by
 intro f
 induction f with
 | zero =>
  intro g b hb hg
  have : b = [] := List.eq_nil_of_length_eq_zero (by omega)
  subst this
  cases g with
  | zero => rfl
  | succ g => rfl
 | succ f ih =>
  intro g b hb hg
  cases g with
  | zero => omega
  | succ g =>
   rw [zhX, zhX]
   rcases h : xD b with _ | ⟨p, n⟩
   · rfl
   obtain ⟨h1, h2, _⟩ := zaT h
   simp only
   rw [ih g (b.drop n) (by rw [List.length_drop]; omega) (by omega)]
theorem zb2 {b : List UInt8} (h : xD b = none) : yY b = ([], 0) := by
 unfold yY
 cases b with
 | nil => rfl
 | cons c b => rw [List.length_cons, zhX, h]
theorem zb3 {b p : List UInt8} {n : Nat} (h : xD b = some (p, n)) : yY b = (p :: (yY (b.drop n)).1, n + (yY (b.drop n)).2) := by
 obtain ⟨h1, h2, _⟩ := zaT h
 unfold yY
 obtain ⟨f, hf⟩ : ∃ f, b.length = f + 1 := ⟨b.length - 1, by omega⟩
 rw [hf, zhX, h]
 simp only
 rw [zmW (b.drop n).length f (b.drop n) (Nat.le_refl _) (by rw [List.length_drop]; omega)]
theorem zkC (b : List UInt8) : (yY b).2 ≤ b.length := by
 obtain ⟨n, hn⟩ : ∃ n, b.length = n := ⟨_, rfl⟩
 induction n using Nat.strongRecOn generalizing b with
 | _ n ih =>
  rcases h : xD b with _ | ⟨p, m⟩
  · rw [zb2 h]; exact Nat.zero_le _
  obtain ⟨h1, h2, _⟩ := zaT h
  rw [zb3 h]
  have := ih (b.drop m).length (by rw [List.length_drop]; omega) (b.drop m) rfl
  rw [List.length_drop] at this
  simp only
  omega
theorem zfM : ∀ (ps : List (List UInt8)) (_ : ∀ p ∈ ps, p.length ≤ 16384) (r : List UInt8) (_ : xD r = none), yY (ps.flatMap zR ++ r) = (ps, (ps.flatMap zR).length)
 | [], _, r, h => by
  rw [List.flatMap_nil, List.nil_append, zb2 h]
  rfl
 | p :: ps, hp, r, h => by
  have hp1 := hp p (by simp)
  have ih := zfM ps (fun q hq => hp q (by simp [hq])) r h
  rw [List.flatMap_cons, List.append_assoc, zb3 (zkB hp1 _)]
  have hd : (zR p ++ (ps.flatMap zR ++ r)).drop (9 + p.length) = ps.flatMap zR ++ r := by
   rw [← yL p, List.drop_left]
  rw [hd, ih, List.length_append, yL]
def zb4 (v : jY) : Bool := !(decide (v.kind < 0) || decide (2 < v.kind) || (v.kind != 2 && !zX v.text)) && ((v.kind == 1 && v.num == yU v.num) || (v.kind != 1 && v.num == 0))
def zcK (x : zI) : Bool := !(decide (x.kind < 0) || decide (2 < x.kind) || (x.kind != 1 && !jJ x.call yK.zero) || (x.kind != 2 && !xI x.conf yF.zero)) && (x.kind != 1 || zb4 x.call.cmd.old && zb4 x.call.cmd.val)
def zlF (c : yK) : List UInt8 := zQ [c.client, c.seq, c.cmd.kind] ++ yH (zaF c.cmd.key) ++ zcY c.cmd.old ++ zcY c.cmd.val
def zhY (c : yF) : List UInt8 := zQ [c.full, c.wit, c.learn, c.learnWit]
def xT (x : zI) : List UInt8 := zQ [x.term, x.kind] ++ (if x.kind = 1 then zlF x.call else if x.kind = 2 then zhY x.conf else [])
def zdO (l : List zI) : List UInt8 := zS l.length ++ l.flatMap xT
def za0 (b : List UInt8) : List UInt8 × Int := if 16384 < b.length then ([], 2) else (b, 0)
def zc6 (x : zI) : List UInt8 × Int := if zcK x then za0 (xT x) else ([], 3)
def encH (t v b bt : Int) (c : yF) (snap : List UInt8) (l : List zI) : List UInt8 := zQ [t, v, b, bt] ++ zhY c ++ yH snap ++ zdO l
def hardP (t v b bt : Int) (c : yF) (snap : List UInt8) (l : List zI) : List UInt8 × Int := if l.all zcK then za0 (encH t v b bt c snap l) else ([], 3)
def wHard (t v b bt : Int) (c : yF) (snap : List UInt8) (l : List zI) : WO := (((zcH (zQ [t, v, b, bt])).seq (zgU c)).seq (zbT snap)).seq (zhN l)
def zgP (o : WO) (ok : Bool) (d : List UInt8) : Prop := if ok then ∃ y l, o = some (y, l) ∧ (l = false → y = d) ∧ (l = true → 16384 < d.length) else o = none
theorem zgP.seq {a b : WO} {p q : Bool} {d e : List UInt8} (h : zgP a p d) (k : zgP b q e) : zgP (a.seq b) (p && q) (d ++ e) := by
 unfold zgP at *
 rcases p with _ | _
 ·
  rw [if_neg (by simp)] at h
  rw [if_neg (by simp), h]
  rfl
 rw [if_pos rfl] at h
 obtain ⟨y, l, rfl, h1, h2⟩ := h
 rcases q with _ | _
 ·
  rw [if_neg (by simp)] at k
  rw [if_neg (by simp), k]
  rfl
 rw [if_pos rfl] at k
 obtain ⟨z, m, rfl, k1, k2⟩ := k
 rw [if_pos (by rfl)]
 refine ⟨y ++ z, l || m, rfl, fun hl => ?_, fun hl => ?_⟩
 · rw [Bool.or_eq_false_iff] at hl
   rw [h1 hl.1, k1 hl.2]
 rw [List.length_append]
 rw [Bool.or_eq_true] at hl
 rcases hl with hl | hl
 · have := h2 hl; omega
 have := k2 hl; omega
theorem zaV (d : List UInt8) : zgP (zcH d) true d := by
 unfold zgP
 rw [if_pos rfl]
 exact ⟨d, false, rfl, fun _ => rfl, fun h => by cases h⟩
theorem zb5 (b : Bool) : zgP (qF b) b [] := by
 unfold zgP qF
 rcases b with _ | _
 · rfl
 exact ⟨[], false, rfl, fun _ => rfl, fun h => by cases h⟩
theorem zfN (t : List UInt8) : zgP (zbT t) true (yH t) := by
 unfold zgP zbT
 rw [if_pos rfl]
 split
 ·
  refine ⟨[], true, rfl, fun h => (by cases h), fun _ => ?_⟩
  unfold yH
  rw [List.length_append]
  omega
 exact ⟨_, false, rfl, fun _ => rfl, fun h => by cases h⟩
theorem ziT {o : WO} {ok : Bool} {d : List UInt8} (h : zgP o ok d) : ziL o = if ok then za0 d else ([], 3) := by
 unfold zgP at h
 rcases ok with _ | _
 ·
  rw [if_neg (by simp)] at h
  rw [h]
  rfl
 rw [if_pos rfl] at h
 obtain ⟨y, l, rfl, h1, h2⟩ := h
 unfold ziL za0
 simp only [if_true]
 rcases l with _ | _
 · rw [h1 rfl]
   simp
 have := h2 rfl
 rw [if_pos this]
 rfl
theorem zgP.cast {o : WO} {p q : Bool} {d e : List UInt8} (h : zgP o p d) (hp : p = q) (hd : q = true → d = e) : zgP o q e := by
 subst hp
 rcases p with _ | _
 · exact h
 rw [← hd rfl]; exact h
theorem zeK (n : Nat) : xC n 0 = (n == 0) := by
 unfold xC
 have h0 : yU 0 = 0 := by decide +kernel
 rw [h0, Bool.eq_iff_iff, beq_iff_eq, beq_iff_eq]
 unfold yU
 split
 ·
  rename_i h
  constructor
  · intro e; exact absurd e (by decide)
  intro e; subst e; exact absurd h (by decide +kernel)
 rfl
theorem zg3 (v : jY) : zgP (qB v) (zb4 v) (zcY v) := by
 unfold qB
 refine ((zaV (zS v.kind)).seq (q := zb4 v) (e := if v.kind = 1 then yT v.num else if v.kind = 2 then yH (zaF v.text) else []) ?_).cast (by simp) (fun _ => rfl)
 rcases ht : zX v.text with _ | _ <;> rcases hn : (v.num == 0) with _ | _ <;> rcases hc : (v.num == yU v.num) with _ | _
 all_goals
  have hc' : (yU v.num == v.num) = (v.num == yU v.num) := by rw [Bool.eq_iff_iff, beq_iff_eq, beq_iff_eq]; exact eq_comm
  split
  ·
   rename_i h0
   refine (zb5 _).cast ?_ (fun _ => by first | rfl | rw [if_neg (by omega), if_neg (by omega)])
   unfold zb4
   rw [zeK, ht, hn, h0]
   simp
  split
  ·
   rename_i h0 h1
   refine ((zb5 _).seq (zaV _)).cast ?_ (fun _ => by first | rfl | (rw [if_pos h1]; rfl))
   unfold zb4 za4
   rw [hc', hc, ht, h1]
   simp
  split
  ·
   rename_i h0 h1 h2
   refine ((zb5 _).seq (zfN _)).cast ?_ (fun _ => by first | rfl | (rw [if_neg h1, if_pos h2]; rfl))
   unfold zb4
   rw [zeK, hn, ht, h2]
   simp
  rename_i h0 h1 h2
  have hv : zb4 v = false := by
   unfold zb4
   rcases Int.lt_or_le v.kind 0 with h | h
   · rw [decide_eq_true h]; rfl
   have : 2 < v.kind := by omega
   rw [decide_eq_true this]; simp
  rw [hv]
  rfl
theorem zoC (c : yK) : zgP (zhM c) (zb4 c.cmd.old && zb4 c.cmd.val) (zlF c) :=
 ((((zaV _).seq (zfN _)).seq (zg3 _)).seq (zg3 _)).cast (by simp) (fun _ => rfl)
theorem zlG (v : jY) : zdC v = zdB v jY.zero := by
 unfold zdC zdB zgS
 rw [zeK]
 have h0 : zaG jY.zero.num = false := by decide +kernel
 rw [h0, Bool.and_false, Bool.false_or]
 have : zX v.text = eqT v.text jY.zero.text := by
  rw [Bool.eq_iff_iff, zbM, zdA]
  rfl
 rw [this]
 rfl
theorem zdP (c : yK) : yV c = jJ c yK.zero := by
 unfold yV jJ zgT
 rw [zlG, zlG]
 have : zX c.cmd.key = eqT c.cmd.key yK.zero.cmd.key := by
  rw [Bool.eq_iff_iff, zbM, zdA]
  rfl
 rw [this]
 simp only [Bool.and_assoc]
 rfl
theorem zfA (c : yF) : zcI c = xI c yF.zero := rfl
theorem zg4 (x : zI) : zgP (jR x) (zcK x) (xT x) := by
 unfold jR
 have hlast : zgP (if x.kind = 1 then zhM x.call else if x.kind = 2 then zgU x.conf else zcH []) (x.kind != 1 || zb4 x.call.cmd.old && zb4 x.call.cmd.val) (if x.kind = 1 then zlF x.call else if x.kind = 2 then zhY x.conf else []) := by
  split
  · rename_i h
    exact (zoC _).cast (by rw [h]; simp) (fun _ => rfl)
  rename_i h
  have hk : (x.kind != 1) = true := by simpa using h
  split
  · exact (zaV _).cast (by rw [hk]; rfl) (fun _ => rfl)
  exact (zaV _).cast (by rw [hk]; rfl) (fun _ => rfl)
 refine (((((zaV _).seq (zb5 _)).seq (zb5 _)).seq (zb5 _)).seq hlast).cast ?_ (fun _ => by unfold xT; simp)
 unfold zcK
 rw [zdP, zfA]
 have e : decide (0 ≤ x.kind ∧ x.kind ≤ 2) = !(decide (x.kind < 0) || decide (2 < x.kind)) := by
  rw [Bool.eq_iff_iff]
  simp <;> omega
 rw [e]
 generalize (x.kind != 1 || zb4 x.call.cmd.old && zb4 x.call.cmd.val) = Z
 have e1 : (x.kind == 1) = !(x.kind != 1) := (Bool.not_not _).symm
 have e2 : (x.kind == 2) = !(x.kind != 2) := (Bool.not_not _).symm
 rw [e1, e2]
 generalize (x.kind != 1) = a
 generalize (x.kind != 2) = b
 generalize jJ x.call yK.zero = c
 generalize xI x.conf yF.zero = d
 generalize decide (x.kind < 0) = f
 generalize decide (2 < x.kind) = g
 cases a <;> cases b <;> cases c <;> cases d <;> cases f <;> cases g <;> cases Z <;> rfl
theorem zmX (x : zI) : ziL (jR x) = zc6 x := ziT (zg4 x)
theorem ziU : ∀ l : List zI, zgP (xM l) (l.all zcK) (l.flatMap xT) := by
 intro l
 induction l with
 | nil => exact zaV []
 | cons x l ih =>
  rw [xM, List.all_cons, List.flatMap_cons]
  exact (zg4 x).seq ih
theorem zoD (l : List zI) : zgP (zhN l) (l.all zcK) (zdO l) := ((zaV _).seq (ziU l)).cast (by simp) (fun _ => rfl)
theorem zoE (t v b bt : Int) (c : yF) (snap : List UInt8) (l : List zI) : ziL (wHard t v b bt c snap l) = hardP t v b bt c snap l :=
 ziT (((((zaV _).seq (zaV _)).seq (zfN _)).seq (zoD l)).cast (by simp) (fun _ => rfl))
def RS.val (r : RS) : jY × RS :=
 if r.int.1 = 1 then (⟨1, r.int.2.float.1, ⟨#[]⟩⟩, r.int.2.float.2)
 else if r.int.1 = 2 then (⟨2, 0, ⟨r.int.2.text.1.toArray⟩⟩, r.int.2.text.2)
 else (⟨r.int.1, 0, ⟨#[]⟩⟩, r.int.2)
def RS.valP (r : RS) : jY × RS := if r.int.1 = 0 ∨ r.int.1 = 1 ∨ r.int.1 = 2 then r.val else (⟨r.int.1, 0, ⟨#[]⟩⟩, r.int.2.fail 3)
def RS.callP (r : RS) : yK × RS :=
 let a := r.int; let b := a.2.int; let k := b.2.int; let t := k.2.text; let o := t.2.valP; let v := o.2.valP
 (⟨a.1, b.1, ⟨k.1, ⟨t.1.toArray⟩, o.1, v.1⟩⟩, v.2)
def RS.confP (r : RS) : yF × RS :=
 let a := r.int; let b := a.2.int; let c := b.2.int; let d := c.2.int
 (⟨a.1, b.1, c.1, d.1⟩, d.2)
def RS.entP (r : RS) : zI × RS :=
 let a := r.int; let k := a.2.int
 if k.1 = 0 then (⟨a.1, k.1, yK.zero, yF.zero⟩, k.2)
 else if k.1 = 1 then (⟨a.1, k.1, k.2.callP.1, yF.zero⟩, k.2.callP.2)
 else if k.1 = 2 then (⟨a.1, k.1, yK.zero, k.2.confP.1⟩, k.2.confP.2)
 else (⟨a.1, k.1, yK.zero, yF.zero⟩, k.2.fail 3)
def jV (b : List UInt8) : Option zI := if (RS.entP ⟨b, 0⟩).2.done = 0 ∧ b.length ≤ 16384 then some (RS.entP ⟨b, 0⟩).1 else none
def RS.valT (r : RS) : Bool := !(r.int.1 == 0 || r.int.1 == 1 || r.int.1 == 2)
def RS.callT (r : RS) : Bool := r.int.2.int.2.int.2.text.2.valT || r.int.2.int.2.int.2.text.2.valP.2.valT
def RS.entT (r : RS) : Bool := !(r.int.2.int.1 == 0 || r.int.2.int.1 == 1 || r.int.2.int.1 == 2) || (r.int.2.int.1 == 1 && r.int.2.int.2.callT)
def xU (b : List UInt8) : Option zI := if 16384 < b.length then none else if RS.entT ⟨b, 0⟩ then none else if (RS.entP ⟨b, 0⟩).2.done ≠ 0 then none else some (RS.entP ⟨b, 0⟩).1
theorem zfO (r : RS) : (r.fail 3).e ≠ 0 := by
 unfold RS.fail
 split
 · simp
 rename_i h; exact h
theorem zg5 {r : RS} (h : r.e ≠ 0) : r.int = (0, r) := by unfold RS.int; rw [if_pos h]
theorem valP_st {r : RS} (h : r.e ≠ 0) : r.valP.2 = r := by
 unfold RS.valP RS.val
 rw [zg5 h]
 simp
theorem valT_e {r : RS} (h : r.valT = true) : r.valP.2.e ≠ 0 := by
 unfold RS.valT at h
 simp only [Bool.not_eq_true', Bool.or_eq_false_iff, beq_eq_false_iff_ne] at h
 unfold RS.valP
 rw [if_neg (by rintro (e | e | e); { exact h.1.1 e }; { exact h.1.2 e }; { exact h.2 e })]
 exact zfO _
theorem callT_e {r : RS} (h : r.callT = true) : r.callP.2.e ≠ 0 := by
 unfold RS.callT at h
 unfold RS.callP
 simp only
 rw [Bool.or_eq_true] at h
 rcases h with h | h
 ·
  have := valT_e h
  rw [valP_st this]
  exact this
 exact valT_e h
theorem entT_e {r : RS} (h : r.entT = true) : r.entP.2.e ≠ 0 := by
 unfold RS.entT at h
 unfold RS.entP
 simp only
 rw [Bool.or_eq_true] at h
 rcases h with h | h
 ·
  simp only [Bool.not_eq_true', Bool.or_eq_false_iff, beq_eq_false_iff_ne] at h
  rw [if_neg h.1.1, if_neg h.1.2, if_neg h.2]
  exact zfO _
 rw [Bool.and_eq_true, beq_iff_eq] at h
 rw [if_neg (by omega), if_pos h.1]
 exact callT_e h.2
theorem zhZ (b : List UInt8) : xU b = jV b := by
 unfold xU jV
 by_cases hl : 16384 < b.length
 · rw [if_pos hl, if_neg (by omega)]
 rw [if_neg hl]
 rcases ht : RS.entT ⟨b, 0⟩ with _ | _
 ·
  rw [if_neg (by simp)]
  by_cases hd : (RS.entP ⟨b, 0⟩).2.done = 0
  · rw [if_neg (by simpa using hd), if_pos ⟨hd, by omega⟩]
  rw [if_pos hd, if_neg (fun h => hd h.1)]
 rw [if_pos rfl, if_neg ?_]
 rintro ⟨hd, _⟩
 have := entT_e ht
 unfold RS.done at hd
 split at hd
 · cases hd
 exact this hd
end Go.Proofs.YtjhnlncgmejkcaaGreat
