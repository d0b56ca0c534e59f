/-
 Plain laws: histories in which each call is told at once; the log and the history of HistLate. No program is walked here. Conditions: as each theorem names them.
-/
import Derived.Test.YtbclnghbgoblcaaHisWake
import Derived.Test.YtbclnghbgoblcaaHisLaw
namespace Go.Proofs.Ytbclnghbgoblcaa
set_option linter.unusedSimpArgs false

def evA (c : ACall) : AEvent := ⟨true, ⟨c, AReply.zero, 0⟩⟩
def evT (t : ATold) : AEvent := ⟨false, t⟩
def tkn (L : List ATold) : List AEvent := L.flatMap fun t => [evA t.call, evT t]
def okB (l : List AEntry) (p : Int) (t : ATold) : Bool := !(decide (pointP l t < p) || p == pointP l t && t.call.cmd.kind != 1)
theorem tkn_cons (t : ATold) (L : List ATold) : tkn (t :: L) = evA t.call :: evT t :: tkn L := rfl
theorem tkn_app (L M : List ATold) : tkn (L ++ M) = tkn L ++ tkn M := by unfold tkn; rw [List.flatMap_append]
theorem tkn_snoc (L : List ATold) (t : ATold) : tkn (L ++ [t]) = tkn L ++ [evA t.call, evT t] := by rw [tkn_app]; rfl
theorem tkn_len (L : List ATold) : (tkn L).length = 2 * L.length := by
 induction L with
 | nil => rfl
 | cons t L ih => rw [tkn_cons, List.length_cons, List.length_cons, ih, List.length_cons]; omega
theorem tells_refl (t : ATold) : tellsB t.call (evT t) = true := by simp [tellsB, evT]
theorem free_told (l : List AEntry) (p : Int) (t : ATold) (r : List AEvent) : freeB l p t.call (evT t :: r) = okB l p t := by
 unfold freeB
 rw [tellP, if_pos (tells_refl t)]
 rfl
theorem clear_tkn (l : List AEntry) (p : Int) (r : List AEvent) : ∀ L : List ATold, clearB l p (tkn L ++ r) = (L.all (okB l p) && clearB l p r) := by
 intro L
 induction L with
 | nil => simp [tkn]
 | cons t L ih =>
  rw [tkn_cons, List.cons_append, List.cons_append, clearB, clearB, ih, List.all_cons]
  have e : freeB l p (evA t.call).told.call (evT t :: (tkn L ++ r)) = okB l p t := free_told l p t _
  rw [e]
  simp [evA, evT, Bool.and_assoc]
theorem order_tkn {l : List AEntry} {r : List AEvent} : ∀ {L : List ATold}, (∀ t ∈ L, toldP l t = true) → L.Pairwise (fun a b => okB l (pointP l a) b = true) → (∀ t ∈ L, clearB l (pointP l t) r = true) → orderB l r = true → orderB l (tkn L ++ r) = true := by
 intro L
 induction L with
 | nil => intro _ _ _ h; exact h
 | cons t L ih =>
  intro h1 h2 h3 h4
  rw [List.pairwise_cons] at h2
  rw [tkn_cons, List.cons_append, List.cons_append, order_ask rfl, orderB, clear_tkn]
  rw [show (evT t).told = t from rfl, h1 t (by simp), h3 t (by simp), ih (fun x hx => h1 x (by simp [hx])) h2.2 (fun x hx => h3 x (by simp [hx])) h4, show L.all (okB l (pointP l t)) = true from List.all_eq_true.2 h2.1]
  simp
theorem order_pair {l : List AEntry} : ∀ {L : List ATold}, orderB l (tkn L) = true → L.Pairwise (fun a b => okB l (pointP l a) b = true) := by
 intro L
 induction L with
 | nil => intro _; exact List.Pairwise.nil
 | cons t L ih =>
  intro h
  rw [tkn_cons, order_ask rfl, orderB, show tkn L = tkn L ++ [] by simp, clear_tkn] at h
  simp only [Bool.and_eq_true, List.append_nil] at h
  have h1 : (toldP l (evT t).told && ((L.all (okB l (pointP l (evT t).told))) && clearB l (pointP l (evT t).told) [])) = true := by
   have := h.1
   simpa [evT] using this
  simp only [Bool.and_eq_true] at h1
  rw [List.pairwise_cons]
  exact ⟨fun b hb => List.all_eq_true.1 h1.2.1 b hb, ih h.2⟩
theorem order_bad {l : List AEntry} {h : List AEvent} {x : AEvent} (hx : x ∈ h) (ha : x.ask = false) (ht : toldP l x.told = false) : orderB l h = false := by
 rcases e : orderB l h with _ | _
 ·
  rfl
 ·
  have := order_told e x hx ha
  rw [ht] at this
  cases this

/-- A float of a number. -/
def flN (k : Nat) : Nat := floatOfInt FloatKind.f64 (k : Int)
theorem flN_one : flN 1 = 4607182418800017408 := by decide +kernel
theorem flN_nan : ∀ k, k < 42 → isNaN (flN k) = false := by decide +kernel
theorem flN_add : ∀ k, k < 41 → addF (flN k) 4607182418800017408 = flN (k + 1) := by decide +kernel
theorem flN_lt : ∀ k, k < 42 → flN k < 18446744073709551616 := by decide +kernel

def lateV (k : Nat) : AVal := ⟨1, flN k, ⟨#[]⟩⟩
def lateC (key : ByteArray) (i : Nat) : ACall := ⟨1, (i : Int) + 1, ⟨5, key, AVal.zero, ⟨1, 4607182418800017408, ⟨#[]⟩⟩⟩⟩
def lateE (key : ByteArray) (i : Nat) : AEntry := ⟨1, 1, lateC key i, AConf.zero⟩
def lateT (key : ByteArray) (i : Nat) : ATold := ⟨lateC key i, ⟨0, lateV (i + 1)⟩, (i : Int) + 1⟩
def lateL (key : ByteArray) : Nat → List AEntry
 | 0 => []
 | i + 1 => lateL key i ++ [lateE key i]
def lateH (key : ByteArray) : Nat → List ATold
 | 0 => []
 | i + 1 => lateH key i ++ [lateT key i]
def lateM (key : ByteArray) (k : Nat) : AMach := if k = 0 then mach0 else ⟨[⟨key, lateV k⟩], [⟨1, k, ⟨0, lateV k⟩⟩]⟩
def lateG (key : ByteArray) : ACall := ⟨2, 1, ⟨1, key, AVal.zero, AVal.zero⟩⟩
def lateR (k : Nat) : AReply := if k = 0 then AReply.zero else ⟨0, lateV k⟩
def lateK (key : ByteArray) (k : Nat) : ATold := ⟨lateG key, lateR k, k⟩
theorem lateL_len (key : ByteArray) (n : Nat) : (lateL key n).length = n := by
 induction n with
 | zero => rfl
 | succ n ih => rw [lateL, List.length_append, ih]; rfl
theorem lateH_len (key : ByteArray) (n : Nat) : (lateH key n).length = n := by
 induction n with
 | zero => rfl
 | succ n ih => rw [lateH, List.length_append, ih]; rfl
theorem lateL_split (key : ByteArray) {i n : Nat} (h : i ≤ n) : ∃ r, lateL key n = lateL key i ++ r := by
 induction n with
 | zero => obtain rfl : i = 0 := by omega
           exact ⟨[], by simp⟩
 | succ n ih =>
  rcases Nat.lt_or_ge n i with h1 | h1
  ·
   obtain rfl : i = n + 1 := by omega
   exact ⟨[], by simp⟩
  ·
   obtain ⟨r, hr⟩ := ih h1
   exact ⟨r ++ [lateE key n], by rw [lateL, hr, List.append_assoc]⟩
theorem lateH_mem {key : ByteArray} {n : Nat} {t : ATold} (h : t ∈ lateH key n) : ∃ i, i < n ∧ t = lateT key i := by
 induction n with
 | zero => cases h
 | succ n ih =>
  rw [lateH, List.mem_append] at h
  rcases h with h | h
  ·
   obtain ⟨i, hi, e⟩ := ih h
   exact ⟨i, by omega, e⟩
  ·
   exact ⟨n, by omega, by simpa using h⟩
theorem chk_lateV {k : Nat} (hk : k < 42) : chk (lateV k) = 0 := chk_num (by rw [flN_nan k hk]; simp)
theorem late_cmd {key : ByteArray} (hk : 1 ≤ key.size ∧ key.size ≤ 8) (i : Nat) : cmdE (lateC key i).cmd = 0 := by
 have hv : chk ⟨1, 4607182418800017408, ⟨#[]⟩⟩ = 0 := by rw [← flN_one]; exact chk_lateV (by omega)
 have h1 : ¬ 8 < key.size := by omega
 have h2 : ¬ key.size < 1 := by omega
 unfold cmdE
 rw [if_neg (by simp [lateC]), if_neg (show ¬ 8 < (lateC key i).cmd.key.size from h1), if_neg ?_, if_pos (by simp [okV, lateC])]
 rintro (h | h | h | h)
 ·
  exact h2 h
 ·
  rw [show (lateC key i).cmd.old = AVal.zero from rfl, zeroV_zero] at h
  exact absurd h.2 (by simp)
 ·
  exact h chk_zero
 ·
  exact h hv
theorem late_call {key : ByteArray} (hk : 1 ≤ key.size ∧ key.size ≤ 8) {i : Nat} (hi : i < 41) : callE (lateC key i) = 0 := by
 have hn : numB (lateC key i).client (lateC key i).seq = true := by
  show numB 1 ((i : Int) + 1) = true
  unfold numB
  simp only [Bool.and_eq_true, decide_eq_true_iff]
  omega
 rw [callE_yes hn]
 exact late_cmd hk i
theorem late_do {key : ByteArray} (hk : 1 ≤ key.size ∧ key.size ≤ 8) {k : Nat} (hk2 : k < 40) (hr : pairsB (lateM key k).pairs = true) : doP (lateM key k).pairs (lateC key k).cmd = ([⟨key, lateV (k + 1)⟩], ⟨0, lateV (k + 1)⟩) := by
 have hv : chk ⟨1, 4607182418800017408, ⟨#[]⟩⟩ = 0 := by rw [← flN_one]; exact chk_lateV (by omega)
 have hs : stepV (getP (lateM key k).pairs (lateC key k).cmd.key) (lateC key k).cmd = (0, lateV (k + 1), lateV (k + 1)) := by
  have hj : joinV true (getP (lateM key k).pairs key) ⟨1, 4607182418800017408, ⟨#[]⟩⟩ = (lateV (k + 1), 0) := by
   rcases Nat.eq_zero_or_pos k with h0 | h0
   ·
    subst h0
    have e : getP (lateM key 0).pairs key = AVal.zero := rfl
    rw [e]
    unfold joinV
    rw [if_neg (by simp [chk_zero]), if_neg (by simp [hv]), if_pos (show AVal.zero.kind = 0 from rfl)]
    unfold lateV
    rw [flN_one]
   ·
    have e : getP (lateM key k).pairs key = lateV k := by
     unfold lateM
     rw [if_neg (by omega)]
     simp [getP, eqT_refl]
    rw [e]
    unfold joinV
    rw [if_neg (by rw [chk_lateV (by omega)]; simp), if_neg (by simp [hv]), if_neg (by simp [lateV]), if_neg (by simp [lateV])]
    simp only [lateV, if_true]
    rw [flN_add k (by omega)]
  unfold stepV
  rw [if_neg (by simp [lateC]), if_neg (by simp [lateC]), if_neg (by simp [lateC])]
  rw [show ((lateC key k).cmd.kind == 5) = true from rfl, show (lateC key k).cmd.key = key from rfl, show (lateC key k).cmd.val = ⟨1, 4607182418800017408, ⟨#[]⟩⟩ from rfl, hj]
  simp
 have hp : setP key (lateV (k + 1)) ((lateV (k + 1)).kind == 0) (lateM key k).pairs = [⟨key, lateV (k + 1)⟩] := by
  rcases Nat.eq_zero_or_pos k with h0 | h0
  ·
   subst h0
   simp [lateM, mach0, setP, lateV]
  ·
   unfold lateM
   rw [if_neg (by omega)]
   simp [setP, lateV, eqT_refl]
 rw [do_eq (late_cmd hk k) hr (by simp [lateC]), hs]
 simp only
 rw [if_neg (by simp), show (lateC key k).cmd.key = key from rfl, hp]
 simp
theorem late_once {key : ByteArray} (hk : 1 ≤ key.size ∧ key.size ≤ 8) {k : Nat} (hk2 : k < 40) (hr : machB (lateM key k) = true) : onceP (lateM key k) (lateC key k) = (lateM key (k + 1), ⟨0, lateV (k + 1)⟩) := by
 have hpr : pairsB (lateM key k).pairs = true := by
  unfold machB at hr
  rw [Bool.and_eq_true] at hr
  exact hr.1
 have hl : (lastS (lateM key k).sess 1).1 = (k : Int) := by
  rcases Nat.eq_zero_or_pos k with h0 | h0
  ·
   subst h0; rfl
  ·
   unfold lateM
   rw [if_neg (by omega), lastS_one _ _ rfl]
 have hs : setS ⟨1, (k : Int) + 1, ⟨0, lateV (k + 1)⟩⟩ false (lateM key k).sess = [⟨1, (k : Int) + 1, ⟨0, lateV (k + 1)⟩⟩] := by
  rcases Nat.eq_zero_or_pos k with h0 | h0
  ·
   subst h0; simp [lateM, mach0, setS]
  ·
   unfold lateM
   rw [if_neg (by omega)]
   simp [setS]
 unfold onceP
 rw [if_neg (by rw [late_call hk (by omega)]; simp), if_neg (by rw [hr]; simp), late_do hk hk2 hpr]
 rw [show (lateC key k).client = 1 from rfl, show (lateC key k).seq = (k : Int) + 1 from rfl, hl, if_neg (by omega), if_neg (by omega), hs]
 simp only [lateM]
 rw [if_neg (by omega)]
 simp
theorem late_at {key : ByteArray} (hk : 1 ≤ key.size ∧ key.size ≤ 8) {n : Nat} (hn : n ≤ 40) : ∀ k : Nat, k ≤ n → atP (lateL key n) (k : Int) = lateM key k := by
 intro k hkn
 obtain ⟨r, hr⟩ := lateL_split key hkn
 rw [hr, atP_more (by rw [lateL_len]; omega)]
 clear hr r
 induction k with
 | zero => rfl
 | succ k ih =>
  have h := ih (by omega)
  have hm : machB (lateM key k) = true := by rw [← h]; exact atP_right _ _
  unfold atP at h ⊢
  rw [List.take_of_length_le (by rw [lateL_len]; omega)] at h ⊢
  rw [lateL, List.foldl_append, h]
  simp only [List.foldl_cons, List.foldl_nil]
  unfold playE
  rw [if_pos (show (lateE key k).kind = 1 from rfl), show (lateE key k).call = lateC key k from rfl, late_once hk (by omega) hm]
theorem place_at {c : ACall} {x : AEntry} {r : List AEntry} (hx : isCall c x = true) : ∀ (l : List AEntry) (k : Nat), (∀ y ∈ l, isCall c y = false) → placeF (l ++ x :: r) c k = k + l.length + 1 := by
 intro l
 induction l with
 | nil => intro k _; rw [List.nil_append, placeF, if_pos hx]; rfl
 | cons y l ih =>
  intro k h
  rw [List.cons_append, placeF, if_neg (by rw [h y (by simp)]; simp), ih (k + 1) (fun z hz => h z (by simp [hz])), List.length_cons]
  omega
theorem late_isCall (key : ByteArray) (i j : Nat) : isCall (lateC key i) (lateE key j) = decide (j = i) := by
 unfold isCall
 rw [show ((lateE key j).kind == 1) = true from rfl, show ((lateE key j).call.client == (lateC key i).client) = true from rfl]
 have e : ((lateE key j).call.seq == (lateC key i).seq) = decide (j = i) := by
  show (((j : Int) + 1) == ((i : Int) + 1)) = decide (j = i)
  rw [Bool.eq_iff_iff]
  simp
  omega
 rw [e]
 simp
theorem lateL_mem {key : ByteArray} {n : Nat} {y : AEntry} (h : y ∈ lateL key n) : ∃ j, j < n ∧ y = lateE key j := by
 induction n with
 | zero => cases h
 | succ n ih =>
  rw [lateL, List.mem_append] at h
  rcases h with h | h
  ·
   obtain ⟨i, hi, e⟩ := ih h
   exact ⟨i, by omega, e⟩
  ·
   exact ⟨n, by omega, by simpa using h⟩
theorem late_place {key : ByteArray} {i n : Nat} (h : i < n) : placeH (lateL key n) (lateC key i) = i + 1 := by
 obtain ⟨r, hr⟩ := lateL_split key (show i + 1 ≤ n by omega)
 rw [hr, lateL, List.append_assoc]
 unfold placeH
 have := place_at (c := lateC key i) (x := lateE key i) (r := r) (by rw [late_isCall]; simp) (lateL key i) 0 (fun y hy => by
  obtain ⟨j, hj, rfl⟩ := lateL_mem hy
  rw [late_isCall]
  simp
  omega)
 rw [lateL_len] at this
 simpa using this
theorem late_get {key : ByteArray} {i n : Nat} (h : i < n) : (lateL key n)[i]? = some (lateE key i) := by
 obtain ⟨r, hr⟩ := lateL_split key (show i + 1 ≤ n by omega)
 rw [hr, lateL, List.append_assoc, List.getElem?_append_right (by rw [lateL_len]; omega), lateL_len]
 simp
theorem late_told {key : ByteArray} (hk : 1 ≤ key.size ∧ key.size ≤ 8) {i n : Nat} (hn : n ≤ 40) (h : i < n) : toldP (lateL key n) (lateT key i) = true := by
 unfold toldP
 rw [if_neg (by simp [lateT, lateC]), show (lateT key i).call = lateC key i from rfl, late_place h, Nat.add_sub_cancel, late_get h]
 simp only
 rw [show (lateE key i).call.cmd = (lateC key i).cmd from rfl, eqCmd_refl', late_at hk hn (i + 1) (by omega)]
 have hl : lastS (lateM key (i + 1)).sess (lateC key i).client = (((i + 1 : Nat) : Int), ⟨0, lateV (i + 1)⟩) := by
  unfold lateM
  rw [if_neg (by omega)]
  exact lastS_one ⟨1, ((i + 1 : Nat) : Int), ⟨0, lateV (i + 1)⟩⟩ (lateC key i).client rfl
 rw [hl]
 simp [lateT, lateC, eqReply, eqVal_refl]
theorem late_point {key : ByteArray} {i n : Nat} (h : i < n) : pointP (lateL key n) (lateT key i) = (i : Int) + 1 := by
 unfold pointP
 rw [if_neg (by simp [lateT, lateC]), show (lateT key i).call = lateC key i from rfl, late_place h]
 omega
theorem late_toldG {key : ByteArray} (hk : 1 ≤ key.size ∧ key.size ≤ 8) {k n : Nat} (hn : n ≤ 40) (h : k ≤ n) : toldP (lateL key n) (lateK key k) = true := by
 unfold toldP
 have hm : machB (lateM key k) = true := by rw [← late_at hk hn k h]; exact atP_right _ _
 have hpr : pairsB (lateM key k).pairs = true := by
  unfold machB at hm
  rw [Bool.and_eq_true] at hm
  exact hm.1
 rw [if_pos (show (lateK key k).call.cmd.kind = 1 from rfl), show (lateK key k).index = (k : Int) from rfl, late_at hk hn k h, show (lateK key k).call.cmd = ⟨1, key, AVal.zero, AVal.zero⟩ from rfl, do_get hpr hk, lateL_len]
 have e : (⟨0, getP (lateM key k).pairs key⟩ : AReply) = lateR k := by
  unfold lateM lateR
  rcases Nat.eq_zero_or_pos k with h0 | h0
  ·
   subst h0; rfl
  ·
   rw [if_neg (by omega), if_neg (by omega)]
   simp [getP, eqT_refl]
 simp only
 rw [e, show (lateK key k).reply = lateR k from rfl]
 simp [eqReply, eqVal_refl]
 omega
theorem late_pair {key : ByteArray} {n : Nat} : ∀ m : Nat, m ≤ n → (lateH key m).Pairwise (fun a b => okB (lateL key n) (pointP (lateL key n) a) b = true) := by
 intro m
 induction m with
 | zero => intro _; exact List.Pairwise.nil
 | succ m ih =>
  intro hm
  rw [lateH, List.pairwise_append]
  refine ⟨ih (by omega), List.pairwise_singleton _ _, fun a ha b hb => ?_⟩
  obtain ⟨i, hi, rfl⟩ := lateH_mem ha
  rw [List.mem_singleton] at hb
  subst hb
  unfold okB
  rw [late_point (by omega), late_point (by omega)]
  simp
  omega
theorem late_okG {key : ByteArray} {i k n : Nat} (h : i < n) : okB (lateL key n) (pointP (lateL key n) (lateT key i)) (lateK key k) = decide (i + 1 ≤ k) := by
 unfold okB
 rw [late_point h, show pointP (lateL key n) (lateK key k) = (k : Int) from rfl]
 rw [Bool.eq_iff_iff]
 simp [lateK, lateG]
 omega
/-- What is read behind all has an order just if it is the last. -/
theorem late_x {key : ByteArray} (hk : 1 ≤ key.size ∧ key.size ≤ 8) {k n : Nat} (hn : n ≤ 40) (h : k ≤ n) : orderB (lateL key n) (tkn (lateH key n ++ [lateK key k])) = decide (k = n) := by
 by_cases he : k = n
 ·
  subst he
  rw [decide_eq_true rfl, show tkn (lateH key k ++ [lateK key k]) = tkn (lateH key k ++ [lateK key k]) ++ [] by simp]
  refine order_tkn (fun t ht => ?_) ?_ (fun _ _ => rfl) rfl
  ·
   rcases List.mem_append.1 ht with ht | ht
   ·
    obtain ⟨i, hi, rfl⟩ := lateH_mem ht
    exact late_told hk hn hi
   ·
    rw [List.mem_singleton] at ht
    subst ht
    exact late_toldG hk hn h
  ·
   rw [List.pairwise_append]
   refine ⟨late_pair k (Nat.le_refl _), List.pairwise_singleton _ _, fun a ha b hb => ?_⟩
   obtain ⟨i, hi, rfl⟩ := lateH_mem ha
   rw [List.mem_singleton] at hb
   subst hb
   rw [late_okG hi]
   simp
   omega
 ·
  rw [decide_eq_false he]
  rcases e : orderB (lateL key n) (tkn (lateH key n ++ [lateK key k])) with _ | _
  ·
   rfl
  ·
   exfalso
   have := order_pair e
   rw [List.pairwise_append] at this
   obtain ⟨m, rfl⟩ : ∃ m, n = m + 1 := ⟨n - 1, by omega⟩
   have h2 := this.2.2 (lateT key m) (by rw [lateH]; simp) (lateK key k) (by simp)
   rw [late_okG (by omega)] at h2
   simp at h2
   omega
theorem late_y {key : ByteArray} (hk : 1 ≤ key.size ∧ key.size ≤ 8) {k n : Nat} (hn : n ≤ 40) (h : k ≤ n) : orderB (lateL key n) (evA (lateG key) :: (tkn (lateH key n) ++ [evT (lateK key k)])) = true := by
 rw [order_ask rfl]
 refine order_tkn (fun t ht => ?_) (late_pair n (Nat.le_refl _)) (fun _ _ => rfl) ?_
 ·
  obtain ⟨i, hi, rfl⟩ := lateH_mem ht
  exact late_told hk hn hi
 ·
  rw [orderB, show (evT (lateK key k)).told = lateK key k from rfl, late_toldG hk hn h]
  rfl
end Go.Proofs.Ytbclnghbgoblcaa
