/-
 The contract of slices.BinarySearchFunc as kv.put calls it. Conditions: as each theorem names them.
 Contracts of slices.Delete and slices.Insert on pairs of one's own. Conditions: as each theorem names them.
 Plain laws for kv.put: a list in order parts at a key. No program is walked here. Conditions: as each theorem names them.
 The contract of kv.put. Conditions: as each theorem names them.
-/
import Derived.Test.YtbclnghbgoblcaaGreatGGet
import Derived.Test.YtbclnghbgoblcaaGreatGSpec
import Derived.Test.YtbclnghbgoblcaaGreatRow
import Derived.Test.YtbclnghbgoblcaaGreatKvSet
import Derived.Test.YtbclnghbgoblcaaGreatGDo5
import Derived.Deep.RegionLaw
import Derived.Laws.Externs
namespace Go.Proofs.YtbclnghbgoblcaaGreat
set_option linter.unusedSimpArgs false
open Go.RowKit

/-- What put's closure tells. -/
def cmpP (x : APair) (key : ByteArray) : Int := if ltT x.key key then -1 else if ltT key x.key then 1 else 0
theorem cmpP_lt {x : APair} {key : ByteArray} (h : ltT x.key key = true) : cmpP x key = -1 := by unfold cmpP; rw [if_pos h]
theorem cmpP_ge {x : APair} {key : ByteArray} (h : ltT x.key key = false) : 0 ≤ cmpP x key ∧ cmpP x key ≤ 1 := by
 unfold cmpP
 rw [h]
 simp only [Bool.false_eq_true, if_false]
 split <;> omega
theorem cmpP_zero {x : APair} {key : ByteArray} (h : ltT x.key key = false) : (cmpP x key == 0) = eqT x.key key := by
 unfold cmpP
 rw [h]
 simp only [Bool.false_eq_true, if_false]
 rcases h2 : ltT key x.key with _ | _
 ·
  rcases h3 : eqT x.key key with _ | _
  ·
   have := ltT_or h h3; rw [h2] at this; cases this
  ·
   rfl
 ·
  rw [eqT_gt h2]; rfl
set_option maxRecDepth 100000 in
set_option maxHeartbeats 400000 in
theorem kv_cmp (x : APair) (key : ByteArray) (w : World) :
  Calls Tryz.prog 91 #[.agg #[.string x.key, .int .i64 x.val.kind, .float .f64 x.val.num, .string x.val.text], .string key] w fun e w' => e = .returned (.int .i64 (cmpP x key)) ∧ Ext w w' := by
 obtain ⟨r, hr⟩ : ∃ r, cmpP x key = r := ⟨_, rfl⟩
 have Hr := Lib.hid hr
 rw [hr]
 clear hr
 rcases h1 : ltT x.key key with _ | _
 ·
  have b1 : Op.bytesLess x.key.toList key.toList = false := h1
  rcases h2 : ltT key x.key with _ | _
  ·
   have h3 : eqT x.key key = true := by
    rcases h3 : eqT x.key key with _ | _
    ·
     have := ltT_or h1 h3; rw [h2] at this; cases this
    ·
     rfl
   have b2 : (x.key.toList == key.toList) = true := h3
   have hr2 : Hid (r = 0) := Lib.hid (by rw [← Hr.out]; unfold cmpP; rw [h1, h2]; rfl)
   go_enter Tryz.func91, Tryz.ntmps91
   go_wp2
   go_ret
   exact ⟨ret_int hr2.out.symm, (Mod.refl _ w).alloc _⟩
  ·
   have b2 : (x.key.toList == key.toList) = false := eqT_gt h2
   have hr2 : Hid (r = 1) := Lib.hid (by rw [← Hr.out]; unfold cmpP; rw [h1, h2]; rfl)
   go_enter Tryz.func91, Tryz.ntmps91
   go_wp2
   go_ret
   exact ⟨ret_int hr2.out.symm, (Mod.refl _ w).alloc _⟩
 ·
  have b1 : Op.bytesLess x.key.toList key.toList = true := h1
  have hr2 : Hid (r = -1) := Lib.hid (by rw [← Hr.out]; exact cmpP_lt h1)
  go_enter Tryz.func91, Tryz.ntmps91
  go_wp2
  go_ret
  exact ⟨ret_int hr2.out.symm, (Mod.refl _ w).alloc _⟩

set_option maxRecDepth 100000 in
set_option maxHeartbeats 1000000 in
theorem sl_find (w : World) (T : Nat → Prop) (v : Value) (l : List APair) (key : ByteArray) (h : Prs w T v l) (hl : l.length ≤ 1000000) (p : Nat) (hp : p ≤ l.length) (hlt : ∀ (k : Nat) x, l[k]? = some x → ltT x.key key = decide (k < p))
  (is : Bool) (his : is = true ↔ ∃ x, l[p]? = some x ∧ eqT x.key key = true) :
  Calls Tryz.prog 90 #[v, .string key, .func (Fn.func 91) #[] #[]] w fun e w' => e = .returned (.tuple #[.int .i64 p, .bool is]) ∧ Ext w w' := by
 obtain ⟨n, hn⟩ : ∃ n, l.length = n := ⟨_, rfl⟩
 obtain ⟨A, c, rfl⟩ := h.form
 rw [hn] at h hl hp ⊢
 have Hn := Lib.hid hn
 have Hlt := Lib.hid hlt
 have His := Lib.hid his
 clear hn hlt his
 go_enter Tryz.func90, Tryz.ntmps90
 go_wp2
 go_loopw [9, 10] (fun iv jv wr => ∃ i j : Nat, i ≤ p ∧ p ≤ j ∧ j ≤ n ∧ iv = .int .i64 i ∧ jv = .int .i64 j ∧ Ext w wr) (fun iv jv _ => (intOf jv).toNat - (intOf iv).toNat)
 case atStart => exact ⟨0, n, by omega, by omega, by omega, rfl, rfl, Mod.refl _ w⟩
 case round =>
  obtain ⟨i, j, hip, hpj, hjn, rfl, rfl, hE⟩ := hrel
  have h2 := h.ext hE
  by_cases hij : i < j
  ·
   have hm2 : (i + j) / 2 < j := by omega
   obtain ⟨g, off, x, rfl, hgT, hx, hxok, hcells⟩ := h2.at (show (i + j) / 2 < n by omega)
   have x0 := hcells 0 _ rfl
   have x1 := hcells 1 _ rfl
   have x2 := hcells 2 _ rfl
   have x3 := hcells 3 _ rfl
   rw [Nat.add_zero] at x0
   have Hx := Lib.hid hx
   clear hcells hx h2 hxok
   go_wp2_with fail
   refine (kv_cmp x key _).mono ?_
   rintro e w1 ⟨rfl, hE1⟩
   have hF := Mod.ext hE hE1
   have hc := Hlt.out _ _ Hx.out
   clear hE1 hE x0 x1 x2 x3
   by_cases hmp : (i + j) / 2 < p
   ·
    have hlt : ltT x.key key = true := by rw [hc]; simpa using hmp
    rw [cmpP_lt hlt]
    clear hc hlt
    go_wp2
    exact ⟨⟨(i + j) / 2 + 1, j, by omega, hpj, hjn, by go_num, rfl, hF⟩, by simp [intOf]; omega⟩
   ·
    have hlt : ltT x.key key = false := by rw [hc]; simpa using hmp
    obtain ⟨q1, q2⟩ := cmpP_ge hlt
    have q3 : decide (cmpP x key < 0) = false := by simp; omega
    clear hc hlt
    go_wp2
    exact ⟨⟨i, (i + j) / 2, hip, by omega, by omega, rfl, by go_num, hF⟩, by simp [intOf]; omega⟩
  ·
   obtain rfl : i = p := by omega
   obtain rfl : j = i := by omega
   by_cases hjn2 : j < n
   ·
    obtain ⟨g, off, x, rfl, hgT, hx, hxok, hcells⟩ := h2.at hjn2
    have hi0 : (0 : Int) ≤ (j : Int) := by omega
    have hi1 : (j : Int) < (n : Int) := by omega
    have x0 := hcells 0 _ rfl
    have x1 := hcells 1 _ rfl
    have x2 := hcells 2 _ rfl
    have x3 := hcells 3 _ rfl
    rw [Nat.add_zero] at x0
    have Hx := Lib.hid hx
    clear hcells hx h2 hxok
    go_wp2_with fail
    refine (kv_cmp x key _).mono ?_
    rintro e w1 ⟨rfl, hE1⟩
    have hF := Mod.ext hE hE1
    have hc := Hlt.out _ _ Hx.out
    have hlt : ltT x.key key = false := by rw [hc]; simp
    have hz := cmpP_zero hlt
    have hb : eqT x.key key = is := by
     rw [Bool.eq_iff_iff, His.out]
     exact ⟨fun h => ⟨x, Hx.out, h⟩, fun ⟨y, hy, h⟩ => by rw [Hx.out] at hy; cases hy; exact h⟩
    rw [hb] at hz
    clear hE1 hE x0 x1 x2 x3 hc hlt hb
    go_wp2
    go_ret2
    exact ⟨rfl, hF⟩
   ·
    have hb : is = false := by
     rw [← Bool.not_eq_true, His.out]
     rintro ⟨y, hy, _⟩
     have := (List.getElem?_eq_some_iff.1 hy).1
     have := Hn.out
     omega
    subst hb
    go_wp2
    go_ret2
    exact ⟨rfl, hE⟩
end Go.Proofs.YtbclnghbgoblcaaGreat

namespace Go.Proofs.YtbclnghbgoblcaaGreat
set_option linter.unusedSimpArgs false
open Go.RowKit

abbrev fl (l : List APair) : List Value := l.flatMap APair.cells
theorem fl_len (l : List APair) : (fl l).length = l.length * 4 := by
 induction l with
 | nil => rfl
 | cons p l ih => simp [fl, List.flatMap_cons] at ih ⊢; omega
theorem fl_app (a b : List APair) : fl (a ++ b) = fl a ++ fl b := by simp [fl]
theorem cut_head (g m cap k : Nat) (h : m < cap) : cutA (some ⟨g, 0, none⟩) m cap k = some ⟨g, m * k, none⟩ := by
 unfold cutA
 rw [if_neg (by omega)]
 simp [addMk]
theorem sl_row {w : World} {g n cap : Nat} {e : TypeId} {cur : List Value} {size : Nat} {xs : List Value} (h : Row w g e cur) (hc : cur.length = cap * size) (hn : n ≤ cap) (hm : cap ≤ maxLen) (ht : cur.take (n * size) = xs) :
  Sl w (fun k => k = g) size (.slice (some ⟨g, 0, none⟩) n cap) n xs :=
 Sl.of_own (h.own hc hn hm ht) (fun k hk => by simp [Value.ownBlock] at hk; exact hk.symm)

set_option maxRecDepth 100000 in
set_option maxHeartbeats 1000000 in
theorem sl_delete (w : World) (g i m cap : Nat) (cur : List Value) (a b : List APair) (x : APair) (rest : List Value) (hR : Row w g 94 cur) (hc : cur.length = cap * 4) (hm : m + 1 ≤ cap) (hcm : cap ≤ maxLen) (hi : a.length = i) (hb : b.length = m - i) (him : i ≤ m)
  (hcur : cur = fl a ++ (x.cells ++ (fl b ++ rest))) :
  Calls Tryz.prog 92 #[.slice (some ⟨g, 0, none⟩) (m + 1) cap, .int .i64 i, .int .i64 ((i : Int) + 1)] w fun e w' =>
   e = .returned (.slice (some ⟨g, 0, none⟩) m cap) ∧ w'.ownsRow 0 94 4 (.slice (some ⟨g, 0, none⟩) m cap) m (fl (a ++ b)) ∧ Mod (fun k => k = g) w w' := by
 obtain ⟨i0, hi0, hz0, hz1, hz2⟩ := info_parts info_pair
 have hla := fl_len a
 have hlb := fl_len b
 have hcm' := hcm
 unfold maxLen at hcm'
 -- the append
 have hsl : Sl w (fun k => k = g) 4 (.slice (cutA (some ⟨g, 0, none⟩) (i + 1) cap 4) (m - i) (cap - (i + 1))) (m - i) (fl b) := by
  have h0 : Sl w (fun k => k = g) 4 (.slice (some ⟨g, 0, none⟩) (m + 1) cap) (m + 1) (fl a ++ (x.cells ++ fl b)) :=
   sl_row hR hc hm hcm (by
    rw [hcur, ← List.append_assoc (fl a), ← List.append_assoc (fl a ++ x.cells), List.take_left' (by simp [hla, hlb]; omega)]
    simp)
  have h1 := h0.cutA (m := i + 1) (by omega)
  rw [show m + 1 - (i + 1) = m - i by omega] at h1
  have e : (fl a ++ (x.cells ++ fl b)).drop ((i + 1) * 4) = fl b := by
   rw [← List.append_assoc, List.drop_left' (by simp [hla]; omega)]
  rw [e] at h1
  exact h1
 have happ : ∀ ty, (Builtin.append_ #[30, 30] ty #[.slice (some ⟨g, 0, none⟩) i cap, .slice (cutA (some ⟨g, 0, none⟩) (i + 1) cap 4) (m - i) (cap - (i + 1))]).run Tryz.prog w.drew =
   .ok (.slice (some ⟨g, 0, none⟩) m cap) (w.drew.setRow g (splice cur (i * 4) (fl b)).toArray) := fun ty => by
  have := run_appK (P := Tryz.prog) w.drew 30 ty 94 i0 4 g i cap _ (m - i) 94 cur (fl b) _ Tryz.underlying30 hi0 hz1 hR (hsl.drew) (by omega) hc (pair_one b)
  rw [show i + (m - i) = m by omega] at this
  exact this
 obtain ⟨cur1, hcur1⟩ : ∃ cur1, splice cur (i * 4) (fl b) = cur1 := ⟨_, rfl⟩
 rw [hcur1] at happ
 have hlen1 : cur1.length = cap * 4 := by
  rw [← hcur1, length_splice _ _ _ (by rw [hlb, hc]; omega), hc]
 have htk1 : cur1.take (m * 4) = fl (a ++ b) := by
  rw [← hcur1]
  unfold splice
  have e1 : (fl a ++ (x.cells ++ (fl b ++ rest))).take (i * 4) = fl a := List.take_left' (by rw [hla, hi])
  rw [hcur, e1, ← List.append_assoc, fl_app]
  exact List.take_left' (by rw [List.length_append, hla, hlb]; omega)
 have hR1 : Row (w.drew.setRow g cur1.toArray) g 94 cur1 := Row.set (w := w.drew) hR cur1
 obtain ⟨W1, hW1⟩ : ∃ W1, w.drew.setRow g cur1.toArray = W1 := ⟨_, rfl⟩
 rw [hW1] at happ hR1
 have hM1 : Mod (fun k => k = g) w W1 := by rw [← hW1]; exact Mod.setRow (S := fun k => k = g) ((Mod.refl _ w).drew) (.inr rfl) _
 have hclr : ∀ ty c, (Builtin.clear_ #[30] ty #[.slice (some ⟨g, m * 4, none⟩) 1 c]).run Tryz.prog W1 = .ok (.tuple #[]) (W1.setRow g (splice cur1 (m * 4) [.string ⟨#[]⟩, .int .i64 0, .float .f64 0, .string ⟨#[]⟩]).toArray) := fun ty c =>
  run_clearK (P := Tryz.prog) W1 30 94 ty (.agg #[.string ⟨#[]⟩, .int .i64 0, .float .f64 0, .string ⟨#[]⟩]) 4 g (m * 4) c 94 cur1 Tryz.underlying30 (by kernel_rfl) rfl (by
   intro u hu; simp [Value.cells] at hu; rcases hu with rfl | rfl | rfl | rfl <;> rfl) hR1 (by omega)
 have hfin : Hid ((W1.setRow g (splice cur1 (m * 4) [.string ⟨#[]⟩, .int .i64 0, .float .f64 0, .string ⟨#[]⟩]).toArray).ownsRow 0 94 4 (.slice (some ⟨g, 0, none⟩) m cap) m (fl (a ++ b)) ∧
   Mod (fun k => k = g) w (W1.setRow g (splice cur1 (m * 4) [.string ⟨#[]⟩, .int .i64 0, .float .f64 0, .string ⟨#[]⟩]).toArray)) := Lib.hid (by
  have hR2 : Row (W1.setRow g (splice cur1 (m * 4) [.string ⟨#[]⟩, .int .i64 0, .float .f64 0, .string ⟨#[]⟩]).toArray) g 94 (splice cur1 (m * 4) [.string ⟨#[]⟩, .int .i64 0, .float .f64 0, .string ⟨#[]⟩]) := Row.set hR1 _
  refine ⟨hR2.own ?_ (by omega) hcm ?_, hM1.setRow (.inr rfl) _⟩
  ·
   rw [length_splice _ _ _ (by simp; omega), hlen1]
  ·
   unfold splice
   rw [List.take_left' (by rw [List.length_take]; omega)]
   exact htk1)
 obtain ⟨W2, hW2⟩ : ∃ W2, W1.setRow g (splice cur1 (m * 4) [.string ⟨#[]⟩, .int .i64 0, .float .f64 0, .string ⟨#[]⟩]).toArray = W2 := ⟨_, rfl⟩
 rw [hW2] at hclr hfin
 have hcut := cut_head g m cap 4 (by omega)
 have hneq : ¬ ((i : Int) = (i : Int) + 1) := by omega
 have Happ := Lib.hid happ
 have Hclr := Lib.hid hclr
 clear happ hclr hsl hR hR1 hM1 htk1 hcur hcur1 hW1 hW2 hla hlb hi hb hlen1 hc
 have hic : (i : Int) ≤ (cap : Int) := by omega
 have hi1c : (i : Int) + 1 ≤ (cap : Int) := by omega
 have hm1 : (i : Int) + 1 ≤ (m : Int) + 1 := by omega
 have hi1 : (0 : Int) ≤ (i : Int) + 1 := by omega
 go_enter Tryz.func92, Tryz.ntmps92
 go_wp2_with fail
 go_region_law (refine step_app_at rfl (.tmp 22) (.tmp 25) 30 30 rfl _ _ (by simp [Act.eval, Act.put]) (by simp [Act.eval, Act.put]) (Happ.out _) ?_)
 go_wp2_with (refine wpList_clear_at _ rfl _ 30 rfl _ rfl (Hclr.out _ _) ?_)
 go_ret
 exact ⟨rfl, hfin.out⟩

theorem size_pair : (Tryz.prog.info? 94).map (·.size) = some 4 := by kernel_rfl
/-- What an Insert leaves. -/
def InsOut (w : World) (v : Value) (l : List APair) (e : Ending) (w' : World) : Prop :=
 ∃ v', e = .returned v' ∧ w'.ownsRow 0 94 4 v' l.length (fl l) ∧ (∀ g, v'.ownBlock = some g → v.ownBlock = some g ∨ w.heap.size ≤ g) ∧ Mod (fun k => v.ownBlock = some k) w w'
theorem sl_blk {w : World} {vb : Nat} {x : APair} (h : w.heap[vb]? = some (.cells #[.string x.key, .int .i64 x.val.kind, .float .f64 x.val.num, .string x.val.text] 94 (0, 0))) : Sl w (fun k => k = vb) 4 (.slice (some ⟨vb, 0, none⟩) 1 1) 1 x.cells := by
 refine ⟨rfl, _, _, rfl, Nat.le_refl _, by simp [maxLen], fun _ => ⟨_, 0, rfl, rfl, fun j u hu => ?_⟩⟩
 rw [Nat.zero_add]
 exact blk_cell (cs := x.cells) h hu

set_option maxRecDepth 100000 in
set_option maxHeartbeats 1000000 in
theorem sl_insert_end (w : World) (v : Value) (n : Nat) (a : List APair) (x : APair) (vb : Nat) (hn : a.length = n) (hn1 : n ≤ 1000) (hown : w.ownsRow 0 94 4 v n (fl a)) (hvb : w.heap[vb]? = some (.cells #[.string x.key, .int .i64 x.val.kind, .float .f64 x.val.num, .string x.val.text] 94 (0, 0))) :
  Calls Tryz.prog 93 #[v, .int .i64 n, .slice (some ⟨vb, 0, none⟩) 1 1] w (InsOut w v (a ++ [x])) := by
 obtain ⟨i0, hi0, hz0, hz1, hz2⟩ := info_parts info_pair
 obtain ⟨A, c, rfl⟩ := own_form hown
 have hsl := sl_blk hvb
 have hnc : n ≤ c := by
  rcases row_of_own hown with ⟨_, h⟩ | ⟨g, cap, cur, e, _, _, h, _⟩
  ·
   omega
  ·
   injection e with _ _ e; omega
 have hcm : c ≤ 9223372036854775807 := by
  rcases row_of_own hown with ⟨e, _⟩ | ⟨g, cap, cur, e, _, _, _, h, _⟩
  ·
   injection e with _ _ e; omega
  ·
   injection e with _ _ e; unfold maxLen at h; omega
 have Hn := Lib.hid hn
 have Hvb := Lib.hid hvb
 clear hn hvb
 go_enter Tryz.func93, Tryz.ntmps93
 go_wp2_with (at_builtin; refine wpList_app _ rfl _ _ 30 rfl 94 i0 _ 4 48 Tryz.underlying30 hi0 hz0 hz1 hz2 rfl (by omega) _ n _ rfl hown _ _ 1 x.cells rfl hsl (pair1 x) (by simp only [maxLen]; omega) (by omega) ?_)
 intro v' w1 ho hgr hat
 have hout : Hid (InsOut w (.slice A n c) (a ++ [x]) (.returned v') w1) := Lib.hid (by
  refine ⟨v', rfl, ?_, fun g hg => ?_, (Mod.refl _ w).grown hgr (fun k hk => .inr hk)⟩
  ·
   rw [fl_app, List.length_append, Hn.out]; simpa using ho
  ·
   rcases hat with e | e
   ·
    rw [← e]; exact .inl hg
   ·
    rw [e] at hg; injection hg with hg; omega)
 clear ho hgr hat
 go_wp2
 go_ret
 exact hout.out

theorem zc_len (z : Value) (n : Nat) : (Builtin.zeroCells z.cells n).toList.length = n * z.cells.size := by simp [Builtin.zeroCells]
set_option maxRecDepth 100000 in
set_option maxHeartbeats 4000000 in
theorem sl_insert_grow (w : World) (g n i : Nat) (cur : List Value) (a b : List APair) (x : APair) (vb : Nat) (hi : a.length = i) (hb : b.length = n - i) (hin : i < n) (hn1 : n ≤ 1000) (hR : Row w g 94 cur) (hcur : cur = fl a ++ fl b)
  (hvb : w.heap[vb]? = some (.cells #[.string x.key, .int .i64 x.val.kind, .float .f64 x.val.num, .string x.val.text] 94 (0, 0))) :
  Calls Tryz.prog 93 #[.slice (some ⟨g, 0, none⟩) n n, .int .i64 i, .slice (some ⟨vb, 0, none⟩) 1 1] w (InsOut w (.slice (some ⟨g, 0, none⟩) n n) (a ++ x :: b)) := by
 obtain ⟨i0, hi0, hz0, hz1, hz2⟩ := info_parts info_pair
 have hlx : x.cells.length = 4 := rfl
 have hla := fl_len a
 have hlb := fl_len b
 have hgw := hR.lt
 have hvw : vb < w.heap.size := (Array.getElem?_eq_some_iff.1 hvb).1
 have hold : (Builtin.firstCells i0.size i (.slice (some ⟨g, 0, none⟩) i n)).run Tryz.prog w.drew = .ok (fl a).toArray w.drew := by
  rw [hz1]
  refine run_firstCells_some w.drew 4 i ⟨g, 0, none⟩ i n (fl a) (by rw [hla, hi]) (fun j u hu => ?_)
  rw [addMk, Nat.zero_add]
  refine Row.cell (w := w) hR ?_
  rw [hcur, List.getElem?_append_left (List.getElem?_eq_some_iff.1 hu).1]
  exact hu
 obtain ⟨G, hG⟩ : ∃ G, grownCap w (n + 1) n 94 = G := ⟨_, rfl⟩
 have hGn : n + 1 ≤ G := by rw [← hG]; exact grownCap_ge w _ _ _
 have hGm : G ≤ maxLen := by rw [← hG]; exact grownCap_le_maxLen w _ _ _ (by unfold maxLen; omega)
 obtain ⟨z, hz⟩ : ∃ z : Value, z = .agg #[.string ⟨#[]⟩, .int .i64 0, .float .f64 0, .string ⟨#[]⟩] := ⟨_, rfl⟩
 have hzs : z.cells.size = 4 := by rw [hz]; rfl
 rw [← hz] at hz0
 obtain ⟨Z1, hZ1⟩ : ∃ Z1, (Builtin.zeroCells z.cells (n + 1 - i)).toList = Z1 := ⟨_, rfl⟩
 obtain ⟨Z2, hZ2⟩ : ∃ Z2, (Builtin.zeroCells z.cells (G - (n + 1))).toList = Z2 := ⟨_, rfl⟩
 have hlz1 : Z1.length = (n + 1 - i) * 4 := by rw [← hZ1, zc_len, hzs]
 have hlz2 : Z2.length = (G - (n + 1)) * 4 := by rw [← hZ2, zc_len, hzs]
 obtain ⟨h, hh⟩ : ∃ h, w.heap.size = h := ⟨_, rfl⟩
 obtain ⟨W1, hW1⟩ : ∃ W1, w.drew.alloc (.cells (fl a ++ (Z1 ++ Z2)).toArray 94) = W1 := ⟨_, rfl⟩
 have hrz : ∀ ty, (Builtin.append_ #[30, 3] ty #[.slice (some ⟨g, 0, none⟩) i n, .int .i64 ((n : Int) + 1 - (i : Int))]).run Tryz.prog w = .ok (.slice (some ⟨h, 0, none⟩) (n + 1) G) W1 := fun ty => by
  have hh2 := Lib.run_append_grow_zeros w 30 3 ty 94 i0 z .i64 .i64 Tryz.underlying30 Tryz.underlying3 hi0 hz0 (some ⟨g, 0, none⟩) i n (fl a) hold (n + 1 - i) (by omega) (by omega) (by omega) (by omega) (by rw [hz2]; omega)
   (by rw [hz2, show i + (n + 1 - i) = n + 1 by omega]; exact growslice_fits (by omega) (by omega))
  rw [show i + (n + 1 - i) = n + 1 by omega, hG, hh] at hh2
  rw [show (n : Int) + 1 - (i : Int) = ((n + 1 - i : Nat) : Int) by omega, hh2, ← hW1, ← hZ1, ← hZ2]
  congr 3
  simp
 have hR1 : Row W1 h 94 (fl a ++ (Z1 ++ Z2)) := by
  rw [← hW1, ← hh]
  exact heap_alloc_new w.drew _
 have hE1 : Ext w W1 := by rw [← hW1]; exact ((Mod.refl _ w).drew).alloc _
 have hcp1 : ∀ ty dc, (Builtin.copy_ #[30, 30] ty #[.slice (some ⟨h, i * 4, none⟩) (n + 1 - i) dc, .slice (some ⟨vb, 0, none⟩) 1 1]).run Tryz.prog W1 = .ok (goInt 1) (W1.setRow h (splice (fl a ++ (Z1 ++ Z2)) (i * 4) x.cells).toArray) := fun ty dc =>
  run_copyK (P := Tryz.prog) W1 30 30 ty 94 4 h (i * 4) (n + 1 - i) dc ⟨vb, 0, none⟩ 1 1 1 94 _ x.cells Tryz.underlying30 size_pair hR1 (by simp only [Nat.min_def]; split <;> omega) rfl (fun j u hu => by
   rw [addMk, Nat.zero_add]
   exact hE1.cell (blk_cell (cs := x.cells) hvb hu) id) (by simp only [List.length_append, hla, hlx, hi, hlz1, hlz2]; omega) (pair1 x)
 obtain ⟨c2, hc2⟩ : ∃ c2, splice (fl a ++ (Z1 ++ Z2)) (i * 4) x.cells = c2 := ⟨_, rfl⟩
 have hlc2 : c2.length = G * 4 := by rw [← hc2, length_splice _ _ _ (by simp only [List.length_append, hla, hlx, hi, hlz1, hlz2]; omega)]; simp only [List.length_append, hla, hi, hlz1, hlz2]; omega
 have hR2 : Row (W1.setRow h c2.toArray) h 94 c2 := hR1.set c2
 have hE2 : Ext w (W1.setRow h c2.toArray) := Mod.toExt (Mod.setRow (S := Since w.heap.size) (hE1.mod _) (.inl (by omega)) _)
 rw [hc2] at hcp1
 obtain ⟨W2, hW2⟩ : ∃ W2, W1.setRow h c2.toArray = W2 := ⟨_, rfl⟩
 rw [hW2] at hcp1 hR2 hE2
 have hcp2 : ∀ ty dc sc, (Builtin.copy_ #[30, 30] ty #[.slice (some ⟨h, (i + 1) * 4, none⟩) (n - i) dc, .slice (some ⟨g, i * 4, none⟩) (n - i) sc]).run Tryz.prog W2.drew = .ok (goInt ((n - i : Nat) : Int)) (W2.drew.setRow h (splice c2 ((i + 1) * 4) (fl b)).toArray) := fun ty dc sc =>
  run_copyK (P := Tryz.prog) W2.drew 30 30 ty 94 4 h ((i + 1) * 4) (n - i) dc ⟨g, i * 4, none⟩ (n - i) sc (n - i) 94 c2 (fl b) Tryz.underlying30 size_pair hR2 (by simp) (by rw [hlb, hb]) (fun j u hu => by
   rw [addMk]
   refine hE2.cell (Row.cell hR ?_) id
   rw [hcur, List.getElem?_append_right (by omega), hla, hi, Nat.add_sub_cancel_left]
   exact hu) (by omega) (pair_one b)
 obtain ⟨c3, hc3⟩ : ∃ c3, splice c2 ((i + 1) * 4) (fl b) = c3 := ⟨_, rfl⟩
 rw [hc3] at hcp2
 have hlc3 : c3.length = G * 4 := by rw [← hc3, length_splice _ _ _ (by omega), hlc2]
 have htk : c3.take ((n + 1) * 4) = fl (a ++ x :: b) := by
  have e1 : c2.take ((i + 1) * 4) = fl a ++ x.cells := by
   rw [← hc2]
   unfold splice
   have e0 : (fl a ++ (Z1 ++ Z2)).take (i * 4) = fl a := List.take_left' (by rw [hla, hi])
   rw [e0, ← List.append_assoc]
   exact List.take_left' (by simp only [List.length_append, hla, hlx, hi]; omega)
  rw [← hc3]
  unfold splice
  rw [e1, ← List.append_assoc, List.take_left' (by simp only [List.length_append, hla, hlb, hlx, hi, hb]; omega)]
  simp [fl]
 have hout : Hid (InsOut w (.slice (some ⟨g, 0, none⟩) n n) (a ++ x :: b) (.returned (.slice (some ⟨h, 0, none⟩) (n + 1) G)) (W2.drew.setRow h c3.toArray)) := Lib.hid (by
  refine ⟨_, rfl, ?_, fun k hk => ?_, ?_⟩
  ·
   have := Row.own (Row.set (w := W2.drew) hR2 c3) hlc3 hGn hGm htk
   rw [show (a ++ x :: b).length = n + 1 by simp; omega]
   exact this
  ·
   simp [Value.ownBlock] at hk; right; omega
  ·
   exact Mod.setRow ((Ext.mod hE2 (fun k => (Value.slice (some ⟨g, 0, none⟩) n n).ownBlock = some k)).drew) (.inl (by omega)) _)
 obtain ⟨W3, hW3⟩ : ∃ W3, W2.drew.setRow h c3.toArray = W3 := ⟨_, rfl⟩
 rw [hW3] at hcp2 hout
 have q1 := cut_head h i G 4 (by omega)
 have q2 := cut_head h (i + 1) G 4 (by omega)
 have q3 := cut_head g i n 4 (by omega)
 have Hrz := Lib.hid hrz
 have Hcp1 := Lib.hid hcp1
 have Hcp2 := Lib.hid hcp2
 unfold maxLen at hGm
 have hneq : ¬ ((i : Int) = (n : Int)) := by omega
 have hgt : decide ((n : Int) + 1 > (n : Int)) = true := by simp; omega
 have hi1 : (0 : Int) ≤ (i : Int) + 1 := by omega
 have hin' : (i : Int) < (n : Int) := by omega
 have hGi : (n : Int) + 1 ≤ (G : Int) := by omega
 clear hlx hrz hcp1 hcp2 hold hG hz hzs hz0 hZ1 hZ2 hlz1 hlz2 hh hW1 hR1 hE1 hc2 hlc2 hR2 hE2 hW2 hc3 hlc3 htk hW3 hla hlb hi hb hcur hR hvb
 go_enter Tryz.func93, Tryz.ntmps93
 go_wp2_with (first
  | (at_builtin; refine Lib.wpList_append_run _ rfl _ _ _ _ rfl _ _ rfl rfl _ _ (Hrz.out _) ?_)
  | (refine wpList_copy_at _ rfl _ _ 30 30 rfl _ _ rfl rfl (Hcp1.out _ _) ?_))
 have htn : ((i : Int) + 1).toNat = i + 1 := by omega
 have hin2 : (i : Int) + 1 ≤ (n : Int) + 1 := by omega
 have hin3 : (i : Int) ≤ (n : Int) := by omega
 have hw1 : IntKind.i64.wrap ((i : Int) + 1) = (i : Int) + 1 := IntWalk.i64_in _ (by omega)
 go_region_law (refine step_copy_at rfl _ _ 30 30 rfl (.slice (some ⟨h, (i + 1) * 4, none⟩) (n - i) (G - (i + 1))) (.slice (some ⟨g, i * 4, none⟩) (n - i) (n - i)) (by simp [Act.eval, Act.put]) (by simp [Act.eval, Act.put]) (Hcp2.out _ _ _) ?_)
 go_wp2
 go_ret
 exact hout.out

theorem call_overlaps (w : World) (vb g o lb cb : Nat) (cs ds : Array Value) (tA tB : TypeId) (hA : w.heap[vb]? = some (.cells cs tA (0, 0))) (hB : w.heap[g]? = some (.cells ds tB (0, 0))) (hd : ds.size ≠ 0) (hne : vb ≠ g) :
  (callFunc 105 #[.slice (some ⟨vb, 0, none⟩) 1 1, .slice (some ⟨g, o, none⟩) lb cb]).run Tryz.prog w = .ok (.value (.bool false)) w := by
 rw [run_callFunc_extern (fn := Tryz.f105) (by kernel_rfl) (by kernel_rfl) (by kernel_rfl) (by kernel_rfl) (e := Extern.SlicesOverlaps.overlaps #[30, 30] #[4]) (by kernel_rfl),
  Lib.run_overlaps_apart w 30 4 94 Tryz.underlying30 4 (fun w => by kernel_rfl) ⟨vb, 0, none⟩ ⟨g, o, none⟩ 1 1 lb cb hne tA tB cs.size ds.size (by simp [World.shape?, hA]) (by simp [World.shape?, hB]) hd (by simp [World.frozen?, hA]) (by simp [World.frozen?, hA])]
 rfl
set_option maxRecDepth 100000 in
set_option maxHeartbeats 4000000 in
theorem sl_insert_room (w : World) (g n i cap : Nat) (cur : List Value) (a b : List APair) (x : APair) (vb : Nat) (rest : List Value) (hi : a.length = i) (hb : b.length = n - i) (hin : i < n) (hn1 : n ≤ 1000) (hR : Row w g 94 cur) (hcur : cur = fl a ++ (fl b ++ rest))
  (hc : cur.length = cap * 4) (hroom : n + 1 ≤ cap) (hcm : cap ≤ maxLen) (hvb : w.heap[vb]? = some (.cells #[.string x.key, .int .i64 x.val.kind, .float .f64 x.val.num, .string x.val.text] 94 (0, 0))) (hne : vb ≠ g) :
  Calls Tryz.prog 93 #[.slice (some ⟨g, 0, none⟩) n cap, .int .i64 i, .slice (some ⟨vb, 0, none⟩) 1 1] w (InsOut w (.slice (some ⟨g, 0, none⟩) n cap) (a ++ x :: b)) := by
 have hlx : x.cells.length = 4 := rfl
 have hla := fl_len a
 have hlb := fl_len b
 have hov := fun lb cb => call_overlaps w vb g ((i + 1) * 4) lb cb _ _ _ _ hvb hR (by rw [List.size_toArray]; omega) hne
 have hcp1 : ∀ ty dc sc, (Builtin.copy_ #[30, 30] ty #[.slice (some ⟨g, (i + 1) * 4, none⟩) (n - i) dc, .slice (some ⟨g, i * 4, none⟩) (n + 1 - i) sc]).run Tryz.prog w.drew = .ok (goInt ((n - i : Nat) : Int)) (w.drew.setRow g (splice cur ((i + 1) * 4) (fl b)).toArray) := fun ty dc sc =>
  run_copyK (P := Tryz.prog) w.drew 30 30 ty 94 4 g ((i + 1) * 4) (n - i) dc ⟨g, i * 4, none⟩ (n + 1 - i) sc (n - i) 94 cur (fl b) Tryz.underlying30 size_pair hR (by simp only [Nat.min_def]; split <;> omega) (by rw [hlb, hb]) (fun j u hu => by
   rw [addMk]
   refine Row.cell (w := w) hR ?_
   rw [hcur, List.getElem?_append_right (by omega), hla, hi, Nat.add_sub_cancel_left, List.getElem?_append_left (List.getElem?_eq_some_iff.1 hu).1]
   exact hu) (by omega) (pair_one b)
 obtain ⟨c1, hc1⟩ : ∃ c1, splice cur ((i + 1) * 4) (fl b) = c1 := ⟨_, rfl⟩
 have hlc1 : c1.length = cap * 4 := by rw [← hc1, length_splice _ _ _ (by omega), hc]
 have hR1 : Row (w.drew.setRow g c1.toArray) g 94 c1 := Row.set (w := w.drew) hR c1
 have hM1 : Mod (fun k => k = g) w (w.drew.setRow g c1.toArray) := Mod.setRow (S := fun k => k = g) ((Mod.refl _ w).drew) (.inr rfl) _
 rw [hc1] at hcp1
 obtain ⟨W1, hW1⟩ : ∃ W1, w.drew.setRow g c1.toArray = W1 := ⟨_, rfl⟩
 rw [hW1] at hcp1 hR1 hM1
 have hcp2 : ∀ ty dc, (Builtin.copy_ #[30, 30] ty #[.slice (some ⟨g, i * 4, none⟩) (n + 1 - i) dc, .slice (some ⟨vb, 0, none⟩) 1 1]).run Tryz.prog W1 = .ok (goInt 1) (W1.setRow g (splice c1 (i * 4) x.cells).toArray) := fun ty dc =>
  run_copyK (P := Tryz.prog) W1 30 30 ty 94 4 g (i * 4) (n + 1 - i) dc ⟨vb, 0, none⟩ 1 1 1 94 c1 x.cells Tryz.underlying30 size_pair hR1 (by simp only [Nat.min_def]; split <;> omega) rfl (fun j u hu => by
   rw [addMk, Nat.zero_add]
   exact hM1.cell (blk_cell (cs := x.cells) hvb hu) hne) (by omega) (pair1 x)
 obtain ⟨c2, hc2⟩ : ∃ c2, splice c1 (i * 4) x.cells = c2 := ⟨_, rfl⟩
 rw [hc2] at hcp2
 have hlc2 : c2.length = cap * 4 := by rw [← hc2, length_splice _ _ _ (by omega), hlc1]
 have htk : c2.take ((n + 1) * 4) = fl (a ++ x :: b) := by
  have e0 : cur.take (i * 4) = fl a := by rw [hcur]; exact List.take_left' (by rw [hla, hi])
  have e1 : c1.take (i * 4) = fl a := by
   rw [← hc1]
   unfold splice
   rw [List.take_append_of_le_length (by rw [List.length_take]; omega), List.take_take, show min (i * 4) ((i + 1) * 4) = i * 4 by omega, e0]
  have e2 : c1.drop (i * 4 + 4) = fl b ++ cur.drop ((i + 1) * 4 + (fl b).length) := by
   rw [← hc1]
   unfold splice
   exact List.drop_left' (by rw [List.length_take]; omega)
  rw [← hc2]
  unfold splice
  rw [e1, hlx, e2, ← List.append_assoc, ← List.append_assoc, List.take_left' (by simp only [List.length_append, hla, hlb, hlx, hi, hb]; omega)]
  simp [fl]
 have hout : Hid (InsOut w (.slice (some ⟨g, 0, none⟩) n cap) (a ++ x :: b) (.returned (.slice (some ⟨g, 0, none⟩) (n + 1) cap)) (W1.setRow g c2.toArray)) := Lib.hid (by
  refine ⟨_, rfl, ?_, fun k hk => .inl hk, ?_⟩
  ·
   have := Row.own (Row.set (w := W1) hR1 c2) hlc2 hroom hcm htk
   rw [show (a ++ x :: b).length = n + 1 by simp; omega]
   exact this
  ·
   exact (Mod.setRow (S := fun k => k = g) hM1 (.inr rfl) _).mono (fun k _ e => by rw [e]; rfl))
 obtain ⟨W2, hW2⟩ : ∃ W2, W1.setRow g c2.toArray = W2 := ⟨_, rfl⟩
 rw [hW2] at hcp2 hout
 have q1 := cut_head g i cap 4 (by omega)
 have q2 := cut_head g (i + 1) cap 4 (by omega)
 have Hov := Lib.hid hov
 have Hcp1 := Lib.hid hcp1
 have Hcp2 := Lib.hid hcp2
 unfold maxLen at hcm
 have hneq : ¬ ((i : Int) = (n : Int)) := by omega
 have hgt : decide ((n : Int) + 1 > (cap : Int)) = false := by simp; omega
 have hin' : (i : Int) < (n : Int) := by omega
 have hi1 : (0 : Int) ≤ (i : Int) + 1 := by omega
 have hcn : (n : Int) + 1 ≤ (cap : Int) := by omega
 clear hlx hov hcp1 hcp2 hlc1 hlc2 hR1 hM1 hc1 hc2 hW1 hW2 htk hla hlb hi hb hcur hR hvb hc
 go_enter Tryz.func93, Tryz.ntmps93
 go_wp2_with (simp only [Hov.out])
 have htn : ((i : Int) + 1).toNat = i + 1 := by omega
 have hin2 : (i : Int) + 1 ≤ (n : Int) + 1 := by omega
 have hin3 : (i : Int) ≤ (n : Int) + 1 := by omega
 have hw1 : IntKind.i64.wrap ((i : Int) + 1) = (i : Int) + 1 := IntWalk.i64_in _ (by omega)
 go_region_law (refine step_copy_at rfl _ _ 30 30 rfl (.slice (some ⟨g, (i + 1) * 4, none⟩) (n - i) (cap - (i + 1))) (.slice (some ⟨g, i * 4, none⟩) (n + 1 - i) (cap - i)) (by simp [Act.eval, Act.put]) (by simp [Act.eval, Act.put]) (Hcp1.out _ _ _) ?_)
 go_wp2_with (refine wpList_copy_at _ rfl _ _ 30 30 rfl _ _ rfl rfl (Hcp2.out _ _) ?_)
 go_ret
 exact hout.out
end Go.Proofs.YtbclnghbgoblcaaGreat

namespace Go.Proofs.YtbclnghbgoblcaaGreat
theorem split3 {l : List APair} (hs : Srt l) (k : ByteArray) : l = (l.filter fun p => ltT p.key k) ++ ((l.filter fun p => eqT p.key k) ++ l.filter fun p => ltT k p.key) := by
 induction l with
 | nil => rfl
 | cons q l ih =>
  have hs' := List.pairwise_cons.1 hs
  rcases h1 : ltT q.key k with _ | _
  ·
   have hgt : ∀ p ∈ l, ltT k p.key = true := fun p hp => by
    rcases h2 : eqT q.key k with _ | _
    ·
     exact ltT_trans (ltT_or h1 h2) (hs'.1 p hp)
    ·
     rw [← (eqT_iff _ _).1 h2]; exact hs'.1 p hp
   have f1 : l.filter (fun p => ltT p.key k) = [] := List.filter_eq_nil_iff.2 fun p hp => by simp [ltT_asymm (hgt p hp)]
   have f2 : l.filter (fun p => ltT k p.key) = l := List.filter_eq_self.2 hgt
   have f3 : l.filter (fun p => eqT p.key k) = [] := List.filter_eq_nil_iff.2 fun p hp => by simp [eqT_gt (hgt p hp)]
   rcases h2 : eqT q.key k with _ | _
   ·
    simp [h1, h2, ltT_or h1 h2, f1, f2, f3]
   ·
    have e := (eqT_iff _ _).1 h2
    have h3 : ltT k q.key = false := by rw [e]; exact ltT_irrefl k
    simp [h1, h2, h3, f1, f2, f3]
  ·
   have h2 := eqT_lt h1
   have h3 := ltT_asymm h1
   have := ih hs'.2
   simp only [List.filter_cons, h1, h2, h3, if_true, Bool.false_eq_true, if_false, List.cons_append]
   rw [← this]
/-- Where a key stands, or would stand. -/
structure Parts (l : List APair) (k : ByteArray) (a m b : List APair) : Prop where
 eq : l = a ++ (m ++ b)
 lo : ∀ p ∈ a, ltT p.key k = true
 mi : ∀ p ∈ m, eqT p.key k = true
 hi : ∀ p ∈ b, ltT k p.key = true
 one : m.length ≤ 1
theorem parts {l : List APair} (hs : Srt l) (k : ByteArray) : ∃ a m b, Parts l k a m b ∧ (∀ v, setP k v false l = a ++ ⟨k, v⟩ :: b) ∧ (∀ v, setP k v true l = a ++ b) := by
 refine ⟨_, _, _, ⟨split3 hs k, fun p hp => (List.mem_filter.1 hp).2, fun p hp => (List.mem_filter.1 hp).2, fun p hp => (List.mem_filter.1 hp).2, one_key hs k⟩, fun v => setP_false hs k v, fun v => ?_⟩
 rw [setP_true]
 conv => lhs; rw [split3 hs k]
 rw [List.filter_append, List.filter_append]
 have f1 : (l.filter fun p => ltT p.key k).filter (fun p => !eqT p.key k) = l.filter fun p => ltT p.key k := List.filter_eq_self.2 fun p hp => by simp [eqT_lt (List.mem_filter.1 hp).2]
 have f2 : (l.filter fun p => eqT p.key k).filter (fun p => !eqT p.key k) = [] := List.filter_eq_nil_iff.2 fun p hp => by simp [(List.mem_filter.1 hp).2]
 have f3 : (l.filter fun p => ltT k p.key).filter (fun p => !eqT p.key k) = l.filter fun p => ltT k p.key := List.filter_eq_self.2 fun p hp => by simp [eqT_gt (List.mem_filter.1 hp).2]
 rw [f1, f2, f3, List.nil_append]
theorem Parts.lt {l : List APair} {k : ByteArray} {a m b : List APair} (h : Parts l k a m b) : ∀ (i : Nat) x, l[i]? = some x → ltT x.key k = decide (i < a.length) := by
 intro i x hx
 rw [h.eq] at hx
 by_cases hi : i < a.length
 ·
  rw [List.getElem?_append_left hi] at hx
  rw [h.lo x (List.mem_of_getElem? hx)]
  simp [hi]
 ·
  rw [List.getElem?_append_right (by omega)] at hx
  have : ltT x.key k = false := by
   rcases List.mem_append.1 (List.mem_of_getElem? hx) with hm | hm
   ·
    rw [(eqT_iff _ _).1 (h.mi x hm)]; exact ltT_irrefl k
   ·
    exact ltT_asymm (h.hi x hm)
  rw [this]
  simp [hi]
theorem Parts.is_yes {l : List APair} {k : ByteArray} {a b : List APair} {y : APair} (h : Parts l k a [y] b) : true = true ↔ ∃ x, l[a.length]? = some x ∧ eqT x.key k = true :=
 ⟨fun _ => ⟨y, by rw [h.eq]; simp, h.mi y (by simp)⟩, fun _ => rfl⟩
theorem Parts.is_no {l : List APair} {k : ByteArray} {a b : List APair} (h : Parts l k a [] b) : false = true ↔ ∃ x, l[a.length]? = some x ∧ eqT x.key k = true := by
 refine ⟨(fun h => by cases h), fun ⟨x, hx, he⟩ => ?_⟩
 rw [h.eq, List.getElem?_append_right (by omega)] at hx
 have := h.hi x (by simpa using List.mem_of_getElem? hx)
 rw [eqT_gt this] at he
 cases he
theorem Parts.two {l : List APair} {k : ByteArray} {a m b : List APair} (h : Parts l k a m b) : m = [] ∨ ∃ y, m = [y] ∧ y.key = k := by
 have h1 := h.one
 have h2 := h.mi
 rcases m with _ | ⟨y, _ | ⟨z, m⟩⟩
 ·
  exact .inl rfl
 ·
  exact .inr ⟨y, rfl, (eqT_iff _ _).1 (h2 y (by simp))⟩
 ·
  simp at h1
end Go.Proofs.YtbclnghbgoblcaaGreat

namespace Go.Proofs.YtbclnghbgoblcaaGreat
set_option linter.unusedSimpArgs false
open Go.RowKit

/-- Pairs of one's own. -/
def Own (w : World) (v : Value) (l : List APair) : Prop := w.ownsRow 0 94 4 v l.length (fl l) ∧ ∀ p ∈ l, p.ok
theorem Own.prs {w : World} {v : Value} {l : List APair} (h : Own w v l) : Prs w (fun g => v.ownBlock = some g) v l := ⟨Sl.of_own h.1 (fun _ h => h), h.2⟩
theorem Own.mod {w w' : World} {S : Nat → Prop} {v : Value} {l : List APair} (h : Own w v l) (hm : Mod S w w') (hS : ∀ g, v.ownBlock = some g → ¬ S g) : Own w' v l := ⟨own_mod h.1 hm hS, h.2⟩
/-- What put leaves: a list of one's own, in the old block or a new one. -/
def PutOut (w : World) (v : Value) (l : List APair) (e : Ending) (w' : World) : Prop :=
 ∃ v', e = .returned v' ∧ Own w' v' l ∧ (∀ g, v'.ownBlock = some g → v.ownBlock = some g ∨ w.heap.size ≤ g) ∧ Mod (fun k => v.ownBlock = some k) w w'

theorem sl_insert (w : World) (v : Value) (a b : List APair) (x : APair) (vb : Nat) (hn1 : (a ++ b).length ≤ 1000) (hown : w.ownsRow 0 94 4 v (a ++ b).length (fl (a ++ b))) (hvb : w.heap[vb]? = some (.cells #[.string x.key, .int .i64 x.val.kind, .float .f64 x.val.num, .string x.val.text] 94 (0, 0)))
  (hne : ∀ g, v.ownBlock = some g → vb ≠ g) :
  Calls Tryz.prog 93 #[v, .int .i64 a.length, .slice (some ⟨vb, 0, none⟩) 1 1] w (InsOut w v (a ++ x :: b)) := by
 rcases b with _ | ⟨y, b⟩
 ·
  rw [List.append_nil] at hown hn1
  exact sl_insert_end w v a.length a x vb rfl hn1 hown hvb
 ·
  have hlen : (a ++ y :: b).length = a.length + (b.length + 1) := by simp
  rcases row_of_own hown with ⟨_, h⟩ | ⟨g, cap, cur, rfl, hR, hc, hnc, hcm, ht⟩
  ·
   omega
  ·
   have hne' : vb ≠ g := hne g rfl
   obtain ⟨n, hn⟩ : ∃ n, (a ++ y :: b).length = n := ⟨_, rfl⟩
   rw [hn] at hnc ht hn1 hlen ⊢
   have hla := fl_len a
   have hlb := fl_len (y :: b)
   by_cases hroom : n + 1 ≤ cap
   ·
    refine sl_insert_room w g n a.length cap cur a (y :: b) x vb (cur.drop (n * 4)) rfl (by simp; omega) (by omega) hn1 hR ?_ hc hroom hcm hvb hne'
    rw [← List.append_assoc, ← fl_app, ← ht, List.take_append_drop]
   ·
    obtain rfl : cap = n := by omega
    refine sl_insert_grow w g cap a.length cur a (y :: b) x vb rfl (by simp; omega) (by omega) hn1 hR ?_ hvb
    rw [← fl_app, ← ht, List.take_of_length_le (by omega)]

/-- A pair's value is turned in its row. -/
theorem row_set {w : World} {g j : Nat} {e : TypeId} {cur : List Value} (u : Value) (h : Row w g e cur) : Row (w.setCell ⟨g, j, none⟩ u) g e (cur.set j u) := by
 have := setCell_eq_setRow w g j cur.toArray e (0, 0) u h
 rw [this]
 have h2 := Row.set h (cur.set j u)
 simpa using h2
theorem row_set3 {w : World} {g o : Nat} {e : TypeId} {A B : List Value} {k c1 c2 c3 : Value} (x1 x2 x3 : Value) (h : Row w g e (A ++ k :: c1 :: c2 :: c3 :: B)) (ho : A.length = o) :
  Row (((w.setCell ⟨g, o + 1, none⟩ x1).setCell ⟨g, o + 2, none⟩ x2).setCell ⟨g, o + 3, none⟩ x3) g e (A ++ k :: x1 :: x2 :: x3 :: B) := by
 have := row_set (j := o + 3) x3 (row_set (j := o + 2) x2 (row_set (j := o + 1) x1 h))
 subst ho
 simpa [List.set_append] using this

theorem own_len {w : World} {v : Value} {l : List APair} (h : Own w v l) : ∃ A c, v = .slice A l.length c ∧ l.length ≤ c ∧ c ≤ maxLen := by
 rcases row_of_own h.1 with ⟨rfl, h0⟩ | ⟨g, cap, cur, rfl, _, _, h1, h2, _⟩
 ·
  exact ⟨none, 0, by rw [h0], by omega, Nat.zero_le _⟩
 ·
  exact ⟨_, cap, rfl, h1, h2⟩
theorem own_row {w : World} {v : Value} {l : List APair} (h : Own w v l) (h0 : l ≠ []) : ∃ g cap cur, v = .slice (some ⟨g, 0, none⟩) l.length cap ∧ Row w g 94 cur ∧ cur.length = cap * 4 ∧ l.length ≤ cap ∧ cap ≤ maxLen ∧ cur = fl l ++ cur.drop (l.length * 4) := by
 rcases row_of_own h.1 with ⟨_, h1⟩ | ⟨g, cap, cur, rfl, hR, hc, h1, h2, ht⟩
 ·
  exact absurd (List.eq_nil_of_length_eq_zero h1) h0
 ·
  exact ⟨g, cap, cur, rfl, hR, hc, h1, h2, by rw [← ht, List.take_append_drop]⟩
theorem putOut_of {w w0 w1 : World} {v : Value} {l : List APair} {e : Ending} {w' : World} (hE : Ext w w1) (hs : w.heap.size ≤ w1.heap.size) (hok : ∀ p ∈ l, p.ok) (h : InsOut w1 v l e w') (h0 : w0 = w) : PutOut w v l e w' := by
 subst h0
 obtain ⟨v', he, ho, hb, hm⟩ := h
 refine ⟨v', he, ⟨ho, hok⟩, fun g hg => ?_, (Ext.mod hE _).self hm⟩
 rcases hb g hg with h | h
 ·
  exact .inl h
 ·
  exact .inr (by omega)

set_option maxRecDepth 100000 in
set_option maxHeartbeats 4000000 in
theorem kv_put_stay (w : World) (v : Value) (l : List APair) (key : ByteArray) (x : AVal) (hO : Own w v l) (a m b : List APair) (hP : Parts l key a m b) (hl : l.length ≤ 1000) (hk0 : (x.kind == 0) = true) (hm : m = []) :
  Calls Tryz.prog 78 #[v, .string key, .agg #[.int .i64 x.kind, .float .f64 x.num, .string x.text]] w (PutOut w v (a ++ b)) := by
 subst hm
 have hE : Ext w (w.alloc (.cells #[.int .i64 x.kind, .float .f64 x.num, .string x.text] 40)) := (Mod.refl _ w).alloc _
 have hO2 := hO.mod hE (fun _ _ => id)
 have HP := Lib.hid hP
 clear hO
 go_enter Tryz.func78, Tryz.ntmps78
 go_wp2_with fail
 refine (sl_find _ _ _ l key hO2.prs (by omega) a.length (by rw [hP.eq]; simp) hP.lt false hP.is_no).mono ?_
 rintro e w1 ⟨rfl, hE1⟩
 obtain ⟨hc1, hf1⟩ := bcell hE1
 have hz1 := hE1.size
 simp at hz1
 have q1 : w.heap.size < w1.heap.size := by omega
 have hout : Hid (PutOut w v (a ++ b) (.returned v) w1) := Lib.hid ⟨v, rfl, by have := hO2.mod hE1 (fun _ _ => id); rw [hP.eq] at this; simpa using this, fun g hg => .inl hg, Ext.mod (hE.ext hE1) _⟩
 clear hE1 hz1 hO2 hP hE
 go_wp2
 go_ret
 exact hout.out

set_option maxRecDepth 100000 in
set_option maxHeartbeats 4000000 in
theorem kv_put_del (w : World) (v : Value) (l : List APair) (key : ByteArray) (x : AVal) (hO : Own w v l) (a b : List APair) (y : APair) (hP : Parts l key a [y] b) (hl : l.length ≤ 1000) (hk0 : (x.kind == 0) = true) :
  Calls Tryz.prog 78 #[v, .string key, .agg #[.int .i64 x.kind, .float .f64 x.num, .string x.text]] w (PutOut w v (a ++ b)) := by
 have hE : Ext w (w.alloc (.cells #[.int .i64 x.kind, .float .f64 x.num, .string x.text] 40)) := (Mod.refl _ w).alloc _
 have hO2 := hO.mod hE (fun _ _ => id)
 have hne : l ≠ [] := by rw [hP.eq]; simp
 obtain ⟨g, cap, cur, rfl, hR, hc, hnc, hcm, hcur⟩ := own_row hO2 hne
 have HP := Lib.hid hP
 obtain ⟨mm, hmm⟩ : ∃ mm, a.length + b.length = mm := ⟨_, rfl⟩
 have hlen : l.length = mm + 1 := by rw [hP.eq]; simp; omega
 rw [hlen] at hO2 hnc hcur ⊢
 have hcur2 : cur = fl a ++ (y.cells ++ (fl b ++ cur.drop ((mm + 1) * 4))) := by
  conv => lhs; rw [hcur]
  rw [hP.eq]
  simp [fl]
 have hok : ∀ p ∈ a ++ b, p.ok := fun p hp => hO.2 p (by rw [hP.eq]; simp at hp ⊢; rcases hp with h | h; exact .inl h; exact .inr (.inr h))
 clear hO
 go_enter Tryz.func78, Tryz.ntmps78
 go_wp2_with fail
 refine (sl_find _ _ _ l key hO2.prs (by omega) a.length (by rw [hP.eq]; simp) hP.lt true hP.is_yes).mono ?_
 rintro e w1 ⟨rfl, hE1⟩
 obtain ⟨hc1, hf1⟩ := bcell hE1
 have hz1 := hE1.size
 simp at hz1
 have q1 : w.heap.size < w1.heap.size := by omega
 have hR1 := hR.mod hE1 id
 have HE1 := Lib.hid (hE.ext hE1)
 have HR1 := Lib.hid hR1
 have Hcur := Lib.hid hcur2
 have Hc := Lib.hid hc
 have Hok := Lib.hid hok
 have Hmm := Lib.hid hmm
 have hal : a.length ≤ 1000 := by omega
 clear hE1 hz1 hO2 hP hE hR hR1 hcur hcur2 hc hok hlen hmm
 go_wp2_with fail
 refine (sl_delete w1 g a.length mm cap cur a b y _ HR1.out Hc.out hnc hcm rfl (by have := Hmm.out; omega) (by have := Hmm.out; omega) Hcur.out).mono ?_
 rintro e w2 ⟨rfl, ho, hm⟩
 have hout : Hid (PutOut w (.slice (some ⟨g, 0, none⟩) (mm + 1) cap) (a ++ b) (.returned (.slice (some ⟨g, 0, none⟩) mm cap)) w2) := Lib.hid
  ⟨_, rfl, ⟨by rw [show (a ++ b).length = mm by rw [List.length_append]; exact Hmm.out]; exact ho, Hok.out⟩, fun k hk => .inl hk, (Ext.mod HE1.out _).self (hm.mono (fun k _ e => by rw [e]; rfl))⟩
 clear ho hm
 go_wp2
 go_ret
 exact hout.out

set_option maxRecDepth 100000 in
set_option maxHeartbeats 4000000 in
theorem kv_put_over (w : World) (v : Value) (l : List APair) (key : ByteArray) (x : AVal) (hO : Own w v l) (a b : List APair) (y : APair) (hP : Parts l key a [y] b) (hl : l.length ≤ 1000) (hk0 : (x.kind == 0) = false) (hx : x.ok) :
  Calls Tryz.prog 78 #[v, .string key, .agg #[.int .i64 x.kind, .float .f64 x.num, .string x.text]] w (PutOut w v (a ++ ⟨y.key, x⟩ :: b)) := by
 have hE : Ext w (w.alloc (.cells #[.int .i64 x.kind, .float .f64 x.num, .string x.text] 40)) := (Mod.refl _ w).alloc _
 have hO2 := hO.mod hE (fun _ _ => id)
 have hne : l ≠ [] := by rw [hP.eq]; simp
 obtain ⟨g, cap, cur, rfl, hR, hc, hnc, hcm, hcur⟩ := own_row hO2 hne
 have hgw : g < w.heap.size := (hO.1.lt g rfl).2
 have HP := Lib.hid hP
 have hlen : a.length < l.length := by rw [hP.eq]; simp
 obtain ⟨n, hn⟩ : ∃ n, l.length = n := ⟨_, rfl⟩
 have hl2 : (a ++ (⟨y.key, x⟩ : APair) :: b).length = n := by rw [← hn, hP.eq]; simp
 have hok : ∀ p ∈ a ++ (⟨y.key, x⟩ : APair) :: b, p.ok := fun p hp => by
  rcases List.mem_append.1 hp with h | h
  ·
   exact hO.2 p (by rw [hP.eq]; simp [h])
  ·
   rcases List.mem_cons.1 h with rfl | h
   ·
    exact ⟨(hO.2 y (by rw [hP.eq]; simp)).1, hx⟩
   ·
    exact hO.2 p (by rw [hP.eq]; simp [h])
 rw [hn] at hO2 hnc hcur hl hlen ⊢
 obtain ⟨rest, hrest⟩ : ∃ rest, cur.drop (n * 4) = rest := ⟨_, rfl⟩
 rw [hrest] at hcur
 have hcur2 : cur = fl a ++ .string y.key :: .int .i64 y.val.kind :: .float .f64 y.val.num :: .string y.val.text :: (fl b ++ rest) := by
  rw [hcur, hP.eq]
  simp [fl]
 have hla := fl_len a
 obtain ⟨i, hi⟩ : ∃ i, a.length = i := ⟨_, rfl⟩
 rw [hi] at hla hlen
 clear hO
 go_enter Tryz.func78, Tryz.ntmps78
 go_wp2_with fail
 refine (sl_find _ _ _ l key hO2.prs (by omega) a.length (by rw [hP.eq]; simp) hP.lt true hP.is_yes).mono ?_
 rintro e w1 ⟨rfl, hE1⟩
 have bx0 : w1.cell? ⟨w.heap.size, 0, none⟩ = some (.int .i64 x.kind) := hE1.cell (by simp) id
 have bx1 : w1.cell? ⟨w.heap.size, 1, none⟩ = some (.float .f64 x.num) := hE1.cell (by simp) id
 have bx2 : w1.cell? ⟨w.heap.size, 2, none⟩ = some (.string x.text) := hE1.cell (by simp) id
 have hz1 := hE1.size
 simp at hz1
 have q1 : w.heap.size < w1.heap.size := by omega
 rw [hi]
 have hR1 := hR.mod hE1 id
 have hgw1 : g < w1.heap.size := by omega
 have s1 : w1.cell? ⟨g, i * 4 + 1, none⟩ = some (.int .i64 y.val.kind) := hR1.cell (by rw [hcur2, List.getElem?_append_right (by omega), hla, show i * 4 + 1 - i * 4 = 1 by omega]; rfl)
 have s2 : w1.cell? ⟨g, i * 4 + 1 + 1, none⟩ = some (.float .f64 y.val.num) := hR1.cell (by rw [hcur2, List.getElem?_append_right (by omega), hla, show i * 4 + 1 + 1 - i * 4 = 2 by omega]; rfl)
 have s3 : w1.cell? ⟨g, i * 4 + 1 + 2, none⟩ = some (.string y.val.text) := hR1.cell (by rw [hcur2, List.getElem?_append_right (by omega), hla, show i * 4 + 1 + 2 - i * 4 = 3 by omega]; rfl)
 have f1 : w1.frozen? ⟨g, i * 4 + 1, none⟩ = false := hR1.free _
 have f2 : w1.frozen? ⟨g, i * 4 + 1 + 1, none⟩ = false := hR1.free _
 have f3 : w1.frozen? ⟨g, i * 4 + 1 + 2, none⟩ = false := hR1.free _
 have hout : Hid (PutOut w (.slice (some ⟨g, 0, none⟩) n cap) (a ++ ⟨y.key, x⟩ :: b) (.returned (.slice (some ⟨g, 0, none⟩) n cap)) (((w1.setCell ⟨g, i * 4 + 1, none⟩ (.int .i64 x.kind)).setCell ⟨g, i * 4 + 1 + 1, none⟩ (.float .f64 x.num)).setCell ⟨g, i * 4 + 1 + 2, none⟩ (.string x.text))) := Lib.hid (by
  rw [hcur2] at hR1
  have hR2 := row_set3 (.int .i64 x.kind) (.float .f64 x.num) (.string x.text) hR1 (show (fl a).length = i * 4 by rw [hla])
  refine ⟨_, rfl, ⟨?_, hok⟩, fun k hk => .inl hk, ?_⟩
  ·
   rw [hl2]
   refine hR2.own ?_ hnc hcm ?_
   ·
    rw [← hc, hcur2]; simp
   ·
    have e : fl a ++ (.string y.key :: .int .i64 x.kind :: .float .f64 x.num :: .string x.text :: (fl b ++ rest)) = fl (a ++ (⟨y.key, x⟩ : APair) :: b) ++ rest := by simp [fl]
    rw [e]
    exact List.take_left' (by rw [fl_len, hl2])
  ·
   exact mod_same (mod_same (mod_same ((Ext.mod (hE.ext hE1) (fun k => k = g))) _ _) _ _) _ _ |>.mono (fun k _ e => by rw [e]; rfl))
 have hi0 : (0 : Int) ≤ (i : Int) := by omega
 have hi1 : (i : Int) < (n : Int) := by omega
 clear hE1 hz1 hO2 hP hE hR hR1 hcur hcur2 hc hok hla hl2 hn hrest hi
 go_wp2
 go_ret
 exact hout.out

set_option maxRecDepth 100000 in
set_option maxHeartbeats 4000000 in
theorem kv_put_full (w : World) (v : Value) (l : List APair) (key : ByteArray) (x : AVal) (hO : Own w v l) (a b : List APair) (hP : Parts l key a [] b) (hl : l.length ≤ 1000) (hk0 : (x.kind == 0) = false) (h32 : 32 ≤ l.length) :
  Calls Tryz.prog 78 #[v, .string key, .agg #[.int .i64 x.kind, .float .f64 x.num, .string x.text]] w fun e w' => e = thrownK 5 AVal.zero ∧ Ext w w' := by
 have hE : Ext w (w.alloc (.cells #[.int .i64 x.kind, .float .f64 x.num, .string x.text] 40)) := (Mod.refl _ w).alloc _
 have hO2 := hO.mod hE (fun _ _ => id)
 obtain ⟨A, c, rfl, hlc, hcm⟩ := own_len hO2
 clear hO
 go_enter Tryz.func78, Tryz.ntmps78
 go_wp2_with fail
 refine (sl_find _ _ _ l key hO2.prs (by omega) a.length (by rw [hP.eq]; simp) hP.lt false hP.is_no).mono ?_
 rintro e w1 ⟨rfl, hE1⟩
 obtain ⟨hc1, hf1⟩ := bcell hE1
 have hz1 := hE1.size
 simp at hz1
 have q1 : w.heap.size < w1.heap.size := by omega
 have HE1 := Lib.hid (hE.ext hE1)
 obtain ⟨n, hn⟩ : ∃ n, l.length = n := ⟨_, rfl⟩
 rw [hn] at h32 ⊢
 have dn : decide ((n : Int) ≥ 32) = true := by simp; omega
 clear hE1 hz1 hO2 hP hE hn
 go_wp2_with fail
 refine (kv_throw 5 (by decide) _).mono ?_
 rintro e w2 ⟨rfl, rfl⟩
 exact ⟨rfl, rfl, HE1.out⟩

set_option maxRecDepth 100000 in
set_option maxHeartbeats 4000000 in
theorem kv_put_new (w : World) (v : Value) (l : List APair) (key : ByteArray) (x : AVal) (hO : Own w v l) (a b : List APair) (hP : Parts l key a [] b) (hl : l.length ≤ 1000) (hk0 : (x.kind == 0) = false) (h32 : l.length < 32) (hk : key.size ≤ maxLen) (hx : x.ok) :
  Calls Tryz.prog 78 #[v, .string key, .agg #[.int .i64 x.kind, .float .f64 x.num, .string x.text]] w (PutOut w v (a ++ ⟨key, x⟩ :: b)) := by
 have hE : Ext w (w.alloc (.cells #[.int .i64 x.kind, .float .f64 x.num, .string x.text] 40)) := (Mod.refl _ w).alloc _
 have hO2 := hO.mod hE (fun _ _ => id)
 have hlo : ∀ g, v.ownBlock = some g → g < w.heap.size := fun g hg => (hO.1.lt g hg).2
 have hok : ∀ p ∈ a ++ (⟨key, x⟩ : APair) :: b, p.ok := fun p hp => by
  rcases List.mem_append.1 hp with h | h
  ·
   exact hO.2 p (by rw [hP.eq]; simp [h])
  ·
   rcases List.mem_cons.1 h with rfl | h
   ·
    exact ⟨hk, hx⟩
   ·
    exact hO.2 p (by rw [hP.eq]; simp [h])
 obtain ⟨A, c, rfl, hlc, hcm⟩ := own_len hO2
 have Heq := Lib.hid hP.eq
 obtain ⟨n, hn⟩ : ∃ n, l.length = n := ⟨_, rfl⟩
 rw [hn] at hO2 h32 hlo hl hlc ⊢
 clear hO
 go_enter Tryz.func78, Tryz.ntmps78
 go_wp2_with fail
 refine (sl_find _ _ _ l key hO2.prs (by omega) a.length (by rw [hP.eq]; simp) hP.lt false hP.is_no).mono ?_
 rintro e w1 ⟨rfl, hE1⟩
 obtain ⟨hc1, hf1⟩ := bcell hE1
 have hz1 := hE1.size
 simp at hz1
 have q1 : w.heap.size < w1.heap.size := by omega
 have HE1 := Lib.hid (hE.ext hE1)
 have hO3 := hO2.mod hE1 (fun _ _ => id)
 have hO4 : Hid (w1.ownsRow 0 94 4 (.slice A n c) (a ++ b).length (fl (a ++ b))) := Lib.hid (by
  have := hO3.1
  rw [hn] at this
  have e : l = a ++ b := Heq.out
  rw [← e, hn]
  exact this)
 have Hlen : Hid ((a ++ b).length = n) := Lib.hid (by rw [← hn]; rw [Heq.out]; rfl)
 have Hlo := Lib.hid hlo
 have Hok := Lib.hid hok
 have dn : decide ((n : Int) ≥ 32) = false := by simp; omega
 clear hE1 hz1 hO2 hO3 hP hE hn hlo hok hk hx
 go_wp2_with fail
 have hEa : Ext w1 (w1.alloc (.cells #[.string key, .int .i64 x.kind, .float .f64 x.num, .string x.text] 94)) := (Mod.refl _ w1).alloc _
 refine (sl_insert _ _ a b ⟨key, x⟩ w1.heap.size (by have := Hlen.out; omega) (own_mod hO4.out hEa (fun _ _ => id)) (heap_alloc_new w1 _) (fun g hg => by have := Hlo.out g hg; omega)).mono ?_
 rintro e w2 hI
 have hpo : PutOut w (.slice A n c) (a ++ ⟨key, x⟩ :: b) e w2 := putOut_of (w0 := w) (HE1.out.ext hEa) (by simp; omega) Hok.out hI rfl
 obtain ⟨v', he, rest⟩ := hpo
 subst he
 have hout : Hid (PutOut w (.slice A n c) (a ++ ⟨key, x⟩ :: b) (.returned v') w2) := Lib.hid ⟨v', rfl, rest⟩
 clear hI rest hEa
 go_wp2
 go_ret
 exact hout.out

/-- put is setP. -/
def PutK (w : World) (v : Value) (l : List APair) (e : Ending) (w' : World) : Prop :=
 (l.length ≤ 32 ∧ PutOut w v l e w') ∨ (32 < l.length ∧ e = thrownK 5 AVal.zero ∧ Ext w w')
theorem kv_put (w : World) (v : Value) (l : List APair) (key : ByteArray) (x : AVal) (hO : Own w v l) (hs : Srt l) (hl : l.length ≤ 32) (hk : key.size ≤ maxLen) (hx : x.ok) :
  Calls Tryz.prog 78 #[v, .string key, .agg #[.int .i64 x.kind, .float .f64 x.num, .string x.text]] w (PutK w v (setP key x (x.kind == 0) l)) := by
 obtain ⟨a, m, b, hP, hf, ht⟩ := parts hs key
 have hlen : l.length = a.length + (m.length + b.length) := by conv => lhs; rw [hP.eq]
                                                               simp
 rcases hk0 : (x.kind == 0) with _ | _
 ·
  rw [hf]
  rcases hP.two with rfl | ⟨y, rfl, hy⟩
  ·
   by_cases h32 : 32 ≤ l.length
   ·
    exact (kv_put_full w v l key x hO a b hP (by omega) hk0 h32).mono fun e w' h => .inr ⟨by simp at hlen ⊢; omega, h⟩
   ·
    exact (kv_put_new w v l key x hO a b hP (by omega) hk0 (by omega) hk hx).mono fun e w' h => .inl ⟨by simp at hlen ⊢; omega, h⟩
  ·
   rw [← hy]
   rw [← hy] at hP
   exact (kv_put_over w v l y.key x hO a b y hP (by omega) hk0 hx).mono fun e w' h => .inl ⟨by simp at hlen ⊢; omega, h⟩
 ·
  rw [ht]
  rcases hP.two with rfl | ⟨y, rfl, hy⟩
  ·
   exact (kv_put_stay w v l key x hO a [] b hP (by omega) hk0 rfl).mono fun e w' h => .inl ⟨by simp at hlen ⊢; omega, h⟩
  ·
   exact (kv_put_del w v l key x hO a b y hP (by omega) hk0).mono fun e w' h => .inl ⟨by simp at hlen ⊢; omega, h⟩
end Go.Proofs.YtbclnghbgoblcaaGreat
