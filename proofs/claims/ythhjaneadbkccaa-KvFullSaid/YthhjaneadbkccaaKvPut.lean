/-
  The contract of kv.put. Conditions: as each theorem names them.
-/
import Derived.Test.YthhjaneadbkccaaKvPut0
import Derived.Test.YthhjaneadbkccaaKvFind
import Derived.Test.YthhjaneadbkccaaKvIns
namespace Go.Proofs.Ythhjaneadbkccaa
set_option linter.unusedSimpArgs false
open Go.RowKit

/-- Pairs of one's own. -/
def Own (w : World) (v : Value) (l : List APair) : Prop := w.ownsRow 0 61 4 v l.length (fl l) ∧ ∀ p ∈ l, p.ok
theorem Own.prs {w : World} {v : Value} {l : List APair} (h : Own w v l) : Prs w (fun g => v.ownBlock = some g) v l := ⟨Sl.of_own h.1 (fun _ h => h), h.2⟩
theorem Own.mod {w w' : World} {S : Nat → Prop} {v : Value} {l : List APair} (h : Own w v l) (hm : Mod S w w') (hS : ∀ g, v.ownBlock = some g → ¬ S g) : Own w' v l := ⟨own_mod h.1 hm hS, h.2⟩
/-- What put leaves: a list of one's own, in the old block or a new one. -/
def PutOut (w : World) (v : Value) (l : List APair) (e : Ending) (w' : World) : Prop :=
  ∃ v', e = .returned v' ∧ Own w' v' l ∧ (∀ g, v'.ownBlock = some g → v.ownBlock = some g ∨ w.heap.size ≤ g) ∧ Mod (fun k => v.ownBlock = some k) w w'

theorem sl_insert (w : World) (v : Value) (a b : List APair) (x : APair) (vb : Nat) (hn1 : (a ++ b).length ≤ 1000) (hown : w.ownsRow 0 61 4 v (a ++ b).length (fl (a ++ b))) (hvb : w.heap[vb]? = some (.cells #[.string x.key, .int .i64 x.val.kind, .float .f64 x.val.num, .string x.val.text] 61 (0, 0)))
    (hne : ∀ g, v.ownBlock = some g → vb ≠ g) :
    Calls Try.prog 61 #[v, .int .i64 a.length, .slice (some ⟨vb, 0, none⟩) 1 1] w (InsOut w v (a ++ x :: b)) := by
  rcases b with _ | ⟨y, b⟩
  · rw [List.append_nil] at hown hn1
    exact sl_insert_end w v a.length a x vb rfl hn1 hown hvb
  · have hlen : (a ++ y :: b).length = a.length + (b.length + 1) := by simp
    rcases row_of_own hown with ⟨_, h⟩ | ⟨g, cap, cur, rfl, hR, hc, hnc, hcm, ht⟩
    · omega
    · have hne' : vb ≠ g := hne g rfl
      obtain ⟨n, hn⟩ : ∃ n, (a ++ y :: b).length = n := ⟨_, rfl⟩
      rw [hn] at hnc ht hn1 hlen ⊢
      have hla := fl_len a
      have hlb := fl_len (y :: b)
      by_cases hroom : n + 1 ≤ cap
      · refine sl_insert_room w g n a.length cap cur a (y :: b) x vb (cur.drop (n * 4)) rfl (by simp; omega) (by omega) hn1 hR ?_ hc hroom hcm hvb hne'
        rw [← List.append_assoc, ← fl_app, ← ht, List.take_append_drop]
      · obtain rfl : cap = n := by omega
        refine sl_insert_grow w g cap a.length cur a (y :: b) x vb rfl (by simp; omega) (by omega) hn1 hR ?_ hvb
        rw [← fl_app, ← ht, List.take_of_length_le (by omega)]

/-- A pair's value is turned in its row. -/
theorem row_set {w : World} {g j : Nat} {e : TypeId} {cur : List Value} (u : Value) (h : Row w g e cur) : Row (w.setCell ⟨g, j, none⟩ u) g e (cur.set j u) := by
  have := setCell_eq_setRow w g j cur.toArray e (0, 0) u h
  rw [this]
  have h2 := Row.set h (cur.set j u)
  simpa using h2
theorem row_set3 {w : World} {g o : Nat} {e : TypeId} {A B : List Value} {k c1 c2 c3 : Value} (x1 x2 x3 : Value) (h : Row w g e (A ++ k :: c1 :: c2 :: c3 :: B)) (ho : A.length = o) :
    Row (((w.setCell ⟨g, o + 1, none⟩ x1).setCell ⟨g, o + 2, none⟩ x2).setCell ⟨g, o + 3, none⟩ x3) g e (A ++ k :: x1 :: x2 :: x3 :: B) := by
  have := row_set (j := o + 3) x3 (row_set (j := o + 2) x2 (row_set (j := o + 1) x1 h))
  subst ho
  simpa [List.set_append] using this

theorem own_len {w : World} {v : Value} {l : List APair} (h : Own w v l) : ∃ A c, v = .slice A l.length c ∧ l.length ≤ c ∧ c ≤ maxLen := by
  rcases row_of_own h.1 with ⟨rfl, h0⟩ | ⟨g, cap, cur, rfl, _, _, h1, h2, _⟩
  · exact ⟨none, 0, by rw [h0], by omega, Nat.zero_le _⟩
  · exact ⟨_, cap, rfl, h1, h2⟩
theorem own_row {w : World} {v : Value} {l : List APair} (h : Own w v l) (h0 : l ≠ []) : ∃ g cap cur, v = .slice (some ⟨g, 0, none⟩) l.length cap ∧ Row w g 61 cur ∧ cur.length = cap * 4 ∧ l.length ≤ cap ∧ cap ≤ maxLen ∧ cur = fl l ++ cur.drop (l.length * 4) := by
  rcases row_of_own h.1 with ⟨_, h1⟩ | ⟨g, cap, cur, rfl, hR, hc, h1, h2, ht⟩
  · exact absurd (List.eq_nil_of_length_eq_zero h1) h0
  · exact ⟨g, cap, cur, rfl, hR, hc, h1, h2, by rw [← ht, List.take_append_drop]⟩
theorem putOut_of {w w0 w1 : World} {v : Value} {l : List APair} {e : Ending} {w' : World} (hE : Ext w w1) (hs : w.heap.size ≤ w1.heap.size) (hok : ∀ p ∈ l, p.ok) (h : InsOut w1 v l e w') (h0 : w0 = w) : PutOut w v l e w' := by
  subst h0
  obtain ⟨v', he, ho, hb, hm⟩ := h
  refine ⟨v', he, ⟨ho, hok⟩, fun g hg => ?_, (Ext.mod hE _).self hm⟩
  rcases hb g hg with h | h
  · exact .inl h
  · exact .inr (by omega)

set_option maxRecDepth 100000 in
set_option maxHeartbeats 4000000 in
theorem kv_put_stay (w : World) (v : Value) (l : List APair) (key : ByteArray) (x : AVal) (hO : Own w v l) (a m b : List APair) (hP : Parts l key a m b) (hl : l.length ≤ 1000) (hk0 : (x.kind == 0) = true) (hm : m = []) :
    Calls Try.prog 47 #[v, .string key, .agg #[.int .i64 x.kind, .float .f64 x.num, .string x.text]] w (PutOut w v (a ++ b)) := by
  subst hm
  have hE : Ext w (w.alloc (.cells #[.int .i64 x.kind, .float .f64 x.num, .string x.text] 25)) := (Mod.refl _ w).alloc _
  have hO2 := hO.mod hE (fun _ _ => id)
  have HP := Lib.hid hP
  clear hO
  go_enter Try.func47, Try.ntmps47
  go_wp2_with fail
  refine (sl_find _ _ _ l key hO2.prs (by omega) a.length (by rw [hP.eq]; simp) hP.lt false hP.is_no).mono ?_
  rintro e w1 ⟨rfl, hE1⟩
  obtain ⟨hc1, hf1⟩ := bcell hE1
  have hz1 := hE1.size
  simp at hz1
  have q1 : w.heap.size < w1.heap.size := by omega
  have hout : Hid (PutOut w v (a ++ b) (.returned v) w1) := Lib.hid ⟨v, rfl, by have := hO2.mod hE1 (fun _ _ => id); rw [hP.eq] at this; simpa using this, fun g hg => .inl hg, Ext.mod (hE.ext hE1) _⟩
  clear hE1 hz1 hO2 hP hE
  go_wp2
  go_ret
  exact hout.out

set_option maxRecDepth 100000 in
set_option maxHeartbeats 4000000 in
theorem kv_put_del (w : World) (v : Value) (l : List APair) (key : ByteArray) (x : AVal) (hO : Own w v l) (a b : List APair) (y : APair) (hP : Parts l key a [y] b) (hl : l.length ≤ 1000) (hk0 : (x.kind == 0) = true) :
    Calls Try.prog 47 #[v, .string key, .agg #[.int .i64 x.kind, .float .f64 x.num, .string x.text]] w (PutOut w v (a ++ b)) := by
  have hE : Ext w (w.alloc (.cells #[.int .i64 x.kind, .float .f64 x.num, .string x.text] 25)) := (Mod.refl _ w).alloc _
  have hO2 := hO.mod hE (fun _ _ => id)
  have hne : l ≠ [] := by rw [hP.eq]; simp
  obtain ⟨g, cap, cur, rfl, hR, hc, hnc, hcm, hcur⟩ := own_row hO2 hne
  have HP := Lib.hid hP
  obtain ⟨mm, hmm⟩ : ∃ mm, a.length + b.length = mm := ⟨_, rfl⟩
  have hlen : l.length = mm + 1 := by rw [hP.eq]; simp; omega
  rw [hlen] at hO2 hnc hcur ⊢
  have hcur2 : cur = fl a ++ (y.cells ++ (fl b ++ cur.drop ((mm + 1) * 4))) := by
    conv => lhs; rw [hcur]
    rw [hP.eq]
    simp [fl]
  have hok : ∀ p ∈ a ++ b, p.ok := fun p hp => hO.2 p (by rw [hP.eq]; simp at hp ⊢; rcases hp with h | h; exact .inl h; exact .inr (.inr h))
  clear hO
  go_enter Try.func47, Try.ntmps47
  go_wp2_with fail
  refine (sl_find _ _ _ l key hO2.prs (by omega) a.length (by rw [hP.eq]; simp) hP.lt true hP.is_yes).mono ?_
  rintro e w1 ⟨rfl, hE1⟩
  obtain ⟨hc1, hf1⟩ := bcell hE1
  have hz1 := hE1.size
  simp at hz1
  have q1 : w.heap.size < w1.heap.size := by omega
  have hR1 := hR.mod hE1 id
  have HE1 := Lib.hid (hE.ext hE1)
  have HR1 := Lib.hid hR1
  have Hcur := Lib.hid hcur2
  have Hc := Lib.hid hc
  have Hok := Lib.hid hok
  have Hmm := Lib.hid hmm
  have hal : a.length ≤ 1000 := by omega
  clear hE1 hz1 hO2 hP hE hR hR1 hcur hcur2 hc hok hlen hmm
  go_wp2_with fail
  refine (sl_delete w1 g a.length mm cap cur a b y _ HR1.out Hc.out hnc hcm rfl (by have := Hmm.out; omega) (by have := Hmm.out; omega) Hcur.out).mono ?_
  rintro e w2 ⟨rfl, ho, hm⟩
  have hout : Hid (PutOut w (.slice (some ⟨g, 0, none⟩) (mm + 1) cap) (a ++ b) (.returned (.slice (some ⟨g, 0, none⟩) mm cap)) w2) := Lib.hid
    ⟨_, rfl, ⟨by rw [show (a ++ b).length = mm by rw [List.length_append]; exact Hmm.out]; exact ho, Hok.out⟩, fun k hk => .inl hk, (Ext.mod HE1.out _).self (hm.mono (fun k _ e => by rw [e]; rfl))⟩
  clear ho hm
  go_wp2
  go_ret
  exact hout.out

set_option maxRecDepth 100000 in
set_option maxHeartbeats 4000000 in
theorem kv_put_over (w : World) (v : Value) (l : List APair) (key : ByteArray) (x : AVal) (hO : Own w v l) (a b : List APair) (y : APair) (hP : Parts l key a [y] b) (hl : l.length ≤ 1000) (hk0 : (x.kind == 0) = false) (hx : x.ok) :
    Calls Try.prog 47 #[v, .string key, .agg #[.int .i64 x.kind, .float .f64 x.num, .string x.text]] w (PutOut w v (a ++ ⟨y.key, x⟩ :: b)) := by
  have hE : Ext w (w.alloc (.cells #[.int .i64 x.kind, .float .f64 x.num, .string x.text] 25)) := (Mod.refl _ w).alloc _
  have hO2 := hO.mod hE (fun _ _ => id)
  have hne : l ≠ [] := by rw [hP.eq]; simp
  obtain ⟨g, cap, cur, rfl, hR, hc, hnc, hcm, hcur⟩ := own_row hO2 hne
  have hgw : g < w.heap.size := (hO.1.lt g rfl).2
  have HP := Lib.hid hP
  have hlen : a.length < l.length := by rw [hP.eq]; simp
  obtain ⟨n, hn⟩ : ∃ n, l.length = n := ⟨_, rfl⟩
  have hl2 : (a ++ (⟨y.key, x⟩ : APair) :: b).length = n := by rw [← hn, hP.eq]; simp
  have hok : ∀ p ∈ a ++ (⟨y.key, x⟩ : APair) :: b, p.ok := fun p hp => by
    rcases List.mem_append.1 hp with h | h
    · exact hO.2 p (by rw [hP.eq]; simp [h])
    · rcases List.mem_cons.1 h with rfl | h
      · exact ⟨(hO.2 y (by rw [hP.eq]; simp)).1, hx⟩
      · exact hO.2 p (by rw [hP.eq]; simp [h])
  rw [hn] at hO2 hnc hcur hl hlen ⊢
  obtain ⟨rest, hrest⟩ : ∃ rest, cur.drop (n * 4) = rest := ⟨_, rfl⟩
  rw [hrest] at hcur
  have hcur2 : cur = fl a ++ .string y.key :: .int .i64 y.val.kind :: .float .f64 y.val.num :: .string y.val.text :: (fl b ++ rest) := by
    rw [hcur, hP.eq]
    simp [fl]
  have hla := fl_len a
  obtain ⟨i, hi⟩ : ∃ i, a.length = i := ⟨_, rfl⟩
  rw [hi] at hla hlen
  clear hO
  go_enter Try.func47, Try.ntmps47
  go_wp2_with fail
  refine (sl_find _ _ _ l key hO2.prs (by omega) a.length (by rw [hP.eq]; simp) hP.lt true hP.is_yes).mono ?_
  rintro e w1 ⟨rfl, hE1⟩
  have bx0 : w1.cell? ⟨w.heap.size, 0, none⟩ = some (.int .i64 x.kind) := hE1.cell (by simp) id
  have bx1 : w1.cell? ⟨w.heap.size, 1, none⟩ = some (.float .f64 x.num) := hE1.cell (by simp) id
  have bx2 : w1.cell? ⟨w.heap.size, 2, none⟩ = some (.string x.text) := hE1.cell (by simp) id
  have hz1 := hE1.size
  simp at hz1
  have q1 : w.heap.size < w1.heap.size := by omega
  rw [hi]
  have hR1 := hR.mod hE1 id
  have hgw1 : g < w1.heap.size := by omega
  have s1 : w1.cell? ⟨g, i * 4 + 1, none⟩ = some (.int .i64 y.val.kind) := hR1.cell (by rw [hcur2, List.getElem?_append_right (by omega), hla, show i * 4 + 1 - i * 4 = 1 by omega]; rfl)
  have s2 : w1.cell? ⟨g, i * 4 + 1 + 1, none⟩ = some (.float .f64 y.val.num) := hR1.cell (by rw [hcur2, List.getElem?_append_right (by omega), hla, show i * 4 + 1 + 1 - i * 4 = 2 by omega]; rfl)
  have s3 : w1.cell? ⟨g, i * 4 + 1 + 2, none⟩ = some (.string y.val.text) := hR1.cell (by rw [hcur2, List.getElem?_append_right (by omega), hla, show i * 4 + 1 + 2 - i * 4 = 3 by omega]; rfl)
  have f1 : w1.frozen? ⟨g, i * 4 + 1, none⟩ = false := hR1.free _
  have f2 : w1.frozen? ⟨g, i * 4 + 1 + 1, none⟩ = false := hR1.free _
  have f3 : w1.frozen? ⟨g, i * 4 + 1 + 2, none⟩ = false := hR1.free _
  have hout : Hid (PutOut w (.slice (some ⟨g, 0, none⟩) n cap) (a ++ ⟨y.key, x⟩ :: b) (.returned (.slice (some ⟨g, 0, none⟩) n cap)) (((w1.setCell ⟨g, i * 4 + 1, none⟩ (.int .i64 x.kind)).setCell ⟨g, i * 4 + 1 + 1, none⟩ (.float .f64 x.num)).setCell ⟨g, i * 4 + 1 + 2, none⟩ (.string x.text))) := Lib.hid (by
    rw [hcur2] at hR1
    have hR2 := row_set3 (.int .i64 x.kind) (.float .f64 x.num) (.string x.text) hR1 (show (fl a).length = i * 4 by rw [hla])
    refine ⟨_, rfl, ⟨?_, hok⟩, fun k hk => .inl hk, ?_⟩
    · rw [hl2]
      refine hR2.own ?_ hnc hcm ?_
      · rw [← hc, hcur2]; simp
      · have e : fl a ++ (.string y.key :: .int .i64 x.kind :: .float .f64 x.num :: .string x.text :: (fl b ++ rest)) = fl (a ++ (⟨y.key, x⟩ : APair) :: b) ++ rest := by simp [fl]
        rw [e]
        exact List.take_left' (by rw [fl_len, hl2])
    · exact mod_same (mod_same (mod_same ((Ext.mod (hE.ext hE1) (fun k => k = g))) _ _) _ _) _ _ |>.mono (fun k _ e => by rw [e]; rfl))
  have hi0 : (0 : Int) ≤ (i : Int) := by omega
  have hi1 : (i : Int) < (n : Int) := by omega
  clear hE1 hz1 hO2 hP hE hR hR1 hcur hcur2 hc hok hla hl2 hn hrest hi
  go_wp2
  go_ret
  exact hout.out

set_option maxRecDepth 100000 in
set_option maxHeartbeats 4000000 in
theorem kv_put_full (w : World) (v : Value) (l : List APair) (key : ByteArray) (x : AVal) (hO : Own w v l) (a b : List APair) (hP : Parts l key a [] b) (hl : l.length ≤ 1000) (hk0 : (x.kind == 0) = false) (h32 : 32 ≤ l.length) :
    Calls Try.prog 47 #[v, .string key, .agg #[.int .i64 x.kind, .float .f64 x.num, .string x.text]] w fun e w' => e = thrownK 5 AVal.zero ∧ Ext w w' := by
  have hE : Ext w (w.alloc (.cells #[.int .i64 x.kind, .float .f64 x.num, .string x.text] 25)) := (Mod.refl _ w).alloc _
  have hO2 := hO.mod hE (fun _ _ => id)
  obtain ⟨A, c, rfl, hlc, hcm⟩ := own_len hO2
  clear hO
  go_enter Try.func47, Try.ntmps47
  go_wp2_with fail
  refine (sl_find _ _ _ l key hO2.prs (by omega) a.length (by rw [hP.eq]; simp) hP.lt false hP.is_no).mono ?_
  rintro e w1 ⟨rfl, hE1⟩
  obtain ⟨hc1, hf1⟩ := bcell hE1
  have hz1 := hE1.size
  simp at hz1
  have q1 : w.heap.size < w1.heap.size := by omega
  have HE1 := Lib.hid (hE.ext hE1)
  obtain ⟨n, hn⟩ : ∃ n, l.length = n := ⟨_, rfl⟩
  rw [hn] at h32 ⊢
  have dn : decide ((n : Int) ≥ 32) = true := by simp; omega
  clear hE1 hz1 hO2 hP hE hn
  go_wp2_with fail
  refine (kv_throw 5 (by decide) _).mono ?_
  rintro e w2 ⟨rfl, rfl⟩
  exact ⟨rfl, rfl, HE1.out⟩

set_option maxRecDepth 100000 in
set_option maxHeartbeats 4000000 in
theorem kv_put_new (w : World) (v : Value) (l : List APair) (key : ByteArray) (x : AVal) (hO : Own w v l) (a b : List APair) (hP : Parts l key a [] b) (hl : l.length ≤ 1000) (hk0 : (x.kind == 0) = false) (h32 : l.length < 32) (hk : key.size ≤ maxLen) (hx : x.ok) :
    Calls Try.prog 47 #[v, .string key, .agg #[.int .i64 x.kind, .float .f64 x.num, .string x.text]] w (PutOut w v (a ++ ⟨key, x⟩ :: b)) := by
  have hE : Ext w (w.alloc (.cells #[.int .i64 x.kind, .float .f64 x.num, .string x.text] 25)) := (Mod.refl _ w).alloc _
  have hO2 := hO.mod hE (fun _ _ => id)
  have hlo : ∀ g, v.ownBlock = some g → g < w.heap.size := fun g hg => (hO.1.lt g hg).2
  have hok : ∀ p ∈ a ++ (⟨key, x⟩ : APair) :: b, p.ok := fun p hp => by
    rcases List.mem_append.1 hp with h | h
    · exact hO.2 p (by rw [hP.eq]; simp [h])
    · rcases List.mem_cons.1 h with rfl | h
      · exact ⟨hk, hx⟩
      · exact hO.2 p (by rw [hP.eq]; simp [h])
  obtain ⟨A, c, rfl, hlc, hcm⟩ := own_len hO2
  have Heq := Lib.hid hP.eq
  obtain ⟨n, hn⟩ : ∃ n, l.length = n := ⟨_, rfl⟩
  rw [hn] at hO2 h32 hlo hl hlc ⊢
  clear hO
  go_enter Try.func47, Try.ntmps47
  go_wp2_with fail
  refine (sl_find _ _ _ l key hO2.prs (by omega) a.length (by rw [hP.eq]; simp) hP.lt false hP.is_no).mono ?_
  rintro e w1 ⟨rfl, hE1⟩
  obtain ⟨hc1, hf1⟩ := bcell hE1
  have hz1 := hE1.size
  simp at hz1
  have q1 : w.heap.size < w1.heap.size := by omega
  have HE1 := Lib.hid (hE.ext hE1)
  have hO3 := hO2.mod hE1 (fun _ _ => id)
  have hO4 : Hid (w1.ownsRow 0 61 4 (.slice A n c) (a ++ b).length (fl (a ++ b))) := Lib.hid (by
    have := hO3.1
    rw [hn] at this
    have e : l = a ++ b := Heq.out
    rw [← e, hn]
    exact this)
  have Hlen : Hid ((a ++ b).length = n) := Lib.hid (by rw [← hn]; rw [Heq.out]; rfl)
  have Hlo := Lib.hid hlo
  have Hok := Lib.hid hok
  have dn : decide ((n : Int) ≥ 32) = false := by simp; omega
  clear hE1 hz1 hO2 hO3 hP hE hn hlo hok hk hx
  go_wp2_with fail
  have hEa : Ext w1 (w1.alloc (.cells #[.string key, .int .i64 x.kind, .float .f64 x.num, .string x.text] 61)) := (Mod.refl _ w1).alloc _
  refine (sl_insert _ _ a b ⟨key, x⟩ w1.heap.size (by have := Hlen.out; omega) (own_mod hO4.out hEa (fun _ _ => id)) (heap_alloc_new w1 _) (fun g hg => by have := Hlo.out g hg; omega)).mono ?_
  rintro e w2 hI
  have hpo : PutOut w (.slice A n c) (a ++ ⟨key, x⟩ :: b) e w2 := putOut_of (w0 := w) (HE1.out.ext hEa) (by simp; omega) Hok.out hI rfl
  obtain ⟨v', he, rest⟩ := hpo
  subst he
  have hout : Hid (PutOut w (.slice A n c) (a ++ ⟨key, x⟩ :: b) (.returned v') w2) := Lib.hid ⟨v', rfl, rest⟩
  clear hI rest hEa
  go_wp2
  go_ret
  exact hout.out

/-- put is setP. -/
def PutK (w : World) (v : Value) (l : List APair) (e : Ending) (w' : World) : Prop :=
  (l.length ≤ 32 ∧ PutOut w v l e w') ∨ (32 < l.length ∧ e = thrownK 5 AVal.zero ∧ Ext w w')
theorem kv_put (w : World) (v : Value) (l : List APair) (key : ByteArray) (x : AVal) (hO : Own w v l) (hs : Srt l) (hl : l.length ≤ 32) (hk : key.size ≤ maxLen) (hx : x.ok) :
    Calls Try.prog 47 #[v, .string key, .agg #[.int .i64 x.kind, .float .f64 x.num, .string x.text]] w (PutK w v (setP key x (x.kind == 0) l)) := by
  obtain ⟨a, m, b, hP, hf, ht⟩ := parts hs key
  have hlen : l.length = a.length + (m.length + b.length) := by conv => lhs; rw [hP.eq]
                                                                simp
  rcases hk0 : (x.kind == 0) with _ | _
  · rw [hf]
    rcases hP.two with rfl | ⟨y, rfl, hy⟩
    · by_cases h32 : 32 ≤ l.length
      · exact (kv_put_full w v l key x hO a b hP (by omega) hk0 h32).mono fun e w' h => .inr ⟨by simp at hlen ⊢; omega, h⟩
      · exact (kv_put_new w v l key x hO a b hP (by omega) hk0 (by omega) hk hx).mono fun e w' h => .inl ⟨by simp at hlen ⊢; omega, h⟩
    · rw [← hy]
      rw [← hy] at hP
      exact (kv_put_over w v l y.key x hO a b y hP (by omega) hk0 hx).mono fun e w' h => .inl ⟨by simp at hlen ⊢; omega, h⟩
  · rw [ht]
    rcases hP.two with rfl | ⟨y, rfl, hy⟩
    · exact (kv_put_stay w v l key x hO a [] b hP (by omega) hk0 rfl).mono fun e w' h => .inl ⟨by simp at hlen ⊢; omega, h⟩
    · exact (kv_put_del w v l key x hO a b y hP (by omega) hk0).mono fun e w' h => .inl ⟨by simp at hlen ⊢; omega, h⟩
end Go.Proofs.Ythhjaneadbkccaa
