/-
 The contract of the page's set. Conditions: as each theorem names them.
-/
import Derived.Test.YtbclnghbgoblcaaGreatGGet
namespace Go.Proofs.YtbclnghbgoblcaaGreat
set_option linter.unusedSimpArgs false
open Go.RowKit

/-- A block of one element, as a slice of one. -/
theorem sl_one (w : World) (e : TypeId) (cs : List Value) : Sl (w.alloc (.cells cs.toArray e)) (fun g => g = w.heap.size) cs.length (.slice (some ⟨w.heap.size, 0, none⟩) 1 1) 1 cs := by
 refine ⟨by simp, _, _, rfl, Nat.le_refl _, by simp [maxLen], fun _ => ⟨_, 0, rfl, rfl, fun j u hu => ?_⟩⟩
 rw [World.cell?_alloc_at _ _ _ _ rfl, Nat.zero_add]
 simpa using hu
theorem mem_setP_any {k : ByteArray} {v : AVal} {p : APair} {d : Bool} {l : List APair} (h : p ∈ setP k v d l) : p ∈ l ∨ p = ⟨k, v⟩ := by
 induction l generalizing d with
 | nil => cases d <;> simp [setP] at h; exact .inr h
 | cons q l ih =>
  rw [setP] at h
  split at h
  ·
   rcases List.mem_cons.1 h with h | h
   ·
    exact .inr h
   ·
    split at h
    ·
     rcases ih h with h | h
     ·
      exact .inl (by simp [h])
     ·
      exact .inr h
    ·
     rcases List.mem_cons.1 h with h | h
     ·
      exact .inl (by simp [h])
     ·
      rcases ih h with h | h
      ·
       exact .inl (by simp [h])
      ·
       exact .inr h
  ·
   split at h
   ·
    rcases ih h with h | h
    ·
     exact .inl (by simp [h])
    ·
     exact .inr h
   ·
    rcases List.mem_cons.1 h with h | h
    ·
     exact .inl (by simp [h])
    ·
     rcases ih h with h | h
     ·
      exact .inl (by simp [h])
     ·
      exact .inr h
/-- A list under way: the cells os, in a block that is new since W. -/
def Way (W wr : World) (v : Value) (m : Nat) (os : List APair) : Prop :=
 os.length = m ∧ wr.ownsRow 0 94 4 v m (os.flatMap APair.cells) ∧ (∀ g, v.ownBlock = some g → W.heap.size ≤ g) ∧ Ext W wr
theorem Way.app {W wr w1 : World} {v v' : Value} {m : Nat} {os : List APair} {o : Obj} (h : Way W wr v m os) (p : APair) (ho : w1.ownsRow 0 94 4 v' (m + 1) (os.flatMap APair.cells ++ p.cells)) (hg : (wr.alloc o).grownBy w1 v.ownBlock)
  (hat : v'.ownBlock = v.ownBlock ∨ v'.ownBlock = some (wr.heap.size + 1)) : Way W w1 v' (m + 1) (os ++ [p]) := by
 obtain ⟨h1, h2, h3, h4⟩ := h
 refine ⟨by simp [h1], by simpa using ho, fun g hgg => ?_, (h4.alloc o).grown hg (fun k hk => .inl (h3 k hk))⟩
 have := h4.size
 rcases hat with e | e
 ·
  exact h3 g (by rw [← e]; exact hgg)
 ·
  rw [e] at hgg; injection hgg with hgg; omega
theorem pair1 (p : APair) : ∀ u ∈ p.cells, u.oneCell' = true := by
 intro u hu
 simp only [APair.cells, List.mem_cons, List.not_mem_nil, or_false] at hu
 rcases hu with rfl | rfl | rfl | rfl <;> rfl

set_option maxRecDepth 100000 in
set_option maxHeartbeats 4000000 in
theorem r_set (w : World) (T : Nat → Prop) (v : Value) (l : List APair) (key : ByteArray) (x : AVal) (d0 : Bool) (h : Prs w T v l) (hl : l.length ≤ 1000000) (hk : key.size ≤ maxLen) (hx : x.ok) (hd : (x.kind == 0) = d0) :
  Calls Tryz.prog 65 #[v, .string key, .agg #[.int .i64 x.kind, .float .f64 x.num, .string x.text]] w fun e w' => ∃ v', e = .returned v' ∧ NewP w w' v' (setP key x d0 l) ∧ Ext w w' := by
 obtain ⟨i0, hi, hz0, hz1, hz2⟩ := info_parts info_pair
 obtain ⟨n, hn⟩ : ∃ n, l.length = n := ⟨_, rfl⟩
 obtain ⟨A, c, rfl⟩ := h.form
 rw [hn] at h hl ⊢
 have Hn := Lib.hid hn
 have Hok := Lib.hid h.2
 obtain ⟨L, hL⟩ : ∃ L, setP key x d0 l = L := ⟨_, rfl⟩
 have HokL : Hid (∀ p ∈ L, p.ok) := Lib.hid (fun p hp => by
  rw [← hL] at hp
  rcases mem_setP_any hp with hp | rfl
  ·
   exact Hok.out p hp
  ·
   exact ⟨hk, hx⟩)
 have HL := Lib.hid hL
 clear hn hk hx
 rw [hL]
 clear hL
 have hE : Ext w (w.alloc (.cells #[.int .i64 x.kind, .float .f64 x.num, .string x.text] 40)) := (Mod.refl _ w).alloc _
 have h2 := h.ext hE
 go_enter Tryz.func65, Tryz.ntmps65
 go_wp2
 obtain ⟨W, hW⟩ : ∃ W, W = w.alloc (.cells #[.int .i64 x.kind, .float .f64 x.num, .string x.text] 40) := ⟨_, rfl⟩
 obtain ⟨b, hb⟩ : ∃ b, b = w.heap.size := ⟨_, rfl⟩
 have q0 : W.cell? ⟨b, 0, none⟩ = some (.int .i64 x.kind) := by rw [hW, hb]; simp
 have q1 : W.cell? ⟨b, 1, none⟩ = some (.float .f64 x.num) := by rw [hW, hb]; simp
 have q2 : W.cell? ⟨b, 2, none⟩ = some (.string x.text) := by rw [hW, hb]; simp
 rw [← hW] at hE h2
 have HW := Lib.hid hW
 have HE := Lib.hid hE
 rw [← hW, ← hb]
 have Hb := Lib.hid hb
 have H2 := Lib.hid h2
 have hbW : b < W.heap.size := World.block_lt_of_cell? _ _ q0
 clear hW hb hE h2 h
 clear hd
 go_loopw [7, 8, 9] (fun ov dv iv wr => ∃ (i m : Nat) (d : Bool) (os : List APair), i ≤ n ∧ iv = .int .i64 i ∧ dv = .bool d ∧ L = os ++ setP key x d (l.drop i) ∧ Way W wr ov m os ∧ m ≤ 2 * i) (fun _ _ iv _ => n - (intOf iv).toNat)
 case atStart => exact ⟨0, 0, d0, [], by omega, rfl, rfl, by simpa using HL.out.symm, ⟨rfl, World.ownsRow_nil _ _ _ _, by simp [Value.ownBlock], Mod.refl _ _⟩, by omega⟩
 case round =>
  obtain ⟨i, m, d, os, hin, rfl, rfl, hLi, hWay, hm⟩ := hrel
  have hown := hWay.2.1
  have hEr := hWay.2.2.2
  have r0 := hEr.cell q0 id
  have r1 := hEr.cell q1 id
  have r2 := hEr.cell q2 id
  have hbr : b < wr.heap.size := by have := hEr.size; omega
  have HWay := Lib.hid hWay
  clear hWay
  by_cases hi' : i < n
  ·
   obtain ⟨g, off, y, rfl, hgT, hy, hyok, hcells⟩ := H2.out.at hi'
   have hi0 : (0 : Int) ≤ (i : Int) := by omega
   have hi1 : (i : Int) < (n : Int) := by omega
   have z0 := hcells 0 _ rfl
   have z1 := hcells 1 _ rfl
   have z2 := hcells 2 _ rfl
   have z3 := hcells 3 _ rfl
   rw [Nat.add_zero] at z0
   have x0 := hEr.cell z0 id
   have x1 := hEr.cell z1 id
   have x2 := hEr.cell z2 id
   have x3 := hEr.cell z3 id
   have hg : g < wr.heap.size := World.block_lt_of_cell? _ _ x0
   have hd := setP_drop key x d hy
   rw [hd] at hLi
   have HLi := Lib.hid hLi
   have HEr := Lib.hid hEr
   have Hown := Lib.hid hown
   clear hcells hy hyok hd hLi hEr hown
   rcases d with _ | _
   ·
    rcases hlt : ltT key y.key with _ | _
    ·
     rcases heq : eqT key y.key with _ | _
     ·
      have b1 : Op.bytesLess key.toList y.key.toList = false := hlt
      have b2 : (key.toList == y.key.toList) = false := heq
      have heq' : eqT y.key key = false := by rw [eqT_comm]; exact heq
      have b3 : (y.key.toList == key.toList) = false := heq'
      have e1 : L = (os ++ [y]) ++ setP key x false (l.drop (i + 1)) := by rw [HLi.out, hlt, heq, heq']; simp
      have E1 := Lib.hid e1
      clear hlt heq heq' e1
      go_wp2_with (at_builtin; refine wpList_app _ rfl _ _ 30 rfl 94 i0 _ 4 48 Tryz.underlying30 hi hz0 hz1 hz2 rfl (by omega) _ m _ rfl (Hown.out.alloc _) _ _ 1 y.cells rfl (sl_one wr 94 y.cells) (pair1 y) (by simp only [maxLen]; omega) (by omega) ?_)
      intro v' w1 ho hgr hat
      have hW1 := Lib.hid (HWay.out.app y (by simpa using ho) hgr hat)
      clear ho hgr hat
      go_wp2
      exact ⟨⟨i + 1, m + 1, false, os ++ [y], by omega, by go_num, rfl, E1.out, hW1.out, by omega⟩, by simp [intOf]; omega⟩
     ·
      have b1 : Op.bytesLess key.toList y.key.toList = false := hlt
      have b2 : (key.toList == y.key.toList) = true := heq
      have heq' : eqT y.key key = true := by rw [eqT_comm]; exact heq
      have b3 : (y.key.toList == key.toList) = true := heq'
      have e1 : L = (os ++ [⟨key, x⟩]) ++ setP key x true (l.drop (i + 1)) := by rw [HLi.out, hlt, heq, heq']; simp
      have E1 := Lib.hid e1
      clear hlt heq heq' e1
      go_wp2_with (at_builtin; refine wpList_app _ rfl _ _ 30 rfl 94 i0 _ 4 48 Tryz.underlying30 hi hz0 hz1 hz2 rfl (by omega) _ m _ rfl (Hown.out.alloc _) _ _ 1 (⟨key, x⟩ : APair).cells rfl (sl_one wr 94 (⟨key, x⟩ : APair).cells) (pair1 (⟨key, x⟩ : APair)) (by simp only [maxLen]; omega) (by omega) ?_)
      intro v' w1 ho hgr hat
      have hW1 := HWay.out.app ⟨key, x⟩ (by simpa using ho) hgr hat
      have hE1 := hW1.2.2.2
      have y0 := hE1.cell z0 id
      have y1 := hE1.cell z1 id
      have y2 := hE1.cell z2 id
      have y3 := hE1.cell z3 id
      have hg1 : g < w1.heap.size := World.block_lt_of_cell? _ _ y0
      have Hown1 := Lib.hid hW1.2.1
      have HW1 := Lib.hid hW1
      clear ho hgr hat hW1 hE1 x0 x1 x2 x3 r0 r1 r2
      go_wp2
      exact ⟨⟨i + 1, m + 1, true, os ++ [⟨key, x⟩], by omega, by go_num, rfl, E1.out, HW1.out, by omega⟩, by simp [intOf]; omega⟩
    ·
     have heq : eqT key y.key = false := eqT_lt hlt
     have b1 : Op.bytesLess key.toList y.key.toList = true := hlt
     have b2 : (key.toList == y.key.toList) = false := heq
     have heq' : eqT y.key key = false := by rw [eqT_comm]; exact heq
     have b3 : (y.key.toList == key.toList) = false := heq'
     have e1 : L = (os ++ [⟨key, x⟩] ++ [y]) ++ setP key x true (l.drop (i + 1)) := by rw [HLi.out, hlt, heq, heq']; simp
     have E1 := Lib.hid e1
     clear hlt heq heq' e1
     go_wp2_with (at_builtin; refine wpList_app _ rfl _ _ 30 rfl 94 i0 _ 4 48 Tryz.underlying30 hi hz0 hz1 hz2 rfl (by omega) _ m _ rfl (Hown.out.alloc _) _ _ 1 (⟨key, x⟩ : APair).cells rfl (sl_one wr 94 (⟨key, x⟩ : APair).cells) (pair1 (⟨key, x⟩ : APair)) (by simp only [maxLen]; omega) (by omega) ?_)
     intro v' w1 ho hgr hat
     have hW1 := HWay.out.app ⟨key, x⟩ (by simpa using ho) hgr hat
     have hE1 := hW1.2.2.2
     have y0 := hE1.cell z0 id
     have y1 := hE1.cell z1 id
     have y2 := hE1.cell z2 id
     have y3 := hE1.cell z3 id
     have hg1 : g < w1.heap.size := World.block_lt_of_cell? _ _ y0
     have Hown1 := Lib.hid hW1.2.1
     have HW1 := Lib.hid hW1
     clear ho hgr hat hW1 hE1 x0 x1 x2 x3 r0 r1 r2
     go_wp2_with (at_builtin; refine wpList_app _ rfl _ _ 30 rfl 94 i0 _ 4 48 Tryz.underlying30 hi hz0 hz1 hz2 rfl (by omega) _ (m + 1) _ rfl (Hown1.out.alloc _) _ _ 1 y.cells rfl (sl_one w1 94 y.cells) (pair1 y) (by simp only [maxLen]; omega) (by omega) ?_)
     intro v2 w2 ho2 hgr2 hat2
     have hW2 := Lib.hid (HW1.out.app y (by simpa using ho2) hgr2 hat2)
     clear ho2 hgr2 hat2
     go_wp2
     exact ⟨⟨i + 1, m + 1 + 1, true, os ++ [⟨key, x⟩] ++ [y], by omega, by go_num, rfl, E1.out, hW2.out, by omega⟩, by simp [intOf]; omega⟩
   ·
    rcases heq : eqT key y.key with _ | _
    ·
     have b2 : (key.toList == y.key.toList) = false := heq
     have heq' : eqT y.key key = false := by rw [eqT_comm]; exact heq
     have b3 : (y.key.toList == key.toList) = false := heq'
     have e1 : L = (os ++ [y]) ++ setP key x true (l.drop (i + 1)) := by rw [HLi.out, heq']; simp
     have E1 := Lib.hid e1
     clear heq heq' e1
     go_wp2_with (at_builtin; refine wpList_app _ rfl _ _ 30 rfl 94 i0 _ 4 48 Tryz.underlying30 hi hz0 hz1 hz2 rfl (by omega) _ m _ rfl (Hown.out.alloc _) _ _ 1 y.cells rfl (sl_one wr 94 y.cells) (pair1 y) (by simp only [maxLen]; omega) (by omega) ?_)
     intro v' w1 ho hgr hat
     have hW1 := Lib.hid (HWay.out.app y (by simpa using ho) hgr hat)
     clear ho hgr hat
     go_wp2
     exact ⟨⟨i + 1, m + 1, true, os ++ [y], by omega, by go_num, rfl, E1.out, hW1.out, by omega⟩, by simp [intOf]; omega⟩
    ·
     have b2 : (key.toList == y.key.toList) = true := heq
     have heq' : eqT y.key key = true := by rw [eqT_comm]; exact heq
     have b3 : (y.key.toList == key.toList) = true := heq'
     have e1 : L = os ++ setP key x true (l.drop (i + 1)) := by rw [HLi.out, heq']; simp
     have E1 := Lib.hid e1
     clear heq heq' e1
     go_wp2
     exact ⟨⟨i + 1, m, true, os, by omega, by go_num, rfl, E1.out, HWay.out, by omega⟩, by simp [intOf]; omega⟩
  ·
   have hdone : L = os ++ setP key x d [] := by rw [hLi, List.drop_eq_nil_of_le (by rw [Hn.out]; omega)]
   have HD := Lib.hid hdone
   have HEr := Lib.hid hEr
   have Hown := Lib.hid hown
   have Hfin : Hid (∀ v' w1 os', L = os' → Way W w1 v' os'.length os' → NewP w w1 v' L ∧ Ext w w1) := Lib.hid (fun v' w1 os' e hW1 => by
    subst e
    refine ⟨⟨hW1.2.1, HokL.out, fun g hg => ?_⟩, HE.out.ext hW1.2.2.2⟩
    have := hW1.2.2.1 g hg
    have := HE.out.size
    omega)
   clear hdone hLi hEr hown
   rcases d with _ | _
   ·
    go_wp2_with (at_builtin; refine wpList_app _ rfl _ _ 30 rfl 94 i0 _ 4 48 Tryz.underlying30 hi hz0 hz1 hz2 rfl (by omega) _ m _ rfl (Hown.out.alloc _) _ _ 1 (⟨key, x⟩ : APair).cells rfl (sl_one wr 94 (⟨key, x⟩ : APair).cells) (pair1 (⟨key, x⟩ : APair)) (by simp only [maxLen]; omega) (by omega) ?_)
    intro v' w1 ho hgr hat
    have hW1 := HWay.out.app ⟨key, x⟩ (by simpa using ho) hgr hat
    have hF := Hfin.out v' w1 (os ++ [⟨key, x⟩]) (by rw [HD.out]; simp [setP]) (by have := hW1; rw [show m + 1 = (os ++ [(⟨key, x⟩ : APair)]).length by rw [hW1.1]] at this; exact this)
    have HF := Lib.hid hF
    clear ho hgr hat hW1 hF
    go_wp2
    go_ret
    exact ⟨v', rfl, HF.out⟩
   ·
    have hF := Hfin.out u7 wr os (by rw [HD.out]; simp [setP]) (by have := HWay.out; rw [← HWay.out.1] at this; exact this)
    have HF := Lib.hid hF
    clear hF
    go_wp2
    go_ret
    exact ⟨_, rfl, HF.out⟩
end Go.Proofs.YtbclnghbgoblcaaGreat
