/-
 The contract of sess.twin. Conditions: as each theorem names them.
 Contracts of slices.Insert on sessions of one's own. Conditions: as each theorem names them.
 The contract of slices.BinarySearchFunc as sess.Do calls it. Conditions: as each theorem names them.
 slices.Insert of one session in any case; plain laws of setS. Conditions: as each theorem names them.
-/
import Derived.Test.YtbclnghbgoblcaaGreatGSes
import Derived.Test.YtbclnghbgoblcaaGreatGOpen
import Derived.Test.YtbclnghbgoblcaaGreatGPut
namespace Go.Proofs.YtbclnghbgoblcaaGreat
set_option linter.unusedSimpArgs false
open Go.RowKit

set_option maxRecDepth 100000 in
set_option maxHeartbeats 2000000 in
theorem s_twin (w : World) (T U : Nat → Prop) (pv v : Value) (p : List APair) (l : List ASess) (hP : Prs w U pv p) (h : Ses w T v l) (hp : p.length ≤ 1000000) (hl : l.length ≤ 1000000) :
  Calls Tryz.prog 48 #[.agg #[pv, v]] w fun e w' => ∃ pv' v', e = .returned (.agg #[pv', v']) ∧ NewM w w' pv' v' ⟨p, l⟩ ∧ Ext w w' := by
 obtain ⟨A, c, rfl⟩ := h.form
 obtain ⟨A', c', rfl⟩ := hP.form
 obtain ⟨b, hb⟩ : ∃ b, w.heap.size = b := ⟨_, rfl⟩
 obtain ⟨W, hW⟩ : ∃ W, W = (w.alloc (.cells #[.slice A' p.length c', .slice A l.length c] 33)).alloc (.cells #[.slice none 0 0, .slice none 0 0] 33) := ⟨_, rfl⟩
 obtain ⟨hA, hB, hsz⟩ := two_new w (.cells #[.slice A' p.length c', .slice A l.length c] 33) (.cells #[.slice none 0 0, .slice none 0 0] 33)
 rw [← hW, hb] at hA hB hsz
 have hE : Ext w W := by rw [hW]; exact ((Mod.refl _ w).alloc _).alloc _
 have a0 : W.cell? ⟨b, 0, none⟩ = some _ := blk_cell (cs := [.slice A' p.length c', .slice A l.length c]) hA rfl
 have a1 : W.cell? ⟨b, 1, none⟩ = some _ := blk_cell (cs := [.slice A' p.length c', .slice A l.length c]) hA rfl
 have hup : ∀ {W'}, Mod (fun k => k = b + 1) W W' → Ext w W' := fun {W'} hm => Mod.toExt ((Ext.mod hE (Since w.heap.size)).trans hm (fun k _ e => by unfold Since; omega))
 have HW := Lib.hid hW
 have HB := Lib.hid hB
 have Hb := Lib.hid hb
 clear hA hB hW hb
 go_enter Tryz.func48, Tryz.ntmps48
 go_wp2_with fail
 rw [← HW.out, Hb.out]
 refine wp_region_held_drew (S := fun W' => Mod (fun k => k = b + 1) W W' ∧ ∃ x y, W'.heap[b + 1]? = some (.cells #[x, y] 33 (0, 0))) (by kernel_rfl) ⟨(Mod.refl _ W).drew, _, _, HB.out⟩ (fun hS => ?_)
 refine tkH 0 (some 3) rfl rfl ?_ hS ?_ ?_
 rotate_left
 ·
  rintro W' ⟨hm', x, y, hB'⟩
  have q0 := hm'.cell a0 (show ¬ b = b + 1 by omega)
  have q1 := hm'.cell a1 (show ¬ b = b + 1 by omega)
  go_simp
  try with_reducible rfl
 try simp only [pL]
 refine tkH 1 (some 4) rfl rfl ?_ hS ?_ ?_
 rotate_left
 ·
  rintro W' ⟨hm', x, y, hB'⟩
  have q0 := hm'.cell a0 (show ¬ b = b + 1 by omega)
  have q1 := hm'.cell a1 (show ¬ b = b + 1 by omega)
  go_simp
  try with_reducible rfl
 try simp only [pL]
 refine tkH 3 (some 6) rfl rfl ?_ hS ?_ ?_
 rotate_left
 ·
  rintro W' ⟨hm', x, y, hB'⟩
  have q0 := hm'.cell a0 (show ¬ b = b + 1 by omega)
  have q1 := hm'.cell a1 (show ¬ b = b + 1 by omega)
  go_simp
  try with_reducible rfl
 try simp only [pL]
 refine tkH 4 (some 7) rfl rfl ?_ hS ?_ ?_
 rotate_left
 ·
  rintro W' ⟨hm', x, y, hB'⟩
  have q0 := hm'.cell a0 (show ¬ b = b + 1 by omega)
  have q1 := hm'.cell a1 (show ¬ b = b + 1 by omega)
  go_simp
  try with_reducible rfl
 try simp only [pL]
 refine wpAnyH_ready (rs := [2]) (by kernel_rfl) (by simp) ?_
 refine AllReadyH.cons rfl (fun K hK => ?_) AllReadyH.nil
 go_simp
 go_wp2_with fail
 refine (sl_clone _ U _ p (hP.ext (hup hS.1)) hp).mono ?_
 rintro e w1 ⟨v1, rfl, hN1, hE1⟩
 obtain ⟨A1, c1, rfl⟩ := own_form hN1.1
 have hSw1 := hS
 obtain ⟨x, y, hB'⟩ := hS.2
 have hX := (⟨hS.1.trans hE1 (fun _ _ h => h.elim), x, y, hE1.blk hB' id⟩ : Mod (fun k => k = b + 1) W w1 ∧ ∃ x y, w1.heap[b + 1]? = some (.cells #[x, y] 33 (0, 0)))
 clear hB' hS
 go_simp
 refine hK.out _ _ hX (fun hS => ?_)
 clear hK K hX
 refine wpAnyH_ready (rs := [5]) (by kernel_rfl) (by simp) ?_
 refine AllReadyH.cons rfl (fun K hK => ?_) AllReadyH.nil
 go_simp
 go_wp2_with fail
 refine (sl_cloneS _ T _ l (h.ext (hup hS.1)) hl).mono ?_
 rintro e w2 ⟨v2, rfl, hN2, hE2⟩
 obtain ⟨A2, c2, rfl⟩ := own_form hN2.1
 have hSw2 := hS
 obtain ⟨x, y, hB'⟩ := hS.2
 have hX := (⟨hS.1.trans hE2 (fun _ _ h => h.elim), x, y, hE2.blk hB' id⟩ : Mod (fun k => k = b + 1) W w2 ∧ ∃ x y, w2.heap[b + 1]? = some (.cells #[x, y] 33 (0, 0)))
 clear hB' hS
 go_simp
 refine hK.out _ _ hX (fun hS => ?_)
 clear hK K hX
 refine tkH 6 (some 9) rfl rfl ?_ hS ?_ ?_
 rotate_left
 ·
  rintro W' ⟨hm', x, y, hB'⟩
  have q0 := hm'.cell a0 (show ¬ b = b + 1 by omega)
  have q1 := hm'.cell a1 (show ¬ b = b + 1 by omega)
  go_simp
  try with_reducible rfl
 try simp only [pL]
 refine wpAnyH_ready (rs := [7]) (by kernel_rfl) (by simp) ?_
 refine AllReadyH.cons rfl (fun K hK => ?_) AllReadyH.nil
 obtain ⟨hm2, x, y, hB'⟩ := hS
 have f0 : w2.frozen? ⟨b + 1, 0, none⟩ = false := blk_free 0 hB'
 have f1 : w2.frozen? ⟨b + 1, 1, none⟩ = false := blk_free 1 hB'
 have d0 : w2.cell? ⟨b + 1, 0, none⟩ = some _ := blk_cell (cs := [x, y]) hB' rfl
 have d1 : w2.cell? ⟨b + 1, 1, none⟩ = some _ := blk_cell (cs := [x, y]) hB' rfl
 have hX := (⟨mod_same (mod_same hm2 0 (.slice A1 p.length c1)) 1 (.slice A2 l.length c2), .slice A1 p.length c1, .slice A2 l.length c2, by simp [World.setCell, Array.getElem?_modify, hB']⟩ : Mod (fun k => k = b + 1) W ((w2.setCell ⟨b + 1, 0, none⟩ (.slice A1 p.length c1)).setCell ⟨b + 1, 1, none⟩ (.slice A2 l.length c2)) ∧ ∃ x y, ((w2.setCell ⟨b + 1, 0, none⟩ (.slice A1 p.length c1)).setCell ⟨b + 1, 1, none⟩ (.slice A2 l.length c2)).heap[b + 1]? = some (.cells #[x, y] 33 (0, 0)))
 go_simp
 refine hK.out _ _ hX (fun hS => ?_)
 clear hK K hX
 refine wpAnyH_done (by kernel_rfl) ?_ _
 have hm : Mod (fun k => k = b + 1) w2 ((w2.setCell ⟨b + 1, 0, none⟩ (.slice A1 p.length c1)).setCell ⟨b + 1, 1, none⟩ (.slice A2 l.length c2)) := mod_same (mod_same (Mod.refl _ _) _ _) _ _
 go_wp2_with fail
 refine bodyPost_ret (v := .agg #[.slice A1 p.length c1, .slice A2 l.length c2]) (by simp [results, Tryz.results48, go_sem, d0, d1]) rfl ⟨_, _, rfl, newM_mod (⟨newP_up (newP_mod hN1 hE2 (fun _ _ => id)) (hup hSw1.1).size, ⟨hN2.1, hN2.2.1, fun g hg => Nat.le_trans (hup hSw2.1).size (hN2.2.2 g hg)⟩, fun g hg e => by have := (hN1.1.lt g hg).2; have := hN2.2.2 g e; omega⟩) hm (fun g hg e => by have := hN1.2.2 g hg; have := hSw1.1.size; omega) (fun g hg e => by have := hN2.2.2 g hg; have := hSw2.1.size; omega), hup hS.1⟩
end Go.Proofs.YtbclnghbgoblcaaGreat

namespace Go.Proofs.YtbclnghbgoblcaaGreat
set_option linter.unusedSimpArgs false
open Go.RowKit

theorem ses1 (p : ASess) : ∀ u ∈ p.cells, u.oneCell' = true := by
 intro u hu
 simp only [ASess.cells, List.mem_cons, List.not_mem_nil, or_false] at hu
 rcases hu with rfl | rfl | rfl | rfl | rfl | rfl <;> rfl
abbrev flS (l : List ASess) : List Value := l.flatMap ASess.cells
theorem fl_lenS (l : List ASess) : (flS l).length = l.length * 6 := by
 induction l with
 | nil => rfl
 | cons p l ih => simp [flS, List.flatMap_cons] at ih ⊢; omega
theorem fl_appS (a b : List ASess) : flS (a ++ b) = flS a ++ flS b := by simp [flS]
theorem size_sess : (Tryz.prog.info? 72).map (·.size) = some 6 := by kernel_rfl
/-- What an Insert leaves. -/
def InsOutS (w : World) (v : Value) (l : List ASess) (e : Ending) (w' : World) : Prop :=
 ∃ v', e = .returned v' ∧ w'.ownsRow 0 72 6 v' l.length (flS l) ∧ (∀ g, v'.ownBlock = some g → v.ownBlock = some g ∨ w.heap.size ≤ g) ∧ Mod (fun k => v.ownBlock = some k) w w'
theorem sl_blkS {w : World} {vb : Nat} {x : ASess} (h : w.heap[vb]? = some (.cells #[.int .i64 x.client, .int .i64 x.seq, .int .i64 x.reply.code, .int .i64 x.reply.val.kind, .float .f64 x.reply.val.num, .string x.reply.val.text] 72 (0, 0))) : Sl w (fun k => k = vb) 6 (.slice (some ⟨vb, 0, none⟩) 1 1) 1 x.cells := by
 refine ⟨rfl, _, _, rfl, Nat.le_refl _, by simp [maxLen], fun _ => ⟨_, 0, rfl, rfl, fun j u hu => ?_⟩⟩
 rw [Nat.zero_add]
 exact blk_cell (cs := x.cells) h hu

set_option maxRecDepth 100000 in
set_option maxHeartbeats 1000000 in
theorem sl_insert_endS (w : World) (v : Value) (n : Nat) (a : List ASess) (x : ASess) (vb : Nat) (hn : a.length = n) (hn1 : n ≤ 1000) (hown : w.ownsRow 0 72 6 v n (flS a)) (hvb : w.heap[vb]? = some (.cells #[.int .i64 x.client, .int .i64 x.seq, .int .i64 x.reply.code, .int .i64 x.reply.val.kind, .float .f64 x.reply.val.num, .string x.reply.val.text] 72 (0, 0))) :
  Calls Tryz.prog 52 #[v, .int .i64 n, .slice (some ⟨vb, 0, none⟩) 1 1] w (InsOutS w v (a ++ [x])) := by
 obtain ⟨i0, hi0, hz0, hz1, hz2⟩ := info_parts info_sess
 obtain ⟨A, c, rfl⟩ := own_form hown
 have hsl := sl_blkS hvb
 have hnc : n ≤ c := by
  rcases row_of_own hown with ⟨_, h⟩ | ⟨g, cap, cur, e, _, _, h, _⟩
  ·
   omega
  ·
   injection e with _ _ e; omega
 have hcm : c ≤ 9223372036854775807 := by
  rcases row_of_own hown with ⟨e, _⟩ | ⟨g, cap, cur, e, _, _, _, h, _⟩
  ·
   injection e with _ _ e; omega
  ·
   injection e with _ _ e; unfold maxLen at h; omega
 have Hn := Lib.hid hn
 have Hvb := Lib.hid hvb
 clear hn hvb
 go_enter Tryz.func52, Tryz.ntmps52
 go_wp2_with (at_builtin; refine wpList_app _ rfl _ _ 31 rfl 72 i0 _ 6 56 Tryz.underlying31 hi0 hz0 hz1 hz2 rfl (by omega) _ n _ rfl hown _ _ 1 x.cells rfl hsl (ses1 x) (by simp only [maxLen]; omega) (by omega) ?_)
 intro v' w1 ho hgr hat
 have hout : Hid (InsOutS w (.slice A n c) (a ++ [x]) (.returned v') w1) := Lib.hid (by
  refine ⟨v', rfl, ?_, fun g hg => ?_, (Mod.refl _ w).grown hgr (fun k hk => .inr hk)⟩
  ·
   rw [fl_appS, List.length_append, Hn.out]; simpa using ho
  ·
   rcases hat with e | e
   ·
    rw [← e]; exact .inl hg
   ·
    rw [e] at hg; injection hg with hg; omega)
 clear ho hgr hat
 go_wp2
 go_ret
 exact hout.out

set_option maxRecDepth 100000 in
set_option maxHeartbeats 4000000 in
theorem sl_insert_growS (w : World) (g n i : Nat) (cur : List Value) (a b : List ASess) (x : ASess) (vb : Nat) (hi : a.length = i) (hb : b.length = n - i) (hin : i < n) (hn1 : n ≤ 1000) (hR : Row w g 72 cur) (hcur : cur = flS a ++ flS b)
  (hvb : w.heap[vb]? = some (.cells #[.int .i64 x.client, .int .i64 x.seq, .int .i64 x.reply.code, .int .i64 x.reply.val.kind, .float .f64 x.reply.val.num, .string x.reply.val.text] 72 (0, 0))) :
  Calls Tryz.prog 52 #[.slice (some ⟨g, 0, none⟩) n n, .int .i64 i, .slice (some ⟨vb, 0, none⟩) 1 1] w (InsOutS w (.slice (some ⟨g, 0, none⟩) n n) (a ++ x :: b)) := by
 obtain ⟨i0, hi0, hz0, hz1, hz2⟩ := info_parts info_sess
 have hlx : x.cells.length = 6 := rfl
 have hla := fl_lenS a
 have hlb := fl_lenS b
 have hgw := hR.lt
 have hvw : vb < w.heap.size := (Array.getElem?_eq_some_iff.1 hvb).1
 have hold : (Builtin.firstCells i0.size i (.slice (some ⟨g, 0, none⟩) i n)).run Tryz.prog w.drew = .ok (flS a).toArray w.drew := by
  rw [hz1]
  refine run_firstCells_some w.drew 6 i ⟨g, 0, none⟩ i n (flS a) (by rw [hla, hi]) (fun j u hu => ?_)
  rw [addMk, Nat.zero_add]
  refine Row.cell (w := w) hR ?_
  rw [hcur, List.getElem?_append_left (List.getElem?_eq_some_iff.1 hu).1]
  exact hu
 obtain ⟨G, hG⟩ : ∃ G, grownCap w (n + 1) n 72 = G := ⟨_, rfl⟩
 have hGn : n + 1 ≤ G := by rw [← hG]; exact grownCap_ge w _ _ _
 have hGm : G ≤ maxLen := by rw [← hG]; exact grownCap_le_maxLen w _ _ _ (by unfold maxLen; omega)
 obtain ⟨z, hz⟩ : ∃ z : Value, z = .agg #[.int .i64 0, .int .i64 0, .int .i64 0, .int .i64 0, .float .f64 0, .string ⟨#[]⟩] := ⟨_, rfl⟩
 have hzs : z.cells.size = 6 := by rw [hz]; rfl
 rw [← hz] at hz0
 obtain ⟨Z1, hZ1⟩ : ∃ Z1, (Builtin.zeroCells z.cells (n + 1 - i)).toList = Z1 := ⟨_, rfl⟩
 obtain ⟨Z2, hZ2⟩ : ∃ Z2, (Builtin.zeroCells z.cells (G - (n + 1))).toList = Z2 := ⟨_, rfl⟩
 have hlz1 : Z1.length = (n + 1 - i) * 6 := by rw [← hZ1, zc_len, hzs]
 have hlz2 : Z2.length = (G - (n + 1)) * 6 := by rw [← hZ2, zc_len, hzs]
 obtain ⟨h, hh⟩ : ∃ h, w.heap.size = h := ⟨_, rfl⟩
 obtain ⟨W1, hW1⟩ : ∃ W1, w.drew.alloc (.cells (flS a ++ (Z1 ++ Z2)).toArray 72) = W1 := ⟨_, rfl⟩
 have hrz : ∀ ty, (Builtin.append_ #[31, 3] ty #[.slice (some ⟨g, 0, none⟩) i n, .int .i64 ((n : Int) + 1 - (i : Int))]).run Tryz.prog w = .ok (.slice (some ⟨h, 0, none⟩) (n + 1) G) W1 := fun ty => by
  have hh2 := Lib.run_append_grow_zeros w 31 3 ty 72 i0 z .i64 .i64 Tryz.underlying31 Tryz.underlying3 hi0 hz0 (some ⟨g, 0, none⟩) i n (flS a) hold (n + 1 - i) (by omega) (by omega) (by omega) (by omega) (by rw [hz2]; omega)
   (by rw [hz2, show i + (n + 1 - i) = n + 1 by omega]; exact growslice_fits (by omega) (by omega))
  rw [show i + (n + 1 - i) = n + 1 by omega, hG, hh] at hh2
  rw [show (n : Int) + 1 - (i : Int) = ((n + 1 - i : Nat) : Int) by omega, hh2, ← hW1, ← hZ1, ← hZ2]
  congr 3
  simp
 have hR1 : Row W1 h 72 (flS a ++ (Z1 ++ Z2)) := by
  rw [← hW1, ← hh]
  exact heap_alloc_new w.drew _
 have hE1 : Ext w W1 := by rw [← hW1]; exact ((Mod.refl _ w).drew).alloc _
 have hcp1 : ∀ ty dc, (Builtin.copy_ #[31, 31] ty #[.slice (some ⟨h, i * 6, none⟩) (n + 1 - i) dc, .slice (some ⟨vb, 0, none⟩) 1 1]).run Tryz.prog W1 = .ok (goInt 1) (W1.setRow h (splice (flS a ++ (Z1 ++ Z2)) (i * 6) x.cells).toArray) := fun ty dc =>
  run_copyK (P := Tryz.prog) W1 31 31 ty 72 6 h (i * 6) (n + 1 - i) dc ⟨vb, 0, none⟩ 1 1 1 72 _ x.cells Tryz.underlying31 size_sess hR1 (by simp only [Nat.min_def]; split <;> omega) rfl (fun j u hu => by
   rw [addMk, Nat.zero_add]
   exact hE1.cell (blk_cell (cs := x.cells) hvb hu) id) (by simp only [List.length_append, hla, hlx, hi, hlz1, hlz2]; omega) (ses1 x)
 obtain ⟨c2, hc2⟩ : ∃ c2, splice (flS a ++ (Z1 ++ Z2)) (i * 6) x.cells = c2 := ⟨_, rfl⟩
 have hlc2 : c2.length = G * 6 := by rw [← hc2, length_splice _ _ _ (by simp only [List.length_append, hla, hlx, hi, hlz1, hlz2]; omega)]; simp only [List.length_append, hla, hi, hlz1, hlz2]; omega
 have hR2 : Row (W1.setRow h c2.toArray) h 72 c2 := hR1.set c2
 have hE2 : Ext w (W1.setRow h c2.toArray) := Mod.toExt (Mod.setRow (S := Since w.heap.size) (hE1.mod _) (.inl (by omega)) _)
 rw [hc2] at hcp1
 obtain ⟨W2, hW2⟩ : ∃ W2, W1.setRow h c2.toArray = W2 := ⟨_, rfl⟩
 rw [hW2] at hcp1 hR2 hE2
 have hcp2 : ∀ ty dc sc, (Builtin.copy_ #[31, 31] ty #[.slice (some ⟨h, (i + 1) * 6, none⟩) (n - i) dc, .slice (some ⟨g, i * 6, none⟩) (n - i) sc]).run Tryz.prog W2.drew = .ok (goInt ((n - i : Nat) : Int)) (W2.drew.setRow h (splice c2 ((i + 1) * 6) (flS b)).toArray) := fun ty dc sc =>
  run_copyK (P := Tryz.prog) W2.drew 31 31 ty 72 6 h ((i + 1) * 6) (n - i) dc ⟨g, i * 6, none⟩ (n - i) sc (n - i) 72 c2 (flS b) Tryz.underlying31 size_sess hR2 (by simp) (by rw [hlb, hb]) (fun j u hu => by
   rw [addMk]
   refine hE2.cell (Row.cell hR ?_) id
   rw [hcur, List.getElem?_append_right (by omega), hla, hi, Nat.add_sub_cancel_left]
   exact hu) (by omega) (ses_one b)
 obtain ⟨c3, hc3⟩ : ∃ c3, splice c2 ((i + 1) * 6) (flS b) = c3 := ⟨_, rfl⟩
 rw [hc3] at hcp2
 have hlc3 : c3.length = G * 6 := by rw [← hc3, length_splice _ _ _ (by omega), hlc2]
 have htk : c3.take ((n + 1) * 6) = flS (a ++ x :: b) := by
  have e1 : c2.take ((i + 1) * 6) = flS a ++ x.cells := by
   rw [← hc2]
   unfold splice
   have e0 : (flS a ++ (Z1 ++ Z2)).take (i * 6) = flS a := List.take_left' (by rw [hla, hi])
   rw [e0, ← List.append_assoc]
   exact List.take_left' (by simp only [List.length_append, hla, hlx, hi]; omega)
  rw [← hc3]
  unfold splice
  rw [e1, ← List.append_assoc, List.take_left' (by simp only [List.length_append, hla, hlb, hlx, hi, hb]; omega)]
  simp [flS]
 have hout : Hid (InsOutS w (.slice (some ⟨g, 0, none⟩) n n) (a ++ x :: b) (.returned (.slice (some ⟨h, 0, none⟩) (n + 1) G)) (W2.drew.setRow h c3.toArray)) := Lib.hid (by
  refine ⟨_, rfl, ?_, fun k hk => ?_, ?_⟩
  ·
   have := Row.own (Row.set (w := W2.drew) hR2 c3) hlc3 hGn hGm htk
   rw [show (a ++ x :: b).length = n + 1 by simp; omega]
   exact this
  ·
   simp [Value.ownBlock] at hk; right; omega
  ·
   exact Mod.setRow ((Ext.mod hE2 (fun k => (Value.slice (some ⟨g, 0, none⟩) n n).ownBlock = some k)).drew) (.inl (by omega)) _)
 obtain ⟨W3, hW3⟩ : ∃ W3, W2.drew.setRow h c3.toArray = W3 := ⟨_, rfl⟩
 rw [hW3] at hcp2 hout
 have q1 := cut_head h i G 6 (by omega)
 have q2 := cut_head h (i + 1) G 6 (by omega)
 have q3 := cut_head g i n 6 (by omega)
 have Hrz := Lib.hid hrz
 have Hcp1 := Lib.hid hcp1
 have Hcp2 := Lib.hid hcp2
 unfold maxLen at hGm
 have hneq : ¬ ((i : Int) = (n : Int)) := by omega
 have hgt : decide ((n : Int) + 1 > (n : Int)) = true := by simp; omega
 have hi1 : (0 : Int) ≤ (i : Int) + 1 := by omega
 have hin' : (i : Int) < (n : Int) := by omega
 have hGi : (n : Int) + 1 ≤ (G : Int) := by omega
 clear hlx hrz hcp1 hcp2 hold hG hz hzs hz0 hZ1 hZ2 hlz1 hlz2 hh hW1 hR1 hE1 hc2 hlc2 hR2 hE2 hW2 hc3 hlc3 htk hW3 hla hlb hi hb hcur hR hvb
 go_enter Tryz.func52, Tryz.ntmps52
 go_wp2_with (first
  | (at_builtin; refine Lib.wpList_append_run _ rfl _ _ _ _ rfl _ _ rfl rfl _ _ (Hrz.out _) ?_)
  | (refine wpList_copy_at _ rfl _ _ 31 31 rfl _ _ rfl rfl (Hcp1.out _ _) ?_))
 have htn : ((i : Int) + 1).toNat = i + 1 := by omega
 have hin2 : (i : Int) + 1 ≤ (n : Int) + 1 := by omega
 have hin3 : (i : Int) ≤ (n : Int) := by omega
 have hw1 : IntKind.i64.wrap ((i : Int) + 1) = (i : Int) + 1 := IntWalk.i64_in _ (by omega)
 go_region_law (refine step_copy_at rfl _ _ 31 31 rfl (.slice (some ⟨h, (i + 1) * 6, none⟩) (n - i) (G - (i + 1))) (.slice (some ⟨g, i * 6, none⟩) (n - i) (n - i)) (by simp [Act.eval, Act.put]) (by simp [Act.eval, Act.put]) (Hcp2.out _ _ _) ?_)
 go_wp2
 go_ret
 exact hout.out

theorem call_overlapsS (w : World) (vb g o lb cb : Nat) (cs ds : Array Value) (tA tB : TypeId) (hA : w.heap[vb]? = some (.cells cs tA (0, 0))) (hB : w.heap[g]? = some (.cells ds tB (0, 0))) (hd : ds.size ≠ 0) (hne : vb ≠ g) :
  (callFunc 74 #[.slice (some ⟨vb, 0, none⟩) 1 1, .slice (some ⟨g, o, none⟩) lb cb]).run Tryz.prog w = .ok (.value (.bool false)) w := by
 rw [run_callFunc_extern (fn := Tryz.f74) (by kernel_rfl) (by kernel_rfl) (by kernel_rfl) (by kernel_rfl) (e := Extern.SlicesOverlaps.overlaps #[31, 31] #[4]) (by kernel_rfl),
  Lib.run_overlaps_apart w 31 4 72 Tryz.underlying31 6 (fun w => by kernel_rfl) ⟨vb, 0, none⟩ ⟨g, o, none⟩ 1 1 lb cb hne tA tB cs.size ds.size (by simp [World.shape?, hA]) (by simp [World.shape?, hB]) hd (by simp [World.frozen?, hA]) (by simp [World.frozen?, hA])]
 rfl
set_option maxRecDepth 100000 in
set_option maxHeartbeats 4000000 in
theorem sl_insert_roomS (w : World) (g n i cap : Nat) (cur : List Value) (a b : List ASess) (x : ASess) (vb : Nat) (rest : List Value) (hi : a.length = i) (hb : b.length = n - i) (hin : i < n) (hn1 : n ≤ 1000) (hR : Row w g 72 cur) (hcur : cur = flS a ++ (flS b ++ rest))
  (hc : cur.length = cap * 6) (hroom : n + 1 ≤ cap) (hcm : cap ≤ maxLen) (hvb : w.heap[vb]? = some (.cells #[.int .i64 x.client, .int .i64 x.seq, .int .i64 x.reply.code, .int .i64 x.reply.val.kind, .float .f64 x.reply.val.num, .string x.reply.val.text] 72 (0, 0))) (hne : vb ≠ g) :
  Calls Tryz.prog 52 #[.slice (some ⟨g, 0, none⟩) n cap, .int .i64 i, .slice (some ⟨vb, 0, none⟩) 1 1] w (InsOutS w (.slice (some ⟨g, 0, none⟩) n cap) (a ++ x :: b)) := by
 have hlx : x.cells.length = 6 := rfl
 have hla := fl_lenS a
 have hlb := fl_lenS b
 have hov := fun lb cb => call_overlapsS w vb g ((i + 1) * 6) lb cb _ _ _ _ hvb hR (by rw [List.size_toArray]; omega) hne
 have hcp1 : ∀ ty dc sc, (Builtin.copy_ #[31, 31] ty #[.slice (some ⟨g, (i + 1) * 6, none⟩) (n - i) dc, .slice (some ⟨g, i * 6, none⟩) (n + 1 - i) sc]).run Tryz.prog w.drew = .ok (goInt ((n - i : Nat) : Int)) (w.drew.setRow g (splice cur ((i + 1) * 6) (flS b)).toArray) := fun ty dc sc =>
  run_copyK (P := Tryz.prog) w.drew 31 31 ty 72 6 g ((i + 1) * 6) (n - i) dc ⟨g, i * 6, none⟩ (n + 1 - i) sc (n - i) 72 cur (flS b) Tryz.underlying31 size_sess hR (by simp only [Nat.min_def]; split <;> omega) (by rw [hlb, hb]) (fun j u hu => by
   rw [addMk]
   refine Row.cell (w := w) hR ?_
   rw [hcur, List.getElem?_append_right (by omega), hla, hi, Nat.add_sub_cancel_left, List.getElem?_append_left (List.getElem?_eq_some_iff.1 hu).1]
   exact hu) (by omega) (ses_one b)
 obtain ⟨c1, hc1⟩ : ∃ c1, splice cur ((i + 1) * 6) (flS b) = c1 := ⟨_, rfl⟩
 have hlc1 : c1.length = cap * 6 := by rw [← hc1, length_splice _ _ _ (by omega), hc]
 have hR1 : Row (w.drew.setRow g c1.toArray) g 72 c1 := Row.set (w := w.drew) hR c1
 have hM1 : Mod (fun k => k = g) w (w.drew.setRow g c1.toArray) := Mod.setRow (S := fun k => k = g) ((Mod.refl _ w).drew) (.inr rfl) _
 rw [hc1] at hcp1
 obtain ⟨W1, hW1⟩ : ∃ W1, w.drew.setRow g c1.toArray = W1 := ⟨_, rfl⟩
 rw [hW1] at hcp1 hR1 hM1
 have hcp2 : ∀ ty dc, (Builtin.copy_ #[31, 31] ty #[.slice (some ⟨g, i * 6, none⟩) (n + 1 - i) dc, .slice (some ⟨vb, 0, none⟩) 1 1]).run Tryz.prog W1 = .ok (goInt 1) (W1.setRow g (splice c1 (i * 6) x.cells).toArray) := fun ty dc =>
  run_copyK (P := Tryz.prog) W1 31 31 ty 72 6 g (i * 6) (n + 1 - i) dc ⟨vb, 0, none⟩ 1 1 1 72 c1 x.cells Tryz.underlying31 size_sess hR1 (by simp only [Nat.min_def]; split <;> omega) rfl (fun j u hu => by
   rw [addMk, Nat.zero_add]
   exact hM1.cell (blk_cell (cs := x.cells) hvb hu) hne) (by omega) (ses1 x)
 obtain ⟨c2, hc2⟩ : ∃ c2, splice c1 (i * 6) x.cells = c2 := ⟨_, rfl⟩
 rw [hc2] at hcp2
 have hlc2 : c2.length = cap * 6 := by rw [← hc2, length_splice _ _ _ (by omega), hlc1]
 have htk : c2.take ((n + 1) * 6) = flS (a ++ x :: b) := by
  have e0 : cur.take (i * 6) = flS a := by rw [hcur]; exact List.take_left' (by rw [hla, hi])
  have e1 : c1.take (i * 6) = flS a := by
   rw [← hc1]
   unfold splice
   rw [List.take_append_of_le_length (by rw [List.length_take]; omega), List.take_take, show min (i * 6) ((i + 1) * 6) = i * 6 by omega, e0]
  have e2 : c1.drop (i * 6 + 6) = flS b ++ cur.drop ((i + 1) * 6 + (flS b).length) := by
   rw [← hc1]
   unfold splice
   exact List.drop_left' (by rw [List.length_take]; omega)
  rw [← hc2]
  unfold splice
  rw [e1, hlx, e2, ← List.append_assoc, ← List.append_assoc, List.take_left' (by simp only [List.length_append, hla, hlb, hlx, hi, hb]; omega)]
  simp [flS]
 have hout : Hid (InsOutS w (.slice (some ⟨g, 0, none⟩) n cap) (a ++ x :: b) (.returned (.slice (some ⟨g, 0, none⟩) (n + 1) cap)) (W1.setRow g c2.toArray)) := Lib.hid (by
  refine ⟨_, rfl, ?_, fun k hk => .inl hk, ?_⟩
  ·
   have := Row.own (Row.set (w := W1) hR1 c2) hlc2 hroom hcm htk
   rw [show (a ++ x :: b).length = n + 1 by simp; omega]
   exact this
  ·
   exact (Mod.setRow (S := fun k => k = g) hM1 (.inr rfl) _).mono (fun k _ e => by rw [e]; rfl))
 obtain ⟨W2, hW2⟩ : ∃ W2, W1.setRow g c2.toArray = W2 := ⟨_, rfl⟩
 rw [hW2] at hcp2 hout
 have q1 := cut_head g i cap 6 (by omega)
 have q2 := cut_head g (i + 1) cap 6 (by omega)
 have Hov := Lib.hid hov
 have Hcp1 := Lib.hid hcp1
 have Hcp2 := Lib.hid hcp2
 unfold maxLen at hcm
 have hneq : ¬ ((i : Int) = (n : Int)) := by omega
 have hgt : decide ((n : Int) + 1 > (cap : Int)) = false := by simp; omega
 have hin' : (i : Int) < (n : Int) := by omega
 have hi1 : (0 : Int) ≤ (i : Int) + 1 := by omega
 have hcn : (n : Int) + 1 ≤ (cap : Int) := by omega
 clear hlx hov hcp1 hcp2 hlc1 hlc2 hR1 hM1 hc1 hc2 hW1 hW2 htk hla hlb hi hb hcur hR hvb hc
 go_enter Tryz.func52, Tryz.ntmps52
 go_wp2_with (simp only [Hov.out])
 have htn : ((i : Int) + 1).toNat = i + 1 := by omega
 have hin2 : (i : Int) + 1 ≤ (n : Int) + 1 := by omega
 have hin3 : (i : Int) ≤ (n : Int) + 1 := by omega
 have hw1 : IntKind.i64.wrap ((i : Int) + 1) = (i : Int) + 1 := IntWalk.i64_in _ (by omega)
 go_region_law (refine step_copy_at rfl _ _ 31 31 rfl (.slice (some ⟨g, (i + 1) * 6, none⟩) (n - i) (cap - (i + 1))) (.slice (some ⟨g, i * 6, none⟩) (n + 1 - i) (cap - i)) (by simp [Act.eval, Act.put]) (by simp [Act.eval, Act.put]) (Hcp1.out _ _ _) ?_)
 go_wp2_with (refine wpList_copy_at _ rfl _ _ 31 31 rfl _ _ rfl rfl (Hcp2.out _ _) ?_)
 go_ret
 exact hout.out
end Go.Proofs.YtbclnghbgoblcaaGreat

namespace Go.Proofs.YtbclnghbgoblcaaGreat
set_option linter.unusedSimpArgs false
open Go.RowKit

set_option maxRecDepth 100000 in
set_option maxHeartbeats 400000 in
theorem s_cmp (x : ASess) (key : Int) (hk : -1000 ≤ x.client - key ∧ x.client - key ≤ 1000) (w : World) :
  Calls Tryz.prog 51 #[.agg #[.int .i64 x.client, .int .i64 x.seq, .int .i64 x.reply.code, .int .i64 x.reply.val.kind, .float .f64 x.reply.val.num, .string x.reply.val.text], .int .i64 key] w fun e w' => e = .returned (.int .i64 (x.client - key)) ∧ Ext w w' := by
 have hz : IntKind.i64.wrap (x.client - key) = x.client - key := IntWalk.i64_in _ (by omega)
 clear hk
 go_enter Tryz.func51, Tryz.ntmps51
 go_wp2
 go_ret
 exact ⟨rfl, (Mod.refl _ w).alloc _⟩
theorem s_cmp_lt {x : ASess} {key : Int} (h : decide (x.client < key) = true) : decide (x.client - key < 0) = true := by simp at h ⊢; omega
theorem s_cmp_ge {x : ASess} {key : Int} (h : decide (x.client < key) = false) : decide (x.client - key < 0) = false := by simp at h ⊢; omega
theorem s_cmp_zero (x : ASess) (key : Int) : (x.client - key == 0) = decide (x.client = key) := by
 rw [Bool.eq_iff_iff]; simp; omega

set_option maxRecDepth 100000 in
set_option maxHeartbeats 1000000 in
theorem sl_findS (w : World) (T : Nat → Prop) (v : Value) (l : List ASess) (key : Int) (h : Ses w T v l) (hl : l.length ≤ 1000000) (p : Nat) (hp : p ≤ l.length) (hlt : ∀ (k : Nat) x, l[k]? = some x → decide (x.client < key) = decide (k < p))
  (hcl : ∀ (k : Nat) x, l[k]? = some x → -1000 ≤ x.client - key ∧ x.client - key ≤ 1000) (is : Bool) (his : is = true ↔ ∃ x, l[p]? = some x ∧ x.client = key) :
  Calls Tryz.prog 50 #[v, .int .i64 key, .func (Fn.func 51) #[] #[]] w fun e w' => e = .returned (.tuple #[.int .i64 p, .bool is]) ∧ Ext w w' := by
 obtain ⟨n, hn⟩ : ∃ n, l.length = n := ⟨_, rfl⟩
 obtain ⟨A, c, rfl⟩ := h.form
 rw [hn] at h hl hp ⊢
 have Hn := Lib.hid hn
 have Hlt := Lib.hid hlt
 have His := Lib.hid his
 clear hn hlt his
 go_enter Tryz.func50, Tryz.ntmps50
 go_wp2
 go_loopw [9, 10] (fun iv jv wr => ∃ i j : Nat, i ≤ p ∧ p ≤ j ∧ j ≤ n ∧ iv = .int .i64 i ∧ jv = .int .i64 j ∧ Ext w wr) (fun iv jv _ => (intOf jv).toNat - (intOf iv).toNat)
 case atStart => exact ⟨0, n, by omega, by omega, by omega, rfl, rfl, Mod.refl _ w⟩
 case round =>
  obtain ⟨i, j, hip, hpj, hjn, rfl, rfl, hE⟩ := hrel
  have h2 := h.ext hE
  by_cases hij : i < j
  ·
   have hm2 : (i + j) / 2 < j := by omega
   obtain ⟨g, off, x, rfl, hgT, hx, hxok, hcells⟩ := h2.at (show (i + j) / 2 < n by omega)
   have x0 := hcells 0 _ rfl
   have x1 := hcells 1 _ rfl
   have x2 := hcells 2 _ rfl
   have x3 := hcells 3 _ rfl
   have x4 := hcells 4 _ rfl
   have x5 := hcells 5 _ rfl
   rw [Nat.add_zero] at x0
   have Hx := Lib.hid hx
   clear hcells hx h2 hxok
   go_wp2_with fail
   refine (s_cmp x key (hcl _ _ Hx.out) _).mono ?_
   rintro e w1 ⟨rfl, hE1⟩
   have hF := Mod.ext hE hE1
   have hc := Hlt.out _ _ Hx.out
   clear hE1 hE x0 x1 x2 x3 x4 x5
   by_cases hmp : (i + j) / 2 < p
   ·
    have hlt : decide (x.client < key) = true := by rw [hc]; simpa using hmp
    have q3 := s_cmp_lt hlt
    clear hc hlt
    go_wp2
    exact ⟨⟨(i + j) / 2 + 1, j, by omega, hpj, hjn, by go_num, rfl, hF⟩, by simp [intOf]; omega⟩
   ·
    have hlt : decide (x.client < key) = false := by rw [hc]; simpa using hmp
    have q3 := s_cmp_ge hlt
    clear hc hlt
    go_wp2
    exact ⟨⟨i, (i + j) / 2, hip, by omega, by omega, rfl, by go_num, hF⟩, by simp [intOf]; omega⟩
  ·
   obtain rfl : i = p := by omega
   obtain rfl : j = i := by omega
   by_cases hjn2 : j < n
   ·
    obtain ⟨g, off, x, rfl, hgT, hx, hxok, hcells⟩ := h2.at hjn2
    have hi0 : (0 : Int) ≤ (j : Int) := by omega
    have hi1 : (j : Int) < (n : Int) := by omega
    have x0 := hcells 0 _ rfl
    have x1 := hcells 1 _ rfl
    have x2 := hcells 2 _ rfl
    have x3 := hcells 3 _ rfl
    have x4 := hcells 4 _ rfl
    have x5 := hcells 5 _ rfl
    rw [Nat.add_zero] at x0
    have Hx := Lib.hid hx
    clear hcells hx h2 hxok
    go_wp2_with fail
    refine (s_cmp x key (hcl _ _ Hx.out) _).mono ?_
    rintro e w1 ⟨rfl, hE1⟩
    have hF := Mod.ext hE hE1
    have hc := Hlt.out _ _ Hx.out
    have hlt : decide (x.client < key) = false := by rw [hc]; simp
    have hz := s_cmp_zero x key
    have hb : decide (x.client = key) = is := by
     rw [Bool.eq_iff_iff, His.out]
     exact ⟨fun h => ⟨x, Hx.out, of_decide_eq_true h⟩, fun ⟨y, hy, h⟩ => by rw [Hx.out] at hy; cases hy; exact decide_eq_true h⟩
    rw [hb] at hz
    clear hE1 hE x0 x1 x2 x3 x4 x5 hc hlt hb
    go_wp2
    go_ret2
    exact ⟨rfl, hF⟩
   ·
    have hb : is = false := by
     rw [← Bool.not_eq_true, His.out]
     rintro ⟨y, hy, _⟩
     have := (List.getElem?_eq_some_iff.1 hy).1
     have := Hn.out
     omega
    subst hb
    go_wp2
    go_ret2
    exact ⟨rfl, hE⟩
end Go.Proofs.YtbclnghbgoblcaaGreat

namespace Go.Proofs.YtbclnghbgoblcaaGreat
set_option linter.unusedSimpArgs false
open Go.RowKit

theorem sl_insertS (w : World) (v : Value) (a b : List ASess) (x : ASess) (vb : Nat) (hl : (a ++ b).length ≤ 1000) (hown : w.ownsRow 0 72 6 v (a ++ b).length (flS (a ++ b)))
  (hvb : w.heap[vb]? = some (.cells #[.int .i64 x.client, .int .i64 x.seq, .int .i64 x.reply.code, .int .i64 x.reply.val.kind, .float .f64 x.reply.val.num, .string x.reply.val.text] 72 (0, 0))) (hne : v.ownBlock ≠ some vb) :
  Calls Tryz.prog 52 #[v, .int .i64 a.length, .slice (some ⟨vb, 0, none⟩) 1 1] w (InsOutS w v (a ++ x :: b)) := by
 rcases hb : b with _ | ⟨y, b'⟩
 ·
  subst hb
  rw [List.append_nil] at hown hl
  exact sl_insert_endS w v _ a x vb rfl hl hown hvb
 ·
  rw [← hb]
  have hb0 : 0 < b.length := by rw [hb]; simp
  rw [List.length_append] at hl
  rcases row_of_own hown with ⟨_, h1⟩ | ⟨g, cap, cur, rfl, hR, hc, h1, h2, ht⟩
  ·
   rw [List.length_append] at h1; omega
  ·
   rw [List.length_append] at h1 ht ⊢
   have hgv : vb ≠ g := fun e => hne (by rw [e]; rfl)
   rw [fl_appS] at ht
   by_cases hcap : cap = a.length + b.length
   ·
    subst hcap
    refine sl_insert_growS w g _ _ cur a b x vb rfl (by omega) (by omega) hl hR ?_ hvb
    rw [← ht, ← hc, List.take_length]
   ·
    refine sl_insert_roomS w g _ _ cap cur a b x vb (cur.drop ((a.length + b.length) * 6)) rfl (by omega) (by omega) hl hR ?_ hc (by omega) h2 hvb hgv
    rw [← List.append_assoc, ← ht, List.take_append_drop]
/-- Sessions in order. -/
def SrtS (l : List ASess) : Prop := l.Pairwise (fun a b => a.client < b.client)
theorem setS_true (x : ASess) (l : List ASess) : setS x true l = l.filter (fun s => decide (s.client ≠ x.client)) := by
 induction l with
 | nil => rfl
 | cons s l ih =>
  rw [setS, if_neg (by simp), ih, List.filter_cons]
  by_cases h : s.client = x.client
  ·
   rw [if_pos h, if_neg (by simp [h])]
  ·
   rw [if_neg h, if_pos (by simp [h])]
theorem setS_past {x : ASess} {l : List ASess} (h : ∀ s ∈ l, x.client < s.client) : setS x true l = l := by
 rw [setS_true, List.filter_eq_self]
 intro s hs
 have := h s hs
 simp; omega
theorem setS_new (x : ASess) (a b : List ASess) (ha : ∀ s ∈ a, s.client < x.client) (hb : ∀ s ∈ b, x.client < s.client) : setS x false (a ++ b) = a ++ x :: b := by
 induction a with
 | nil =>
  cases b with
  | nil => rfl
  | cons s b =>
   have h1 := hb s (by simp)
   rw [List.nil_append, setS, if_pos ⟨rfl, by omega⟩, if_neg (by omega), setS_past (fun t ht => hb t (by simp [ht]))]
   rfl
 | cons s a ih =>
  have h1 := ha s (by simp)
  rw [List.cons_append, setS, if_neg (by omega), if_neg (by omega), ih (fun t ht => ha t (by simp [ht]))]
  rfl
theorem setS_old (x y : ASess) (a b : List ASess) (hy : y.client = x.client) (ha : ∀ s ∈ a, s.client < x.client) (hb : ∀ s ∈ b, x.client < s.client) : setS x false (a ++ y :: b) = a ++ x :: b := by
 induction a with
 | nil => rw [List.nil_append, setS, if_pos ⟨rfl, by omega⟩, if_pos hy, setS_past hb]; rfl
 | cons s a ih =>
  have h1 := ha s (by simp)
  rw [List.cons_append, setS, if_neg (by omega), if_neg (by omega), ih (fun t ht => ha t (by simp [ht]))]
  rfl
/-- Where a client stands in sessions in order. -/
theorem splitS {l : List ASess} (h : SrtS l) (k : Int) : ∃ a b, l = a ++ b ∧ (∀ s ∈ a, s.client < k) ∧ ((∀ s ∈ b, k < s.client) ∨ ∃ y b', b = y :: b' ∧ y.client = k ∧ ∀ s ∈ b', k < s.client) := by
 induction l with
 | nil => exact ⟨[], [], rfl, by simp, .inl (by simp)⟩
 | cons s l ih =>
  obtain ⟨h1, h2⟩ := List.pairwise_cons.1 h
  by_cases hs : s.client < k
  ·
   obtain ⟨a, b, rfl, h3, h4⟩ := ih h2
   refine ⟨s :: a, b, rfl, fun t ht => ?_, h4⟩
   rcases List.mem_cons.1 ht with rfl | ht
   ·
    exact hs
   ·
    exact h3 t ht
  ·
   refine ⟨[], s :: l, rfl, by simp, ?_⟩
   by_cases he : s.client = k
   ·
    exact .inr ⟨s, l, rfl, he, fun t ht => by have := h1 t ht; omega⟩
   ·
    refine .inl fun t ht => ?_
    rcases List.mem_cons.1 ht with rfl | ht
    ·
     omega
    ·
     have := h1 t ht; omega
end Go.Proofs.YtbclnghbgoblcaaGreat
