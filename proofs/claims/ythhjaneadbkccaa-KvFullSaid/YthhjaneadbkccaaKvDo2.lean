/-
  The contract of kv.do, what is thrown; and whole. Conditions: as each theorem names them.
-/
import Derived.Test.YthhjaneadbkccaaKvDo
namespace Go.Proofs.Ythhjaneadbkccaa
set_option linter.unusedSimpArgs false
open Go.RowKit

set_option maxRecDepth 100000 in
set_option maxHeartbeats 4000000 in
theorem do_other_k (w : World) (v : Value) (l : List APair) (c : ACmd) (hO : Own w v l) (x : AVal) (hx : getP l c.key = x) (hk : c.kind = 4) (he : eqVal x c.old = false) :
    Calls Try.prog 35 #[v, .agg #[.int .i64 c.kind, .string c.key, .int .i64 c.old.kind, .float .f64 c.old.num, .string c.old.text, .int .i64 c.val.kind, .float .f64 c.val.num, .string c.val.text]] w (DoK w v (l, ⟨9, x⟩)) := by
  have d2 : (c.kind == 2) = false := by simp [hk]
  have d3 : (c.kind == 3) = false := by simp [hk]
  have d4 : (c.kind == 4) = true := by simp [hk]
  clear hk
  have hlo : ∀ g, v.ownBlock = some g → g < w.heap.size := fun g hg => (hO.1.lt g hg).2
  go_enter Try.func35, Try.ntmps35
  go_wp2_with fail
  obtain ⟨W0, hW0⟩ : ∃ W0, W0 = (w.alloc (.cells #[.int .i64 c.kind, .string c.key, .int .i64 c.old.kind, .float .f64 c.old.num, .string c.old.text, .int .i64 c.val.kind, .float .f64 c.val.num, .string c.val.text] 27)).alloc (.cells #[.int .i64 0, .int .i64 0, .float .f64 0, .string ⟨#[]⟩] 33) := ⟨_, rfl⟩
  obtain ⟨b3, hb3⟩ : ∃ b3, b3 = w.heap.size := ⟨_, rfl⟩
  obtain ⟨hB3, hB5, hZ0⟩ := two_new w (.cells #[.int .i64 c.kind, .string c.key, .int .i64 c.old.kind, .float .f64 c.old.num, .string c.old.text, .int .i64 c.val.kind, .float .f64 c.val.num, .string c.val.text] 27) (.cells #[.int .i64 0, .int .i64 0, .float .f64 0, .string ⟨#[]⟩] 33)
  have hE : Ext w W0 := by rw [hW0]; exact ((Mod.refl _ w).alloc _).alloc _
  rw [← hW0, ← hb3] at hB3 hB5 hZ0 ⊢
  have hZ : w.heap.size ≤ b3 := Nat.le_of_eq hb3.symm
  have hO0 := hO.mod hE (fun _ _ => id)
  clear hW0 hb3
  refine (kv_get W0 _ v l c.key hO0.prs).mono ?_
  rintro e w1 ⟨rfl, hE1⟩
  rw [hx]
  have hs1 := hE1.size
  have k1 : w1.cell? ⟨b3, 1, none⟩ = some (.string c.key) := hE1.cell (blk_cell hB3 rfl) id
  have k0 : w1.cell? ⟨b3, 0, none⟩ = some (.int .i64 c.kind) := hE1.cell (blk_cell hB3 rfl) id
  have hb3w : b3 < w1.heap.size := by omega
  go_upto_block 0 with fail
  obtain ⟨W2, hW2⟩ : ∃ W2, W2 = (w1.alloc (.cells #[.int .i64 x.kind, .float .f64 x.num, .string x.text] 25)).alloc (.cells #[.int .i64 0, .int .i64 x.kind, .float .f64 x.num, .string x.text] 33) := ⟨_, rfl⟩
  obtain ⟨hBr, hBq, hZ2⟩ := two_new w1 (.cells #[.int .i64 x.kind, .float .f64 x.num, .string x.text] 25) (.cells #[.int .i64 0, .int .i64 x.kind, .float .f64 x.num, .string x.text] 33)
  have hE2 : Ext w1 W2 := by rw [hW2]; exact ((Mod.refl _ w1).alloc _).alloc _
  rw [← hW2] at hBr hBq hZ2 ⊢
  obtain ⟨r, hr⟩ : ∃ r, r = w1.heap.size := ⟨_, rfl⟩
  rw [← hr] at hBr hBq ⊢
  have hH : DoH w v c b3 r (r + 1) l x W2 := ⟨hO0.mod (hE1.ext hE2) (fun _ _ => id), (hE1.ext hE2).blk hB3 id, (hE1.ext hE2).blk hB5 id, hBr, hBq, hZ, by omega, by omega, hlo, hE.ext (hE1.ext hE2)⟩
  have HH := Lib.hid hH
  clear k0 k1 hb3w hW2 hr hBr hBq hZ2 hE2 hE1 hs1 hO0 hB3 hB5 hZ0 hE hx
  have k0 : W2.cell? ⟨b3, 0, none⟩ = some _ := blk_cell hH.b3 rfl
  have k1 : W2.cell? ⟨b3, 1, none⟩ = some _ := blk_cell hH.b3 rfl
  have k2 : W2.cell? ⟨b3, 2, none⟩ = some _ := blk_cell hH.b3 rfl
  have k3 : W2.cell? ⟨b3, 3, none⟩ = some _ := blk_cell hH.b3 rfl
  have k4 : W2.cell? ⟨b3, 4, none⟩ = some _ := blk_cell hH.b3 rfl
  have k5 : W2.cell? ⟨b3, 5, none⟩ = some _ := blk_cell hH.b3 rfl
  have k6 : W2.cell? ⟨b3, 6, none⟩ = some _ := blk_cell hH.b3 rfl
  have k7 : W2.cell? ⟨b3, 7, none⟩ = some _ := blk_cell hH.b3 rfl
  have g0 : W2.cell? ⟨b3 + 1, 0, none⟩ = some _ := blk_cell hH.b5 rfl
  have g1 : W2.cell? ⟨b3 + 1, 1, none⟩ = some _ := blk_cell hH.b5 rfl
  have g2 : W2.cell? ⟨b3 + 1, 2, none⟩ = some _ := blk_cell hH.b5 rfl
  have g3 : W2.cell? ⟨b3 + 1, 3, none⟩ = some _ := blk_cell hH.b5 rfl
  have f0 : W2.frozen? ⟨b3 + 1, 0, none⟩ = false := blk_free 0 hH.b5
  have f1 : W2.frozen? ⟨b3 + 1, 1, none⟩ = false := blk_free 1 hH.b5
  have f2 : W2.frozen? ⟨b3 + 1, 2, none⟩ = false := blk_free 2 hH.b5
  have f3 : W2.frozen? ⟨b3 + 1, 3, none⟩ = false := blk_free 3 hH.b5
  have r0 : W2.cell? ⟨r, 0, none⟩ = some _ := blk_cell hH.br rfl
  have r1 : W2.cell? ⟨r, 1, none⟩ = some _ := blk_cell hH.br rfl
  have r2 : W2.cell? ⟨r, 2, none⟩ = some _ := blk_cell hH.br rfl
  have q0 : W2.cell? ⟨r + 1, 0, none⟩ = some _ := blk_cell hH.bq rfl
  have q1 : W2.cell? ⟨r + 1, 1, none⟩ = some _ := blk_cell hH.bq rfl
  have q2 : W2.cell? ⟨r + 1, 2, none⟩ = some _ := blk_cell hH.bq rfl
  have q3 : W2.cell? ⟨r + 1, 3, none⟩ = some _ := blk_cell hH.bq rfl
  have p0 : W2.frozen? ⟨r + 1, 0, none⟩ = false := blk_free 0 hH.bq
  have p1 : W2.frozen? ⟨r + 1, 1, none⟩ = false := blk_free 1 hH.bq
  have p2 : W2.frozen? ⟨r + 1, 2, none⟩ = false := blk_free 2 hH.bq
  have p3 : W2.frozen? ⟨r + 1, 3, none⟩ = false := blk_free 3 hH.bq
  clear hH
  go_wp2_with fail
  refine (v_same x c.old _).mono ?_
  rintro e w4 ⟨rfl, hE4⟩
  have hH4 := HH.out.mod hE4
  rw [he]
  clear k0 k1 k2 k3 k4 k5 k6 k7 g0 g1 g2 g3 f0 f1 f2 f3 q0 q1 q2 q3 p0 p1 p2 p3 r0 r1 r2
  clear hE4 he
  have ak0 : w4.cell? ⟨b3, 0, none⟩ = some _ := blk_cell hH4.b3 rfl
  have ak1 : w4.cell? ⟨b3, 1, none⟩ = some _ := blk_cell hH4.b3 rfl
  have ak2 : w4.cell? ⟨b3, 2, none⟩ = some _ := blk_cell hH4.b3 rfl
  have ak3 : w4.cell? ⟨b3, 3, none⟩ = some _ := blk_cell hH4.b3 rfl
  have ak4 : w4.cell? ⟨b3, 4, none⟩ = some _ := blk_cell hH4.b3 rfl
  have ak5 : w4.cell? ⟨b3, 5, none⟩ = some _ := blk_cell hH4.b3 rfl
  have ak6 : w4.cell? ⟨b3, 6, none⟩ = some _ := blk_cell hH4.b3 rfl
  have ak7 : w4.cell? ⟨b3, 7, none⟩ = some _ := blk_cell hH4.b3 rfl
  have ag0 : w4.cell? ⟨b3 + 1, 0, none⟩ = some _ := blk_cell hH4.b5 rfl
  have ag1 : w4.cell? ⟨b3 + 1, 1, none⟩ = some _ := blk_cell hH4.b5 rfl
  have ag2 : w4.cell? ⟨b3 + 1, 2, none⟩ = some _ := blk_cell hH4.b5 rfl
  have ag3 : w4.cell? ⟨b3 + 1, 3, none⟩ = some _ := blk_cell hH4.b5 rfl
  have af0 : w4.frozen? ⟨b3 + 1, 0, none⟩ = false := blk_free 0 hH4.b5
  have af1 : w4.frozen? ⟨b3 + 1, 1, none⟩ = false := blk_free 1 hH4.b5
  have af2 : w4.frozen? ⟨b3 + 1, 2, none⟩ = false := blk_free 2 hH4.b5
  have af3 : w4.frozen? ⟨b3 + 1, 3, none⟩ = false := blk_free 3 hH4.b5
  have ar0 : w4.cell? ⟨r, 0, none⟩ = some _ := blk_cell hH4.br rfl
  have ar1 : w4.cell? ⟨r, 1, none⟩ = some _ := blk_cell hH4.br rfl
  have ar2 : w4.cell? ⟨r, 2, none⟩ = some _ := blk_cell hH4.br rfl
  have aq0 : w4.cell? ⟨r + 1, 0, none⟩ = some _ := blk_cell hH4.bq rfl
  have aq1 : w4.cell? ⟨r + 1, 1, none⟩ = some _ := blk_cell hH4.bq rfl
  have aq2 : w4.cell? ⟨r + 1, 2, none⟩ = some _ := blk_cell hH4.bq rfl
  have aq3 : w4.cell? ⟨r + 1, 3, none⟩ = some _ := blk_cell hH4.bq rfl
  have ap0 : w4.frozen? ⟨r + 1, 0, none⟩ = false := blk_free 0 hH4.bq
  have ap1 : w4.frozen? ⟨r + 1, 1, none⟩ = false := blk_free 1 hH4.bq
  have ap2 : w4.frozen? ⟨r + 1, 2, none⟩ = false := blk_free 2 hH4.bq
  have ap3 : w4.frozen? ⟨r + 1, 3, none⟩ = false := blk_free 3 hH4.bq
  have HH4 := Lib.hid hH4
  clear hH4
  go_wp2
  exact ⟨rfl, Ext.mod HH4.out.ext _, .inr ⟨show (9 : Int) ≠ 0 by decide, rfl⟩⟩

set_option maxRecDepth 100000 in
set_option maxHeartbeats 4000000 in
theorem do_type_k (w : World) (v : Value) (l : List APair) (c : ACmd) (hO : Own w v l) (x : AVal) (hx : getP l c.key = x) (hk : c.kind = 5 ∨ c.kind = 6) (hxn : x.num < 18446744073709551616) (hvn : c.val.num < 18446744073709551616) (z : AVal) (n : Int) (hj : joinV (c.kind == 5) x c.val = (z, n)) (hn : n ≠ 0) :
    Calls Try.prog 35 #[v, .agg #[.int .i64 c.kind, .string c.key, .int .i64 c.old.kind, .float .f64 c.old.num, .string c.old.text, .int .i64 c.val.kind, .float .f64 c.val.num, .string c.val.text]] w (DoK w v (l, ⟨n, AVal.zero⟩)) := by
  rcases hk with hk | hk
  · have d2 : (c.kind == 2) = false := by simp [hk]
    have d3 : (c.kind == 3) = false := by simp [hk]
    have d4 : (c.kind == 4) = false := by simp [hk]
    have d5 : (c.kind == 5) = true := by simp [hk]
    rw [d5] at hj
    have HJ := Lib.hid hj
    have Hn := Lib.hid hn
    clear hk hj hn
    have hlo : ∀ g, v.ownBlock = some g → g < w.heap.size := fun g hg => (hO.1.lt g hg).2
    go_enter Try.func35, Try.ntmps35
    go_wp2_with fail
    obtain ⟨W0, hW0⟩ : ∃ W0, W0 = (w.alloc (.cells #[.int .i64 c.kind, .string c.key, .int .i64 c.old.kind, .float .f64 c.old.num, .string c.old.text, .int .i64 c.val.kind, .float .f64 c.val.num, .string c.val.text] 27)).alloc (.cells #[.int .i64 0, .int .i64 0, .float .f64 0, .string ⟨#[]⟩] 33) := ⟨_, rfl⟩
    obtain ⟨b3, hb3⟩ : ∃ b3, b3 = w.heap.size := ⟨_, rfl⟩
    obtain ⟨hB3, hB5, hZ0⟩ := two_new w (.cells #[.int .i64 c.kind, .string c.key, .int .i64 c.old.kind, .float .f64 c.old.num, .string c.old.text, .int .i64 c.val.kind, .float .f64 c.val.num, .string c.val.text] 27) (.cells #[.int .i64 0, .int .i64 0, .float .f64 0, .string ⟨#[]⟩] 33)
    have hE : Ext w W0 := by rw [hW0]; exact ((Mod.refl _ w).alloc _).alloc _
    rw [← hW0, ← hb3] at hB3 hB5 hZ0 ⊢
    have hZ : w.heap.size ≤ b3 := Nat.le_of_eq hb3.symm
    have hO0 := hO.mod hE (fun _ _ => id)
    clear hW0 hb3
    refine (kv_get W0 _ v l c.key hO0.prs).mono ?_
    rintro e w1 ⟨rfl, hE1⟩
    rw [hx]
    have hs1 := hE1.size
    have k1 : w1.cell? ⟨b3, 1, none⟩ = some (.string c.key) := hE1.cell (blk_cell hB3 rfl) id
    have k0 : w1.cell? ⟨b3, 0, none⟩ = some (.int .i64 c.kind) := hE1.cell (blk_cell hB3 rfl) id
    have hb3w : b3 < w1.heap.size := by omega
    go_upto_block 0 with fail
    obtain ⟨W2, hW2⟩ : ∃ W2, W2 = (w1.alloc (.cells #[.int .i64 x.kind, .float .f64 x.num, .string x.text] 25)).alloc (.cells #[.int .i64 0, .int .i64 x.kind, .float .f64 x.num, .string x.text] 33) := ⟨_, rfl⟩
    obtain ⟨hBr, hBq, hZ2⟩ := two_new w1 (.cells #[.int .i64 x.kind, .float .f64 x.num, .string x.text] 25) (.cells #[.int .i64 0, .int .i64 x.kind, .float .f64 x.num, .string x.text] 33)
    have hE2 : Ext w1 W2 := by rw [hW2]; exact ((Mod.refl _ w1).alloc _).alloc _
    rw [← hW2] at hBr hBq hZ2 ⊢
    obtain ⟨r, hr⟩ : ∃ r, r = w1.heap.size := ⟨_, rfl⟩
    rw [← hr] at hBr hBq ⊢
    have hH : DoH w v c b3 r (r + 1) l x W2 := ⟨hO0.mod (hE1.ext hE2) (fun _ _ => id), (hE1.ext hE2).blk hB3 id, (hE1.ext hE2).blk hB5 id, hBr, hBq, hZ, by omega, by omega, hlo, hE.ext (hE1.ext hE2)⟩
    have HH := Lib.hid hH
    clear k0 k1 hb3w hW2 hr hBr hBq hZ2 hE2 hE1 hs1 hO0 hB3 hB5 hZ0 hE hx
    have k0 : W2.cell? ⟨b3, 0, none⟩ = some _ := blk_cell hH.b3 rfl
    have k1 : W2.cell? ⟨b3, 1, none⟩ = some _ := blk_cell hH.b3 rfl
    have k2 : W2.cell? ⟨b3, 2, none⟩ = some _ := blk_cell hH.b3 rfl
    have k3 : W2.cell? ⟨b3, 3, none⟩ = some _ := blk_cell hH.b3 rfl
    have k4 : W2.cell? ⟨b3, 4, none⟩ = some _ := blk_cell hH.b3 rfl
    have k5 : W2.cell? ⟨b3, 5, none⟩ = some _ := blk_cell hH.b3 rfl
    have k6 : W2.cell? ⟨b3, 6, none⟩ = some _ := blk_cell hH.b3 rfl
    have k7 : W2.cell? ⟨b3, 7, none⟩ = some _ := blk_cell hH.b3 rfl
    have g0 : W2.cell? ⟨b3 + 1, 0, none⟩ = some _ := blk_cell hH.b5 rfl
    have g1 : W2.cell? ⟨b3 + 1, 1, none⟩ = some _ := blk_cell hH.b5 rfl
    have g2 : W2.cell? ⟨b3 + 1, 2, none⟩ = some _ := blk_cell hH.b5 rfl
    have g3 : W2.cell? ⟨b3 + 1, 3, none⟩ = some _ := blk_cell hH.b5 rfl
    have f0 : W2.frozen? ⟨b3 + 1, 0, none⟩ = false := blk_free 0 hH.b5
    have f1 : W2.frozen? ⟨b3 + 1, 1, none⟩ = false := blk_free 1 hH.b5
    have f2 : W2.frozen? ⟨b3 + 1, 2, none⟩ = false := blk_free 2 hH.b5
    have f3 : W2.frozen? ⟨b3 + 1, 3, none⟩ = false := blk_free 3 hH.b5
    have r0 : W2.cell? ⟨r, 0, none⟩ = some _ := blk_cell hH.br rfl
    have r1 : W2.cell? ⟨r, 1, none⟩ = some _ := blk_cell hH.br rfl
    have r2 : W2.cell? ⟨r, 2, none⟩ = some _ := blk_cell hH.br rfl
    have q0 : W2.cell? ⟨r + 1, 0, none⟩ = some _ := blk_cell hH.bq rfl
    have q1 : W2.cell? ⟨r + 1, 1, none⟩ = some _ := blk_cell hH.bq rfl
    have q2 : W2.cell? ⟨r + 1, 2, none⟩ = some _ := blk_cell hH.bq rfl
    have q3 : W2.cell? ⟨r + 1, 3, none⟩ = some _ := blk_cell hH.bq rfl
    have p0 : W2.frozen? ⟨r + 1, 0, none⟩ = false := blk_free 0 hH.bq
    have p1 : W2.frozen? ⟨r + 1, 1, none⟩ = false := blk_free 1 hH.bq
    have p2 : W2.frozen? ⟨r + 1, 2, none⟩ = false := blk_free 2 hH.bq
    have p3 : W2.frozen? ⟨r + 1, 3, none⟩ = false := blk_free 3 hH.bq
    clear hH
    go_wp2_with fail
    refine (v_add x c.val _).mono ?_
    rintro e w4 ⟨rfl, hE4⟩
    rw [HJ.out]
    have hH4 := HH.out.mod hE4
    clear k0 k1 k2 k3 k4 k5 k6 k7 g0 g1 g2 g3 f0 f1 f2 f3 q0 q1 q2 q3 p0 p1 p2 p3 r0 r1 r2
    clear hE4
    have ak0 : w4.cell? ⟨b3, 0, none⟩ = some _ := blk_cell hH4.b3 rfl
    have ak1 : w4.cell? ⟨b3, 1, none⟩ = some _ := blk_cell hH4.b3 rfl
    have ak2 : w4.cell? ⟨b3, 2, none⟩ = some _ := blk_cell hH4.b3 rfl
    have ak3 : w4.cell? ⟨b3, 3, none⟩ = some _ := blk_cell hH4.b3 rfl
    have ak4 : w4.cell? ⟨b3, 4, none⟩ = some _ := blk_cell hH4.b3 rfl
    have ak5 : w4.cell? ⟨b3, 5, none⟩ = some _ := blk_cell hH4.b3 rfl
    have ak6 : w4.cell? ⟨b3, 6, none⟩ = some _ := blk_cell hH4.b3 rfl
    have ak7 : w4.cell? ⟨b3, 7, none⟩ = some _ := blk_cell hH4.b3 rfl
    have ag0 : w4.cell? ⟨b3 + 1, 0, none⟩ = some _ := blk_cell hH4.b5 rfl
    have ag1 : w4.cell? ⟨b3 + 1, 1, none⟩ = some _ := blk_cell hH4.b5 rfl
    have ag2 : w4.cell? ⟨b3 + 1, 2, none⟩ = some _ := blk_cell hH4.b5 rfl
    have ag3 : w4.cell? ⟨b3 + 1, 3, none⟩ = some _ := blk_cell hH4.b5 rfl
    have af0 : w4.frozen? ⟨b3 + 1, 0, none⟩ = false := blk_free 0 hH4.b5
    have af1 : w4.frozen? ⟨b3 + 1, 1, none⟩ = false := blk_free 1 hH4.b5
    have af2 : w4.frozen? ⟨b3 + 1, 2, none⟩ = false := blk_free 2 hH4.b5
    have af3 : w4.frozen? ⟨b3 + 1, 3, none⟩ = false := blk_free 3 hH4.b5
    have ar0 : w4.cell? ⟨r, 0, none⟩ = some _ := blk_cell hH4.br rfl
    have ar1 : w4.cell? ⟨r, 1, none⟩ = some _ := blk_cell hH4.br rfl
    have ar2 : w4.cell? ⟨r, 2, none⟩ = some _ := blk_cell hH4.br rfl
    have aq0 : w4.cell? ⟨r + 1, 0, none⟩ = some _ := blk_cell hH4.bq rfl
    have aq1 : w4.cell? ⟨r + 1, 1, none⟩ = some _ := blk_cell hH4.bq rfl
    have aq2 : w4.cell? ⟨r + 1, 2, none⟩ = some _ := blk_cell hH4.bq rfl
    have aq3 : w4.cell? ⟨r + 1, 3, none⟩ = some _ := blk_cell hH4.bq rfl
    have ap0 : w4.frozen? ⟨r + 1, 0, none⟩ = false := blk_free 0 hH4.bq
    have ap1 : w4.frozen? ⟨r + 1, 1, none⟩ = false := blk_free 1 hH4.bq
    have ap2 : w4.frozen? ⟨r + 1, 2, none⟩ = false := blk_free 2 hH4.bq
    have ap3 : w4.frozen? ⟨r + 1, 3, none⟩ = false := blk_free 3 hH4.bq
    have HH4 := Lib.hid hH4
    clear hH4
    go_wp2_with fail
    refine (kv_throw n Hn.out _).mono ?_
    rintro e w5 ⟨rfl, rfl⟩
    exact ⟨rfl, HH4.out.telld z, .inr ⟨Hn.out, rfl⟩⟩
  · have d2 : (c.kind == 2) = false := by simp [hk]
    have d3 : (c.kind == 3) = false := by simp [hk]
    have d4 : (c.kind == 4) = false := by simp [hk]
    have d5 : (c.kind == 5) = false := by simp [hk]
    have d6 : (c.kind == 6) = true := by simp [hk]
    rw [d5] at hj
    have HJ := Lib.hid hj
    have Hn := Lib.hid hn
    clear hk hj hn
    have hlo : ∀ g, v.ownBlock = some g → g < w.heap.size := fun g hg => (hO.1.lt g hg).2
    go_enter Try.func35, Try.ntmps35
    go_wp2_with fail
    obtain ⟨W0, hW0⟩ : ∃ W0, W0 = (w.alloc (.cells #[.int .i64 c.kind, .string c.key, .int .i64 c.old.kind, .float .f64 c.old.num, .string c.old.text, .int .i64 c.val.kind, .float .f64 c.val.num, .string c.val.text] 27)).alloc (.cells #[.int .i64 0, .int .i64 0, .float .f64 0, .string ⟨#[]⟩] 33) := ⟨_, rfl⟩
    obtain ⟨b3, hb3⟩ : ∃ b3, b3 = w.heap.size := ⟨_, rfl⟩
    obtain ⟨hB3, hB5, hZ0⟩ := two_new w (.cells #[.int .i64 c.kind, .string c.key, .int .i64 c.old.kind, .float .f64 c.old.num, .string c.old.text, .int .i64 c.val.kind, .float .f64 c.val.num, .string c.val.text] 27) (.cells #[.int .i64 0, .int .i64 0, .float .f64 0, .string ⟨#[]⟩] 33)
    have hE : Ext w W0 := by rw [hW0]; exact ((Mod.refl _ w).alloc _).alloc _
    rw [← hW0, ← hb3] at hB3 hB5 hZ0 ⊢
    have hZ : w.heap.size ≤ b3 := Nat.le_of_eq hb3.symm
    have hO0 := hO.mod hE (fun _ _ => id)
    clear hW0 hb3
    refine (kv_get W0 _ v l c.key hO0.prs).mono ?_
    rintro e w1 ⟨rfl, hE1⟩
    rw [hx]
    have hs1 := hE1.size
    have k1 : w1.cell? ⟨b3, 1, none⟩ = some (.string c.key) := hE1.cell (blk_cell hB3 rfl) id
    have k0 : w1.cell? ⟨b3, 0, none⟩ = some (.int .i64 c.kind) := hE1.cell (blk_cell hB3 rfl) id
    have hb3w : b3 < w1.heap.size := by omega
    go_upto_block 0 with fail
    obtain ⟨W2, hW2⟩ : ∃ W2, W2 = (w1.alloc (.cells #[.int .i64 x.kind, .float .f64 x.num, .string x.text] 25)).alloc (.cells #[.int .i64 0, .int .i64 x.kind, .float .f64 x.num, .string x.text] 33) := ⟨_, rfl⟩
    obtain ⟨hBr, hBq, hZ2⟩ := two_new w1 (.cells #[.int .i64 x.kind, .float .f64 x.num, .string x.text] 25) (.cells #[.int .i64 0, .int .i64 x.kind, .float .f64 x.num, .string x.text] 33)
    have hE2 : Ext w1 W2 := by rw [hW2]; exact ((Mod.refl _ w1).alloc _).alloc _
    rw [← hW2] at hBr hBq hZ2 ⊢
    obtain ⟨r, hr⟩ : ∃ r, r = w1.heap.size := ⟨_, rfl⟩
    rw [← hr] at hBr hBq ⊢
    have hH : DoH w v c b3 r (r + 1) l x W2 := ⟨hO0.mod (hE1.ext hE2) (fun _ _ => id), (hE1.ext hE2).blk hB3 id, (hE1.ext hE2).blk hB5 id, hBr, hBq, hZ, by omega, by omega, hlo, hE.ext (hE1.ext hE2)⟩
    have HH := Lib.hid hH
    clear k0 k1 hb3w hW2 hr hBr hBq hZ2 hE2 hE1 hs1 hO0 hB3 hB5 hZ0 hE hx
    have k0 : W2.cell? ⟨b3, 0, none⟩ = some _ := blk_cell hH.b3 rfl
    have k1 : W2.cell? ⟨b3, 1, none⟩ = some _ := blk_cell hH.b3 rfl
    have k2 : W2.cell? ⟨b3, 2, none⟩ = some _ := blk_cell hH.b3 rfl
    have k3 : W2.cell? ⟨b3, 3, none⟩ = some _ := blk_cell hH.b3 rfl
    have k4 : W2.cell? ⟨b3, 4, none⟩ = some _ := blk_cell hH.b3 rfl
    have k5 : W2.cell? ⟨b3, 5, none⟩ = some _ := blk_cell hH.b3 rfl
    have k6 : W2.cell? ⟨b3, 6, none⟩ = some _ := blk_cell hH.b3 rfl
    have k7 : W2.cell? ⟨b3, 7, none⟩ = some _ := blk_cell hH.b3 rfl
    have g0 : W2.cell? ⟨b3 + 1, 0, none⟩ = some _ := blk_cell hH.b5 rfl
    have g1 : W2.cell? ⟨b3 + 1, 1, none⟩ = some _ := blk_cell hH.b5 rfl
    have g2 : W2.cell? ⟨b3 + 1, 2, none⟩ = some _ := blk_cell hH.b5 rfl
    have g3 : W2.cell? ⟨b3 + 1, 3, none⟩ = some _ := blk_cell hH.b5 rfl
    have f0 : W2.frozen? ⟨b3 + 1, 0, none⟩ = false := blk_free 0 hH.b5
    have f1 : W2.frozen? ⟨b3 + 1, 1, none⟩ = false := blk_free 1 hH.b5
    have f2 : W2.frozen? ⟨b3 + 1, 2, none⟩ = false := blk_free 2 hH.b5
    have f3 : W2.frozen? ⟨b3 + 1, 3, none⟩ = false := blk_free 3 hH.b5
    have r0 : W2.cell? ⟨r, 0, none⟩ = some _ := blk_cell hH.br rfl
    have r1 : W2.cell? ⟨r, 1, none⟩ = some _ := blk_cell hH.br rfl
    have r2 : W2.cell? ⟨r, 2, none⟩ = some _ := blk_cell hH.br rfl
    have q0 : W2.cell? ⟨r + 1, 0, none⟩ = some _ := blk_cell hH.bq rfl
    have q1 : W2.cell? ⟨r + 1, 1, none⟩ = some _ := blk_cell hH.bq rfl
    have q2 : W2.cell? ⟨r + 1, 2, none⟩ = some _ := blk_cell hH.bq rfl
    have q3 : W2.cell? ⟨r + 1, 3, none⟩ = some _ := blk_cell hH.bq rfl
    have p0 : W2.frozen? ⟨r + 1, 0, none⟩ = false := blk_free 0 hH.bq
    have p1 : W2.frozen? ⟨r + 1, 1, none⟩ = false := blk_free 1 hH.bq
    have p2 : W2.frozen? ⟨r + 1, 2, none⟩ = false := blk_free 2 hH.bq
    have p3 : W2.frozen? ⟨r + 1, 3, none⟩ = false := blk_free 3 hH.bq
    clear hH
    go_wp2_with fail
    refine (v_max x c.val hxn hvn _).mono ?_
    rintro e w4 ⟨rfl, hE4⟩
    rw [HJ.out]
    have hH4 := HH.out.mod hE4
    clear k0 k1 k2 k3 k4 k5 k6 k7 g0 g1 g2 g3 f0 f1 f2 f3 q0 q1 q2 q3 p0 p1 p2 p3 r0 r1 r2
    clear hE4
    have ak0 : w4.cell? ⟨b3, 0, none⟩ = some _ := blk_cell hH4.b3 rfl
    have ak1 : w4.cell? ⟨b3, 1, none⟩ = some _ := blk_cell hH4.b3 rfl
    have ak2 : w4.cell? ⟨b3, 2, none⟩ = some _ := blk_cell hH4.b3 rfl
    have ak3 : w4.cell? ⟨b3, 3, none⟩ = some _ := blk_cell hH4.b3 rfl
    have ak4 : w4.cell? ⟨b3, 4, none⟩ = some _ := blk_cell hH4.b3 rfl
    have ak5 : w4.cell? ⟨b3, 5, none⟩ = some _ := blk_cell hH4.b3 rfl
    have ak6 : w4.cell? ⟨b3, 6, none⟩ = some _ := blk_cell hH4.b3 rfl
    have ak7 : w4.cell? ⟨b3, 7, none⟩ = some _ := blk_cell hH4.b3 rfl
    have ag0 : w4.cell? ⟨b3 + 1, 0, none⟩ = some _ := blk_cell hH4.b5 rfl
    have ag1 : w4.cell? ⟨b3 + 1, 1, none⟩ = some _ := blk_cell hH4.b5 rfl
    have ag2 : w4.cell? ⟨b3 + 1, 2, none⟩ = some _ := blk_cell hH4.b5 rfl
    have ag3 : w4.cell? ⟨b3 + 1, 3, none⟩ = some _ := blk_cell hH4.b5 rfl
    have af0 : w4.frozen? ⟨b3 + 1, 0, none⟩ = false := blk_free 0 hH4.b5
    have af1 : w4.frozen? ⟨b3 + 1, 1, none⟩ = false := blk_free 1 hH4.b5
    have af2 : w4.frozen? ⟨b3 + 1, 2, none⟩ = false := blk_free 2 hH4.b5
    have af3 : w4.frozen? ⟨b3 + 1, 3, none⟩ = false := blk_free 3 hH4.b5
    have ar0 : w4.cell? ⟨r, 0, none⟩ = some _ := blk_cell hH4.br rfl
    have ar1 : w4.cell? ⟨r, 1, none⟩ = some _ := blk_cell hH4.br rfl
    have ar2 : w4.cell? ⟨r, 2, none⟩ = some _ := blk_cell hH4.br rfl
    have aq0 : w4.cell? ⟨r + 1, 0, none⟩ = some _ := blk_cell hH4.bq rfl
    have aq1 : w4.cell? ⟨r + 1, 1, none⟩ = some _ := blk_cell hH4.bq rfl
    have aq2 : w4.cell? ⟨r + 1, 2, none⟩ = some _ := blk_cell hH4.bq rfl
    have aq3 : w4.cell? ⟨r + 1, 3, none⟩ = some _ := blk_cell hH4.bq rfl
    have ap0 : w4.frozen? ⟨r + 1, 0, none⟩ = false := blk_free 0 hH4.bq
    have ap1 : w4.frozen? ⟨r + 1, 1, none⟩ = false := blk_free 1 hH4.bq
    have ap2 : w4.frozen? ⟨r + 1, 2, none⟩ = false := blk_free 2 hH4.bq
    have ap3 : w4.frozen? ⟨r + 1, 3, none⟩ = false := blk_free 3 hH4.bq
    have HH4 := Lib.hid hH4
    clear hH4
    go_wp2_with fail
    refine (kv_throw n Hn.out _).mono ?_
    rintro e w5 ⟨rfl, rfl⟩
    exact ⟨rfl, HH4.out.telld z, .inr ⟨Hn.out, rfl⟩⟩

/-- kv.do is doP, where the command and the pairs are right. -/
theorem kv_do (w : World) (v : Value) (l : List APair) (c : ACmd) (hO : Own w v l) (hc : cmdE c = 0) (hp : pairsB l = true) (hcv : c.val.ok) :
    Calls Try.prog 35 #[v, .agg #[.int .i64 c.kind, .string c.key, .int .i64 c.old.kind, .float .f64 c.old.num, .string c.old.text, .int .i64 c.val.kind, .float .f64 c.val.num, .string c.val.text]] w (DoK w v (doP l c)) := by
  obtain ⟨hk, hks, _, _, _, _⟩ := cmd_ok hc
  obtain ⟨hl, _, hs⟩ := (pairsB_iff l).1 hp
  have hxok := getP_ok hO.2 c.key
  by_cases h1 : c.kind = 1
  · rw [do_get1 hc hp h1]
    exact do_get_k w v l c hO _ rfl h1
  rw [do_eq hc hp h1]
  rcases hst : stepV (getP l c.key) c with ⟨e, y, t⟩
  simp only
  by_cases he : e = 0
  · subst he
    have hy := step_ok2 hxok hcv hst
    rw [if_neg (by simp)]
    split
    · rename_i h; exact do_step_k w v l c hO hs hl _ rfl (by unfold maxLen; omega) hcv hxok y t hy.1 (by omega) hst _ rfl _ _ (if_pos h)
    · rename_i h; exact do_step_k w v l c hO hs hl _ rfl (by unfold maxLen; omega) hcv hxok y t hy.1 (by omega) hst _ rfl _ _ (if_neg h)
  · rw [if_pos he]
    unfold stepV at hst
    split at hst
    · simp only [Prod.mk.injEq] at hst; exact absurd hst.1.symm he
    split at hst
    · simp only [Prod.mk.injEq] at hst; exact absurd hst.1.symm he
    split at hst
    · rename_i h4
      rcases hq : eqVal (getP l c.key) c.old with _ | _
      · rw [hq] at hst
        simp only [Bool.false_eq_true, if_false, Prod.mk.injEq] at hst
        rw [← hst.1, ← hst.2.2]
        exact do_other_k w v l c hO _ rfl h4 hq
      · rw [hq] at hst
        simp only [if_true, Prod.mk.injEq] at hst
        exact absurd hst.1.symm he
    · rename_i h2 h3 h4
      rcases hj : joinV (c.kind == 5) (getP l c.key) c.val with ⟨z, n⟩
      rw [hj] at hst
      simp only at hst
      split at hst
      · simp only [Prod.mk.injEq] at hst; exact absurd hst.1.symm he
      · rename_i hn
        simp only [Prod.mk.injEq] at hst
        rw [← hst.1, ← hst.2.2]
        exact do_type_k w v l c hO _ rfl (by omega) hxok.2.1 hcv.2.1 z n hj hn
end Go.Proofs.Ythhjaneadbkccaa
