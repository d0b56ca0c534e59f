/-
 The contract of the law's between, where what is found may be found (printed by stbbt.py). Conditions: as the theorem names them.
-/
import Derived.Test.YtjhnlncgmejkcaaGreatStbBp
import Derived.Test.YtjhnlncgmejkcaaGreatS26
import Derived.Test.YtjhnlncgmejkcaaGreatS25
import Derived.Test.YtjhnlncgmejkcaaGreatS9
namespace Go.Proofs.YtjhnlncgmejkcaaGreat
set_option linter.unusedSimpArgs false
open Go.RowKit

theorem three_hard (w : World) (o p q : Obj) : (((w.alloc o).alloc p).alloc q).heap[w.heap.size]? = some o ∧ (((w.alloc o).alloc p).alloc q).heap[w.heap.size + 1]? = some p ∧ (((w.alloc o).alloc p).alloc q).heap[w.heap.size + 2]? = some q := by
 obtain ⟨h1, h2, h3⟩ := two_new w o p
 refine ⟨?_, ?_, ?_⟩
 ·
  rw [Below.heap_alloc _ _ _ (by rw [h3]; omega)]; exact h1
 ·
  rw [Below.heap_alloc _ _ _ (by rw [h3]; omega)]; exact h2
 ·
  have := heap_alloc_new ((w.alloc o).alloc p) q; rw [h3] at this; exact this
/-- How long a list in a cell is. -/
def cellLen : Option Value → Nat
 | some (.slice _ n _) => n
 | _ => 0

set_option maxRecDepth 100000 in
set_option maxHeartbeats 4000000 in
theorem l_between (w : World) (Tx Tg Ty : Nat → Prop) (x g y : AHard) (sx lx : Value) (Gs : Option Addr) (gn gc : Nat) (Gl : Option Addr) (gm gd : Nat) (Ys : Option Addr) (yn yc : Nat) (Yl : Option Addr) (ym yd : Nat) (hx : HardM w Tx sx lx x) (hg : HardM w Tg (.slice Gs gn gc) (.slice Gl gm gd) g) (hgn : g.snap.length = gn) (hgm : g.log.length = gm) (hy : HardM w Ty (.slice Ys yn yc) (.slice Yl ym yd) y) (hyn : y.snap.length = yn) (hym : y.log.length = ym) (hf : Found g y x) (hh : Held g) (hgl : gm ≤ 100000) (hyl : ym ≤ 100000) :
  Calls Tryz.prog 32 #[.agg #[.int .i64 x.term, .int .i64 x.vote, .int .i64 x.base, .int .i64 x.baseTerm, .int .i64 x.conf.full, .int .i64 x.conf.wit, .int .i64 x.conf.learn, .int .i64 x.conf.learnWit, sx, lx], .agg #[.int .i64 g.term, .int .i64 g.vote, .int .i64 g.base, .int .i64 g.baseTerm, .int .i64 g.conf.full, .int .i64 g.conf.wit, .int .i64 g.conf.learn, .int .i64 g.conf.learnWit, .slice Gs gn gc, .slice Gl gm gd], .agg #[.int .i64 y.term, .int .i64 y.vote, .int .i64 y.base, .int .i64 y.baseTerm, .int .i64 y.conf.full, .int .i64 y.conf.wit, .int .i64 y.conf.learn, .int .i64 y.conf.learnWit, .slice Ys yn yc, .slice Yl ym yd]] w fun e w' => e = .returned (.bool true) ∧ Ext w w' := by
 obtain ⟨W, hW⟩ : ∃ W, W = ((w.alloc (.cells #[.int .i64 x.term, .int .i64 x.vote, .int .i64 x.base, .int .i64 x.baseTerm, .int .i64 x.conf.full, .int .i64 x.conf.wit, .int .i64 x.conf.learn, .int .i64 x.conf.learnWit, sx, lx] 34)).alloc (.cells #[.int .i64 g.term, .int .i64 g.vote, .int .i64 g.base, .int .i64 g.baseTerm, .int .i64 g.conf.full, .int .i64 g.conf.wit, .int .i64 g.conf.learn, .int .i64 g.conf.learnWit, .slice Gs gn gc, .slice Gl gm gd] 34)).alloc (.cells #[.int .i64 y.term, .int .i64 y.vote, .int .i64 y.base, .int .i64 y.baseTerm, .int .i64 y.conf.full, .int .i64 y.conf.wit, .int .i64 y.conf.learn, .int .i64 y.conf.learnWit, .slice Ys yn yc, .slice Yl ym yd] 34) := ⟨_, rfl⟩
 obtain ⟨hA, hB, hC⟩ := three_hard w (.cells #[.int .i64 x.term, .int .i64 x.vote, .int .i64 x.base, .int .i64 x.baseTerm, .int .i64 x.conf.full, .int .i64 x.conf.wit, .int .i64 x.conf.learn, .int .i64 x.conf.learnWit, sx, lx] 34) (.cells #[.int .i64 g.term, .int .i64 g.vote, .int .i64 g.base, .int .i64 g.baseTerm, .int .i64 g.conf.full, .int .i64 g.conf.wit, .int .i64 g.conf.learn, .int .i64 g.conf.learnWit, .slice Gs gn gc, .slice Gl gm gd] 34) (.cells #[.int .i64 y.term, .int .i64 y.vote, .int .i64 y.base, .int .i64 y.baseTerm, .int .i64 y.conf.full, .int .i64 y.conf.wit, .int .i64 y.conf.learn, .int .i64 y.conf.learnWit, .slice Ys yn yc, .slice Yl ym yd] 34)
 obtain ⟨b, hb⟩ : ∃ b, w.heap.size = b := ⟨_, rfl⟩
 rw [← hW, hb] at hA hB hC
 have hE : Ext w W := by rw [hW]; exact (((Mod.refl _ w).alloc _).alloc _).alloc _
 have HW := Lib.hid hW
 have HA0 := Lib.hid hA
 have HB0 := Lib.hid hB
 have HC0 := Lib.hid hC
 have Hb := Lib.hid hb
 have HX0 := Lib.hid hE
 have Hgn := Lib.hid hgn
 have Hgm := Lib.hid hgm
 have Hyn := Lib.hid hyn
 have Hym := Lib.hid hym
 have Hx := Lib.hid hx
 have Hg := Lib.hid hg
 have Hy := Lib.hid hy
 have Hf := Lib.hid hf
 have Hh := Lib.hid hh
 clear hW hA hB hC hb hE hgn hgm hyn hym hx hg hy hf hh
 have hldx := load_row (P := Tryz.prog) (o := 0) (cs := [.int .i64 x.term, .int .i64 x.vote, .int .i64 x.base, .int .i64 x.baseTerm, .int .i64 x.conf.full, .int .i64 x.conf.wit, .int .i64 x.conf.learn, .int .i64 x.conf.learnWit, sx, lx]) str_hard HA0.out rfl (fun j u hu => by rw [Nat.zero_add]; exact hu)
 have hldg := load_row (P := Tryz.prog) (o := 0) (cs := [.int .i64 g.term, .int .i64 g.vote, .int .i64 g.base, .int .i64 g.baseTerm, .int .i64 g.conf.full, .int .i64 g.conf.wit, .int .i64 g.conf.learn, .int .i64 g.conf.learnWit, .slice Gs gn gc, .slice Gl gm gd]) str_hard HB0.out rfl (fun j u hu => by rw [Nat.zero_add]; exact hu)
 have hldy := load_row (P := Tryz.prog) (o := 0) (cs := [.int .i64 y.term, .int .i64 y.vote, .int .i64 y.base, .int .i64 y.baseTerm, .int .i64 y.conf.full, .int .i64 y.conf.wit, .int .i64 y.conf.learn, .int .i64 y.conf.learnWit, .slice Ys yn yc, .slice Yl ym yd]) str_hard HC0.out rfl (fun j u hu => by rw [Nat.zero_add]; exact hu)
 go_enter Tryz.func32, Tryz.ntmps32
 go_upto_region 1 with fail
 rw [← HW.out, Hb.out]
 go_wp2_with (first | (refine wpList_ldW (by kernel_rfl) 34 _ rfl (.pointer (some ⟨b, 0, none⟩)) _ rfl hldx ?_) | (refine wpList_ldW (by kernel_rfl) 34 _ rfl (.pointer (some ⟨(b + 1), 0, none⟩)) _ rfl hldg ?_))
 refine (k_hard W Tx Tg x g _ _ _ _ (Hx.out.mod HX0.out (fun _ _ => id)) (Hg.out.mod HX0.out (fun _ _ => id))).mono ?_
 rintro e w1 ⟨rfl, hE⟩
 clear hldx hldg hldy
 have HA1 := Lib.hid (hE.blk HA0.out id)
 have HB1 := Lib.hid (hE.blk HB0.out id)
 have HC1 := Lib.hid (hE.blk HC0.out id)
 have HX1 := Lib.hid (HX0.out.ext hE)
 clear hE
 rcases h1 : eqHard x g with _ | _
 rotate_left
 ·
  go_wp2
  go_ret
  exact ⟨rfl, HX1.out⟩
 have hldx := load_row (P := Tryz.prog) (o := 0) (cs := [.int .i64 x.term, .int .i64 x.vote, .int .i64 x.base, .int .i64 x.baseTerm, .int .i64 x.conf.full, .int .i64 x.conf.wit, .int .i64 x.conf.learn, .int .i64 x.conf.learnWit, sx, lx]) str_hard HA1.out rfl (fun j u hu => by rw [Nat.zero_add]; exact hu)
 have hldy := load_row (P := Tryz.prog) (o := 0) (cs := [.int .i64 y.term, .int .i64 y.vote, .int .i64 y.base, .int .i64 y.baseTerm, .int .i64 y.conf.full, .int .i64 y.conf.wit, .int .i64 y.conf.learn, .int .i64 y.conf.learnWit, .slice Ys yn yc, .slice Yl ym yd]) str_hard HC1.out rfl (fun j u hu => by rw [Nat.zero_add]; exact hu)
 go_wp2_with (first | (refine wpList_ldW (by kernel_rfl) 34 _ rfl (.pointer (some ⟨b, 0, none⟩)) _ rfl hldx ?_) | (refine wpList_ldW (by kernel_rfl) 34 _ rfl (.pointer (some ⟨(b + 2), 0, none⟩)) _ rfl hldy ?_))
 refine (k_hard w1 Tx Ty x y _ _ _ _ (Hx.out.mod HX1.out (fun _ _ => id)) (Hy.out.mod HX1.out (fun _ _ => id))).mono ?_
 rintro e w2 ⟨rfl, hE⟩
 clear hldx hldy
 have HA2 := Lib.hid (hE.blk HA1.out id)
 have HB2 := Lib.hid (hE.blk HB1.out id)
 have HC2 := Lib.hid (hE.blk HC1.out id)
 have HX2 := Lib.hid (HX1.out.ext hE)
 clear hE
 rcases h2 : eqHard x y with _ | _
 rotate_left
 ·
  go_wp2
  go_ret
  exact ⟨rfl, HX2.out⟩
 obtain ⟨n1, n2, n3, n4, n5, n6, n7, n8⟩ := found_way Hh.out Hf.out h1 h2
 have p2 : w2.cell? ⟨b + 1, 2, none⟩ = some (.int .i64 g.base) := blk_cell (cs := [.int .i64 g.term, .int .i64 g.vote, .int .i64 g.base, .int .i64 g.baseTerm, .int .i64 g.conf.full, .int .i64 g.conf.wit, .int .i64 g.conf.learn, .int .i64 g.conf.learnWit, .slice Gs gn gc, .slice Gl gm gd]) HB2.out rfl
 have q2 : w2.cell? ⟨b + 2, 2, none⟩ = some (.int .i64 y.base) := blk_cell (cs := [.int .i64 y.term, .int .i64 y.vote, .int .i64 y.base, .int .i64 y.baseTerm, .int .i64 y.conf.full, .int .i64 y.conf.wit, .int .i64 y.conf.learn, .int .i64 y.conf.learnWit, .slice Ys yn yc, .slice Yl ym yd]) HC2.out rfl
 have p8 : w2.cell? ⟨b + 1, 8, none⟩ = some (.slice Gs gn gc) := blk_cell (cs := [.int .i64 g.term, .int .i64 g.vote, .int .i64 g.base, .int .i64 g.baseTerm, .int .i64 g.conf.full, .int .i64 g.conf.wit, .int .i64 g.conf.learn, .int .i64 g.conf.learnWit, .slice Gs gn gc, .slice Gl gm gd]) HB2.out rfl
 have q8 : w2.cell? ⟨b + 2, 8, none⟩ = some (.slice Ys yn yc) := blk_cell (cs := [.int .i64 y.term, .int .i64 y.vote, .int .i64 y.base, .int .i64 y.baseTerm, .int .i64 y.conf.full, .int .i64 y.conf.wit, .int .i64 y.conf.learn, .int .i64 y.conf.learnWit, .slice Ys yn yc, .slice Yl ym yd]) HC2.out rfl
 have e1 : (g.base == y.base) = true := by simpa using n1
 have e1' : (g.base != y.base) = false := by simpa using n1
 have e2 : (g.baseTerm == y.baseTerm) = true := by simpa using n2
 have e2' : (g.baseTerm != y.baseTerm) = false := by simpa using n2
 have e3 : eqConf g.conf y.conf = true := by rw [n3]; simp [eqConf]
 have e4 : (g.snap == y.snap) = true := by rw [n4]; simp
 have Hway := Lib.hid n8
 have Hn7 := Lib.hid n7
 have Hn56 := Lib.hid (And.intro n5 n6)
 clear n1 n2 n3 n4 n5 n6 n7 n8 h1 h2
 go_wp2_with fail
 refine (k_bytes w2 Tg Ty _ _ g.snap y.snap (by have h := (Hg.out.mod HX2.out (fun _ _ => id)).1; exact h) (by have h := (Hy.out.mod HX2.out (fun _ _ => id)).1; exact h)).mono ?_
 rintro e w3 ⟨rfl, hE⟩
 rw [e4]
 have HA3 := Lib.hid (hE.blk HA2.out id)
 have HB3 := Lib.hid (hE.blk HB2.out id)
 have HC3 := Lib.hid (hE.blk HC2.out id)
 have HX3 := Lib.hid (HX2.out.ext hE)
 clear hE p2 q2 p8 q8
 have p3 : w3.cell? ⟨b + 1, 3, none⟩ = some (.int .i64 g.baseTerm) := blk_cell (cs := [.int .i64 g.term, .int .i64 g.vote, .int .i64 g.base, .int .i64 g.baseTerm, .int .i64 g.conf.full, .int .i64 g.conf.wit, .int .i64 g.conf.learn, .int .i64 g.conf.learnWit, .slice Gs gn gc, .slice Gl gm gd]) HB3.out rfl
 have q3 : w3.cell? ⟨b + 2, 3, none⟩ = some (.int .i64 y.baseTerm) := blk_cell (cs := [.int .i64 y.term, .int .i64 y.vote, .int .i64 y.base, .int .i64 y.baseTerm, .int .i64 y.conf.full, .int .i64 y.conf.wit, .int .i64 y.conf.learn, .int .i64 y.conf.learnWit, .slice Ys yn yc, .slice Yl ym yd]) HC3.out rfl
 have hlc : ∀ (bb : Nat) (hq : AHard) (sv lv : Value), w3.heap[bb]? = some (.cells (hq.cells sv lv).toArray 34 (0, 0)) → (Instr.loadAt 23 (.pointer (some ⟨bb, 4, none⟩))).run Tryz.prog w3 = .ok (.agg ([.int .i64 hq.conf.full, .int .i64 hq.conf.wit, .int .i64 hq.conf.learn, .int .i64 hq.conf.learnWit] : List Value).toArray) w3 := fun bb hq sv lv h =>
  load_row (P := Tryz.prog) (o := 4) (cs := [.int .i64 hq.conf.full, .int .i64 hq.conf.wit, .int .i64 hq.conf.learn, .int .i64 hq.conf.learnWit]) str_conf h rfl (fun j u hu => by rcases j with _ | _ | _ | _ | j; exact hu; exact hu; exact hu; exact hu; simp at hu)
 have hl1 := hlc (b + 1) g _ _ HB3.out
 have hl2 := hlc (b + 2) y _ _ HC3.out
 clear hlc
 go_wp2_with (first | (refine wpList_ldW (by kernel_rfl) 23 _ rfl (.pointer (some ⟨b + 1, 4, none⟩)) _ rfl hl1 ?_) | (refine wpList_ldW (by kernel_rfl) 23 _ rfl (.pointer (some ⟨b + 2, 4, none⟩)) _ rfl hl2 ?_))
 clear hl1 hl2 p3 q3
 refine (k_conf g.conf y.conf w3).mono ?_
 rintro e w4 ⟨rfl, hE⟩
 rw [e3]
 have HA4 := Lib.hid (hE.blk HA3.out id)
 have HB4 := Lib.hid (hE.blk HB3.out id)
 have HC4 := Lib.hid (hE.blk HC3.out id)
 have HX4 := Lib.hid (HX3.out.ext hE)
 clear hE
 go_upto_block 0 with fail
 go_cut [7] from 45 to 71 (fun s7 wx => ∃ k : Nat, s7 = .int .i64 (k : Int) ∧ comE g.log y.log = k ∧ Ext w4 wx)
 case first =>
  go_wp2_with fail
  go_loopw [7] (fun kv wr => ∃ k : Nat, k ≤ gm ∧ k ≤ ym ∧ kv = .int .i64 k ∧ comE g.log y.log = k + comE (g.log.drop k) (y.log.drop k) ∧ Ext w4 wr) (fun kv _ => gm - (intOf kv).toNat)
  case atStart => exact ⟨0, by omega, by omega, rfl, by simp, Mod.refl _ _⟩
  case round =>
   obtain ⟨k, hkl, hkg, rfl, hcom, hXr⟩ := hrel
   have HXr := Lib.hid hXr
   have HBr := Lib.hid (hXr.blk HB4.out id)
   have HCr := Lib.hid (hXr.blk HC4.out id)
   have r9 : wr.cell? ⟨b + 1, 9, none⟩ = some (.slice Gl gm gd) := blk_cell (cs := [.int .i64 g.term, .int .i64 g.vote, .int .i64 g.base, .int .i64 g.baseTerm, .int .i64 g.conf.full, .int .i64 g.conf.wit, .int .i64 g.conf.learn, .int .i64 g.conf.learnWit, .slice Gs gn gc, .slice Gl gm gd]) HBr.out rfl
   have r10 : wr.cell? ⟨b + 2, 9, none⟩ = some (.slice Yl ym yd) := blk_cell (cs := [.int .i64 y.term, .int .i64 y.vote, .int .i64 y.base, .int .i64 y.baseTerm, .int .i64 y.conf.full, .int .i64 y.conf.wit, .int .i64 y.conf.learn, .int .i64 y.conf.learnWit, .slice Ys yn yc, .slice Yl ym yd]) HCr.out rfl
   have hbl : b + 1 < wr.heap.size := (Array.getElem?_eq_some_iff.1 HBr.out).1
   have hsl : b + 2 < wr.heap.size := (Array.getElem?_eq_some_iff.1 HCr.out).1
   have Hcom := Lib.hid hcom
   clear hXr hcom
   by_cases hk1 : k < gm
   rotate_left
   ·
    have d5 : decide ((k : Int) < (gm : Int)) = false := decide_eq_false (by omega)
    have hq : comE g.log y.log = k := by rw [Hcom.out, List.drop_of_length_le (by rw [Hgm.out]; omega)]; rfl
    have Hq := Lib.hid hq
    clear hq
    go_wp2_with fail
    refine wp_region_held_drew (S := fun W' => Ext wr W') (by kernel_rfl) (Mod.refl _ wr).drew (fun hS => ?_)
    refine tkE 0 (some 45) rfl rfl ?_ hS ?_ ?_; rotate_left; · rintro W' _ _; go_simp; try with_reducible rfl
    try simp only [pL]
    refine tkE 1 (some 46) rfl rfl ?_ hS ?_ ?_; rotate_left; · rintro W' _ _; go_simp; try with_reducible rfl
    try simp only [pL]
    refine tkE 2 (some 47) rfl rfl ?_ hS ?_ ?_; rotate_left; · rintro W' _ _; go_simp; try with_reducible rfl
    try simp only [pL]
    refine tkE 3 (some 48) rfl rfl ?_ hS ?_ ?_; rotate_left; · rintro W' _ _; go_simp; try with_reducible rfl
    try simp only [pL]
    refine tkE 4 (some 49) rfl rfl ?_ hS ?_ ?_; rotate_left; · rintro W' _ _; go_simp; try with_reducible rfl
    try simp only [pL]
    refine tkE 5 (some 50) rfl rfl ?_ hS ?_ ?_; rotate_left; · rintro W' _ _; go_simp; try with_reducible rfl
    try simp only [pL]
    refine tuH 6 (some 51) rfl rfl hS ?_
    try simp only [pL]
    refine tuH 7 (some 52) rfl rfl hS ?_
    try simp only [pL]
    refine tuH 8 (some 53) rfl rfl hS ?_
    try simp only [pL]
    refine tuH 9 (some 54) rfl rfl hS ?_
    try simp only [pL]
    refine tuH 10 (some 55) rfl rfl hS ?_
    try simp only [pL]
    refine tkE 11 (some 56) rfl rfl ?_ hS ?_ ?_; rotate_left; · rintro W' _ _; go_simp; try with_reducible rfl
    try simp only [pL]
    refine tkE 12 (some 57) rfl rfl ?_ hS ?_ ?_; rotate_left; · rintro W' _ _; go_simp; try with_reducible rfl
    try simp only [pL]
    refine tuH 13 (some 58) rfl rfl hS ?_
    try simp only [pL]
    refine tuH 14 (some 59) rfl rfl hS ?_
    try simp only [pL]
    refine tuH 15 (some 60) rfl rfl hS ?_
    try simp only [pL]
    refine tuH 16 (some 61) rfl rfl hS ?_
    try simp only [pL]
    refine tuH 17 (some 62) rfl rfl hS ?_
    try simp only [pL]
    refine tuH 18 (some 63) rfl rfl hS ?_
    try simp only [pL]
    refine tuH 19 (some 64) rfl rfl hS ?_
    try simp only [pL]
    refine tuH 20 (some 65) rfl rfl hS ?_
    try simp only [pL]
    refine tuH 21 (some 66) rfl rfl hS ?_
    try simp only [pL]
    refine tuH 22 (some 67) rfl rfl hS ?_
    try simp only [pL]
    refine tuH 23 (some 68) rfl rfl hS ?_
    try simp only [pL]
    refine tkE 24 (some 69) rfl rfl ?_ hS ?_ ?_; rotate_left; · rintro W' _ _; go_simp; try with_reducible rfl
    try simp only [pL]
    refine wpAnyH_done (by kernel_rfl) ?_ _
    go_wp2_with fail
    go_meet
    exact ⟨k, rfl, Hq.out, HXr.out.ext hS⟩
   by_cases hk2 : k < ym
   rotate_left
   ·
    have d5 : decide ((k : Int) < (gm : Int)) = true := decide_eq_true (by omega)
    have d6 : decide ((k : Int) < (ym : Int)) = false := decide_eq_false (by omega)
    have hq : comE g.log y.log = k := by rw [Hcom.out, List.drop_of_length_le (l := y.log) (by rw [Hym.out]; omega), comE_nil]; rfl
    have Hq := Lib.hid hq
    clear hq
    go_wp2_with fail
    refine wp_region_held_drew (S := fun W' => Ext wr W') (by kernel_rfl) (Mod.refl _ wr).drew (fun hS => ?_)
    refine tkE 0 (some 45) rfl rfl ?_ hS ?_ ?_; rotate_left; · rintro W' _ _; go_simp; try with_reducible rfl
    try simp only [pL]
    refine tkE 1 (some 46) rfl rfl ?_ hS ?_ ?_; rotate_left; · rintro W' _ _; go_simp; try with_reducible rfl
    try simp only [pL]
    refine tkE 2 (some 47) rfl rfl ?_ hS ?_ ?_; rotate_left; · rintro W' _ _; go_simp; try with_reducible rfl
    try simp only [pL]
    refine tkE 3 (some 48) rfl rfl ?_ hS ?_ ?_; rotate_left; · rintro W' _ _; go_simp; try with_reducible rfl
    try simp only [pL]
    refine tkE 4 (some 49) rfl rfl ?_ hS ?_ ?_; rotate_left; · rintro W' _ _; go_simp; try with_reducible rfl
    try simp only [pL]
    refine tkE 5 (some 50) rfl rfl ?_ hS ?_ ?_; rotate_left; · rintro W' _ _; go_simp; try with_reducible rfl
    try simp only [pL]
    refine tkE 6 (some 51) rfl rfl ?_ hS ?_ ?_; rotate_left; · rintro W' _ _; go_simp; try with_reducible rfl
    try simp only [pL]
    refine tkE 7 (some 52) rfl rfl ?_ hS ?_ ?_; rotate_left; · rintro W' _ _; go_simp; try with_reducible rfl
    try simp only [pL]
    refine tkE 8 (some 53) rfl rfl ?_ hS ?_ ?_; rotate_left; · rintro W' _ _; go_simp; try with_reducible rfl
    try simp only [pL]
    refine tkE 9 (some 54) rfl rfl ?_ hS ?_ ?_; rotate_left; · rintro W' _ _; go_simp; try with_reducible rfl
    try simp only [pL]
    refine tkE 10 (some 55) rfl rfl ?_ hS ?_ ?_; rotate_left; · rintro W' _ _; go_simp; try with_reducible rfl
    try simp only [pL]
    refine tkE 11 (some 56) rfl rfl ?_ hS ?_ ?_; rotate_left; · rintro W' _ _; go_simp; try with_reducible rfl
    try simp only [pL]
    refine tkE 12 (some 57) rfl rfl ?_ hS ?_ ?_; rotate_left; · rintro W' _ _; go_simp; try with_reducible rfl
    try simp only [pL]
    refine tuH 13 (some 58) rfl rfl hS ?_
    try simp only [pL]
    refine tuH 14 (some 59) rfl rfl hS ?_
    try simp only [pL]
    refine tuH 15 (some 60) rfl rfl hS ?_
    try simp only [pL]
    refine tuH 16 (some 61) rfl rfl hS ?_
    try simp only [pL]
    refine tuH 17 (some 62) rfl rfl hS ?_
    try simp only [pL]
    refine tuH 18 (some 63) rfl rfl hS ?_
    try simp only [pL]
    refine tuH 19 (some 64) rfl rfl hS ?_
    try simp only [pL]
    refine tuH 20 (some 65) rfl rfl hS ?_
    try simp only [pL]
    refine tuH 21 (some 66) rfl rfl hS ?_
    try simp only [pL]
    refine tuH 22 (some 67) rfl rfl hS ?_
    try simp only [pL]
    refine tuH 23 (some 68) rfl rfl hS ?_
    try simp only [pL]
    refine tkE 24 (some 69) rfl rfl ?_ hS ?_ ?_; rotate_left; · rintro W' _ _; go_simp; try with_reducible rfl
    try simp only [pL]
    refine wpAnyH_done (by kernel_rfl) ?_ _
    go_wp2_with fail
    go_meet
    exact ⟨k, rfl, Hq.out, HXr.out.ext hS⟩
   have d5 : decide ((k : Int) < (gm : Int)) = true := decide_eq_true (by omega)
   have d6 : decide ((k : Int) < (ym : Int)) = true := decide_eq_true (by omega)
   obtain ⟨g1, o1, a, rfl, _, ha, haok, hca⟩ := (Hg.out.2.mod (HX4.out.ext HXr.out) (fun _ _ => id)).at hk1
   obtain ⟨g2, o2, z, rfl, _, hz, hzok, hcz⟩ := (Hy.out.2.mod (HX4.out.ext HXr.out) (fun _ _ => id)).at hk2
   have hcd := comE_drop ha hz
   have k0 : (0 : Int) ≤ (k : Int) := by omega
   have k1 : (k : Int) < (gm : Int) := by omega
   have k2 : (k : Int) < (ym : Int) := by omega
   have Hcd := Lib.hid hcd
   clear hcd ha hz haok hzok
   rcases hez : eqEntry a z with _ | _
   ·
    have hq : comE g.log y.log = k := by rw [Hcom.out, Hcd.out, hez, if_neg (by simp)]; rfl
    have Hq := Lib.hid hq
    clear hq
    go_wp2_with fail
    refine wp_region_held_drew (S := fun W' => Ext wr W') (by kernel_rfl) (Mod.refl _ wr).drew (fun hS => ?_)
    refine tkE 0 (some 45) rfl rfl ?_ hS ?_ ?_; rotate_left; · rintro W' _ _; go_simp; try with_reducible rfl
    try simp only [pL]
    refine tkE 1 (some 46) rfl rfl ?_ hS ?_ ?_; rotate_left; · rintro W' _ _; go_simp; try with_reducible rfl
    try simp only [pL]
    refine tkE 2 (some 47) rfl rfl ?_ hS ?_ ?_; rotate_left; · rintro W' _ _; go_simp; try with_reducible rfl
    try simp only [pL]
    refine tkE 3 (some 48) rfl rfl ?_ hS ?_ ?_; rotate_left; · rintro W' _ _; go_simp; try with_reducible rfl
    try simp only [pL]
    refine tkE 4 (some 49) rfl rfl ?_ hS ?_ ?_; rotate_left; · rintro W' _ _; go_simp; try with_reducible rfl
    try simp only [pL]
    refine tkE 5 (some 50) rfl rfl ?_ hS ?_ ?_; rotate_left; · rintro W' _ _; go_simp; try with_reducible rfl
    try simp only [pL]
    refine tkE 6 (some 51) rfl rfl ?_ hS ?_ ?_; rotate_left; · rintro W' _ _; go_simp; try with_reducible rfl
    try simp only [pL]
    refine tkE 7 (some 52) rfl rfl ?_ hS ?_ ?_; rotate_left; · rintro W' _ _; go_simp; try with_reducible rfl
    try simp only [pL]
    refine tkE 8 (some 53) rfl rfl ?_ hS ?_ ?_; rotate_left; · rintro W' _ _; go_simp; try with_reducible rfl
    try simp only [pL]
    refine tkE 9 (some 54) rfl rfl ?_ hS ?_ ?_; rotate_left; · rintro W' _ _; go_simp; try with_reducible rfl
    try simp only [pL]
    refine tkE 10 (some 55) rfl rfl ?_ hS ?_ ?_; rotate_left; · rintro W' _ _; go_simp; try with_reducible rfl
    try simp only [pL]
    refine tkE 11 (some 56) rfl rfl ?_ hS ?_ ?_; rotate_left; · rintro W' _ _; go_simp; try with_reducible rfl
    try simp only [pL]
    refine tkE 12 (some 57) rfl rfl ?_ hS ?_ ?_; rotate_left; · rintro W' _ _; go_simp; try with_reducible rfl
    try simp only [pL]
    refine tkE 13 (some 58) rfl rfl ?_ hS ?_ ?_; rotate_left; · rintro W' _ _; go_simp; try with_reducible rfl
    try simp only [pL]
    refine tkE 14 (some 59) rfl rfl ?_ hS ?_ ?_; rotate_left; · rintro W' _ _; go_simp; try with_reducible rfl
    try simp only [pL]
    refine tkE 15 (some 60) rfl rfl ?_ hS ?_ ?_; rotate_left; · rintro W' _ _; go_simp; try with_reducible rfl
    try simp only [pL]
    refine tkE 16 (some 61) rfl rfl ?_ hS ?_ ?_; rotate_left; · rintro W' _ _; go_simp; try with_reducible rfl
    try simp only [pL]
    refine takeH (i := 17) (v := .agg a.cells.toArray) (some 62) rfl rfl (by kernel_rfl) (by kernel_rfl) (by kernel_rfl) (fun _ _ _ h => h) (Or.inl ⟨by kernel_rfl, ?_⟩) hS ?_
    ·
     rintro W' hW'
     obtain ⟨hbc, hbf⟩ := bcell hW'
     exact exec_ld _ _ rfl (.pointer (some ⟨g1, o1 + k * 16, none⟩)) _ rfl (load_at str_entry rfl (fun j u hu => hW'.cell (hca j u hu) id))
    try simp only [pL]
    refine tkE 18 (some 63) rfl rfl ?_ hS ?_ ?_; rotate_left; · rintro W' _ _; go_simp; try with_reducible rfl
    try simp only [pL]
    refine tkE 19 (some 64) rfl rfl ?_ hS ?_ ?_; rotate_left; · rintro W' _ _; go_simp; try with_reducible rfl
    try simp only [pL]
    refine tkE 20 (some 65) rfl rfl ?_ hS ?_ ?_; rotate_left; · rintro W' _ _; go_simp; try with_reducible rfl
    try simp only [pL]
    refine tkE 21 (some 66) rfl rfl ?_ hS ?_ ?_; rotate_left; · rintro W' _ _; go_simp; try with_reducible rfl
    try simp only [pL]
    refine takeH (i := 22) (v := .agg z.cells.toArray) (some 67) rfl rfl (by kernel_rfl) (by kernel_rfl) (by kernel_rfl) (fun _ _ _ h => h) (Or.inl ⟨by kernel_rfl, ?_⟩) hS ?_
    ·
     rintro W' hW'
     obtain ⟨hbc, hbf⟩ := bcell hW'
     exact exec_ld _ _ rfl (.pointer (some ⟨g2, o2 + k * 16, none⟩)) _ rfl (load_at str_entry rfl (fun j u hu => hW'.cell (hcz j u hu) id))
    try simp only [pL]
    refine wpAnyH_ready (rs := [23]) (by kernel_rfl) (by simp) ?_
    refine AllReadyH.cons rfl (fun K hK => ?_) AllReadyH.nil
    go_simp
    go_wp2_with fail
    refine (k_entry a z wr.drew).mono ?_
    rintro e w7 ⟨rfl, hE7⟩
    rw [hez]
    have hX := (hS.ext hE7)
    go_simp
    refine hK.out _ _ hX (fun hS => ?_)
    clear hK K hX
    try simp only [pL]
    refine tkE 24 (some 69) rfl rfl ?_ hS ?_ ?_; rotate_left; · rintro W' _ _; go_simp; try with_reducible rfl
    try simp only [pL]
    refine wpAnyH_done (by kernel_rfl) ?_ _
    go_wp2_with fail
    go_meet
    exact ⟨k, rfl, Hq.out, HXr.out.ext hS⟩
   ·
    have hq : comE g.log y.log = k + 1 + comE (g.log.drop (k + 1)) (y.log.drop (k + 1)) := by rw [Hcom.out, Hcd.out, hez, if_pos rfl]; omega
    have Hq := Lib.hid hq
    clear hq
    go_wp2_with fail
    refine wp_region_held_drew (S := fun W' => Ext wr W') (by kernel_rfl) (Mod.refl _ wr).drew (fun hS => ?_)
    refine tkE 0 (some 45) rfl rfl ?_ hS ?_ ?_; rotate_left; · rintro W' _ _; go_simp; try with_reducible rfl
    try simp only [pL]
    refine tkE 1 (some 46) rfl rfl ?_ hS ?_ ?_; rotate_left; · rintro W' _ _; go_simp; try with_reducible rfl
    try simp only [pL]
    refine tkE 2 (some 47) rfl rfl ?_ hS ?_ ?_; rotate_left; · rintro W' _ _; go_simp; try with_reducible rfl
    try simp only [pL]
    refine tkE 3 (some 48) rfl rfl ?_ hS ?_ ?_; rotate_left; · rintro W' _ _; go_simp; try with_reducible rfl
    try simp only [pL]
    refine tkE 4 (some 49) rfl rfl ?_ hS ?_ ?_; rotate_left; · rintro W' _ _; go_simp; try with_reducible rfl
    try simp only [pL]
    refine tkE 5 (some 50) rfl rfl ?_ hS ?_ ?_; rotate_left; · rintro W' _ _; go_simp; try with_reducible rfl
    try simp only [pL]
    refine tkE 6 (some 51) rfl rfl ?_ hS ?_ ?_; rotate_left; · rintro W' _ _; go_simp; try with_reducible rfl
    try simp only [pL]
    refine tkE 7 (some 52) rfl rfl ?_ hS ?_ ?_; rotate_left; · rintro W' _ _; go_simp; try with_reducible rfl
    try simp only [pL]
    refine tkE 8 (some 53) rfl rfl ?_ hS ?_ ?_; rotate_left; · rintro W' _ _; go_simp; try with_reducible rfl
    try simp only [pL]
    refine tkE 9 (some 54) rfl rfl ?_ hS ?_ ?_; rotate_left; · rintro W' _ _; go_simp; try with_reducible rfl
    try simp only [pL]
    refine tkE 10 (some 55) rfl rfl ?_ hS ?_ ?_; rotate_left; · rintro W' _ _; go_simp; try with_reducible rfl
    try simp only [pL]
    refine tkE 11 (some 56) rfl rfl ?_ hS ?_ ?_; rotate_left; · rintro W' _ _; go_simp; try with_reducible rfl
    try simp only [pL]
    refine tkE 12 (some 57) rfl rfl ?_ hS ?_ ?_; rotate_left; · rintro W' _ _; go_simp; try with_reducible rfl
    try simp only [pL]
    refine tkE 13 (some 58) rfl rfl ?_ hS ?_ ?_; rotate_left; · rintro W' _ _; go_simp; try with_reducible rfl
    try simp only [pL]
    refine tkE 14 (some 59) rfl rfl ?_ hS ?_ ?_; rotate_left; · rintro W' _ _; go_simp; try with_reducible rfl
    try simp only [pL]
    refine tkE 15 (some 60) rfl rfl ?_ hS ?_ ?_; rotate_left; · rintro W' _ _; go_simp; try with_reducible rfl
    try simp only [pL]
    refine tkE 16 (some 61) rfl rfl ?_ hS ?_ ?_; rotate_left; · rintro W' _ _; go_simp; try with_reducible rfl
    try simp only [pL]
    refine takeH (i := 17) (v := .agg a.cells.toArray) (some 62) rfl rfl (by kernel_rfl) (by kernel_rfl) (by kernel_rfl) (fun _ _ _ h => h) (Or.inl ⟨by kernel_rfl, ?_⟩) hS ?_
    ·
     rintro W' hW'
     obtain ⟨hbc, hbf⟩ := bcell hW'
     exact exec_ld _ _ rfl (.pointer (some ⟨g1, o1 + k * 16, none⟩)) _ rfl (load_at str_entry rfl (fun j u hu => hW'.cell (hca j u hu) id))
    try simp only [pL]
    refine tkE 18 (some 63) rfl rfl ?_ hS ?_ ?_; rotate_left; · rintro W' _ _; go_simp; try with_reducible rfl
    try simp only [pL]
    refine tkE 19 (some 64) rfl rfl ?_ hS ?_ ?_; rotate_left; · rintro W' _ _; go_simp; try with_reducible rfl
    try simp only [pL]
    refine tkE 20 (some 65) rfl rfl ?_ hS ?_ ?_; rotate_left; · rintro W' _ _; go_simp; try with_reducible rfl
    try simp only [pL]
    refine tkE 21 (some 66) rfl rfl ?_ hS ?_ ?_; rotate_left; · rintro W' _ _; go_simp; try with_reducible rfl
    try simp only [pL]
    refine takeH (i := 22) (v := .agg z.cells.toArray) (some 67) rfl rfl (by kernel_rfl) (by kernel_rfl) (by kernel_rfl) (fun _ _ _ h => h) (Or.inl ⟨by kernel_rfl, ?_⟩) hS ?_
    ·
     rintro W' hW'
     obtain ⟨hbc, hbf⟩ := bcell hW'
     exact exec_ld _ _ rfl (.pointer (some ⟨g2, o2 + k * 16, none⟩)) _ rfl (load_at str_entry rfl (fun j u hu => hW'.cell (hcz j u hu) id))
    try simp only [pL]
    refine wpAnyH_ready (rs := [23]) (by kernel_rfl) (by simp) ?_
    refine AllReadyH.cons rfl (fun K hK => ?_) AllReadyH.nil
    go_simp
    go_wp2_with fail
    refine (k_entry a z wr.drew).mono ?_
    rintro e w7 ⟨rfl, hE7⟩
    rw [hez]
    have hX := (hS.ext hE7)
    go_simp
    refine hK.out _ _ hX (fun hS => ?_)
    clear hK K hX
    try simp only [pL]
    refine tkE 24 (some 69) rfl rfl ?_ hS ?_ ?_; rotate_left; · rintro W' _ _; go_simp; try with_reducible rfl
    try simp only [pL]
    refine wpAnyH_done (by kernel_rfl) ?_ _
    go_wp2_with fail
    go_roundw
    case rel => exact ⟨k + 1, by omega, by omega, by go_num, Hq.out, HXr.out.ext hS⟩
    case measure => simp [intOf]; omega
 obtain ⟨k, rfl, hck, hX5⟩ := hcut
 have HA5 := Lib.hid (hX5.blk HA4.out id)
 have HB5 := Lib.hid (hX5.blk HB4.out id)
 have HC5 := Lib.hid (hX5.blk HC4.out id)
 have HX5 := Lib.hid (HX4.out.ext hX5)
 have Hck := Lib.hid hck
 clear hX5 hck
 have hldg := load_row (P := Tryz.prog) (o := 0) (cs := [.int .i64 g.term, .int .i64 g.vote, .int .i64 g.base, .int .i64 g.baseTerm, .int .i64 g.conf.full, .int .i64 g.conf.wit, .int .i64 g.conf.learn, .int .i64 g.conf.learnWit, .slice Gs gn gc, .slice Gl gm gd]) str_hard HB5.out rfl (fun j u hu => by rw [Nat.zero_add]; exact hu)
 go_wp2_with (refine wpList_ld rfl 34 _ rfl _ _ rfl hldg ?_)
 clear hldg
 refine (k_twinHard wc Tg g _ _ (Hg.out.mod HX5.out (fun _ _ => id)) (by rw [Hgm.out]; omega) (by have := Hh.out.1.s; omega)).mono ?_
 rintro e w6 ⟨sv3, lv3, rfl, hN, hE⟩
 have HA6 := Lib.hid (hE.blk HA5.out id)
 have HB6 := Lib.hid (hE.blk HB5.out id)
 have HC6 := Lib.hid (hE.blk HC5.out id)
 have HX6 := Lib.hid (HX5.out.ext hE)
 obtain ⟨A3, c3, A4, c4, rfl, rfl⟩ := hN.forms
 have hN' := hN.up HX5.out
 rw [Hgn.out, Hgm.out] at hN' ⊢
 have HN6 := Lib.hid hN'
 obtain ⟨q, hq⟩ : ∃ q, w6.heap.size = q := ⟨_, rfl⟩
 have hz : (w6.alloc (.cells #[.int .i64 0, .int .i64 0, .int .i64 0, .int .i64 0, .int .i64 0, .int .i64 0, .int .i64 0, .int .i64 0, .slice none 0 0, .slice none 0 0] 34)).heap[q]? = some (.cells #[.int .i64 0, .int .i64 0, .int .i64 0, .int .i64 0, .int .i64 0, .int .i64 0, .int .i64 0, .int .i64 0, .slice none 0 0, .slice none 0 0] 34 (0, 0)) := by rw [← hq]; exact heap_alloc_new w6 _
 have Hq := Lib.hid hq
 have Hqb : Hid (b + 2 < q) := Lib.hid (by have h1 := (Array.getElem?_eq_some_iff.1 HC6.out).1; omega)
 have Hqw : Hid (w.heap.size ≤ q) := Lib.hid (by have := HX6.out.size; omega)
 clear hE hN hN' hq
 go_wp2_with (rw [Hq.out]; refine wpList_stR rfl 34 _ _ rfl 10 q 0 (g.cells (.slice A3 gn c3) (.slice A4 gm c4)) rfl rfl str_hard _ [.int .i64 0, .int .i64 0, .int .i64 0, .int .i64 0, .int .i64 0, .int .i64 0, .int .i64 0, .int .i64 0, .slice none 0 0, .slice none 0 0] (g.cells (.slice A3 gn c3) (.slice A4 gm c4)) hz rfl (by simp) (h_one _ _ _ _ _ _ _) rfl ?_)
 intro w7 hb7 hm7 hs7
 have hE : Ext w6 w7 := ((Mod.refl (fun _ => False) w6).alloc (.cells #[.int .i64 0, .int .i64 0, .int .i64 0, .int .i64 0, .int .i64 0, .int .i64 0, .int .i64 0, .int .i64 0, .slice none 0 0, .slice none 0 0] 34)).trans hm7 (fun k hk e => by have := Hq.out; omega)
 have HA7 := Lib.hid (hE.blk HA6.out id)
 have HB7 := Lib.hid (hE.blk HB6.out id)
 have HC7 := Lib.hid (hE.blk HC6.out id)
 have HX7 := Lib.hid (HX6.out.ext hE)
 have HQ7 := Lib.hid hb7
 have HN7 := Lib.hid (HN6.out.ext hE)
 have nq : ¬ b + 2 = q := by have := Hqb.out; omega
 have z0 : w7.cell? ⟨b + 2, 0, none⟩ = some (.int .i64 y.term) := blk_cell (cs := [.int .i64 y.term, .int .i64 y.vote, .int .i64 y.base, .int .i64 y.baseTerm, .int .i64 y.conf.full, .int .i64 y.conf.wit, .int .i64 y.conf.learn, .int .i64 y.conf.learnWit, .slice Ys yn yc, .slice Yl ym yd]) HC7.out rfl
 have z1 : w7.cell? ⟨b + 2, 1, none⟩ = some (.int .i64 y.vote) := blk_cell (cs := [.int .i64 y.term, .int .i64 y.vote, .int .i64 y.base, .int .i64 y.baseTerm, .int .i64 y.conf.full, .int .i64 y.conf.wit, .int .i64 y.conf.learn, .int .i64 y.conf.learnWit, .slice Ys yn yc, .slice Yl ym yd]) HC7.out rfl
 clear hE hb7 hm7 hs7 hz
 go_wp2_with fail
 refine wp_region_held_drew (S := fun W' => Mod (fun k => k = q) w7 W') (by kernel_rfl) (Mod.refl _ w7).drew (fun hS => ?_)
 refine tkH 0 (some 74) rfl rfl ?_ hS ?_ ?_
 rotate_left
 ·
  rintro W' hW'
  have y0 := hW'.cell z0 nq
  have y1 := hW'.cell z1 nq
  go_simp
  try with_reducible rfl
 try simp only [pL]
 refine tkH 1 (some 75) rfl rfl ?_ hS ?_ ?_
 rotate_left
 ·
  rintro W' hW'
  have y0 := hW'.cell z0 nq
  have y1 := hW'.cell z1 nq
  go_simp
  try with_reducible rfl
 try simp only [pL]
 refine tkH 2 (some 76) rfl rfl ?_ hS ?_ ?_
 rotate_left
 ·
  rintro W' hW'
  have y0 := hW'.cell z0 nq
  have y1 := hW'.cell z1 nq
  go_simp
  try with_reducible rfl
 try simp only [pL]
 refine tkH 3 (some 77) rfl rfl ?_ hS ?_ ?_
 rotate_left
 ·
  rintro W' hW'
  have y0 := hW'.cell z0 nq
  have y1 := hW'.cell z1 nq
  go_simp
  try with_reducible rfl
 try simp only [pL]
 refine tkH 4 (some 78) rfl rfl ?_ hS ?_ ?_
 rotate_left
 ·
  rintro W' hW'
  have y0 := hW'.cell z0 nq
  have y1 := hW'.cell z1 nq
  go_simp
  try with_reducible rfl
 try simp only [pL]
 refine wpAnyH_ready (rs := [5]) (by kernel_rfl) (by simp) ?_
 refine AllReadyH.cons rfl (fun K hK => ?_) AllReadyH.nil
 have f0 : w7.drew.frozen? ⟨q, 0, none⟩ = false := blk_free 0 HQ7.out
 have d0 : w7.drew.cell? ⟨q, 0, none⟩ = some _ := blk_cell (cs := [.int .i64 g.term, .int .i64 g.vote, .int .i64 g.base, .int .i64 g.baseTerm, .int .i64 g.conf.full, .int .i64 g.conf.wit, .int .i64 g.conf.learn, .int .i64 g.conf.learnWit, .slice A3 gn c3, .slice A4 gm c4]) HQ7.out rfl
 go_simp
 obtain ⟨w8, hw8⟩ : ∃ wn, (w7.setCell ⟨q, 0, none⟩ (.int .i64 y.term)).drew = wn := ⟨_, rfl⟩
 rw [hw8]
 have HQ8 : Hid (w8.heap[q]? = some (.cells #[.int .i64 y.term, .int .i64 g.vote, .int .i64 g.base, .int .i64 g.baseTerm, .int .i64 g.conf.full, .int .i64 g.conf.wit, .int .i64 g.conf.learn, .int .i64 g.conf.learnWit, .slice A3 gn c3, .slice A4 gm c4] 34 (0, 0))) := Lib.hid (by rw [← hw8]; show (w7.setCell _ _).heap[q]? = _; simp [World.setCell, Array.getElem?_modify, HQ7.out])
 have HM8 : Hid (Mod (fun k => k = q) w7 w8) := Lib.hid (by rw [← hw8]; exact (mod_same (Mod.refl _ w7) _ _).drew)
 clear hw8 f0 d0
 refine hK.out _ _ (HM8.out) (fun hS => ?_)
 clear hK K
 try simp only [pL]
 refine tkH 6 (some 79) rfl rfl ?_ hS ?_ ?_
 rotate_left
 ·
  rintro W' hW'
  have y0 := hW'.cell z0 nq
  have y1 := hW'.cell z1 nq
  go_simp
  try with_reducible rfl
 try simp only [pL]
 refine wpAnyH_ready (rs := [7]) (by kernel_rfl) (by simp) ?_
 refine AllReadyH.cons rfl (fun K hK => ?_) AllReadyH.nil
 have f1 : w8.frozen? ⟨q, 1, none⟩ = false := blk_free 1 HQ8.out
 have d1 : w8.cell? ⟨q, 1, none⟩ = some _ := blk_cell (cs := [.int .i64 y.term, .int .i64 g.vote, .int .i64 g.base, .int .i64 g.baseTerm, .int .i64 g.conf.full, .int .i64 g.conf.wit, .int .i64 g.conf.learn, .int .i64 g.conf.learnWit, .slice A3 gn c3, .slice A4 gm c4]) HQ8.out rfl
 go_simp
 obtain ⟨w9, hw9⟩ : ∃ wn, w8.setCell ⟨q, 1, none⟩ (.int .i64 y.vote) = wn := ⟨_, rfl⟩
 rw [hw9]
 have HQ9 : Hid (w9.heap[q]? = some (.cells #[.int .i64 y.term, .int .i64 y.vote, .int .i64 g.base, .int .i64 g.baseTerm, .int .i64 g.conf.full, .int .i64 g.conf.wit, .int .i64 g.conf.learn, .int .i64 g.conf.learnWit, .slice A3 gn c3, .slice A4 gm c4] 34 (0, 0))) := Lib.hid (by rw [← hw9]; simp [World.setCell, Array.getElem?_modify, HQ8.out])
 have HM9 : Hid (Mod (fun k => k = q) w7 w9) := Lib.hid (HM8.out.self (by rw [← hw9]; exact mod_same (Mod.refl _ w8) _ _))
 clear hw9 f1 d1
 refine hK.out _ _ (HM9.out) (fun hS => ?_)
 clear hK K
 try simp only [pL]
 refine wpAnyH_done (by kernel_rfl) ?_ _
 have HA9 := Lib.hid (HM9.out.blk HA7.out (by have := Hqb.out; omega))
 have HB9 := Lib.hid (HM9.out.blk HB7.out (by have := Hqb.out; omega))
 have HC9 := Lib.hid (HM9.out.blk HC7.out (by have := Hqb.out; omega))
 have HX9 : Hid (Ext w w9) := Lib.hid (HX7.out.trans HM9.out (fun k hk e => by have := Hqw.out; omega))
 have HN9 : Hid (NewH w w9 (.slice A3 gn c3) (.slice A4 gm c4) g) := Lib.hid (HN7.out.box HQ7.out HM9.out (by decide) (by decide))
 clear hS z0 z1
 have hldx := load_row (P := Tryz.prog) (o := 0) (cs := [.int .i64 x.term, .int .i64 x.vote, .int .i64 x.base, .int .i64 x.baseTerm, .int .i64 x.conf.full, .int .i64 x.conf.wit, .int .i64 x.conf.learn, .int .i64 x.conf.learnWit, sx, lx]) str_hard HA9.out rfl (fun j u hu => by rw [Nat.zero_add]; exact hu)
 have hldq := load_row (P := Tryz.prog) (o := 0) (cs := [.int .i64 y.term, .int .i64 y.vote, .int .i64 g.base, .int .i64 g.baseTerm, .int .i64 g.conf.full, .int .i64 g.conf.wit, .int .i64 g.conf.learn, .int .i64 g.conf.learnWit, .slice A3 gn c3, .slice A4 gm c4]) str_hard HQ9.out rfl (fun j u hu => by rw [Nat.zero_add]; exact hu)
 go_wp2_with (first | (refine wpList_ld rfl 34 _ rfl (.pointer (some ⟨b, 0, none⟩)) _ rfl hldx ?_) | (refine wpList_ld rfl 34 _ rfl (.pointer (some ⟨q, 0, none⟩)) _ rfl hldq ?_))
 clear hldx hldq
 refine (k_hard w9 Tx _ x ({ g with term := y.term, vote := y.vote }) _ _ _ _ (Hx.out.mod HX9.out (fun _ _ => id)) (HN9.out.mem)).mono ?_
 rintro e wa ⟨rfl, hE⟩
 have HAa := Lib.hid (hE.blk HA9.out id)
 have HBa := Lib.hid (hE.blk HB9.out id)
 have HCa := Lib.hid (hE.blk HC9.out id)
 have HXa := Lib.hid (HX9.out.ext hE)
 have HQa := Lib.hid (hE.blk HQ9.out id)
 have HNa := Lib.hid (HN9.out.ext hE)
 clear hE
 rcases h3 : eqHard x ({ g with term := y.term, vote := y.vote }) with _ | _
 rotate_left
 ·
  go_wp2
  go_ret
  exact ⟨rfl, HXa.out⟩
 have hway2 : ∃ i, k ≤ i ∧ i < ym ∧ x = { g with term := y.term, vote := y.vote, log := y.log.take i } := by
  rcases Hway.out with e | ⟨i, i1, i2, i3⟩
  ·
   rw [e, eqHard_refl] at h3; cases h3
  ·
   exact ⟨i, by rw [← Hck.out]; exact i1, by rw [← Hym.out]; exact i2, i3⟩
 obtain ⟨i, i1, i2, i3⟩ := hway2
 have Hi3 := Lib.hid i3
 clear i3
 have hkg : k ≤ gm := by have := Hn56.out.1; have := Hck.out; have := Hgm.out; omega
 have Hk7 : Hid (g.log.take k = y.log.take k) := Lib.hid (by rw [← Hck.out]; exact Hn7.out)
 have c9 : wa.cell? ⟨q, 9, none⟩ = some (.slice A4 gm c4) := blk_cell (cs := [.int .i64 y.term, .int .i64 y.vote, .int .i64 g.base, .int .i64 g.baseTerm, .int .i64 g.conf.full, .int .i64 g.conf.wit, .int .i64 g.conf.learn, .int .i64 g.conf.learnWit, .slice A3 gn c3, .slice A4 gm c4]) HQa.out rfl
 have f9 : wa.frozen? ⟨q, 9, none⟩ = false := blk_free 9 HQa.out
 have hk0 : (0 : Int) ≤ (k : Int) := by omega
 have hgc4 : gm ≤ c4 := by
  obtain ⟨_, A', c', e, h1, _⟩ := HNa.out.mem.2.1
  injection e with _ e2 e3
  have := Hgm.out
  omega
 have hkc : (k : Int) ≤ (c4 : Int) := by omega
 obtain ⟨wb, hwb⟩ : ∃ wn, wa.setCell ⟨q, 9, none⟩ (.slice A4 k c4) = wn := ⟨_, rfl⟩
 have HQb : Hid (wb.heap[q]? = some (.cells #[.int .i64 y.term, .int .i64 y.vote, .int .i64 g.base, .int .i64 g.baseTerm, .int .i64 g.conf.full, .int .i64 g.conf.wit, .int .i64 g.conf.learn, .int .i64 g.conf.learnWit, .slice A3 gn c3, .slice A4 k c4] 34 (0, 0))) := Lib.hid (by rw [← hwb]; simp [World.setCell, Array.getElem?_modify, HQa.out])
 have HMb : Hid (Mod (fun k => k = q) wa wb) := Lib.hid (by rw [← hwb]; exact mod_same (Mod.refl _ wa) _ _)
 have HAb := Lib.hid (HMb.out.blk HAa.out (by have := Hqb.out; omega))
 have HCb := Lib.hid (HMb.out.blk HCa.out (by have := Hqb.out; omega))
 have HXb : Hid (Ext w wb) := Lib.hid (HXa.out.trans HMb.out (fun k hk e => by have := Hqw.out; omega))
 have HSb : Hid (NewB w wb (.slice A3 gn c3) g.snap) := Lib.hid (HNa.out.box HQa.out HMb.out (by decide) (by decide)).1
 have HNb : Hid (NewE w wb (.slice A4 k c4) (y.log.take k)) := Lib.hid (by
  have h1 := newE_box HNa.out.2 HQa.out HMb.out (by decide)
  rw [← Hk7.out]
  refine ⟨?_, fun z hz => h1.2.1 z (List.mem_of_mem_take hz), fun g hg => h1.2.2 g (by cases A4 <;> exact hg)⟩
  have hl4 : (g.log.take k).length = k := by rw [List.length_take, Hgm.out]; omega
  have h2 := h1.1
  rw [Hgm.out] at h2
  have h3 := own_upto h2 hkg
  rw [hl4, ← flat_take (k := 16) (c := AEntry.cells) (fun _ => rfl)]
  exact h3)
 clear h3
 go_upto_block 2 with fail
 try rw [hwb]
 clear hwb c9 f9
 go_wp2_with fail
 go_loopw [] (fun wr => ∃ (j : Nat) (Aj : Option Addr) (cj : Nat), (k ≤ j ∧ j ≤ i) ∧ wr.heap[q]? = some (.cells #[.int .i64 y.term, .int .i64 y.vote, .int .i64 g.base, .int .i64 g.baseTerm, .int .i64 g.conf.full, .int .i64 g.conf.wit, .int .i64 g.conf.learn, .int .i64 g.conf.learnWit, .slice A3 gn c3, .slice Aj j cj] 34 (0, 0)) ∧ NewB w wr (.slice A3 gn c3) g.snap ∧ NewE w wr (.slice Aj j cj) (y.log.take j) ∧ Ext w wr ∧ wr.heap[b]? = some (.cells #[.int .i64 x.term, .int .i64 x.vote, .int .i64 x.base, .int .i64 x.baseTerm, .int .i64 x.conf.full, .int .i64 x.conf.wit, .int .i64 x.conf.learn, .int .i64 x.conf.learnWit, sx, lx] 34 (0, 0)) ∧ wr.heap[b + 2]? = some (.cells #[.int .i64 y.term, .int .i64 y.vote, .int .i64 y.base, .int .i64 y.baseTerm, .int .i64 y.conf.full, .int .i64 y.conf.wit, .int .i64 y.conf.learn, .int .i64 y.conf.learnWit, .slice Ys yn yc, .slice Yl ym yd] 34 (0, 0))) (fun wr => ym - cellLen (wr.cell? ⟨q, 9, none⟩))
 case atStart => exact ⟨k, A4, c4, ⟨by omega, i1⟩, HQb.out, HSb.out, HNb.out, HXb.out, HAb.out, HCb.out⟩
 case round =>
  obtain ⟨j, Aj, cj, ⟨hj1, hj2⟩, hQ, hS3, hN3, hX3, hA3, hC3⟩ := hrel
  have HQr := Lib.hid hQ
  have HSr := Lib.hid hS3
  have HNr := Lib.hid hN3
  have HXr := Lib.hid hX3
  have HAr := Lib.hid hA3
  have HCr := Lib.hid hC3
  have Hjl : Hid ((y.log.take j).length = j) := Lib.hid (by rw [List.length_take, Hym.out]; omega)
  have c9w : wr.cell? ⟨q, 9, none⟩ = some (.slice Aj j cj) := blk_cell (cs := [.int .i64 y.term, .int .i64 y.vote, .int .i64 g.base, .int .i64 g.baseTerm, .int .i64 g.conf.full, .int .i64 g.conf.wit, .int .i64 g.conf.learn, .int .i64 g.conf.learnWit, .slice A3 gn c3, .slice Aj j cj]) hQ rfl
  clear hQ hS3 hN3 hX3 hA3 hC3
  have hldx := load_row (P := Tryz.prog) (o := 0) (cs := [.int .i64 x.term, .int .i64 x.vote, .int .i64 x.base, .int .i64 x.baseTerm, .int .i64 x.conf.full, .int .i64 x.conf.wit, .int .i64 x.conf.learn, .int .i64 x.conf.learnWit, sx, lx]) str_hard HAr.out rfl (fun j u hu => by rw [Nat.zero_add]; exact hu)
  have hldq := load_row (P := Tryz.prog) (o := 0) (cs := [.int .i64 y.term, .int .i64 y.vote, .int .i64 g.base, .int .i64 g.baseTerm, .int .i64 g.conf.full, .int .i64 g.conf.wit, .int .i64 g.conf.learn, .int .i64 g.conf.learnWit, .slice A3 gn c3, .slice Aj j cj]) str_hard HQr.out rfl (fun j u hu => by rw [Nat.zero_add]; exact hu)
  go_wp2_with (first | (refine wpList_ld rfl 34 _ rfl (.pointer (some ⟨b, 0, none⟩)) _ rfl hldx ?_) | (refine wpList_ld rfl 34 _ rfl (.pointer (some ⟨q, 0, none⟩)) _ rfl hldq ?_))
  clear hldx hldq
  refine (k_hard wr Tx (fun g => (Value.slice A3 gn c3).ownBlock = some g ∨ (Value.slice Aj j cj).ownBlock = some g) x ({ g with term := y.term, vote := y.vote, log := y.log.take j }) _ _ _ _ (Hx.out.mod HXr.out (fun _ _ => id)) ⟨Sl.of_own HSr.out.1 (fun _ e => .inl e), by have h1 := (HNr.out.ents).1; exact h1.mono (fun _ e => .inr e), HNr.out.2.1⟩).mono ?_
  rintro e wq ⟨rfl, hE⟩
  have HQq := Lib.hid (hE.blk HQr.out id)
  have HSq := Lib.hid (HSr.out.ext hE)
  have HNq := Lib.hid (newE_mod HNr.out hE (fun _ _ => id))
  have HXq := Lib.hid (HXr.out.ext hE)
  have HAq := Lib.hid (hE.blk HAr.out id)
  have HCq := Lib.hid (hE.blk HCr.out id)
  clear hE
  rcases h4 : eqHard x ({ g with term := y.term, vote := y.vote, log := y.log.take j }) with _ | _
  rotate_left
  ·
   go_wp2
   go_ret
   exact ⟨rfl, HXq.out⟩
  have hji : j ≠ i := fun e => by rw [e, ← Hi3.out, eqHard_refl] at h4; cases h4
  have hjy : j < ym := by omega
  have hlt : j < i := by omega
  have dj : decide ((ym : Int) ≤ (j : Int)) = false := decide_eq_false (by omega)
  obtain ⟨g2, o2, z, rfl, _, hz, hzok, hcz⟩ := (Hy.out.2.mod HXq.out (fun _ _ => id)).at hjy
  have Htk : Hid (y.log.take j ++ [z] = y.log.take (j + 1)) := Lib.hid (by
   obtain ⟨h1, h2⟩ := List.getElem?_eq_some_iff.1 hz
   rw [List.take_succ_eq_append_getElem h1, h2])
  have Hzok := Lib.hid hzok
  have hj0 : (0 : Int) ≤ (j : Int) := by omega
  have hjy2 : (j : Int) < (ym : Int) := by omega
  have z9 : wq.cell? ⟨b + 2, 9, none⟩ = some (.slice (some ⟨g2, o2, none⟩) ym yd) := blk_cell (cs := [.int .i64 y.term, .int .i64 y.vote, .int .i64 y.base, .int .i64 y.baseTerm, .int .i64 y.conf.full, .int .i64 y.conf.wit, .int .i64 y.conf.learn, .int .i64 y.conf.learnWit, .slice Ys yn yc, .slice (some ⟨g2, o2, none⟩) ym yd]) HCq.out rfl
  have c9q : wr.cell? ⟨q, 9, none⟩ = some (.slice Aj j cj) := c9w
  have r9 : wq.cell? ⟨q, 9, none⟩ = some (.slice Aj j cj) := blk_cell (cs := [.int .i64 y.term, .int .i64 y.vote, .int .i64 g.base, .int .i64 g.baseTerm, .int .i64 g.conf.full, .int .i64 g.conf.wit, .int .i64 g.conf.learn, .int .i64 g.conf.learnWit, .slice A3 gn c3, .slice Aj j cj]) HQq.out rfl
  have nc : ¬ (b + 2 = q ∨ (Value.slice Aj j cj).ownBlock = some (b + 2)) := fun e => by
   rcases e with e | e
   ·
    have := Hqb.out; omega
   ·
    exact own_apart HNq.out.1 e HCq.out (by decide) rfl
  have hg2 : g2 < w.heap.size := by
   obtain ⟨g', o', x', e, _, _, _, hc'⟩ := Hy.out.2.at hjy
   injection e with e
   injection e with e1 e2
   have h9 : g' < w.heap.size := World.block_lt_of_cell? _ _ (hc' 0 _ rfl)
   omega
  have ng : ¬ (g2 = q ∨ (Value.slice Aj j cj).ownBlock = some g2) := fun e => by
   rcases e with e | e
   ·
    have := Hqw.out; omega
   ·
    have := HNq.out.2.2 g2 e; omega
  obtain ⟨pq, hpq⟩ : ∃ p, wq.heap.size = p := ⟨_, rfl⟩
  have Hpq := Lib.hid hpq
  clear hz hzok h4 hpq hji
  go_wp2_with fail
  refine wp_region_held_drew (S := fun W' => Mod (fun k => k = q ∨ (Value.slice Aj j cj).ownBlock = some k) wq W') (by kernel_rfl) (Mod.refl _ wq).drew (fun hS => ?_)
  refine tkH 0 (some 98) rfl rfl ?_ hS ?_ ?_
  rotate_left
  ·
   rintro W' hW'
   have y3 := hW'.cell z9 nc
   go_simp
   try with_reducible rfl
  try simp only [pL]
  refine tkH 2 (some 100) rfl rfl ?_ hS ?_ ?_
  rotate_left
  ·
   rintro W' hW'
   have y3 := hW'.cell z9 nc
   go_simp
   try with_reducible rfl
  try simp only [pL]
  refine tkH 3 (some 101) rfl rfl ?_ hS ?_ ?_
  rotate_left
  ·
   rintro W' hW'
   have y3 := hW'.cell z9 nc
   go_simp
   try with_reducible rfl
  try simp only [pL]
  refine tkH 4 (some 102) rfl rfl ?_ hS ?_ ?_
  rotate_left
  ·
   rintro W' hW'
   have y3 := hW'.cell z9 nc
   go_simp
   try with_reducible rfl
  try simp only [pL]
  refine wpAnyH_ready (rs := [1, 5]) (by kernel_rfl) (by simp) ?_
  refine AllReadyH.cons rfl (fun K hK => ?_) (AllReadyH.cons rfl (fun K hK => ?_) AllReadyH.nil)
  ·
   go_simp
   refine hK.out _ _ (hS) (fun hS => ?_)
   clear hK K
   try simp only [pL]
   refine wpAnyH_ready (rs := [5]) (by kernel_rfl) (by simp) ?_
   refine AllReadyH.cons rfl (fun K hK => ?_) AllReadyH.nil
   go_simp
   refine hK.out _ _ (hS) (fun hS => ?_)
   clear hK K
   try simp only [pL]
   refine tkH 6 (some 104) rfl rfl ?_ hS ?_ ?_
   rotate_left
   ·
    rintro W' hW'
    have y3 := hW'.cell z9 nc
    go_simp
    try with_reducible rfl
   try simp only [pL]
   refine tkH 7 (some 105) rfl rfl ?_ hS ?_ ?_
   rotate_left
   ·
    rintro W' hW'
    have y3 := hW'.cell z9 nc
    go_simp
    try with_reducible rfl
   try simp only [pL]
   refine takeH (i := 8) (v := .agg z.cells.toArray) (some 106) rfl rfl (by kernel_rfl) (by kernel_rfl) (by kernel_rfl) (fun _ _ _ h => h) (Or.inl ⟨by kernel_rfl, ?_⟩) hS ?_
   ·
    rintro W' hW'
    have y3 := hW'.cell z9 nc
    exact exec_ld _ _ rfl (.pointer (some ⟨g2, o2 + j * 16, none⟩)) _ rfl (load_at str_entry rfl (fun j u hu => hW'.cell (hcz j u hu) ng))
   try simp only [pL]
   refine wpAnyH_ready (rs := [9]) (by kernel_rfl) (by simp) ?_
   refine AllReadyH.cons rfl (fun K hK => ?_) AllReadyH.nil
   go_simp
   obtain ⟨we, hwe⟩ : ∃ we, (wq.alloc (.cells #[.int .i64 z.term, .int .i64 z.kind, .int .i64 z.call.client, .int .i64 z.call.seq, .int .i64 z.call.cmd.kind, .string z.call.cmd.key, .int .i64 z.call.cmd.old.kind, .float .f64 z.call.cmd.old.num, .string z.call.cmd.old.text, .int .i64 z.call.cmd.val.kind, .float .f64 z.call.cmd.val.num, .string z.call.cmd.val.text, .int .i64 z.conf.full, .int .i64 z.conf.wit, .int .i64 z.conf.learn, .int .i64 z.conf.learnWit] 56)).drew = we := ⟨_, rfl⟩
   rw [hwe, Hpq.out]
   have HLe : Hid (Ents we _ (.slice (some ⟨pq, 0, none⟩) 1 1) [z]) := Lib.hid (by rw [← hwe, ← Hpq.out]; exact ents_lit' wq z Hzok.out)
   have HEe : Hid (Ext wq we) := Lib.hid (by rw [← hwe]; exact ((Mod.refl _ wq).alloc _).drew)
   have HNe := Lib.hid (newE_mod HNq.out HEe.out (fun _ _ => id))
   have r9e := HEe.out.cell r9 id
   clear hwe
   refine hK.out _ _ ((HEe.out.mod _)) (fun hS => ?_)
   clear hK K
   try simp only [pL]
   refine wpAnyH_ready (rs := [10]) (by kernel_rfl) (by simp) ?_
   refine AllReadyH.cons rfl (fun K hK => ?_) AllReadyH.nil
   refine step_appE rfl _ _ rfl (.slice Aj j cj) _ w rfl HNe.out (HXq.out.ext HEe.out) _ (.slice (some ⟨pq, 0, none⟩) 1 1) [z] rfl HLe.out (by rw [Hjl.out]; simp; omega) ?_
   rintro Ak n1 ck wk hn1 hN1 hX1 hM1
   obtain rfl : n1 = j + 1 := by rw [hn1, List.length_append, Hjl.out]; rfl
   have HNk : Hid (NewE w wk (.slice Ak (j + 1) ck) (y.log.take (j + 1))) := Lib.hid (by rw [← Htk.out]; exact hN1)
   have HMk : Hid (Mod (fun k => (Value.slice Aj j cj).ownBlock = some k) wq wk) := Lib.hid ((HEe.out.mod _).self hM1)
   have HXk := Lib.hid hX1
   have HQk := Lib.hid (HMk.out.blk HQq.out (fun e => own_apart HNq.out.1 e HQq.out (by decide) rfl))
   clear hn1 hN1 hX1 hM1
   refine hK.out _ _ ((HMk.out.mono (fun _ _ e => .inr e))) (fun hS => ?_)
   clear hK K
   try simp only [pL]
   refine tkH 11 (some 109) rfl rfl ?_ hS ?_ ?_
   rotate_left
   ·
    rintro W' hW'
    have y3 := hW'.cell z9 nc
    go_simp
    try with_reducible rfl
   try simp only [pL]
   refine wpAnyH_ready (rs := [12]) (by kernel_rfl) (by simp) ?_
   refine AllReadyH.cons rfl (fun K hK => ?_) AllReadyH.nil
   have f9 : wk.frozen? ⟨q, 9, none⟩ = false := blk_free 9 HQk.out
   have d9 : wk.cell? ⟨q, 9, none⟩ = some _ := blk_cell (cs := [.int .i64 y.term, .int .i64 y.vote, .int .i64 g.base, .int .i64 g.baseTerm, .int .i64 g.conf.full, .int .i64 g.conf.wit, .int .i64 g.conf.learn, .int .i64 g.conf.learnWit, .slice A3 gn c3, .slice Aj j cj]) HQk.out rfl
   go_simp
   obtain ⟨wz, hwz⟩ : ∃ wn, wk.setCell ⟨q, 9, none⟩ (.slice Ak (j + 1) ck) = wn := ⟨_, rfl⟩
   rw [hwz]
   have HQz : Hid (wz.heap[q]? = some (.cells #[.int .i64 y.term, .int .i64 y.vote, .int .i64 g.base, .int .i64 g.baseTerm, .int .i64 g.conf.full, .int .i64 g.conf.wit, .int .i64 g.conf.learn, .int .i64 g.conf.learnWit, .slice A3 gn c3, .slice Ak (j + 1) ck] 34 (0, 0))) := Lib.hid (by rw [← hwz]; simp [World.setCell, Array.getElem?_modify, HQk.out])
   have HMz : Hid (Mod (fun k => k = q) wk wz) := Lib.hid (by rw [← hwz]; exact mod_same (Mod.refl _ wk) _ _)
   clear hwz f9 d9
   refine hK.out _ _ (((HMk.out.mono (fun _ _ e => .inr e)).trans HMz.out (fun _ _ e => .inl e))) (fun hS => ?_)
   clear hK K
   try simp only [pL]
   refine wpAnyH_done (by kernel_rfl) ?_ _
   go_wp2_with fail
   have hXz : Ext w wz := HXk.out.trans HMz.out (fun k hk e => by have := Hqw.out; omega)
   have hM2 : Mod (fun k => k = q ∨ (Value.slice Aj j cj).ownBlock = some k) wq wz := (HMk.out.mono (fun _ _ e => .inr e)).trans HMz.out (fun _ _ e => .inl e)
   go_roundw
   case rel => exact ⟨j + 1, Ak, ck, by omega, HQz.out, ⟨own_mod HSq.out.1 hM2 (fun g hg e => by
     rcases e with e | e
     ·
      exact own_apart HSq.out.1 hg HQq.out (by decide) e
     ·
      exact own_own HSq.out.1 HNq.out.1 (by decide) hg e), HSq.out.2⟩, newE_box HNk.out HQk.out HMz.out (by decide), hXz, hM2.blk HAq.out (fun e => by
     rcases e with e | e
     ·
      have := Hqb.out; omega
     ·
      exact own_apart HNq.out.1 e HAq.out (by decide) rfl), hM2.blk HCq.out (fun e => by
     rcases e with e | e
     ·
      have := Hqb.out; omega
     ·
      exact own_apart HNq.out.1 e HCq.out (by decide) rfl)⟩
   case measure => rw [show wz.cell? ⟨q, 9, none⟩ = some (.slice Ak (j + 1) ck) from blk_cell HQz.out rfl]; simp [cellLen, c9q]; omega
  ·
   go_simp
   refine hK.out _ _ (hS) (fun hS => ?_)
   clear hK K
   try simp only [pL]
   refine tkH 6 (some 104) rfl rfl ?_ hS ?_ ?_
   rotate_left
   ·
    rintro W' hW'
    have y3 := hW'.cell z9 nc
    go_simp
    try with_reducible rfl
   try simp only [pL]
   refine tkH 7 (some 105) rfl rfl ?_ hS ?_ ?_
   rotate_left
   ·
    rintro W' hW'
    have y3 := hW'.cell z9 nc
    go_simp
    try with_reducible rfl
   try simp only [pL]
   refine takeH (i := 8) (v := .agg z.cells.toArray) (some 106) rfl rfl (by kernel_rfl) (by kernel_rfl) (by kernel_rfl) (fun _ _ _ h => h) (Or.inl ⟨by kernel_rfl, ?_⟩) hS ?_
   ·
    rintro W' hW'
    have y3 := hW'.cell z9 nc
    exact exec_ld _ _ rfl (.pointer (some ⟨g2, o2 + j * 16, none⟩)) _ rfl (load_at str_entry rfl (fun j u hu => hW'.cell (hcz j u hu) ng))
   try simp only [pL]
   refine wpAnyH_ready (rs := [1, 9]) (by kernel_rfl) (by simp) ?_
   refine AllReadyH.cons rfl (fun K hK => ?_) (AllReadyH.cons rfl (fun K hK => ?_) AllReadyH.nil)
   ·
    go_simp
    refine hK.out _ _ (hS) (fun hS => ?_)
    clear hK K
    try simp only [pL]
    refine wpAnyH_ready (rs := [9]) (by kernel_rfl) (by simp) ?_
    refine AllReadyH.cons rfl (fun K hK => ?_) AllReadyH.nil
    go_simp
    obtain ⟨we, hwe⟩ : ∃ we, (wq.alloc (.cells #[.int .i64 z.term, .int .i64 z.kind, .int .i64 z.call.client, .int .i64 z.call.seq, .int .i64 z.call.cmd.kind, .string z.call.cmd.key, .int .i64 z.call.cmd.old.kind, .float .f64 z.call.cmd.old.num, .string z.call.cmd.old.text, .int .i64 z.call.cmd.val.kind, .float .f64 z.call.cmd.val.num, .string z.call.cmd.val.text, .int .i64 z.conf.full, .int .i64 z.conf.wit, .int .i64 z.conf.learn, .int .i64 z.conf.learnWit] 56)).drew = we := ⟨_, rfl⟩
    rw [hwe, Hpq.out]
    have HLe : Hid (Ents we _ (.slice (some ⟨pq, 0, none⟩) 1 1) [z]) := Lib.hid (by rw [← hwe, ← Hpq.out]; exact ents_lit' wq z Hzok.out)
    have HEe : Hid (Ext wq we) := Lib.hid (by rw [← hwe]; exact ((Mod.refl _ wq).alloc _).drew)
    have HNe := Lib.hid (newE_mod HNq.out HEe.out (fun _ _ => id))
    have r9e := HEe.out.cell r9 id
    clear hwe
    refine hK.out _ _ ((HEe.out.mod _)) (fun hS => ?_)
    clear hK K
    try simp only [pL]
    refine wpAnyH_ready (rs := [10]) (by kernel_rfl) (by simp) ?_
    refine AllReadyH.cons rfl (fun K hK => ?_) AllReadyH.nil
    refine step_appE rfl _ _ rfl (.slice Aj j cj) _ w rfl HNe.out (HXq.out.ext HEe.out) _ (.slice (some ⟨pq, 0, none⟩) 1 1) [z] rfl HLe.out (by rw [Hjl.out]; simp; omega) ?_
    rintro Ak n1 ck wk hn1 hN1 hX1 hM1
    obtain rfl : n1 = j + 1 := by rw [hn1, List.length_append, Hjl.out]; rfl
    have HNk : Hid (NewE w wk (.slice Ak (j + 1) ck) (y.log.take (j + 1))) := Lib.hid (by rw [← Htk.out]; exact hN1)
    have HMk : Hid (Mod (fun k => (Value.slice Aj j cj).ownBlock = some k) wq wk) := Lib.hid ((HEe.out.mod _).self hM1)
    have HXk := Lib.hid hX1
    have HQk := Lib.hid (HMk.out.blk HQq.out (fun e => own_apart HNq.out.1 e HQq.out (by decide) rfl))
    clear hn1 hN1 hX1 hM1
    refine hK.out _ _ ((HMk.out.mono (fun _ _ e => .inr e))) (fun hS => ?_)
    clear hK K
    try simp only [pL]
    refine tkH 11 (some 109) rfl rfl ?_ hS ?_ ?_
    rotate_left
    ·
     rintro W' hW'
     have y3 := hW'.cell z9 nc
     go_simp
     try with_reducible rfl
    try simp only [pL]
    refine wpAnyH_ready (rs := [12]) (by kernel_rfl) (by simp) ?_
    refine AllReadyH.cons rfl (fun K hK => ?_) AllReadyH.nil
    have f9 : wk.frozen? ⟨q, 9, none⟩ = false := blk_free 9 HQk.out
    have d9 : wk.cell? ⟨q, 9, none⟩ = some _ := blk_cell (cs := [.int .i64 y.term, .int .i64 y.vote, .int .i64 g.base, .int .i64 g.baseTerm, .int .i64 g.conf.full, .int .i64 g.conf.wit, .int .i64 g.conf.learn, .int .i64 g.conf.learnWit, .slice A3 gn c3, .slice Aj j cj]) HQk.out rfl
    go_simp
    obtain ⟨wz, hwz⟩ : ∃ wn, wk.setCell ⟨q, 9, none⟩ (.slice Ak (j + 1) ck) = wn := ⟨_, rfl⟩
    rw [hwz]
    have HQz : Hid (wz.heap[q]? = some (.cells #[.int .i64 y.term, .int .i64 y.vote, .int .i64 g.base, .int .i64 g.baseTerm, .int .i64 g.conf.full, .int .i64 g.conf.wit, .int .i64 g.conf.learn, .int .i64 g.conf.learnWit, .slice A3 gn c3, .slice Ak (j + 1) ck] 34 (0, 0))) := Lib.hid (by rw [← hwz]; simp [World.setCell, Array.getElem?_modify, HQk.out])
    have HMz : Hid (Mod (fun k => k = q) wk wz) := Lib.hid (by rw [← hwz]; exact mod_same (Mod.refl _ wk) _ _)
    clear hwz f9 d9
    refine hK.out _ _ (((HMk.out.mono (fun _ _ e => .inr e)).trans HMz.out (fun _ _ e => .inl e))) (fun hS => ?_)
    clear hK K
    try simp only [pL]
    refine wpAnyH_done (by kernel_rfl) ?_ _
    go_wp2_with fail
    have hXz : Ext w wz := HXk.out.trans HMz.out (fun k hk e => by have := Hqw.out; omega)
    have hM2 : Mod (fun k => k = q ∨ (Value.slice Aj j cj).ownBlock = some k) wq wz := (HMk.out.mono (fun _ _ e => .inr e)).trans HMz.out (fun _ _ e => .inl e)
    go_roundw
    case rel => exact ⟨j + 1, Ak, ck, by omega, HQz.out, ⟨own_mod HSq.out.1 hM2 (fun g hg e => by
      rcases e with e | e
      ·
       exact own_apart HSq.out.1 hg HQq.out (by decide) e
      ·
       exact own_own HSq.out.1 HNq.out.1 (by decide) hg e), HSq.out.2⟩, newE_box HNk.out HQk.out HMz.out (by decide), hXz, hM2.blk HAq.out (fun e => by
      rcases e with e | e
      ·
       have := Hqb.out; omega
      ·
       exact own_apart HNq.out.1 e HAq.out (by decide) rfl), hM2.blk HCq.out (fun e => by
      rcases e with e | e
      ·
       have := Hqb.out; omega
      ·
       exact own_apart HNq.out.1 e HCq.out (by decide) rfl)⟩
    case measure => rw [show wz.cell? ⟨q, 9, none⟩ = some (.slice Ak (j + 1) ck) from blk_cell HQz.out rfl]; simp [cellLen, c9q]; omega
   ·
    go_simp
    obtain ⟨we, hwe⟩ : ∃ we, (wq.alloc (.cells #[.int .i64 z.term, .int .i64 z.kind, .int .i64 z.call.client, .int .i64 z.call.seq, .int .i64 z.call.cmd.kind, .string z.call.cmd.key, .int .i64 z.call.cmd.old.kind, .float .f64 z.call.cmd.old.num, .string z.call.cmd.old.text, .int .i64 z.call.cmd.val.kind, .float .f64 z.call.cmd.val.num, .string z.call.cmd.val.text, .int .i64 z.conf.full, .int .i64 z.conf.wit, .int .i64 z.conf.learn, .int .i64 z.conf.learnWit] 56)).drew = we := ⟨_, rfl⟩
    rw [hwe, Hpq.out]
    have HLe : Hid (Ents we _ (.slice (some ⟨pq, 0, none⟩) 1 1) [z]) := Lib.hid (by rw [← hwe, ← Hpq.out]; exact ents_lit' wq z Hzok.out)
    have HEe : Hid (Ext wq we) := Lib.hid (by rw [← hwe]; exact ((Mod.refl _ wq).alloc _).drew)
    have HNe := Lib.hid (newE_mod HNq.out HEe.out (fun _ _ => id))
    have r9e := HEe.out.cell r9 id
    clear hwe
    refine hK.out _ _ ((HEe.out.mod _)) (fun hS => ?_)
    clear hK K
    try simp only [pL]
    refine wpAnyH_ready (rs := [1]) (by kernel_rfl) (by simp) ?_
    refine AllReadyH.cons rfl (fun K hK => ?_) AllReadyH.nil
    go_simp
    refine hK.out _ _ (hS) (fun hS => ?_)
    clear hK K
    try simp only [pL]
    refine wpAnyH_ready (rs := [10]) (by kernel_rfl) (by simp) ?_
    refine AllReadyH.cons rfl (fun K hK => ?_) AllReadyH.nil
    refine step_appE rfl _ _ rfl (.slice Aj j cj) _ w rfl HNe.out (HXq.out.ext HEe.out) _ (.slice (some ⟨pq, 0, none⟩) 1 1) [z] rfl HLe.out (by rw [Hjl.out]; simp; omega) ?_
    rintro Ak n1 ck wk hn1 hN1 hX1 hM1
    obtain rfl : n1 = j + 1 := by rw [hn1, List.length_append, Hjl.out]; rfl
    have HNk : Hid (NewE w wk (.slice Ak (j + 1) ck) (y.log.take (j + 1))) := Lib.hid (by rw [← Htk.out]; exact hN1)
    have HMk : Hid (Mod (fun k => (Value.slice Aj j cj).ownBlock = some k) wq wk) := Lib.hid ((HEe.out.mod _).self hM1)
    have HXk := Lib.hid hX1
    have HQk := Lib.hid (HMk.out.blk HQq.out (fun e => own_apart HNq.out.1 e HQq.out (by decide) rfl))
    clear hn1 hN1 hX1 hM1
    refine hK.out _ _ ((HMk.out.mono (fun _ _ e => .inr e))) (fun hS => ?_)
    clear hK K
    try simp only [pL]
    refine tkH 11 (some 109) rfl rfl ?_ hS ?_ ?_
    rotate_left
    ·
     rintro W' hW'
     have y3 := hW'.cell z9 nc
     go_simp
     try with_reducible rfl
    try simp only [pL]
    refine wpAnyH_ready (rs := [12]) (by kernel_rfl) (by simp) ?_
    refine AllReadyH.cons rfl (fun K hK => ?_) AllReadyH.nil
    have f9 : wk.frozen? ⟨q, 9, none⟩ = false := blk_free 9 HQk.out
    have d9 : wk.cell? ⟨q, 9, none⟩ = some _ := blk_cell (cs := [.int .i64 y.term, .int .i64 y.vote, .int .i64 g.base, .int .i64 g.baseTerm, .int .i64 g.conf.full, .int .i64 g.conf.wit, .int .i64 g.conf.learn, .int .i64 g.conf.learnWit, .slice A3 gn c3, .slice Aj j cj]) HQk.out rfl
    go_simp
    obtain ⟨wz, hwz⟩ : ∃ wn, wk.setCell ⟨q, 9, none⟩ (.slice Ak (j + 1) ck) = wn := ⟨_, rfl⟩
    rw [hwz]
    have HQz : Hid (wz.heap[q]? = some (.cells #[.int .i64 y.term, .int .i64 y.vote, .int .i64 g.base, .int .i64 g.baseTerm, .int .i64 g.conf.full, .int .i64 g.conf.wit, .int .i64 g.conf.learn, .int .i64 g.conf.learnWit, .slice A3 gn c3, .slice Ak (j + 1) ck] 34 (0, 0))) := Lib.hid (by rw [← hwz]; simp [World.setCell, Array.getElem?_modify, HQk.out])
    have HMz : Hid (Mod (fun k => k = q) wk wz) := Lib.hid (by rw [← hwz]; exact mod_same (Mod.refl _ wk) _ _)
    clear hwz f9 d9
    refine hK.out _ _ (((HMk.out.mono (fun _ _ e => .inr e)).trans HMz.out (fun _ _ e => .inl e))) (fun hS => ?_)
    clear hK K
    try simp only [pL]
    refine wpAnyH_done (by kernel_rfl) ?_ _
    go_wp2_with fail
    have hXz : Ext w wz := HXk.out.trans HMz.out (fun k hk e => by have := Hqw.out; omega)
    have hM2 : Mod (fun k => k = q ∨ (Value.slice Aj j cj).ownBlock = some k) wq wz := (HMk.out.mono (fun _ _ e => .inr e)).trans HMz.out (fun _ _ e => .inl e)
    go_roundw
    case rel => exact ⟨j + 1, Ak, ck, by omega, HQz.out, ⟨own_mod HSq.out.1 hM2 (fun g hg e => by
      rcases e with e | e
      ·
       exact own_apart HSq.out.1 hg HQq.out (by decide) e
      ·
       exact own_own HSq.out.1 HNq.out.1 (by decide) hg e), HSq.out.2⟩, newE_box HNk.out HQk.out HMz.out (by decide), hXz, hM2.blk HAq.out (fun e => by
      rcases e with e | e
      ·
       have := Hqb.out; omega
      ·
       exact own_apart HNq.out.1 e HAq.out (by decide) rfl), hM2.blk HCq.out (fun e => by
      rcases e with e | e
      ·
       have := Hqb.out; omega
      ·
       exact own_apart HNq.out.1 e HCq.out (by decide) rfl)⟩
    case measure => rw [show wz.cell? ⟨q, 9, none⟩ = some (.slice Ak (j + 1) ck) from blk_cell HQz.out rfl]; simp [cellLen, c9q]; omega

end Go.Proofs.YtjhnlncgmejkcaaGreat
