/-
 The walk of HistPlays. Conditions: as the theorems name them.
-/
import Derived.Test.YtbclnghbgoblcaaHisWake
import Derived.Test.YtbclnghbgoblcaaHisLog
import Derived.Test.YtbclnghbgoblcaaSesMore
import Derived.Test.YtbclnghbgoblcaaSesLibO
namespace Go.Proofs.Ytbclnghbgoblcaa
set_option linter.unusedSimpArgs false
open Go.RowKit

def noE : AEntry := ⟨1, 0, ACall.zero, AConf.zero⟩
def calE (c : ACall) : AEntry := ⟨1, 1, c, AConf.zero⟩
def logP (l : List ACall) : List AEntry := l.flatMap fun c => [noE, calE c]
theorem logP_len (l : List ACall) : (logP l).length = 2 * l.length := by
 unfold logP
 induction l with
 | nil => rfl
 | cons c l ih => rw [List.flatMap_cons, List.length_append, ih, List.length_cons]; simp; omega
theorem logP_take {l : List ACall} {i : Nat} {x : ACall} (h : l[i]? = some x) : logP (l.take (i + 1)) = logP (l.take i) ++ [noE, calE x] := by
 obtain ⟨hi, rfl⟩ := List.getElem?_eq_some_iff.1 h
 rw [List.take_succ_eq_append_getElem hi]
 unfold logP
 rw [List.flatMap_append]
 rfl
theorem logP_at {l : List ACall} {i : Nat} {x : ACall} (h : l[i]? = some x) (n : Int) : atP (logP (l.take (i + 1))) n = if 2 * (i : Int) + 1 < n then (onceP (atP (logP (l.take i)) n) x).1 else atP (logP (l.take i)) n := by
 obtain ⟨hi, _⟩ := List.getElem?_eq_some_iff.1 h
 rw [logP_take h]
 exact at_two (by rw [logP_len, List.length_take, Nat.min_eq_left (by omega)]) (by simp [noE]) rfl n
theorem noE_ok : noE.ok := ⟨⟨by decide, by decide⟩, ⟨by decide, by decide⟩, ⟨⟨by decide, by decide⟩, ⟨by decide, by decide⟩, ⟨by decide, by decide⟩, by decide, ⟨⟨by decide, by decide⟩, by decide, Nat.zero_le _⟩, ⟨⟨by decide, by decide⟩, by decide, Nat.zero_le _⟩⟩, conf0_ok⟩
theorem calE_ok {c : ACall} (h : c.ok) : (calE c).ok := ⟨by unfold I64 calE; simp, by unfold I64 calE; simp, h, conf0_ok⟩
theorem sl_two (w : World) (x : ACall) : Sl (w.alloc (.cells #[.int .i64 1, .int .i64 0, .int .i64 0, .int .i64 0, .int .i64 0, .string ⟨#[]⟩, .int .i64 0, .float .f64 0, .string ⟨#[]⟩, .int .i64 0, .float .f64 0, .string ⟨#[]⟩, .int .i64 0, .int .i64 0, .int .i64 0, .int .i64 0, .int .i64 1, .int .i64 1, .int .i64 x.client, .int .i64 x.seq, .int .i64 x.cmd.kind, .string x.cmd.key, .int .i64 x.cmd.old.kind, .float .f64 x.cmd.old.num, .string x.cmd.old.text, .int .i64 x.cmd.val.kind, .float .f64 x.cmd.val.num, .string x.cmd.val.text, .int .i64 0, .int .i64 0, .int .i64 0, .int .i64 0] 39)) (fun h => h = w.heap.size) 16 (.slice (some ⟨w.heap.size, 0, none⟩) 2 2) 2 ([noE, calE x].flatMap AEntry.cells) :=
 sl_lit (xs := [noE, calE x].flatMap AEntry.cells) (heap_alloc_new w _) rfl (by decide)
theorem call_cmd {w : World} {g o : Nat} {x : ACall} (h : At w g o x.cells) : At w g (o + 2) x.cmd.cells := h.sub 2 (fun j u hu => by rw [Nat.add_comm]; exact hu)

set_option maxRecDepth 100000 in
set_option maxHeartbeats 4000000 in
theorem histPlays_walk (w : World) (A : Option Addr) (n cc : Nat) (l : List ACall) (hC : Cas w (fun g => g < w.heap.size) (.slice A n cc) l) (hn : l.length = n) (N : Int) (hN64 : I64 N) :
  Calls Try.prog 3 #[.slice A n cc, .int .i64 N] w fun e w' => e = .returned (.bool true) ∧ Below w.heap.size w w' := by
 have hl := hC.1.le
 rw [hn] at hl
 unfold maxLen at hl
 obtain ⟨i0, hinf, hz0, hz1, hz2⟩ := info_parts info_entry
 by_cases h1 : 60 < n
 ·
  have d1 : decide ((n : Int) > 60) = true := by simp; omega
  go_enter Try.func3, Try.ntmps3
  go_wp2
  go_ret
  exact ⟨rfl, Ext.below (Mod.refl _ w)⟩
 have d1 : decide ((n : Int) > 60) = false := by simp; omega
 obtain ⟨b, hb⟩ : ∃ b, w.heap.size = b := ⟨_, rfl⟩
 obtain ⟨W, hW⟩ : ∃ W, W = w.alloc (.cells #[.slice none 0 0, .slice none 0 0] 27) := ⟨_, rfl⟩
 have hE : Ext w W := by rw [hW]; exact (Mod.refl _ w).alloc _
 have hB : W.heap[b]? = some (.cells #[.slice none 0 0, .slice none 0 0] 27 (0, 0)) := by rw [hW, ← hb]; exact heap_alloc_new w _
 have HC := Lib.hid hC
 have Hn := Lib.hid hn
 have HW := Lib.hid hW
 have Hb := Lib.hid hb
 have HE := Lib.hid hE
 have HB := Lib.hid hB
 have HN64 := Lib.hid hN64
 clear hC hn hW hb hE hB hN64
 go_enter Try.func3, Try.ntmps3
 go_wp2
 rw [← HW.out, Hb.out]
 go_loopw [5, 7] (fun lv iv wr => ∃ (i : Nat) (AL : Option Addr) (cl : Nat) (m : AMach) (A1 A2 : Option Addr) (c1 c2 : Nat), i ≤ n ∧ lv = .slice AL (2 * i) cl ∧ iv = .int .i64 i ∧ NewE w wr (.slice AL (2 * i) cl) (logP (l.take i)) ∧ wr.heap[b]? = some (.cells #[.slice A1 m.pairs.length c1, .slice A2 m.sess.length c2] 27 (0, 0)) ∧ NewM w wr (.slice A1 m.pairs.length c1) (.slice A2 m.sess.length c2) m ∧ atP (logP (l.take i)) N = m ∧ Ext w wr) (fun _ iv _ => n - (intOf iv).toNat)
 case atStart => exact ⟨0, none, 0, mach0, none, none, 0, 0, by omega, rfl, rfl, newE_nil _ _, HB.out, ⟨⟨World.ownsRow_nil _ _ _ _, by simp [mach0], by simp [Value.ownBlock]⟩, ⟨World.ownsRow_nil _ _ _ _, by simp [mach0], by simp [Value.ownBlock]⟩, by simp [Value.ownBlock]⟩, by simp [logP, atP], HE.out⟩
 case round =>
  obtain ⟨i, AL, cl, m, A1, A2, c1, c2, hin, rfl, rfl, hL, hB, hM, hm, hX⟩ := hrel
  have Hm := Lib.hid hm
  have HR : Hid (machB m = true) := Lib.hid (by rw [← hm]; exact atP_right _ _)
  have HL := Lib.hid hL
  have HN := Lib.hid hM
  have HX := Lib.hid hX
  have Kmwr := Lib.hid hB
  have hll : (logP (l.take i)).length = 2 * i := by rw [logP_len, List.length_take, Nat.min_eq_left (by rw [Hn.out]; exact hin)]
  have Hll := Lib.hid hll
  clear hm hL hM hX hB hll HB HE HW
  by_cases hi : i < n
  case neg =>
   have Hf : Hid (atP (logP l) N = m) := Lib.hid (by rw [← Hm.out, List.take_of_length_le (by rw [Hn.out]; omega)])
   have hLl : logP (l.take i) = logP l := by rw [List.take_of_length_le (by rw [Hn.out]; omega)]
   have HLl : Hid (NewE w wr (.slice AL (2 * i) cl) (logP l)) := Lib.hid (by rw [← hLl]; exact HL.out)
   clear hLl HL
   have m_0 : wr.cell? ⟨b, 0, none⟩ = some _ := blk_cell Kmwr.out rfl
   have m_1 : wr.cell? ⟨b, 1, none⟩ = some _ := blk_cell Kmwr.out rfl
   have m_l : b < wr.heap.size := (Array.getElem?_eq_some_iff.1 Kmwr.out).1
   go_wp2_with fail
   clear m_0 m_1 m_l
   have m_0 : wr.cell? ⟨b, 0, none⟩ = some _ := blk_cell Kmwr.out rfl
   have m_1 : wr.cell? ⟨b, 1, none⟩ = some _ := blk_cell Kmwr.out rfl
   have m_l : b < wr.heap.size := (Array.getElem?_eq_some_iff.1 Kmwr.out).1
   refine wp_region_held_drew (S := fun W' => Ext wr W') (by kernel_rfl) (Mod.refl _ wr).drew (fun hS => ?_)
   refine tkE 0 (some 47) rfl rfl ?_ hS ?_ ?_; rotate_left; · rintro W' _ _; go_simp; try with_reducible rfl
   try simp only [pL]
   refine tkE 1 (some 48) rfl rfl ?_ hS ?_ ?_; rotate_left; · rintro W' _ _; go_simp; try with_reducible rfl
   try simp only [pL]
   refine tkE 3 (some 50) rfl rfl ?_ hS ?_ ?_; rotate_left; · rintro W' _ _; go_simp; try with_reducible rfl
   try simp only [pL]
   refine wpAnyH_ready (rs := [2]) (by kernel_rfl) (by simp) ?_
   refine AllReadyH.cons rfl (fun K hK => ?_) AllReadyH.nil
   go_simp
   go_wp2_with fail
   refine (h_at _ _ _ (logP l) N (HLl.out.ents.ext hS) HN64.out).mono ?_
   rintro e w1 ⟨p9, v9, rfl, hN9, hE⟩
   have HN9 := Lib.hid hN9
   clear hN9
   rw [Hf.out] at HN9
   have hX := Mod.ext hS hE
   clear hE hS
   go_simp
   refine hK.out _ _ hX (fun hS => ?_)
   clear hK K hX
   refine wpAnyH_ready (rs := [4]) (by kernel_rfl) (by simp) ?_
   refine AllReadyH.cons rfl (fun K hK => ?_) AllReadyH.nil
   go_simp
   go_wp2_with fail
   refine (k_machine _ _ _ _ _ _ _ _ _ m.pairs m.pairs m.sess m.sess HN9.out.prs (HN.out.prs.ext hS) HN9.out.ses (HN.out.ses.ext hS)).mono ?_
   rintro e w2 ⟨rfl, hE⟩
   rw [show eqM ⟨m.pairs, m.sess⟩ ⟨m.pairs, m.sess⟩ = true from eqM_refl _]
   have hX := Mod.ext hS hE
   clear hE hS
   go_simp
   refine hK.out _ _ hX (fun hS => ?_)
   clear hK K hX
   refine tkE 5 (some 52) rfl rfl ?_ hS ?_ ?_; rotate_left; · rintro W' _ _; go_simp; try with_reducible rfl
   try simp only [pL]
   refine wpAnyH_ready (rs := [6]) (by kernel_rfl) (by simp) ?_
   refine AllReadyH.cons rfl (fun K hK => ?_) AllReadyH.nil
   go_simp
   go_wp2_with fail
   refine (l_wakes25 _).mono ?_
   rintro e w3 ⟨rfl, hE⟩
   have hX := Mod.ext hS hE
   clear hE hS
   go_simp
   refine hK.out _ _ hX (fun hS => ?_)
   clear hK K hX
   refine tkE 7 (some 54) rfl rfl ?_ hS ?_ ?_; rotate_left; · rintro W' _ _; go_simp; try with_reducible rfl
   try simp only [pL]
   refine tkE 8 (some 4) rfl rfl ?_ hS ?_ ?_; rotate_left; · rintro W' _ _; go_simp; try with_reducible rfl
   try simp only [pL]
   refine wpAnyH_done (by kernel_rfl) ?_ _
   have hE := hS
   clear hS
   clear m_0 m_1 m_l
   have Kmw3 := Lib.hid (hE.blk Kmwr.out id)
   replace HN := Lib.hid (newM_mod HN.out hE (fun _ _ => id) (fun _ _ => id))
   replace HLl := Lib.hid (newE_mod HLl.out hE (fun _ _ => id))
   replace HX := Lib.hid (HX.out.ext hE)
   clear Kmwr
   clear hE
   have m_0 : w3.cell? ⟨b, 0, none⟩ = some _ := blk_cell Kmw3.out rfl
   have m_1 : w3.cell? ⟨b, 1, none⟩ = some _ := blk_cell Kmw3.out rfl
   have m_l : b < w3.heap.size := (Array.getElem?_eq_some_iff.1 Kmw3.out).1
   go_wp2
   go_ret
   exact ⟨rfl, Ext.below HX.out⟩
  obtain ⟨g, off, x, rfl, hgT, hx, hxok, hcells⟩ := (HC.out.ext HX.out).at hi
  have hi0 : (0 : Int) ≤ (i : Int) := by omega
  have hi1 : (i : Int) < (n : Int) := by omega
  have Hx := Lib.hid hx
  have Hxok := Lib.hid hxok
  have Hcells : Hid (At wr g (off + i * 10) x.cells) := Lib.hid hcells
  have Hg : Hid (g < w.heap.size) := Lib.hid hgT
  clear hcells hx hxok hgT
  have hld := load_cmd x.cmd (call_cmd Hcells.out)
  go_wp2_with (refine wpList_load rfl 33 _ rfl _ _ rfl hld ?_)
  clear hld
  refine (hv_cmd x.cmd _).mono ?_
  rintro e w1 ⟨rfl, hE⟩
  have Hcells1 : Hid (At w1 g (off + i * 10) x.cells) := Lib.hid (fun j u hu => hE.cell (Hcells.out j u hu) id)
  have HL1 := Lib.hid (newE_mod HL.out hE (fun _ _ => id))
  have HN1 := Lib.hid (newM_mod HN.out hE (fun _ _ => id) (fun _ _ => id))
  have HX1 := Lib.hid (HX.out.ext hE)
  have Kmw1 := Lib.hid (hE.blk Kmwr.out id)
  clear hE Hcells HL HN HX Kmwr
  rcases hh : heavyCmd x.cmd with _ | _
  case true =>
   go_wp2
   go_ret
   exact ⟨rfl, Ext.below HX1.out⟩
  have hld := load_call x Hcells1.out
  have hown : w1.ownsRow 0 39 16 (.slice AL (2 * i) cl) (2 * i) ((logP (l.take i)).flatMap AEntry.cells) := by
   have := HL1.out.1
   rwa [Hll.out] at this
  have Hown := Lib.hid hown
  clear hown
  go_wp2_with (first | (refine wpList_load rfl 35 _ rfl _ _ rfl hld ?_) | (at_builtin; go_must (refine wpList_app _ rfl _ _ 23 rfl 39 i0 _ 16 152 Try.underlying23 hinf hz0 hz1 hz2 rfl (by omega) _ (2 * i) _ rfl (Hown.out.alloc _) _ _ 2 ([noE, calE x].flatMap AEntry.cells) rfl (sl_two w1 x) (entry_one [noE, calE x]) (by simp only [maxLen]; omega) (by omega) ?_)))
  intro v' w2 ho hgr hat
  have hW1 : Ext w1 (w1.alloc (.cells #[.int .i64 1, .int .i64 0, .int .i64 0, .int .i64 0, .int .i64 0, .string ⟨#[]⟩, .int .i64 0, .float .f64 0, .string ⟨#[]⟩, .int .i64 0, .float .f64 0, .string ⟨#[]⟩, .int .i64 0, .int .i64 0, .int .i64 0, .int .i64 0, .int .i64 1, .int .i64 1, .int .i64 x.client, .int .i64 x.seq, .int .i64 x.cmd.kind, .string x.cmd.key, .int .i64 x.cmd.old.kind, .float .f64 x.cmd.old.num, .string x.cmd.old.text, .int .i64 x.cmd.val.kind, .float .f64 x.cmd.val.num, .string x.cmd.val.text, .int .i64 0, .int .i64 0, .int .i64 0, .int .i64 0] 39)) := (Mod.refl _ _).alloc _
  have hL2 : NewE w w2 v' (logP (l.take (i + 1))) := by
   rw [logP_take Hx.out]
   exact newE_app (newE_mod HL1.out hW1 (fun _ _ => id)) (fun y hy => by
    simp only [List.mem_cons, List.not_mem_nil, or_false] at hy
    rcases hy with rfl | rfl
    ·
     exact noE_ok
    ·
     exact calE_ok Hxok.out) Hll.out rfl ho hat (by have := HX1.out.size; omega)
  have hM2 : Mod (fun k => (Value.slice AL (2 * i) cl).ownBlock = some k) w1 w2 := ((Mod.refl _ _).alloc _).grown hgr (fun k e => .inr e)
  have hlo := HL1.out.2.2
  have HX2 : Hid (Ext w w2) := Lib.hid (Mod.toExt ((Ext.mod HX1.out (Since w.heap.size)).trans hM2 (fun k _ e => hlo k e)))
  have HN2 := Lib.hid (newM_mod HN1.out hM2 (fun k e1 e2 => own_own HL1.out.1 HN1.out.1.1 (by decide) e2 e1) (fun k e1 e2 => own_own HL1.out.1 HN1.out.2.1.1 (by decide) e2 e1))
  have Kmw2 := Lib.hid (hM2.blk Kmw1.out (fun e => own_apart HL1.out.1 e Kmw1.out (by decide) rfl))
  obtain ⟨A9, c9, rfl⟩ := hL2.form
  have e9 : (logP (l.take (i + 1))).length = 2 * (i + 1) := by rw [logP_take Hx.out, List.length_append, Hll.out]; simp; omega
  rw [e9] at hL2 ⊢
  have HL2 := Lib.hid hL2
  clear hW1 ho hgr hat hL2 hM2 hlo hld Hown Kmw1 HN1 HX1 HL1 Hcells1 e9
  have Hstep := Lib.hid (logP_at Hx.out N)
  by_cases hlt : 2 * (i : Int) + 1 < N
  case neg =>
   have dl : decide (2 * (i : Int) + 1 < N) = false := by simp; omega
   have Hm2 : Hid (atP (logP (l.take (i + 1))) N = m) := Lib.hid (by rw [Hstep.out, if_neg hlt]; exact Hm.out)
   clear hlt
   go_wp2
   exact ⟨⟨i + 1, A9, c9, m, A1, A2, c1, c2, by omega, rfl, by go_num, HL2.out, Kmw2.out, HN2.out, Hm2.out, HX2.out⟩, by simp [intOf]; omega⟩
  have dl : decide (2 * (i : Int) + 1 < N) = true := by simp; omega
  rcases hr : onceP m x with ⟨MN, rN⟩
  have Hon := Lib.hid hr
  have Hm2 : Hid (atP (logP (l.take (i + 1))) N = MN) := Lib.hid (by rw [Hstep.out, if_pos hlt, Hm.out, hr])
  clear hlt hr
  obtain ⟨g2, off2, x2, hA2, _, hx2, _, hcells2⟩ := (HC.out.ext HX2.out).at hi
  injection hA2 with hA2
  injection hA2 with hg2 ho2
  subst hg2; subst ho2
  obtain rfl : x = x2 := by have := Hx.out; rw [hx2] at this; injection this with this; exact this.symm
  have ngb : ¬ g = b := by have := Hg.out; have := Hb.out; omega
  have y0 := hcells2 0 _ rfl
  have y1 := hcells2 1 _ rfl
  have y2 := hcells2 2 _ rfl
  have y3 := hcells2 3 _ rfl
  have y4 := hcells2 4 _ rfl
  have y5 := hcells2 5 _ rfl
  have y6 := hcells2 6 _ rfl
  have y7 := hcells2 7 _ rfl
  have y8 := hcells2 8 _ rfl
  have y9 := hcells2 9 _ rfl
  rw [Nat.add_zero] at y0
  clear hx2 hcells2
  go_wp2_with fail
  refine wp_region_held_drew (S := (fun W' : World => Mod (fun k => k = b) w2 W' ∧ ∃ x y, W'.heap[b]? = some (.cells #[x, y] 27 (0, 0)))) (by kernel_rfl) ⟨(Mod.refl _ w2).drew, _, _, Kmw2.out⟩ (fun hS => ?_)
  refine tkH 1 (some 40) rfl rfl ?_ hS ?_ ?_; rotate_left; · rintro W' ⟨_,_⟩; go_simp; try with_reducible rfl
  try simp only [pL]
  refine tkH 2 (some 41) rfl rfl ?_ hS ?_ ?_; rotate_left; · rintro W' ⟨_,_⟩; go_simp; try with_reducible rfl
  try simp only [pL]
  refine tkH 3 (some 42) rfl rfl ?_ hS ?_ ?_; rotate_left; · rintro W' ⟨_,_⟩; go_simp; try with_reducible rfl
  try simp only [pL]
  refine tkH 4 (some 43) rfl rfl ?_ hS ?_ ?_
  rotate_left
  ·
   rintro W' ⟨hm', _⟩
   have q0 := hm'.cell y0 ngb
   have q1 := hm'.cell y1 ngb
   have q2 := hm'.cell y2 ngb
   have q3 := hm'.cell y3 ngb
   have q4 := hm'.cell y4 ngb
   have q5 := hm'.cell y5 ngb
   have q6 := hm'.cell y6 ngb
   have q7 := hm'.cell y7 ngb
   have q8 := hm'.cell y8 ngb
   have q9 := hm'.cell y9 ngb
   go_simp
   try with_reducible rfl
  try simp only [pL]
  refine wpAnyH_ready (rs := [0]) (by kernel_rfl) (by simp) ?_
  refine AllReadyH.cons rfl (fun K hK => ?_) AllReadyH.nil
  have m0 : w2.cell? ⟨b, 0, none⟩ = some _ := blk_cell Kmw2.out rfl
  have m1 : w2.cell? ⟨b, 1, none⟩ = some _ := blk_cell Kmw2.out rfl
  go_simp
  refine hK.out _ _ hS (fun hS => ?_)
  clear hK K m0 m1
  try simp only [pL]
  refine wpAnyH_ready (rs := [5]) (by kernel_rfl) (by simp) ?_
  refine AllReadyH.cons rfl (fun K hK => ?_) AllReadyH.nil
  go_simp
  go_wp2_with fail
  refine (r_once_at _ _ _ _ _ m x (HN2.out.prs.ext (Mod.refl _ _).drew) (HN2.out.ses.ext (Mod.refl _ _).drew) (mach_small HR.out) Hxok.out.2.2.2.2.2 Hon.out).mono ?_
  rintro e wd ⟨pv2, v2, rfl, hN2, hE2⟩
  obtain ⟨A3, c3, rfl⟩ := own_form hN2.1.1
  obtain ⟨A4, c4, rfl⟩ := own_form hN2.2.1.1
  have hB2 := hE2.blk Kmw2.out id
  have hX := (⟨hS.1.ext hE2, _, _, hB2⟩ : (fun W' : World => Mod (fun k => k = b) w2 W' ∧ ∃ x y, W'.heap[b]? = some (.cells #[x, y] 27 (0, 0))) wd)
  have hM2 : Mod (fun k => k = b) w2 wd := hS.1.ext hE2
  clear hS
  go_simp
  refine hK.out _ _ hX (fun hS => ?_)
  clear hK K hX
  try simp only [pL]
  refine tkH 6 (some 38) rfl rfl ?_ hS ?_ ?_; rotate_left; · rintro W' ⟨_,_⟩; go_simp; try with_reducible rfl
  try simp only [pL]
  refine tkH 7 (some 45) rfl rfl ?_ hS ?_ ?_; rotate_left; · rintro W' ⟨_,_⟩; go_simp; try with_reducible rfl
  try simp only [pL]
  refine tkH 8 (some 46) rfl rfl ?_ hS ?_ ?_; rotate_left; · rintro W' ⟨_,_⟩; go_simp; try with_reducible rfl
  try simp only [pL]
  refine wpAnyH_ready (rs := [9]) (by kernel_rfl) (by simp) ?_
  refine AllReadyH.cons rfl (fun K hK => ?_) AllReadyH.nil
  have f0 : wd.frozen? ⟨b, 0, none⟩ = false := blk_free 0 hB2
  have f1 : wd.frozen? ⟨b, 1, none⟩ = false := blk_free 1 hB2
  have d0 : wd.cell? ⟨b, 0, none⟩ = some _ := blk_cell hB2 rfl
  have d1 : wd.cell? ⟨b, 1, none⟩ = some _ := blk_cell hB2 rfl
  have hB3 : ((wd.setCell ⟨b, 0, none⟩ (.slice A3 MN.pairs.length c3)).setCell ⟨b, 1, none⟩ (.slice A4 MN.sess.length c4)).heap[b]? = some (.cells #[.slice A3 MN.pairs.length c3, .slice A4 MN.sess.length c4] 27 (0, 0)) := by simp [World.setCell, Array.getElem?_modify, hB2]
  have hM3 : Mod (fun k => k = b) wd ((wd.setCell ⟨b, 0, none⟩ (.slice A3 MN.pairs.length c3)).setCell ⟨b, 1, none⟩ (.slice A4 MN.sess.length c4)) := mod_same (mod_same (Mod.refl _ _) _ _) _ _
  have hX := (⟨hS.1.self hM3, _, _, hB3⟩ : (fun W' : World => Mod (fun k => k = b) w2 W' ∧ ∃ x y, W'.heap[b]? = some (.cells #[x, y] 27 (0, 0))) _)
  go_simp
  refine hK.out _ _ hX (fun hS => ?_)
  clear hK K hX
  refine wpAnyH_done (by kernel_rfl) ?_ _
  clear f0 f1 d0 d1 hS
  have hup := newM_up hN2 (show w.heap.size ≤ _ by have := HX2.out.size; simpa using this)
  have HN3 := Lib.hid (newM_box hup hB2 hM3 (by decide) (by decide))
  have HB3 := Lib.hid hB3
  have HX3 : Hid (Ext w _) := Lib.hid (Mod.toExt (((Ext.mod HX2.out (Since w.heap.size)).trans hM2 (fun k _ e => by have := Hb.out; unfold Since; omega)).trans hM3 (fun k _ e => by have := Hb.out; unfold Since; omega)))
  have hLd := newE_box HL2.out Kmw2.out hM2 (by decide)
  have HL3 := Lib.hid (newE_box hLd hB2 hM3 (by decide))
  clear hB3 hM3 hM2 hup hB2 hN2 hE2 hLd y0 y1 y2 y3 y4 y5 y6 y7 y8 y9
  go_wp2
  exact ⟨⟨i + 1, A9, c9, MN, A3, A4, c3, c4, by omega, rfl, by go_num, HL3.out, HB3.out, HN3.out, Hm2.out, HX3.out⟩, by simp [intOf]; omega⟩
theorem histPlays_a (w : World) (v : Value) (l : List ACall) (N : Int) (hC : Cas w (fun g => g < w.heap.size) v l) (hN64 : I64 N) :
  Calls Try.prog 3 #[v, .int .i64 N] w fun e w' => e = .returned (.bool true) ∧ Below w.heap.size w w' := by
 obtain ⟨A, cc, rfl⟩ := hC.form
 exact histPlays_walk w A _ cc l hC rfl N hN64
end Go.Proofs.Ytbclnghbgoblcaa
