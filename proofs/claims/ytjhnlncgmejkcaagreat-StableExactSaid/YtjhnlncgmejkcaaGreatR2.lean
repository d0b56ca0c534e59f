/-
 The page's Save (layer 11; printed by stbrf.py). Conditions: as each theorem names them.
-/
import Derived.Test.YtjhnlncgmejkcaaGreatTakeI
import Derived.Test.YtjhnlncgmejkcaaGreatStbRd
import Derived.Test.YtjhnlncgmejkcaaGreatS24
import Derived.Test.YtjhnlncgmejkcaaGreatStbRe
set_option maxRecDepth 100000
set_option maxHeartbeats 2000000
namespace Go.Proofs.YtjhnlncgmejkcaaGreat
set_option linter.unusedSimpArgs false
open Go.RowKit
theorem zjS : ∀ {l m : List zI} (_ : ∀ x ∈ l, xB x = true ∧ x.ok) (_ : ∀ x ∈ m, xB x = true ∧ x.ok), zd3 l m = true → l = m
 | [], [], _, _, _ => rfl
 | [], _ :: _, _, _, h => by cases h
 | _ :: _, [], _, _, h => by cases h
 | x :: l, y :: m, hl, hm, h => by
  have h2 : (xZ x y && eqL xZ l m) = true := h
  rw [Bool.and_eq_true] at h2
  rw [eqE_eq (hl x (by simp)).1 (hm y (by simp)).1 h2.1, zjS (fun z hz => hl z (by simp [hz])) (fun z hz => hm z (by simp [hz])) h2.2]
theorem zqJ {g h : zC} (hg : zeQ g) (hh : zeQ h) (e : za1 h g = true) : h = g := by
 unfold za1 at e
 simp only [Bool.and_eq_true, beq_iff_eq] at e
 obtain ⟨⟨⟨⟨⟨⟨h1, h2⟩, h3⟩, h4⟩, h5⟩, h6⟩, h7⟩ := e
 replace h5 := zjQ h5
 replace h7 := zjS (fun x hx => ⟨jH hh.1.r x hx, hh.2.1 x hx⟩) (fun x hx => ⟨jH hg.1.r x hx, hg.2.1 x hx⟩) h7
 obtain ⟨a, b, c, d, e, f, l⟩ := h
 obtain ⟨a', b', c', d', e', f', l'⟩ := g
 simp only at h1 h2 h3 h4 h5 h6 h7
 subst h1 h2 h3 h4 h5 h6 h7
 rfl
def ziI (w : World) (s d : Nat) (fv gs gl : Value) (g : zC) (R : zJ × zC × Int) (e : Ending) (w' : World) : Prop := e = .returned (.int .i64 R.2.2) ∧ ∃ fv' gs' gl', Qsk w' d fv' R.1 ∧ QtB w' s d R.2.1 gs' gl' ∧ Mod (fun k => k = d ∨ fv.ownBlock = some k ∨ k = s) w w' ∧
 (∀ k, fv'.ownBlock = some k → fv.ownBlock = some k ∨ w.heap.size ≤ k) ∧ ((gs' = gs ∧ gl' = gl ∧ R.2.1 = g) ∨ (jP w w' gs' gl' R.2.1 ∧ ∀ k, gs'.ownBlock = some k → fv'.ownBlock ≠ some k))
theorem ziI.same {w w' : World} {s d : Nat} {fv gs gl : Value} {D D' : zJ} {g : zC} {R : zJ × zC × Int} {c : Int} {e : Ending} (hR : R = (D', g, c)) (hS : QtB w s d g gs gl) (hD : Qsk w d fv D) (hM : QM w d fv D' w') (he : e = .returned (.int .i64 c)) : ziI w s d fv gs gl g R e w' := by
 subst hR
 obtain ⟨fv', h1, h2, h3⟩ := hM
 exact ⟨he, fv', gs, gl, h1, hS.dm hD h2, h2.mono (fun k _ hk => by rcases hk with e | e; exact .inl e; exact .inr (.inl e)), h3, .inl ⟨rfl, rfl, rfl⟩⟩
theorem r10_Save (w : World) (T U : Nat → Prop) (s d : Nat) (g h : zC) (Bs : Option Addr) (gn bs : Nat) (Bl : Option Addr) (gg bl : Nat) (As : Option Addr) (sl cs : Nat) (Al : Option Addr) (ll cl : Nat) (fv : Value) (D : zJ) (hS : QtB w s d g (.slice Bs gn bs) (.slice Bl gg bl)) (hD : Qsk w d fv D) (hg : zY w T (.slice Bs gn bs) (.slice Bl gg bl) g) (hgn : g.snap.length = gn) (hgl : g.log.length = gg) (hv : zY w U (.slice As sl cs) (.slice Al ll cl) h) (hsn : h.snap.length = sl) (hll : h.log.length = ll) (hU : ∀ k, U k → k ≠ d ∧ fv.ownBlock ≠ some k) (hl : ll ≤ 12700) (hgh : zeQ g) (hsl : sl ≤ 1000000) :
  Calls Tryz.prog 58 #[.pointer (some ⟨s, 0, none⟩), .agg #[.int .i64 h.term, .int .i64 h.vote, .int .i64 h.base, .int .i64 h.baseTerm, .int .i64 h.conf.full, .int .i64 h.conf.wit, .int .i64 h.conf.learn, .int .i64 h.conf.learnWit, .slice As sl cs, .slice Al ll cl]] w (ziI w s d fv (.slice Bs gn bs) (.slice Bl gg bl) g (yQ D g h)) := by
 obtain ⟨W, hW⟩ : ∃ W, w.alloc (.cells (h.cells (.slice As sl cs) (.slice Al ll cl)).toArray 34) = W := ⟨_, rfl⟩
 have hE : Ext w W := by rw [← hW]; exact (Mod.refl _ w).alloc _
 obtain ⟨b, hb⟩ : ∃ b, w.heap.size = b := ⟨_, rfl⟩
 have hA : W.heap[b]? = some (.cells (h.cells (.slice As sl cs) (.slice Al ll cl)).toArray 34 (0, 0)) := by rw [← hW, ← hb]; exact heap_alloc_new w _
 have hSW : QtB W s d g (.slice Bs gn bs) (.slice Bl gg bl) := hE.blk hS id
 obtain ⟨_, _, _, k3, _, _⟩ := (hD.ext hE).cells
 have HW := hJ hW
 have HE := hJ hE
 have Hb := hJ hb
 have HA := hJ hA
 have HS := hJ hS
 have HSW := hJ hSW
 have HD := hJ hD
 have Hg := hJ hg
 have HvW := hJ (hv.mod hE (fun _ _ => id))
 have Hv := hJ hv
 have HU := hJ hU
 have Hll := hJ hll
 have Hgl := hJ hgl
 have Hsn := hJ hsn
 have Hgn := hJ hgn
 have Hl := hJ hl
 have Hgh := hJ hgh
 obtain ⟨R, hR⟩ : ∃ R, yQ D g h = R := ⟨_, rfl⟩
 rw [hR]
 have HR := hJ hR
 have t0 : W.cell? ⟨s, 0, none⟩ = some (.pointer (some ⟨d, 0, none⟩)) := zB (cs := (yX d g (.slice Bs gn bs) (.slice Bl gg bl))) hSW rfl
 clear hW hE hb hA hSW hg hv hll hgl hsn hgn hS hD hU hR hl hgh
 rcases hoff : D.off with _ | _
 rotate_left
 ·
  rw [hoff] at k3
  have HRq : Hid (R = (D, g, 4)) := hJ (by rw [← HR.out]; unfold yQ; rw [hoff]; rfl)
  clear hoff
  go_enter Tryz.func58, Tryz.ntmps58
  go_upto_region 1 with fail
  rw [HW.out]
  go_wp2
  go_ret
  exact ziI.same HRq.out HS.out HD.out (QM.same HD.out HE.out) rfl
 rw [hoff] at k3
 have Hoff := hJ hoff
 clear hoff
 have c0 : W.cell? ⟨b, 0, none⟩ = some (.int .i64 h.term) := zB (cs := (h.cells (.slice As sl cs) (.slice Al ll cl))) HA.out rfl
 have c2 : W.cell? ⟨b, 2, none⟩ = some (.int .i64 h.base) := zB (cs := (h.cells (.slice As sl cs) (.slice Al ll cl))) HA.out rfl
 have s1 : W.cell? ⟨s, 1, none⟩ = some (.int .i64 g.term) := zB (cs := (yX d g (.slice Bs gn bs) (.slice Bl gg bl))) HSW.out rfl
 have s3 : W.cell? ⟨s, 3, none⟩ = some (.int .i64 g.base) := zB (cs := (yX d g (.slice Bs gn bs) (.slice Bl gg bl))) HSW.out rfl
 have hbl : b < W.heap.size := (Array.getElem?_eq_some_iff.1 HA.out).1
 have hsL : s < W.heap.size := (Array.getElem?_eq_some_iff.1 HSW.out).1
 obtain ⟨tv, htv⟩ : ∃ tv, (!yG h || decide (h.term < g.term) || decide (h.base < g.base)) = tv := ⟨_, rfl⟩
 have Htv := hJ htv
 clear htv
 go_enter Tryz.func58, Tryz.ntmps58
 go_upto_region 1 with fail
 rw [HW.out, Hb.out]
 go_upto_region 3 with fail
 clear k3
 go_cut [35] (fun s35 wx => s35 = .bool tv ∧ Ext W wx)
 case first =>
  rcases hck : yG h with _ | _
  ·
   have Ht : Hid (tv = true) := hJ (by rw [← Htv.out, hck]; rfl)
   refine wp_region_held_drew (S := fun W' => Ext W W') (by kernel_rfl) (Mod.refl _ W).drew (fun hS => ?_)
   refine tkH 0 (some 13) rfl rfl (.agg (h.cells (.slice As sl cs) (.slice Al ll cl)).toArray) hS ?_ ?_
   · rintro W' hW'
     obtain ⟨hbc, hbf⟩ := zc3 hW'
     exact yD _ _ rfl (.pointer (some ⟨b, 0, none⟩)) _ rfl (zF (P := Tryz.prog) (o := 0) (cs := h.cells (.slice As sl cs) (.slice Al ll cl)) zA (hW'.blk HA.out id) rfl (fun j u hu => by rw [Nat.zero_add]; exact hu))
   try simp only [pL]
   refine xJ 1 rfl (fun K hK => ?_)
   go_simp
   go_wp2_with fail
   refine (zbL W.drew U h _ _ (by have h1 := HvW.out; exact h1) (by rw [Hll.out]; have := Hl.out; omega)).mono ?_
   rintro e w6 ⟨rfl, hE6⟩
   rw [hck]
   have hX := (hS.ext hE6)
   go_simp
   refine hK.out _ _ hX (fun hS => ?_)
   clear hK K hX
   try simp only [pL]
   iterate 21
    first | refine tkJ 2 (some 15) rfl rfl ?_ hS ?_ ?_ | refine tkJ 3 (some 16) rfl rfl ?_ hS ?_ ?_ | refine tuI 4 (some 17) rfl rfl hS ?_ | refine tuI 5 (some 18) rfl rfl hS ?_ | refine tuI 6 (some 19) rfl rfl hS ?_ | refine tuI 7 (some 20) rfl rfl hS ?_ | refine tuI 8 (some 21) rfl rfl hS ?_ | refine tuI 9 (some 22) rfl rfl hS ?_ | refine tuI 10 (some 23) rfl rfl hS ?_ | refine tuI 11 (some 24) rfl rfl hS ?_ | refine tkJ 12 (some 25) rfl rfl ?_ hS ?_ ?_ | refine tkJ 13 (some 26) rfl rfl ?_ hS ?_ ?_ | refine tuI 14 (some 27) rfl rfl hS ?_ | refine tuI 15 (some 28) rfl rfl hS ?_ | refine tuI 16 (some 29) rfl rfl hS ?_ | refine tuI 17 (some 30) rfl rfl hS ?_ | refine tuI 18 (some 31) rfl rfl hS ?_ | refine tuI 19 (some 32) rfl rfl hS ?_ | refine tuI 20 (some 33) rfl rfl hS ?_ | refine tuI 21 (some 34) rfl rfl hS ?_ | refine tkJ 22 (some 35) rfl rfl ?_ hS ?_ ?_
    try
     rotate_left
     · rintro W' _ _; go_simp; try rfl
    try simp only [pL]
   refine wpAnyH_done (by kernel_rfl) ?_ _
   go_wp2_with fail
   go_meet
   exact ⟨by first | (rw [Ht.out]; done) | (rw [Ht.out]; rfl) | (rw [Ht.out]; simp; omega), hS⟩
  by_cases h1 : h.term < g.term
  ·
   have Ht : Hid (tv = true) := hJ (by rw [← Htv.out, decide_eq_true h1]; simp)
   have d1 : decide (h.term < g.term) = true := decide_eq_true h1
   refine wp_region_held_drew (S := fun W' => Ext W W') (by kernel_rfl) (Mod.refl _ W).drew (fun hS => ?_)
   refine tkH 0 (some 13) rfl rfl (.agg (h.cells (.slice As sl cs) (.slice Al ll cl)).toArray) hS ?_ ?_
   · rintro W' hW'
     obtain ⟨hbc, hbf⟩ := zc3 hW'
     exact yD _ _ rfl (.pointer (some ⟨b, 0, none⟩)) _ rfl (zF (P := Tryz.prog) (o := 0) (cs := h.cells (.slice As sl cs) (.slice Al ll cl)) zA (hW'.blk HA.out id) rfl (fun j u hu => by rw [Nat.zero_add]; exact hu))
   try simp only [pL]
   refine xJ 1 rfl (fun K hK => ?_)
   go_simp
   go_wp2_with fail
   refine (zbL W.drew U h _ _ (by have h1 := HvW.out; exact h1) (by rw [Hll.out]; have := Hl.out; omega)).mono ?_
   rintro e w6 ⟨rfl, hE6⟩
   rw [hck]
   have hX := (hS.ext hE6)
   go_simp
   refine hK.out _ _ hX (fun hS => ?_)
   clear hK K hX
   try simp only [pL]
   iterate 21
    first | refine tkJ 2 (some 15) rfl rfl ?_ hS ?_ ?_ | refine tkJ 3 (some 16) rfl rfl ?_ hS ?_ ?_ | refine tkJ 4 (some 17) rfl rfl ?_ hS ?_ ?_ | refine tkJ 5 (some 18) rfl rfl ?_ hS ?_ ?_ | refine tkJ 6 (some 19) rfl rfl ?_ hS ?_ ?_ | refine tkJ 7 (some 20) rfl rfl ?_ hS ?_ ?_ | refine tkJ 8 (some 21) rfl rfl ?_ hS ?_ ?_ | refine tkJ 9 (some 22) rfl rfl ?_ hS ?_ ?_ | refine tkJ 10 (some 23) rfl rfl ?_ hS ?_ ?_ | refine tkJ 11 (some 24) rfl rfl ?_ hS ?_ ?_ | refine tkJ 12 (some 25) rfl rfl ?_ hS ?_ ?_ | refine tkJ 13 (some 26) rfl rfl ?_ hS ?_ ?_ | refine tuI 14 (some 27) rfl rfl hS ?_ | refine tuI 15 (some 28) rfl rfl hS ?_ | refine tuI 16 (some 29) rfl rfl hS ?_ | refine tuI 17 (some 30) rfl rfl hS ?_ | refine tuI 18 (some 31) rfl rfl hS ?_ | refine tuI 19 (some 32) rfl rfl hS ?_ | refine tuI 20 (some 33) rfl rfl hS ?_ | refine tuI 21 (some 34) rfl rfl hS ?_ | refine tkJ 22 (some 35) rfl rfl ?_ hS ?_ ?_
    try
     rotate_left
     · rintro W' _ _; go_simp; try rfl
    try simp only [pL]
   refine wpAnyH_done (by kernel_rfl) ?_ _
   go_wp2_with fail
   go_meet
   exact ⟨by first | (rw [Ht.out]; done) | (rw [Ht.out]; rfl) | (rw [Ht.out]; simp; omega), hS⟩
  have d1 : decide (h.term < g.term) = false := decide_eq_false h1
  by_cases h2 : h.base < g.base
  focus
   have Ht : Hid (tv = true) := hJ (by rw [← Htv.out, decide_eq_true h2]; simp)
   have d2 : decide (h.base < g.base) = true := decide_eq_true h2
  rotate_left
  focus
   have Ht : Hid (tv = false) := hJ (by rw [← Htv.out, hck, decide_eq_false h1, decide_eq_false h2]; rfl)
   have d2 : decide (h.base < g.base) = false := decide_eq_false h2
  all_goals
   refine wp_region_held_drew (S := fun W' => Ext W W') (by kernel_rfl) (Mod.refl _ W).drew (fun hS => ?_)
   refine tkH 0 (some 13) rfl rfl (.agg (h.cells (.slice As sl cs) (.slice Al ll cl)).toArray) hS ?_ ?_
   · rintro W' hW'
     obtain ⟨hbc, hbf⟩ := zc3 hW'
     exact yD _ _ rfl (.pointer (some ⟨b, 0, none⟩)) _ rfl (zF (P := Tryz.prog) (o := 0) (cs := h.cells (.slice As sl cs) (.slice Al ll cl)) zA (hW'.blk HA.out id) rfl (fun j u hu => by rw [Nat.zero_add]; exact hu))
   try simp only [pL]
   refine xJ 1 rfl (fun K hK => ?_)
   go_simp
   go_wp2_with fail
   refine (zbL W.drew U h _ _ (by have h1 := HvW.out; exact h1) (by rw [Hll.out]; have := Hl.out; omega)).mono ?_
   rintro e w6 ⟨rfl, hE6⟩
   rw [hck]
   have hX := (hS.ext hE6)
   go_simp
   refine hK.out _ _ hX (fun hS => ?_)
   clear hK K hX
   try simp only [pL]
   iterate 21
    (first | refine tkJ 2 (some 15) rfl rfl ?_ hS ?_ ?_ | refine tkJ 3 (some 16) rfl rfl ?_ hS ?_ ?_ | refine tkJ 4 (some 17) rfl rfl ?_ hS ?_ ?_ | refine tkJ 5 (some 18) rfl rfl ?_ hS ?_ ?_ | refine tkJ 6 (some 19) rfl rfl ?_ hS ?_ ?_ | refine tkJ 7 (some 20) rfl rfl ?_ hS ?_ ?_ | refine tkJ 8 (some 21) rfl rfl ?_ hS ?_ ?_ | refine tkJ 9 (some 22) rfl rfl ?_ hS ?_ ?_ | refine tkJ 10 (some 23) rfl rfl ?_ hS ?_ ?_ | refine tkJ 11 (some 24) rfl rfl ?_ hS ?_ ?_ | refine tkJ 12 (some 25) rfl rfl ?_ hS ?_ ?_ | refine tkJ 13 (some 26) rfl rfl ?_ hS ?_ ?_ | refine tkJ 14 (some 27) rfl rfl ?_ hS ?_ ?_ | refine tkJ 15 (some 28) rfl rfl ?_ hS ?_ ?_ | refine tkJ 16 (some 29) rfl rfl ?_ hS ?_ ?_ | refine tkJ 17 (some 30) rfl rfl ?_ hS ?_ ?_ | refine tkJ 18 (some 31) rfl rfl ?_ hS ?_ ?_ | refine tkJ 19 (some 32) rfl rfl ?_ hS ?_ ?_ | refine tkJ 20 (some 33) rfl rfl ?_ hS ?_ ?_ | refine tkJ 21 (some 34) rfl rfl ?_ hS ?_ ?_ | refine tkJ 22 (some 35) rfl rfl ?_ hS ?_ ?_); rotate_left; · rintro W' _ _; go_simp; try rfl
    try simp only [pL]
   refine wpAnyH_done (by kernel_rfl) ?_ _
   go_wp2_with fail
   go_meet
   exact ⟨by first | (rw [Ht.out]; done) | (rw [Ht.out]; rfl) | (rw [Ht.out]; simp; omega), hS⟩
 obtain ⟨rfl, hX⟩ := hcut
 have HX := hJ (HE.out.ext hX)
 have HA2 := hJ (hX.blk HA.out id)
 have HS2 : Hid (QtB wc s d g (.slice Bs gn bs) (.slice Bl gg bl)) := hJ (hX.blk HSW.out id)
 have Hv2 := hJ (HvW.out.mod hX (fun _ _ => id))
 clear hX c0 c2 s1 s3 hbl hsL HSW HvW HA t0
 rcases tv with _ | _
 rotate_left
 ·
  have HRq : Hid (R = (D, g, 6)) := hJ (by
   rw [← HR.out]
   unfold yQ
   have h1 := Htv.out
   simp only [Bool.or_eq_true, Bool.not_eq_true', decide_eq_true_eq] at h1
   rw [Hoff.out, if_neg (by simp), if_pos (by rcases h1 with (h1 | h1) | h1; exact .inl h1; exact .inr (.inl h1); exact .inr (.inr h1))])
  go_wp2
  go_ret
  exact ziI.same HRq.out HS.out HD.out (QM.same HD.out HX.out) rfl
 have hf := Htv.out
 simp only [Bool.or_eq_false_iff, Bool.not_eq_false', decide_eq_false_iff_not] at hf
 have hr := (yI h).1 hf.1.1
 have hhh : zeQ h := ⟨hr, Hv.out.2.2, zb9 hr.c, by rw [Hll.out]; have := Hl.out; omega⟩
 have HRq : Hid (R = ((yS D g h).1, if (yS D g h).2 = 0 then h else g, (yS D g h).2)) := hJ (by
  rw [← HR.out]
  unfold yQ
  rw [Hoff.out, if_neg (by simp), if_neg (by rintro (e | e | e); rw [hf.1.1] at e; cases e; exact hf.1.2 e; exact hf.2 e)])
 have Hhh := hJ hhh
 clear hf Htv hhh
 go_upto_region 5 with fail
 obtain ⟨w1, hw1⟩ : ∃ w1, wc = w1 := ⟨_, rfl⟩
 rw [hw1] at HX HA2 HS2 Hv2 ⊢
 clear hw1
 go_cut [41] (fun s41 wx => s41 = .bool (za1 h g) ∧ Ext w1 wx)
 case first =>
  refine wp_region_held_drew (S := fun W' => Ext w1 W') (by kernel_rfl) (Mod.refl _ w1).drew (fun hS => ?_)
  refine tkH 0 (some 36) rfl rfl (.agg (h.cells (.slice As sl cs) (.slice Al ll cl)).toArray) hS ?_ ?_
  · rintro W' hW'
    exact yD _ _ rfl (.pointer (some ⟨b, 0, none⟩)) _ rfl (zF (P := Tryz.prog) (o := 0) (cs := h.cells (.slice As sl cs) (.slice Al ll cl)) zA (hW'.blk HA2.out id) rfl (fun j u hu => by rw [Nat.zero_add]; exact hu))
  try simp only [pL]
  iterate 3
   (first | refine tkI 1 (some 37) rfl rfl ?_ hS ?_ ?_ | refine tkI 2 (some 38) rfl rfl ?_ hS ?_ ?_ | refine tkI 3 (some 39) rfl rfl ?_ hS ?_ ?_); rotate_left; · rintro W' hW'; go_simp; try rfl
   try simp only [pL]
  refine tkH 4 (some 40) rfl rfl (.agg (g.cells (.slice Bs gn bs) (.slice Bl gg bl)).toArray) hS ?_ ?_
  · rintro W' hW'
    exact yD _ _ rfl (.pointer (some ⟨s, 1, none⟩)) _ rfl (zF (P := Tryz.prog) (o := 1) (cs := g.cells (.slice Bs gn bs) (.slice Bl gg bl)) zA (hW'.blk HS2.out id) rfl (fun j u hu => by rw [Nat.add_comm]; exact hu))
  try simp only [pL]
  refine xJ 5 rfl (fun K hK => ?_)
  go_simp
  go_wp2_with fail
  refine (zl5 w1.drew U T h g _ _ _ _ (by have h1 := Hv2.out; exact h1) (by have h1 := Hg.out.mod HX.out (fun _ _ => id); exact h1)).mono ?_
  rintro e w6 ⟨rfl, hE6⟩
  have hX := (hS.ext hE6)
  go_simp
  refine hK.out _ _ hX (fun hS => ?_)
  clear hK K hX
  try simp only [pL]
  refine wpAnyH_done (by kernel_rfl) ?_ _
  go_wp2_with fail
  go_meet
  exact ⟨rfl, hS⟩
 obtain ⟨rfl, hX⟩ := hcut
 have HXc := hJ (HX.out.ext hX)
 have HAc := hJ (hX.blk HA2.out id)
 have HSc : Hid (QtB wc s d g (.slice Bs gn bs) (.slice Bl gg bl)) := hJ (hX.blk HS2.out id)
 have Hvc := hJ (Hv2.out.mod hX (fun _ _ => id))
 clear hX HX HA2 HS2 Hv2
 rcases heq : za1 h g with _ | _
 rotate_left
 ·
  have HRs : Hid (R = (D, g, 0)) := hJ (by
   rw [← HR.out, zqJ Hgh.out Hhh.out heq]
   exact zpA Hoff.out Hgh.out)
  clear heq
  go_wp2
  go_ret
  exact ziI.same HRs.out HS.out HD.out (QM.same HD.out HXc.out) rfl
 have Heq := hJ heq
 clear heq
 have hldb := zF (P := Tryz.prog) (o := 0) (cs := h.cells (.slice As sl cs) (.slice Al ll cl)) zA HAc.out rfl (fun j u hu => by rw [Nat.zero_add]; exact hu)
 go_wp2_with (refine zG rfl 34 _ rfl (.pointer (some ⟨b, 0, none⟩)) _ rfl hldb ?_)
 clear hldb
 refine (r10_save wc T U s d g h Bs gn bs Bl gg bl As sl cs Al ll cl fv D HSc.out (HD.out.ext HXc.out) (Hg.out.mod HXc.out (fun _ _ => id)) Hgn.out Hgl.out Hvc.out Hsn.out Hll.out HU.out hr Hl.out Hgh.out.1 (by have h1 := Hgh.out.2.2.2; rw [Hgl.out] at h1; exact h1) Heq.out).mono ?_
 rintro e w2 ⟨rfl, hM2⟩
 have hM2w := QM.ofE HXc.out hM2
 obtain ⟨fv1, hD1, hm1, hf1⟩ := hM2
 have hU3 : ∀ k, U k → ¬ (k = d ∨ fv.ownBlock = some k) := fun k hk e => by
  have := HU.out k hk
  rcases e with e | e
  · exact this.1 e
  exact this.2 e
 have HS3 := hJ (HSc.out.dm (HD.out.ext HXc.out) hm1)
 have Hv3 := hJ (Hvc.out.mod hm1 hU3)
 have HA3 : Hid (w2.heap[b]? = some (.cells (h.cells (.slice As sl cs) (.slice Al ll cl)).toArray 34 (0, 0))) := hJ (hm1.blk HAc.out (fun e => by
  rcases e with e | e
  · exact (HD.out.ext HXc.out).ne HAc.out (by decide) e
  exact zT (HD.out.ext HXc.out).2.1 e HAc.out (by decide) rfl))
 have HD1 := hJ hD1
 have Hm1 := hJ ((Ext.mod HXc.out (fun k => k = d ∨ fv.ownBlock = some k)).self hm1)
 have Hf1 : Hid (∀ g, fv1.ownBlock = some g → fv.ownBlock = some g ∨ w.heap.size ≤ g) := hJ (fun g hg => by
  rcases hf1 g hg with e | e
  · exact .inl e
  exact .inr (Nat.le_trans HXc.out.size e))
 have HM2w := hJ hM2w
 obtain ⟨D1, hD1e⟩ : ∃ D1, (yS D g h).1 = D1 := ⟨_, rfl⟩
 obtain ⟨cd, hcd⟩ : ∃ cd, (yS D g h).2 = cd := ⟨_, rfl⟩
 rw [hD1e, hcd] at HRq
 rw [hD1e] at HD1 HM2w
 rw [hcd]
 clear hM2w hD1 hm1 hf1 hU3 hD1e hcd
 rcases e0 : (cd == 0) with _ | _
 ·
  have hc0 : ¬ cd = 0 := by simpa using e0
  have HRs : Hid (R = (D1, g, cd)) := hJ (by rw [HRq.out, if_neg hc0])
  go_wp2
  go_ret
  exact ziI.same HRs.out HS.out HD.out HM2w.out rfl
 have hc0 : cd = 0 := by simpa using e0
 have HRs : Hid (R = (D1, h, 0)) := hJ (by rw [HRq.out, if_pos hc0, hc0])
 subst hc0
 clear HRq e0
 have hldb := zF (P := Tryz.prog) (o := 0) (cs := h.cells (.slice As sl cs) (.slice Al ll cl)) zA HA3.out rfl (fun j u hu => by rw [Nat.zero_add]; exact hu)
 go_wp2_with (refine zG rfl 34 _ rfl (.pointer (some ⟨b, 0, none⟩)) _ rfl hldb ?_)
 clear hldb
 refine (zbE w2 U h _ _ Hv3.out (by rw [Hll.out]; have := Hl.out; omega) (by rw [Hsn.out]; exact hsl)).mono ?_
 rintro e w3 ⟨gs', gl', rfl, hN3, hX3⟩
 have HS4 : Hid (QtB w3 s d g (.slice Bs gn bs) (.slice Bl gg bl)) := hJ (hX3.blk HS3.out id)
 have hone := xK hN3
 have HN3 := hJ hN3
 have HX3 := hJ hX3
 clear hN3 hX3
 go_wp2_with (refine zD rfl 34 _ _ rfl 10 s 1 (h.cells gs' gl') rfl rfl zA _ (yX d g (.slice Bs gn bs) (.slice Bl gg bl)) (yX d h gs' gl') HS4.out rfl (by simp) hone rfl ?_)
 intro w4 hb4 hm4 hs4
 have hD3 := HD1.out.ext HX3.out
 have hD4 : Qsk w4 d fv1 D1 := hD3.mod hm4 (fun e => hD3.ne HS4.out (by decide) e.symm) (fun k hk e => zT hD3.2.1 hk HS4.out (by decide) e)
 have hN4 : jP w w4 gs' gl' h := (HN3.out.box HS4.out hm4 (by decide) (by decide)).base Hm1.out.size
 have hM4 : Mod (fun k => k = d ∨ fv.ownBlock = some k ∨ k = s) w w4 := ((Hm1.out.mono (T := fun k => k = d ∨ fv.ownBlock = some k ∨ k = s) (fun k _ hk => by rcases hk with e | e; exact .inl e; exact .inr (.inl e))).ext HX3.out).trans hm4 (fun k _ e => .inr (.inr e))
 have hap : ∀ k, gs'.ownBlock = some k → fv1.ownBlock ≠ some k := fun k hk e => by
  have h1 := HN3.out.1.2 k hk
  have h2 := zaR HD1.out.2.1 e
  omega
 have HF : Hid (ziI w s d fv (.slice Bs gn bs) (.slice Bl gg bl) g R (.returned (.int .i64 0)) w4) := hJ (by
  rw [HRs.out]
  exact ⟨rfl, fv1, gs', gl', hD4, hb4, hM4, Hf1.out, .inr ⟨hN4, hap⟩⟩)
 clear hD3 hD4 hN4 hM4 hap hm4 hs4 hb4
 go_wp2
 go_ret
 exact HF.out
end Go.Proofs.YtjhnlncgmejkcaaGreat
set_option maxRecDepth 100000
set_option maxHeartbeats 2000000
namespace Go.Proofs.YtjhnlncgmejkcaaGreat
set_option linter.unusedSimpArgs false
open Go.RowKit
def ze5 (w : World) (d : Nat) (fv : Value) (R : zJ × Option zC × Int) (e : Ending) (w' : World) : Prop := ∃ fv', Qsk w' d fv' R.1 ∧ Mod (fun k => k = d ∨ fv.ownBlock = some k) w w' ∧ (∀ g, fv'.ownBlock = some g → fv.ownBlock = some g ∨ w.heap.size ≤ g) ∧
 match R.2.1 with
 | none => e = .returned (.tuple #[.pointer none, .int .i64 R.2.2]) ∧ R.2.2 ≠ 0
 | some g => ∃ s gs gl, e = .returned (.tuple #[.pointer (some ⟨s, 0, none⟩), .int .i64 0]) ∧ R.2.2 = 0 ∧ QtB w' s d g gs gl ∧ zY w' (fun k => w.heap.size ≤ k ∧ k ≠ s ∧ fv'.ownBlock ≠ some k) gs gl g ∧ w.heap.size ≤ s ∧ fv'.ownBlock ≠ some s
theorem ze5.no {w : World} {d : Nat} {fv : Value} {D : zJ} {R : zJ × Option zC × Int} {e : Ending} {w' : World} {c : Int} (hR : R = (D, none, c)) (hM : QM w d fv D w') (he : e = .returned (.tuple #[.pointer none, .int .i64 c])) (hc : c ≠ 0) : ze5 w d fv R e w' := by
 subst hR
 obtain ⟨fv', h1, h2, h3⟩ := hM
 exact ⟨fv', h1, h2, h3, he, hc⟩
def RepC (w w' : World) (cs : List Value) (ok : Bool) (o : Option zC) : Prop := match o with
 | none => ok = false
 | some h => ok = true ∧ ∃ As sl sc Al ll lc, h.snap.length = sl ∧ h.log.length = ll ∧ ll ≤ 200000 ∧ zY w' (zZ w.heap.size) (.slice As sl sc) (.slice Al ll lc) h ∧ cs = h.cells (.slice As sl sc) (.slice Al ll lc)
theorem zgR.any {w w' : World} {o : Option zC} {e : Ending} (h : zgR w w' o e) : ∃ (cs : List Value) (ok : Bool), cs.length = 10 ∧ (∀ v ∈ cs, v.oneCell' = true) ∧ e = .returned (.tuple #[.agg cs.toArray, .bool ok]) ∧ RepC w w' cs ok o := by
 cases o with
 | none =>
  obtain ⟨cs, h1, h2, h3⟩ := h
  exact ⟨cs, false, h1, h2, h3, rfl⟩
 | some x =>
  obtain ⟨As, sl, sc, Al, ll, lc, h1, h2, h3, h4, h5⟩ := h
  exact ⟨_, true, rfl, xS _ _ _ _ _ _ _, h5, rfl, As, sl, sc, Al, ll, lc, h1, h2, h3, h4, rfl⟩
theorem znK {w w1 w2 : World} {sv lv fv : Value} {h : zC} (hN : jP w1 w2 sv lv h) (hs : w.heap.size ≤ w1.heap.size) (hf : ∀ k, fv.ownBlock = some k → k < w1.heap.size) : zY w2 (fun k => w.heap.size ≤ k ∧ fv.ownBlock ≠ some k) sv lv h :=
 ⟨hN.1.sl.mono (fun k hk => ⟨Nat.le_trans hs hk, fun e => by have h1 := hf k e; have h2 : w1.heap.size ≤ k := hk; omega⟩), hN.2.ents.1.mono (fun k hk => ⟨Nat.le_trans hs (hN.2.2.2 k hk), fun e => by have h1 := hf k e; have h2 := hN.2.2.2 k hk; omega⟩), hN.2.2.1⟩
theorem zgK {w w4 w5 w6 : World} {d s : Nat} {fv fv1 gs gl : Value} {D1 : zJ} {R : zJ × Option zC × Int} {g : zC} (hR : R = (D1, some g, 0)) (hD1 : Qsk w4 d fv1 D1) (hm1 : Mod (fun k => k = d ∨ fv.ownBlock = some k) w w4) (hf1 : ∀ g, fv1.ownBlock = some g → fv.ownBlock = some g ∨ w.heap.size ≤ g)
  (hH : zY w5 (fun k => w.heap.size ≤ k ∧ fv1.ownBlock ≠ some k) gs gl g) (hE : Ext w4 w5) (h6 : w5.alloc (.cells (yX d g gs gl).toArray 76) = w6) (hs : w5.heap.size = s) : ze5 w d fv R (.returned (.tuple #[.pointer (some ⟨s, 0, none⟩), .int .i64 0])) w6 := by
 subst hR
 have hE6 : Ext w5 w6 := by rw [← h6]; exact (Mod.refl _ w5).alloc _
 have hx := hm1.size
 have hy := hE.size
 have hf : fv1.ownBlock ≠ some s := fun e => by
  have h1 := zaR hD1.2.1 e
  omega
 refine ⟨fv1, (hD1.ext hE).ext hE6, (hm1.self (Ext.mod hE _)).self (Ext.mod hE6 _), hf1, s, gs, gl, rfl, rfl, by unfold QtB; rw [← h6, ← hs]; exact heap_alloc_new w5 _, (hH.cap.mod hE6 (fun _ _ => id)).mono (fun k hk => ⟨hk.1.1, by have := hk.2; omega, hk.1.2⟩), by omega, hf⟩
theorem r10_open (w : World) (T : Nat → Prop) (d : Nat) (fi : zC) (sv lv fv : Value) (D : zJ) (hD : Qsk w d fv D) (hv : zY w T sv lv fi) (hl : fi.log.length ≤ 12700) (hT : ∀ k, T k → k ≠ d ∧ fv.ownBlock ≠ some k) :
  Calls Tryz.prog 53 #[.pointer (some ⟨d, 0, none⟩), .agg #[.int .i64 fi.term, .int .i64 fi.vote, .int .i64 fi.base, .int .i64 fi.baseTerm, .int .i64 fi.conf.full, .int .i64 fi.conf.wit, .int .i64 fi.conf.learn, .int .i64 fi.conf.learnWit, sv, lv]] w (ze5 w d fv (yW D fi)) := by
 obtain ⟨As, cs, Al, cl, rfl, rfl⟩ := hv.forms
 obtain ⟨sl, hsl⟩ : ∃ n, fi.snap.length = n := ⟨_, rfl⟩
 obtain ⟨ll, hll⟩ : ∃ n, fi.log.length = n := ⟨_, rfl⟩
 rw [hsl, hll] at hv ⊢
 obtain ⟨W, hW⟩ : ∃ W, w.alloc (.cells (fi.cells (.slice As sl cs) (.slice Al ll cl)).toArray 34) = W := ⟨_, rfl⟩
 have hE : Ext w W := by rw [← hW]; exact (Mod.refl _ w).alloc _
 obtain ⟨b, hb⟩ : ∃ b, w.heap.size = b := ⟨_, rfl⟩
 have hA : W.heap[b]? = some (.cells (fi.cells (.slice As sl cs) (.slice Al ll cl)).toArray 34 (0, 0)) := by rw [← hW, ← hb]; exact heap_alloc_new w _
 obtain ⟨_, k1, _, k3, _, _⟩ := (hD.ext hE).cells
 have hfl : D.file.length ≤ 65536 := by have h1 := hD.2.2; unfold zJ.ok at h1; omega
 have hfo := hD.2.1
 obtain ⟨n, hn⟩ : ∃ n, D.file.length = n := ⟨_, rfl⟩
 have Hn := hJ hn
 rw [hn] at hfo hfl
 obtain ⟨Af, cf, hfv⟩ := zN hfo
 have HW := hJ hW
 have HX := hJ hE
 have HA := hJ hA
 have HD := hJ hD
 have Hb := hJ hb
 have Hv := hJ hv
 have HT := hJ hT
 have Hsl := hJ hsl
 have Hll := hJ hll
 have Hl := hJ hl
 have Hfv := hJ hfv
 have Hlow : Hid (d < w.heap.size ∧ ∀ k, fv.ownBlock = some k → k < w.heap.size) := hJ ⟨hD.lt, fun k hk => zaR hD.2.1 hk⟩
 rw [hfv] at k1
 clear hW hE hA hD hb hv hT hsl hll hl hfo hn hfv
 obtain ⟨R, hR⟩ : ∃ R, yW D fi = R := ⟨_, rfl⟩
 rw [hR]
 have HR := hJ hR
 clear hR
 rcases hoff : D.off with _ | _
 rotate_left
 ·
  rw [hoff] at k3
  have Hp : Hid (R = (D, none, 4)) := hJ (by rw [← HR.out]; unfold yW; rw [hoff]; rfl)
  clear hoff
  go_enter Tryz.func53, Tryz.ntmps53
  go_upto_region 1 with fail
  rw [HW.out]
  go_wp2
  go_ret2
  exact ze5.no Hp.out (QM.same HD.out HX.out) rfl (by decide)
 rw [hoff] at k3
 have Hoff := hJ hoff
 clear hoff
 have hld := zF (P := Tryz.prog) (o := 0) (cs := fi.cells (.slice As sl cs) (.slice Al ll cl)) zA HA.out rfl (fun j u hu => by rw [Nat.zero_add]; exact hu)
 go_enter Tryz.func53, Tryz.ntmps53
 go_upto_region 1 with fail
 rw [HW.out, Hb.out]
 go_wp2_with (refine zG rfl 34 _ rfl (.pointer (some ⟨b, 0, none⟩)) _ rfl hld ?_)
 clear hld k1 k3
 refine (zbL W T fi _ _ (Hv.out.mod HX.out (fun _ _ => id)) (by rw [Hll.out]; have := Hl.out; rw [Hll.out] at this; omega)).mono ?_
 rintro e w2 ⟨rfl, hE⟩
 have HA2 := hJ (hE.blk HA.out id)
 have HX2 := hJ (HX.out.ext hE)
 clear hE HA
 rcases hck : yG fi with _ | _
 ·
  have Hp : Hid (R = (D, none, 6)) := hJ (by rw [← HR.out]; unfold yW; rw [Hoff.out, hck]; rfl)
  clear hck
  go_wp2
  go_ret2
  exact ze5.no Hp.out (QM.same HD.out HX2.out) rfl (by decide)
 have hri := (yI fi).1 hck
 have Hck := hJ hck
 obtain ⟨_, k1, _, k3, _, _⟩ := (HD.out.ext HX2.out).cells
 rw [Hfv.out] at k1
 clear hck k3
 by_cases hn0 : n = 0
 ·
  have hp : R = ((xG D fi).1, if (xG D fi).2 = 0 then some fi else none, (xG D fi).2) := by
   rw [← HR.out]
   unfold yW
   rw [Hoff.out, Hck.out, if_neg (by simp), if_neg (by simp), if_pos (by rw [Hn.out]; exact hn0)]
  have Hp := hJ hp
  have hld := zF (P := Tryz.prog) (o := 0) (cs := fi.cells (.slice As sl cs) (.slice Al ll cl)) zA HA2.out rfl (fun j u hu => by rw [Nat.zero_add]; exact hu)
  clear hp
  subst hn0
  go_wp2_with (refine zG rfl 34 _ rfl (.pointer (some ⟨b, 0, none⟩)) _ rfl hld ?_)
  clear hld k1
  refine (zjJ w2 T fi _ _ (Hv.out.mod HX2.out (fun _ _ => id)) hri Hl.out).mono ?_
  rintro e w3 ⟨v3, rfl, hN3, hE3⟩
  have HX3 := hJ (HX2.out.ext hE3)
  have HA3 := hJ (hE3.blk HA2.out id)
  have Ha := hJ (zgC D fi)
  by_cases hL : 16384 ≤ fi.enc.length
  ·
   have Hq : Hid (R = (D, none, 2)) := hJ (by rw [Hp.out, Ha.out, if_pos hL]; rfl)
   have he : zeU fi = ([], 2) := by unfold zeU; rw [if_pos hL]
   rw [he] at hN3 ⊢
   clear hN3 hE3 hL he
   go_wp2
   go_ret2
   exact ze5.no Hq.out (QM.same HD.out HX3.out) rfl (by decide)
  have Hq : Hid (xG D fi = D.replace (zR (1 :: fi.enc))) := hJ (by rw [Ha.out, if_neg hL]; unfold zeU; rw [if_neg hL])
  have he : zeU fi = (zR (1 :: fi.enc), 0) := by unfold zeU; rw [if_neg hL]
  rw [he] at hN3 ⊢
  have hbl : (zR (1 :: fi.enc)).length ≤ 100000000 := by rw [yL, List.length_cons]; omega
  have HN3 := hJ (yO.sl (w := w2) hN3)
  obtain ⟨A3, c3, rfl⟩ := zN hN3.1
  obtain ⟨fl, hfl⟩ : ∃ fl, (zR (1 :: fi.enc)).length = fl := ⟨_, rfl⟩
  have hbl := hbl
  have Hbl := hJ hbl
  rw [hfl] at HN3
  simp only [hfl]
  clear hN3 hE3 hL he hfl hbl Ha
  go_wp2_with fail
  refine (zgD w3 d fv D (HD.out.ext HX3.out) _ _ (zR (1 :: fi.enc)) HN3.out Hbl.out (fun g hg e => by have h1 := Hlow.out.1; have h2 := HX2.out.size; unfold zZ at hg; omega)).mono ?_
  rintro e w4 ⟨rfl, hM⟩
  rw [← Hq.out] at hM ⊢
  obtain ⟨D1, hD1e⟩ : ∃ D1, (xG D fi).1 = D1 := ⟨_, rfl⟩
  obtain ⟨cd, hcd⟩ : ∃ cd, (xG D fi).2 = cd := ⟨_, rfl⟩
  rw [hD1e, hcd] at Hp
  rw [hD1e] at hM
  rw [hcd]
  clear hD1e hcd Hq HN3
  rcases e0 : (cd == 0) with _ | _
  ·
   have hc0 : ¬ cd = 0 := by simpa using e0
   have HRs : Hid (R = (D1, none, cd)) := hJ (by rw [Hp.out, if_neg hc0])
   have HM := hJ (QM.ofE HX3.out hM)
   clear hM
   go_wp2
   go_ret2
   exact ze5.no HRs.out HM.out rfl hc0
  have hc0 : cd = 0 := by simpa using e0
  have HRs : Hid (R = (D1, some fi, 0)) := hJ (by rw [Hp.out, if_pos hc0, hc0])
  subst hc0
  clear e0 Hp
  have hm4 := hM
  obtain ⟨fv1, hD1, hm1, hf1⟩ := hm4
  have HA4 : Hid (w4.heap[b]? = some (.cells (fi.cells (.slice As sl cs) (.slice Al ll cl)).toArray 34 (0, 0))) := hJ (hm1.blk HA3.out (fun e => by
   have h1 := Hlow.out
   rcases e with e | e
   · have := Hb.out; omega
   have := h1.2 b e; have := Hb.out; omega))
  have HMw := hJ (QM.ofE HX3.out hM)
  have HD1 := hJ hD1
  have Hm1 := hJ ((Ext.mod HX3.out (fun k => k = d ∨ fv.ownBlock = some k)).self hm1)
  have Hf1 : Hid (∀ g, fv1.ownBlock = some g → fv.ownBlock = some g ∨ w.heap.size ≤ g) := hJ (fun g hg => by
   rcases hf1 g hg with e | e
   · exact .inl e
   exact .inr (Nat.le_trans HX3.out.size e))
  have HvT : Hid (zY w4 T (.slice As sl cs) (.slice Al ll cl) fi) := hJ (Hv.out.mod ((Ext.mod HX3.out (fun k => k = d ∨ fv.ownBlock = some k)).self hm1) (fun k hk e => by
   have h1 := HT.out k hk
   rcases e with e | e
   · exact h1.1 e
   exact h1.2 e))
  clear hM hD1 hm1 hf1
  have hld := zF (P := Tryz.prog) (o := 0) (cs := fi.cells (.slice As sl cs) (.slice Al ll cl)) zA HA4.out rfl (fun j u hu => by rw [Nat.zero_add]; exact hu)
  go_wp2_with (refine zG rfl 34 _ rfl (.pointer (some ⟨b, 0, none⟩)) _ rfl hld ?_)
  clear hld
  refine (zbE w4 _ fi _ _ HvT.out (by have := Hl.out; omega) (by have := hri.s; omega)).mono ?_
  rintro e w5 ⟨gs, gl, rfl, hN5, hE5⟩
  have HF := hJ (zgK (s := w5.heap.size) (w6 := w5.alloc (.cells (yX d fi gs gl).toArray 76)) (HRs.out) HD1.out Hm1.out Hf1.out (znK hN5 Hm1.out.size (fun k hk => zaR HD1.out.2.1 hk)) hE5 rfl rfl)
  clear hN5 hE5
  go_wp2
  go_ret2
  exact HF.out
 have hnz : ((n : Int) == 0) = false := by simp; omega
 have hp0 : R = match za6 (yY D.file).1 with
   | none => (D, none, 6)
   | some h => if (yY D.file).2 < D.file.length then ((D.replace (D.file.take (yY D.file).2)).1, if (D.replace (D.file.take (yY D.file).2)).2 = 0 then some h else none, (D.replace (D.file.take (yY D.file).2)).2) else (D, some h, 0) := by
  rw [← HR.out]
  unfold yW
  rw [Hoff.out, Hck.out, if_neg (by simp), if_neg (by simp), if_neg (by rw [Hn.out]; exact hn0)]
  rfl
 have Hp0 := hJ hp0
 have HBf : Hid (Byt w (fun k => fv.ownBlock = some k) (.slice Af n cf) D.file) := hJ (by
  have h1 : Byt w (fun k => fv.ownBlock = some k) fv D.file := Sl.of_own HD.out.2.1 (fun _ e => e)
  rw [Hfv.out] at h1 ⊢
  exact h1)
 clear hp0
 go_wp2_with fail
 refine (r2_scan w2 _ Af n cf D.file (HBf.out.ext HX2.out) Hn.out (by omega)).mono ?_
 rintro e w5 ⟨v5, xs, rfl, hB5, hX5⟩
 obtain ⟨A5, c5, rfl⟩ := zN hB5.1
 obtain ⟨m, hm⟩ : ∃ m, (yY D.file).1.length = m := ⟨_, rfl⟩
 obtain ⟨k, hk⟩ : ∃ k, (yY D.file).2 = k := ⟨_, rfl⟩
 have hsa := zmF D.file
 have hkn : k ≤ n := by rw [← hk, ← Hn.out]; exact zkC _
 have hmn : m ≤ 100000 := by have h1 := hsa.2; rw [hm, Hn.out] at h1; omega
 rw [hm] at hB5 ⊢
 rw [hk] at Hp0 ⊢
 have HB5 : Hid (zd2 w2 w5 (.slice A5 m c5) xs (yY D.file).1) := hJ hB5
 have HX5 := hJ (HX2.out.ext hX5)
 have HA5 := hJ (hX5.blk HA2.out id)
 have Hm := hJ hm
 have Hsa := hJ hsa
 clear hB5 hX5 hm hk hsa k1
 go_wp2_with fail
 refine (znJ w5 w2 A5 m c5 xs (yY D.file).1 HB5.out Hm.out hmn (fun p hp => by have := Hsa.out.1 p hp; omega)).mono ?_
 rintro e w6 ⟨hX6, hO⟩
 have HX6 := hJ (HX5.out.ext hX6)
 have HX56 := hJ hX6
 obtain ⟨cs0, ok, hl0, hone, rfl, hcase⟩ := hO.any
 have Hcase := hJ hcase
 obtain ⟨q, hq⟩ : ∃ q, w6.heap.size = q := ⟨_, rfl⟩
 have hz : (w6.alloc (.cells zH.toArray 34)).heap[q]? = some (.cells zH.toArray 34 (0, 0)) := by rw [← hq]; exact heap_alloc_new w6 _
 have Hq := hJ hq
 clear hX6 hO hcase hq
 go_wp2_with (rw [Hq.out]; refine zD rfl 34 _ _ rfl 10 q 0 cs0 rfl rfl zA _ zH cs0 hz hl0 (by simp) hone (by unfold put; simp [hl0]) ?_)
 intro w7 hb7 hm7 hs7
 have hE7 : Ext w6 w7 := ((Mod.refl (fun _ => False) w6).alloc (.cells zH.toArray 34)).trans hm7 (fun k hk e => by have := Hq.out; omega)
 have HX7 := hJ (HX6.out.ext hE7)
 have HX67 := hJ hE7
 have HQ7 := hJ hb7
 obtain ⟨_, k1, _, k3, _, _⟩ := (HD.out.ext HX7.out).cells
 rw [Hfv.out] at k1
 clear hb7 hm7 hs7 hE7 hz k3
 by_cases hm0 : m = 0
 ·
  have Hp : Hid (R = (D, none, 6)) := hJ (by rw [Hp0.out, show (yY D.file).1 = [] from List.eq_nil_of_length_eq_zero (by rw [Hm.out]; exact hm0)]; rfl)
  subst hm0
  go_wp2
  go_ret2
  exact ze5.no Hp.out (QM.same HD.out HX7.out) rfl (by decide)
 have hmz : ((m : Int) == 0) = false := by simp; omega
 have hrm : zc9 (yY D.file).1 = za6 (yY D.file).1 := by
  have h1 := Hm.out
  cases hs : (yY D.file).1 with
  | nil => rw [hs] at h1; exact absurd h1.symm hm0
  | cons p ps => rfl
 rw [hrm] at Hcase
 clear hrm
 rcases hmd : za6 (yY D.file).1 with _ | h
 ·
  have Hp : Hid (R = (D, none, 6)) := hJ (by rw [Hp0.out, hmd])
  have hok := Hcase.out
  rw [hmd] at hok
  have hok : ok = false := hok
  subst hok
  clear hmd
  go_wp2
  go_ret2
  exact ze5.no Hp.out (QM.same HD.out HX7.out) rfl (by decide)
 have hok := Hcase.out
 rw [hmd] at hok
 obtain ⟨rfl, Bs, bl, bc, Bg, gl, gc, hbl, hgl, hgl2, hH, rfl⟩ := hok
 have hp1 : R = if k < n then ((D.replace (D.file.take k)).1, if (D.replace (D.file.take k)).2 = 0 then some h else none, (D.replace (D.file.take k)).2) else (D, some h, 0) := by rw [Hp0.out, hmd, Hn.out]
 have Hp1 := hJ hp1
 have HH7 : Hid (zY w7 (fun k => w.heap.size ≤ k) (.slice Bs bl bc) (.slice Bg gl gc) h) := hJ ((hH.mod HX67.out (fun _ _ => id)).mono (fun k hk => Nat.le_trans HX5.out.size hk))
 clear hmd hp1 hbl hgl hgl2 hH Hcase Hp0 hl0 hone
 by_cases hkn2 : k < n
 rotate_left
 ·
  have HRs : Hid (R = (D, some h, 0)) := hJ (by rw [Hp1.out, if_neg hkn2])
  have hd1 : decide ((k : Int) < (n : Int)) = false := decide_eq_false (by omega)
  have hld := zF (P := Tryz.prog) (o := 0) (cs := h.cells (.slice Bs bl bc) (.slice Bg gl gc)) zA HQ7.out rfl (fun j u hu => by rw [Nat.zero_add]; exact hu)
  have HF := hJ (zgK (s := w7.heap.size) (w6 := w7.alloc (.cells (yX d h (.slice Bs bl bc) (.slice Bg gl gc)).toArray 76)) HRs.out (HD.out.ext HX7.out) (Ext.mod HX7.out _) (fun g hg => .inl hg) (HH7.out.mono (fun k hk => ⟨hk, fun e => by have h1 := Hlow.out.2 k e; omega⟩)) (Mod.refl _ w7) rfl rfl)
  go_wp2_with (refine zG rfl 34 _ rfl (.pointer (some ⟨q, 0, none⟩)) _ rfl hld ?_)
  go_ret2
  exact HF.out
 have hd1 : (k : Int) < (n : Int) := by omega
 have hd2 : (0 : Int) ≤ (k : Int) := by omega
 obtain ⟨_, hnc, _⟩ := qE HBf.out
 have hd3 : (k : Int) ≤ (cf : Int) := by omega
 have hbt : Byt w7 (fun k => fv.ownBlock = some k) (.slice Af k cf) (D.file.take k) := by
  have h1 := HBf.out.ext HX7.out
  unfold Byt at h1 ⊢
  rw [Hn.out] at h1
  have h2 := Sl.upto h1 (m := k) hkn
  rw [List.length_take, Hn.out, show min k n = k by omega, List.map_take]
  simpa using h2
 have Hbt := hJ hbt
 have HRq : Hid (R = ((D.replace (D.file.take k)).1, if (D.replace (D.file.take k)).2 = 0 then some h else none, (D.replace (D.file.take k)).2)) := hJ (by rw [Hp1.out, if_pos hkn2])
 clear hbt Hp1
 go_wp2_with fail
 refine (zgD w7 d fv D (HD.out.ext HX7.out) (fun k => fv.ownBlock = some k) _ (D.file.take k) Hbt.out (by rw [List.length_take]; omega) (fun g hg e => (HD.out.ext HX7.out).apart (by rw [← e]; exact hg))).mono ?_
 rintro e w8 ⟨rfl, hM⟩
 obtain ⟨D1, hD1e⟩ : ∃ D1, (D.replace (D.file.take k)).1 = D1 := ⟨_, rfl⟩
 obtain ⟨cd, hcd⟩ : ∃ cd, (D.replace (D.file.take k)).2 = cd := ⟨_, rfl⟩
 rw [hD1e, hcd] at HRq
 rw [hD1e] at hM
 rw [hcd]
 clear hD1e hcd Hbt
 rcases e0 : (cd == 0) with _ | _
 ·
  have hc0 : ¬ cd = 0 := by simpa using e0
  have HRs : Hid (R = (D1, none, cd)) := hJ (by rw [HRq.out, if_neg hc0])
  have HM := hJ (QM.ofE HX7.out hM)
  have hcn : (cd != 0) = true := by simpa using e0
  clear hM
  go_wp2
  go_ret2
  exact ze5.no HRs.out HM.out rfl hc0
 have hc0 : cd = 0 := by simpa using e0
 have HRs : Hid (R = (D1, some h, 0)) := hJ (by rw [HRq.out, if_pos hc0, hc0])
 subst hc0
 clear e0 HRq
 obtain ⟨fv1, hD1, hm1, hf1⟩ := hM
 have hqw : w.heap.size ≤ q := by have := Hq.out; have := HX6.out.size; omega
 have hQ8 := hm1.blk HQ7.out (fun e => by
  have h1 := Hlow.out
  rcases e with e | e
  · omega
  have := h1.2 q e; omega)
 have hH8 : zY w8 (fun k => w.heap.size ≤ k ∧ fv1.ownBlock ≠ some k) (.slice Bs bl bc) (.slice Bg gl gc) h := (HH7.out.cap.mod hm1 (fun k hk e => by
  have h1 := Hlow.out
  rcases e with e | e
  · have := hk.1; omega
  · have := h1.2 k e; have := hk.1; omega)).mono (fun k hk => ⟨hk.1, fun e => by
  have h1 := Hlow.out
  rcases hf1 k e with e | e
  · have := h1.2 k e; have := hk.1; omega
  have := hk.2; omega⟩)
 have HF := hJ (zgK (s := w8.heap.size) (w6 := w8.alloc (.cells (yX d h (.slice Bs bl bc) (.slice Bg gl gc)).toArray 76)) HRs.out hD1 ((Ext.mod HX7.out (fun k => k = d ∨ fv.ownBlock = some k)).self hm1) (fun g hg => by
  rcases hf1 g hg with e | e
  · exact .inl e
  exact .inr (Nat.le_trans HX7.out.size e)) hH8 (Mod.refl _ w8) rfl rfl)
 have hld := zF (P := Tryz.prog) (o := 0) (cs := h.cells (.slice Bs bl bc) (.slice Bg gl gc)) zA hQ8 rfl (fun j u hu => by rw [Nat.zero_add]; exact hu)
 clear hD1 hm1 hf1 hQ8 hH8
 go_wp2_with (refine zG rfl 34 _ rfl (.pointer (some ⟨q, 0, none⟩)) _ rfl hld ?_)
 go_ret2
 exact HF.out
end Go.Proofs.YtjhnlncgmejkcaaGreat
