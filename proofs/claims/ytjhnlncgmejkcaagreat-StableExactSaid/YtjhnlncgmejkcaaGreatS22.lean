/-
  The contracts of stable.changed and made (printed by stbz.py). Conditions: as each theorem names them.
-/
import Derived.Test.YtjhnlncgmejkcaaGreatR8
import Derived.Test.YtjhnlncgmejkcaaGreatS16
set_option maxRecDepth 100000
set_option maxHeartbeats 2000000
namespace Go.Proofs.YtjhnlncgmejkcaaGreat
set_option linter.unusedSimpArgs false
open Go.RowKit
theorem zhK {r : List UInt8} {y : zI} (h : xU r = some y) : y.ok := by
 unfold xU at h
 split at h
 · cases h
 split at h
 · cases h
 split at h
 · cases h
 cases h
 exact zl8 _
theorem zk1 (w w0 : World) (T : Nat → Prop) (h : zC) (As : Option Addr) (sl cs : Nat) (Al : Option Addr) (ll cl : Nat) (A : Option Addr) (n c : Nat) (p : List UInt8) (hI : ChIn w0 w h As sl cs Al ll cl) (hp : Byt w T (.slice A n c) p) (hn : p.length = n) (hnl : n ≤ 100000) (x : UInt8) (r : List UInt8) (hpx : p = x :: r) (h2 : x.toNat = 4) :
  Calls Tryz.prog 73 #[.agg #[.int .i64 h.term, .int .i64 h.vote, .int .i64 h.base, .int .i64 h.baseTerm, .int .i64 h.conf.full, .int .i64 h.conf.wit, .int .i64 h.conf.learn, .int .i64 h.conf.learnWit, .slice As sl cs, .slice Al ll cl], .slice A n c] w fun e w' => Chg w0 w (.slice Al ll cl) w' ∧ zcU w0 w' (yE h p) e := by
 obtain ⟨i0, hi, hz0, hz1, hz2⟩ := info_parts zbC
 obtain ⟨hln, hnc, hcm, hAA⟩ := qE hp
 obtain ⟨g, off, rfl, _⟩ := hAA (by rw [← hn, hpx]; simp)
 have hs : Sl w T 1 (.slice (some ⟨g, off, none⟩) n c) n (p.map B) := by unfold Byt at hp; rw [hn] at hp; exact hp
 have hn1 : 1 ≤ n := by rw [← hn, hpx]; simp
 obtain ⟨_, _, x', e1, hx', x0⟩ := zb0 hs (i := 0) (by omega)
 injection e1 with e1
 injection e1 with e1 e2
 subst e1; subst e2
 rw [Nat.add_zero] at x0
 have hxx : x' = x := by rw [hpx] at hx'; simpa using hx'.symm
 rw [hxx] at x0
 have hnz : ((n : Int) == 0) = false := by simp; omega
 have hnz2 : (n == 0) = false := by simp; omega
 have hrl : r.length = n - 1 := by rw [← hn, hpx]; simp
 have hbr0 : Byt w T (.slice (cutA (some ⟨g, off, none⟩) 1 c 1) (n - 1) (c - 1)) r := by
  have h1 := Sl.cutA hs (m := 1) (by omega)
  have e : (p.map B).drop (1 * 1) = r.map B := by rw [hpx]; rfl
  rw [e] at h1
  unfold Byt
  rw [hrl]
  exact h1
 clear hs hx' hxx hp hn
 obtain ⟨b, hb⟩ : ∃ b, w.heap.size = b := ⟨_, rfl⟩
 obtain ⟨W, hW⟩ : ∃ W, W = (w.alloc (.cells (h.cells (.slice As sl cs) (.slice Al ll cl)).toArray 34)).alloc (.cells zH.toArray 34) := ⟨_, rfl⟩
 obtain ⟨hA, hB, hsz⟩ := zaC w (.cells (h.cells (.slice As sl cs) (.slice Al ll cl)).toArray 34) (.cells zH.toArray 34)
 rw [← hW, hb] at hA hB hsz
 have hE : Ext w W := by rw [hW]; exact ((Mod.refl _ w).alloc _).alloc _
 have hN : jP w0 W (.slice As sl cs) (.slice Al ll cl) h := hI.N.ext hE
 have hX : Chg w0 w (.slice Al ll cl) W := ⟨hI.E.ext hE, Ext.mod hE _, hI.E.size⟩
 have hwb : w.heap.size ≤ b := by rw [← hb]; exact Nat.le_refl _
 have hone := xK hN
 have hw0 : w0.heap.size ≤ b := by rw [← hb]; exact hI.E.size
 have HI := hJ hI
 have HW := hJ hW
 have HA := hJ hA
 have HB := hJ hB
 have Hb := hJ hb
 have HE := hJ hE
 have HN := hJ hN
 have HX := hJ hX
 clear hW hA hB hb hE hN hX hI hsz
 have Hbr := hJ (hbr0.ext HE.out)
 have Hrl := hJ hrl
 have hx0 : W.cell? ⟨g, off, none⟩ = some (.int .u8 (x.toNat : Int)) := HE.out.cell x0 id
 clear hbr0 hrl x0
 have hx2 : x.toNat = 4 := h2
 rw [h2] at hx0
 rw [HW.out] at hx0
 clear h2
 go_enter Tryz.func73, Tryz.ntmps73
 go_wp2_with fail
 rw [← HW.out, Hb.out]
 refine (znB W T _ r Hbr.out (by rw [Hrl.out]; omega)).mono ?_
 rintro e w1 ⟨y, cd, hy, hcd, rfl, hX1⟩
 have HA1 := hJ (hX1.blk HA.out id)
 have HB1 := hJ (hX1.blk HB.out id)
 have HX1 := hJ (HX.out.ext hX1)
 have HN1 := hJ (HN.out.ext hX1)
 have hz : (w1.alloc (.cells zE.toArray 56)).heap[w1.heap.size]? = some (.cells zE.toArray 56 (0, 0)) := heap_alloc_new w1 _
 have hbs : b + 1 < w1.heap.size := (Array.getElem?_eq_some_iff.1 HB1.out).1
 have Hy := hJ hy
 have Hcd := hJ hcd
 clear hX1 hx0 hy hcd
 go_wp2_with (refine zD rfl 56 _ _ rfl 16 w1.heap.size 0 y.cells rfl rfl zM _ zE y.cells hz rfl (by simp) (by simpa using xX [y]) rfl ?_)
 intro w2 hb2 hm2 hs2
 have hE2 : Ext w1 w2 := ((Mod.refl _ w1).alloc _).trans hm2 (fun k hk e => by omega)
 have HR2 := hJ hb2
 have HA2 := hJ (hE2.blk HA1.out id)
 have HB2 := hJ (hE2.blk HB1.out id)
 have HX2 := hJ (HX1.out.ext hE2)
 have HN2 := hJ (HN1.out.ext hE2)
 clear hz hm2 hs2 hE2 hb2
 rcases hq : xU r with _ | y'
 ·
  rw [hq] at Hy Hcd
  have hc3 : cd = 3 := Hcd.out
  subst hc3
  have Hp : Hid (yE h p = none) := hJ (by rw [hpx]; exact zdJ (by rw [hx2]; exact turn4_no hq))
  have hld2 := zF (P := Tryz.prog) (o := 0) (cs := h.cells (.slice As sl cs) (.slice Al ll cl)) zA HA2.out rfl (fun j u hu => by rw [Nat.zero_add]; exact hu)
  clear hq
  go_wp2_with (first | (refine zG rfl 34 _ rfl _ _ rfl hld2 ?_) | (refine zD rfl 34 _ _ rfl 10 (b + 1) 0 (h.cells (.slice As sl cs) (.slice Al ll cl)) rfl rfl zA _ zH (h.cells (.slice As sl cs) (.slice Al ll cl)) HB2.out rfl (by simp) hone rfl ?_))
  intro wz hbz hmz hsz
  have HEz := hJ (HX2.out.box hmz (by omega))
  clear hld2 hmz hsz
  go_wp2_with fail
  exact bodyPost_ret (zL rfl _ wz (b + 1) _ _ zA rfl hbz rfl) rfl ⟨HEz.out, zcU.no Hp.out _ rfl hone rfl⟩
 rw [hq] at Hy Hcd
 have hc0 : cd = 0 := Hcd.out
 have hyy : y = y' := Hy.out
 subst hc0; subst hyy
 have hyok := zhK hq
 have Hq := hJ hq
 clear hq
 have y9 : w2.cell? ⟨b, 9, none⟩ = some (.slice Al ll cl) := zB (cs := h.cells (.slice As sl cs) (.slice Al ll cl)) HA2.out rfl
 have hlx := zF (P := Tryz.prog) (o := 0) (cs := y.cells) zM HR2.out rfl (fun j u hu => by rw [Nat.zero_add]; exact hu)
 have Ho : Hid ((w2.alloc (.cells y.cells.toArray 56)).ownsRow 0 56 16 (.slice Al ll cl) ll (h.log.flatMap zI.cells)) := hJ (by have h1 := (HN2.out.ext ((Mod.refl _ w2).alloc (.cells y.cells.toArray 56))).2.1; rw [HI.out.l] at h1; exact h1)
 have Ha : Hid (Sl (w2.alloc (.cells y.cells.toArray 56)) (fun _ => True) 16 (.slice (some ⟨w2.heap.size, 0, none⟩) 1 1) 1 y.cells) := hJ (Sl.of_own (zf6 w2 56 16 1 y.cells rfl (by decide)) (fun _ _ => trivial))
 have hll := HI.out.l1
 go_wp2_with (first | (refine zG rfl 56 _ rfl _ _ rfl hlx ?_) | (at_builtin; refine yA _ rfl _ _ 32 rfl 56 i0 _ 16 152 Tryz.underlying32 hi hz0 hz1 hz2 rfl (by omega) (.slice Al ll cl) ll (h.log.flatMap zI.cells) rfl Ho.out _ _ 1 y.cells rfl Ha.out (by simpa using xX [y]) (by simp only [maxLen]; omega) (by omega) ?_))
 intro v3 w3 ho3 hgr3 hat3
 obtain ⟨A3, c3, rfl⟩ := zN ho3
 obtain ⟨we, hwe⟩ : ∃ we, we = w2.alloc (.cells y.cells.toArray 56) := ⟨_, rfl⟩
 have hEe : Ext w2 we := by rw [hwe]; exact (Mod.refl _ w2).alloc _
 rw [← hwe] at hgr3
 have hNe := HN2.out.ext hEe
 have hm3 : Mod (fun k => (.slice Al ll cl : Value).ownBlock = some k) we w3 := (Mod.refl _ we).grown hgr3 (fun _ e => .inr e)
 have hwes : w2.heap.size ≤ we.heap.size := hEe.size
 have hRA := hEe.blk HA2.out id
 have hRB := hEe.blk HB2.out id
 have hfar : ∀ g, (.slice Al ll cl : Value).ownBlock = some g → w0.heap.size ≤ g := hNe.2.2.2
 have hAb : ¬ (.slice Al ll cl : Value).ownBlock = some b := fun e => zT hNe.2.1 e hRA (by decide) rfl
 have hBb : ¬ (.slice Al ll cl : Value).ownBlock = some (b + 1) := fun e => zT hNe.2.1 e hRB (by decide) rfl
 have HA3 := hJ (hm3.blk hRA hAb)
 have HB3 := hJ (hm3.blk hRB hBb)
 have HX3 : Hid (Chg w0 w (.slice Al ll cl) w3) := hJ ((HX2.out.ext hEe).app hm3 hfar)
 have HS3 : Hid (yO w0 w3 (.slice As sl cs) h.snap) := hJ ⟨zU hNe.1.1 hm3 (fun g hg e => zbV hNe.1.1 hNe.2.1 (by decide) hg e), hNe.1.2⟩
 have HE3 : Hid (zaX w0 w3 (.slice A3 (ll + 1) c3) (h.log ++ [y])) := hJ (zdX (q := w2.heap.size + 1) hNe.2 (k := [y]) (by simpa using hyok) HI.out.l rfl (by simpa using ho3) (by simpa using hat3) (by have := HX2.out.E.size; omega))
 clear ho3 hgr3 hat3 hwe hEe hNe hm3 hwes hRA hRB hfar hAb hBb y9 hlx
 have f9 : w3.frozen? ⟨b, 9, none⟩ = false := zK 9 HA3.out
 have d9 : w3.cell? ⟨b, 9, none⟩ = some _ := zB (cs := h.cells (.slice As sl cs) (.slice Al ll cl)) HA3.out rfl
 obtain ⟨w4, hw4⟩ : ∃ w4, w3.setCell ⟨b, 9, none⟩ (.slice A3 (ll + 1) c3) = w4 := ⟨_, rfl⟩
 have HAw4 : Hid (w4.heap[b]? = some (.cells (h.cells (.slice As sl cs) (.slice A3 (ll + 1) c3)).toArray 34 (0, 0))) := hJ (by rw [← hw4]; simp [World.setCell, Array.getElem?_modify, HA3.out])
 have hM4 : Mod (fun k => k = b) w3 w4 := by rw [← hw4]; exact zO (Mod.refl _ w3) _ _
 have Hw4 := hJ hw4
 clear hw4
 have hll1 : (h.log ++ [y]).length = ll + 1 := by rw [List.length_append, HI.out.l]; rfl
 have HNw4 : Hid (jP w0 w4 (.slice As sl cs) (.slice A3 (ll + 1) c3) ({ h with log := h.log ++ [y] } : zC)) := hJ (jP.box (h := ({ h with log := h.log ++ [y] } : zC)) ⟨HS3.out, HE3.out⟩ HA3.out hM4 (by decide) (by decide))
 have HBw4 : Hid (w4.heap[b + 1]? = some (.cells zH.toArray 34 (0, 0))) := hJ (hM4.blk HB3.out (by omega))
 have HXw4 : Hid (Chg w0 w (.slice Al ll cl) w4) := hJ (HX3.out.box hM4 (by omega))
 have hyl : ({ h with log := h.log ++ [y] } : zC).log.length ≤ 1000000 := by simp only; omega
 have Hch : Hid (yE h p = if yG ({ h with log := h.log ++ [y] } : zC) then some ({ h with log := h.log ++ [y] } : zC) else none) := hJ (by rw [hpx]; exact zkW (by rw [hx2]; exact turn4 Hq.out))
 have hone2 : ∀ v ∈ ({ h with log := h.log ++ [y] } : zC).cells (.slice As sl cs) (.slice A3 (ll + 1) c3), v.oneCell' = true := by
  intro v hv; simp only [List.mem_cons, List.not_mem_nil, or_false] at hv; rcases hv with rfl | rfl | rfl | rfl | rfl | rfl | rfl | rfl | rfl | rfl <;> rfl
 clear hM4
 go_wp2_with fail
 rw [Hw4.out]
 clear f9 d9 Hw4
 have hldt := fun (W' : World) (hW' : Mod (fun k => k = b + 1) w4 W') => zF (P := Tryz.prog) (o := 0) (cs := ({ h with log := h.log ++ [y] } : zC).cells (.slice As sl cs) (.slice A3 (ll + 1) c3)) zA (hW'.blk HAw4.out (by omega)) rfl (fun j u hu => by rw [Nat.zero_add]; exact hu)
 rcases hck : yG ({ h with log := h.log ++ [y] } : zC) with _ | _
 ·
  have Hp : Hid (yE h p = none) := hJ (by rw [Hch.out, hck]; rfl)
  go_wp2_with fail
  refine wp_region_held_drew (S := fun W' => Mod (fun k => k = b + 1) w4 W') (by kernel_rfl) (Mod.refl _ w4).drew (fun hS => ?_)
  refine tkH 0 (some 108) rfl rfl (.agg (({ h with log := h.log ++ [y] } : zC).cells (.slice As sl cs) (.slice A3 (ll + 1) c3)).toArray) hS ?_ ?_
  · rintro W' hW'
    exact yD _ _ rfl (.pointer (some ⟨b, 0, none⟩)) _ rfl (hldt W' hW')
  try simp only [pL]
  refine tkH 1 (some 109) rfl rfl (.agg (({ h with log := h.log ++ [y] } : zC).cells (.slice As sl cs) (.slice A3 (ll + 1) c3)).toArray) hS ?_ ?_
  · rintro W' hW'
    exact yD _ _ rfl (.pointer (some ⟨b, 0, none⟩)) _ rfl (hldt W' hW')
  try simp only [pL]
  refine xJ 2 rfl (fun K hK => ?_)
  go_simp
  go_wp2_with fail
  refine (za2 w4.drew _ ({ h with log := h.log ++ [y] } : zC) _ _ (HNw4.out.mem) hyl).mono ?_
  rintro e w6 ⟨rfl, hE6⟩
  rw [hck, if_neg (by simp)]
  have HB6 := hJ (hE6.blk HBw4.out id)
  have HN6 := hJ (HNw4.out.ext (Mod.ext (Mod.refl _ w4).drew hE6))
  have hX := (hS.ext hE6)
  go_simp
  refine hK.out _ _ hX (fun hS => ?_)
  clear hK K hX
  try simp only [pL]
  refine tkH 3 (some 111) rfl rfl ?_ hS ?_ ?_; rotate_left; · rintro W' hW'; go_simp; try rfl
  try simp only [pL]
  refine xJ 4 rfl (fun K hK => ?_)
  refine jQ rfl 34 _ _ rfl 10 (b + 1) 0 (({ h with log := h.log ++ [y] } : zC).cells (.slice As sl cs) (.slice A3 (ll + 1) c3)) rfl rfl zA _ zH (({ h with log := h.log ++ [y] } : zC).cells (.slice As sl cs) (.slice A3 (ll + 1) c3)) HB6.out rfl (by simp) hone2 rfl ?_
  intro w7 hb7 hm7 hs7
  refine hK.out _ _ (hS.self hm7) (fun hS => ?_)
  clear hK K
  try simp only [pL]
  refine tkH 5 (some 5) rfl rfl ?_ hS ?_ ?_; rotate_left; · rintro W' hW'; go_simp; try rfl
  try simp only [pL]
  refine wpAnyH_done (by kernel_rfl) ?_ _
  have HX7 : Hid (Chg w0 w (.slice Al ll cl) w7) := hJ (HXw4.out.box hS (by omega))
  go_wp2_with fail
  exact bodyPost_ret (zL rfl _ w7 (b + 1) _ _ zA rfl hb7 rfl) rfl ⟨HX7.out, zcU.no Hp.out _ rfl hone2 rfl⟩
 have Hp : Hid (yE h p = some ({ h with log := h.log ++ [y] } : zC)) := hJ (by rw [Hch.out, hck]; rfl)
 go_wp2_with fail
 refine wp_region_held_drew (S := fun W' => Mod (fun k => k = b + 1) w4 W') (by kernel_rfl) (Mod.refl _ w4).drew (fun hS => ?_)
 refine tkH 0 (some 108) rfl rfl (.agg (({ h with log := h.log ++ [y] } : zC).cells (.slice As sl cs) (.slice A3 (ll + 1) c3)).toArray) hS ?_ ?_
 · rintro W' hW'
   exact yD _ _ rfl (.pointer (some ⟨b, 0, none⟩)) _ rfl (hldt W' hW')
 try simp only [pL]
 refine tkH 1 (some 109) rfl rfl (.agg (({ h with log := h.log ++ [y] } : zC).cells (.slice As sl cs) (.slice A3 (ll + 1) c3)).toArray) hS ?_ ?_
 · rintro W' hW'
   exact yD _ _ rfl (.pointer (some ⟨b, 0, none⟩)) _ rfl (hldt W' hW')
 try simp only [pL]
 refine xJ 2 rfl (fun K hK => ?_)
 go_simp
 go_wp2_with fail
 refine (za2 w4.drew _ ({ h with log := h.log ++ [y] } : zC) _ _ (HNw4.out.mem) hyl).mono ?_
 rintro e w6 ⟨rfl, hE6⟩
 rw [hck, if_pos rfl]
 have HB6 := hJ (hE6.blk HBw4.out id)
 have HN6 := hJ (HNw4.out.ext (Mod.ext (Mod.refl _ w4).drew hE6))
 have hX := (hS.ext hE6)
 go_simp
 refine hK.out _ _ hX (fun hS => ?_)
 clear hK K hX
 try simp only [pL]
 refine tkH 3 (some 111) rfl rfl ?_ hS ?_ ?_; rotate_left; · rintro W' hW'; go_simp; try rfl
 try simp only [pL]
 refine xJ 4 rfl (fun K hK => ?_)
 refine jQ rfl 34 _ _ rfl 10 (b + 1) 0 (({ h with log := h.log ++ [y] } : zC).cells (.slice As sl cs) (.slice A3 (ll + 1) c3)) rfl rfl zA _ zH (({ h with log := h.log ++ [y] } : zC).cells (.slice As sl cs) (.slice A3 (ll + 1) c3)) HB6.out rfl (by simp) hone2 rfl ?_
 intro w7 hb7 hm7 hs7
 refine hK.out _ _ (hS.self hm7) (fun hS => ?_)
 clear hK K
 try simp only [pL]
 refine tkH 5 (some 5) rfl rfl ?_ hS ?_ ?_; rotate_left; · rintro W' hW'; go_simp; try rfl
 try simp only [pL]
 refine wpAnyH_done (by kernel_rfl) ?_ _
 have HX7 : Hid (Chg w0 w (.slice Al ll cl) w7) := hJ (HXw4.out.box hS (by omega))
 have HN7 := hJ (HN6.out.box HB6.out hm7 (by decide) (by decide))
 go_wp2_with fail
 exact bodyPost_ret (zL rfl _ w7 (b + 1) _ _ zA rfl hb7 rfl) rfl ⟨HX7.out, zcU.yes Hp.out _ _ rfl HN7.out⟩
theorem znG (w w0 : World) (T : Nat → Prop) (h : zC) (As : Option Addr) (sl cs : Nat) (Al : Option Addr) (ll cl : Nat) (A : Option Addr) (n c : Nat) (p : List UInt8) (hI : ChIn w0 w h As sl cs Al ll cl) (hp : Byt w T (.slice A n c) p) (hn : p.length = n) (hnl : n ≤ 100000) :
  Calls Tryz.prog 73 #[.agg #[.int .i64 h.term, .int .i64 h.vote, .int .i64 h.base, .int .i64 h.baseTerm, .int .i64 h.conf.full, .int .i64 h.conf.wit, .int .i64 h.conf.learn, .int .i64 h.conf.learnWit, .slice As sl cs, .slice Al ll cl], .slice A n c] w fun e w' => Chg w0 w (.slice Al ll cl) w' ∧ zcU w0 w' (yE h p) e := by
 by_cases h0 : n = 0
 · exact zkX w w0 T h As sl cs Al ll cl A n c p hI hp hn hnl h0
 obtain ⟨x, r, hpx⟩ : ∃ x r, p = x :: r := by
  cases p with
  | nil => simp at hn; omega
  | cons x r => exact ⟨x, r, rfl⟩
 by_cases h2 : x.toNat = 2
 · exact zkZ w w0 T h As sl cs Al ll cl A n c p hI hp hn hnl x r hpx h2
 by_cases h3 : x.toNat = 3
 · exact zk0 w w0 T h As sl cs Al ll cl A n c p hI hp hn hnl x r hpx h3
 by_cases h4 : x.toNat = 4
 · exact zk1 w w0 T h As sl cs Al ll cl A n c p hI hp hn hnl x r hpx h4
 exact zkY w w0 T h As sl cs Al ll cl A n c p hI hp hn hnl x r hpx h2 h3 h4
def MdAt (w wr : World) (i : Nat) (ps : List (List UInt8)) (o : Option zC) (cs : List Value) : Prop := match o with
 | none => za6 ps = none
 | some h => za6 ps = xP h (ps.drop (i + 1)) ∧ Right h ∧ h.log.length ≤ 100000 + i ∧ h.snap.length ≤ 16384 ∧ ∃ sv lv, cs = h.cells sv lv ∧ jP w wr sv lv h
theorem zgH {h g : zC} {p : List UInt8} (e : yE h p = some g) : Right g ∧ g.log.length ≤ h.log.length + 1 ∧ g.snap = h.snap := by
 cases p with
 | nil => cases e
 | cons c b =>
  rw [yZ] at e
  have hr := zf2 e
  have e2 : zaB h c.toNat b = some g := by
   unfold xE at e
   split at e
   · cases e
   rename_i y hy
   rw [hy]
   split at e
   · cases e; rfl
   cases e
  refine ⟨hr, ?_⟩
  unfold zaB at e2
  split at e2
  ·
   split at e2
   · cases e2
   split at e2
   · cases e2
   cases e2; exact ⟨by simp, rfl⟩
  split at e2
  ·
   split at e2
   · cases e2
   split at e2
   · cases e2
   cases e2; exact ⟨by simp only [List.length_take]; omega, rfl⟩
  split at e2
  ·
   split at e2
   · cases e2
   cases e2; exact ⟨by simp, rfl⟩
  cases e2
theorem zjL {h : zC} {p : List UInt8} (e : zaK p = some h) : Right h ∧ h.log.length ≤ p.length ∧ h.snap.length ≤ 16384 := by
 cases p with
 | nil => cases e
 | cons c b =>
  rw [zc2] at e
  split at e
  ·
   have hr := zf2 e
   unfold xE at e
   split at e
   · cases e
   rename_i y hy
   split at e
   · cases e
     have := zcS hy
     exact ⟨hr, by simp only [List.length_cons]; omega, this.2⟩
   cases e
  cases e
theorem st_made (w wp : World) (A : Option Addr) (n c : Nat) (xs : List Value) (ps : List (List UInt8)) (hN : zd2 wp w (.slice A n c) xs ps) (hn : ps.length = n) (hnl : n ≤ 100000) (hpl : ∀ p ∈ ps, p.length ≤ 100000) :
  Calls Tryz.prog 40 #[.slice A n c] w fun e w' => Ext w w' ∧ zcU w w' (za6 ps) e := by
 obtain ⟨b, hb⟩ : ∃ b, w.heap.size = b := ⟨_, rfl⟩
 obtain ⟨W, hW⟩ : ∃ W, w.alloc (.cells zH.toArray 34) = W := ⟨_, rfl⟩
 have hE : Ext w W := by rw [← hW]; exact (Mod.refl _ w).alloc _
 have hA : W.heap[b]? = some (.cells zH.toArray 34 (0, 0)) := by rw [← hW, ← hb]; exact heap_alloc_new w _
 obtain ⟨ho, hof, hP⟩ := hN
 rw [hn] at ho
 have hS0 : Sl w (fun _ => True) 1 (.slice A n c) n xs := Sl.of_own ho (fun _ _ => trivial)
 have hPW : Pays wp w xs ps := hP
 have HW := hJ hW
 have HA := hJ hA
 have HE := hJ hE
 have HS0 := hJ hS0
 have HPW := hJ hPW
 have Hn := hJ hn
 have Hb := hJ hb
 have Hpl := hJ hpl
 clear hW hA hE hS0 hPW hn ho hof hP hb hpl
 by_cases h0 : n = 0
 ·
  have Hp : Hid (za6 ps = none) := hJ (by rw [List.eq_nil_of_length_eq_zero (show ps.length = 0 by rw [Hn.out]; exact h0)]; rfl)
  subst h0
  go_enter Tryz.func40, Tryz.ntmps40
  go_wp2_with (rw [HW.out, Hb.out]; refine zD rfl 34 _ _ rfl 10 b 0 zH rfl rfl zA _ zH zH HA.out rfl (by simp) zhJ rfl ?_)
  intro w1 hb1 hm1 hs1
  have HE1 := hJ (HE.out.trans hm1 (fun k hk e => by have := Hb.out; omega))
  clear hm1 hs1
  go_wp2_with fail
  exact bodyPost_ret (zL rfl _ w1 b _ _ zA rfl hb1 rfl) rfl ⟨HE1.out, zcU.no Hp.out _ rfl zhJ rfl⟩
 obtain ⟨p0, qs, hps⟩ : ∃ p0 qs, ps = p0 :: qs := by
  cases hh : ps with
  | nil => have := Hn.out; rw [hh] at this; simp at this; omega
  | cons p qs => exact ⟨p, qs, rfl⟩
 obtain ⟨A0, k0, c0, hx0, hk0, hN0⟩ := HPW.out.2 0 p0 (by rw [hps]; rfl)
 have hc0 := HS0.out.2
 obtain ⟨A', c', e1, hnc, hcm, hcell⟩ := hc0
 injection e1 with e1 _ e3
 subst e1; subst e3
 obtain ⟨g, off, rfl, _, hcell⟩ := hcell (by omega)
 have x0 : W.cell? ⟨g, off, none⟩ = some (.slice A0 k0 c0) := HE.out.cell (by have := hcell 0 _ hx0; simpa using this) id
 have Hb0 : Hid (Byt W (zZ wp.heap.size) (.slice A0 k0 c0) p0) := hJ (by have h1 := yO.sl (w := wp) (hN0.ext HE.out); exact h1)
 have hk0l : k0 ≤ 100000 := by rw [← hk0]; exact Hpl.out p0 (by rw [hps]; simp)
 have hn1 : 1 ≤ n := by omega
 have hnz : ((n : Int) == 0) = false := by simp; omega
 have hnz2 : (n == 0) = false := by simp; omega
 have HS1 : Hid (Sl w (fun _ => True) 1 (.slice (cutA (some ⟨g, off, none⟩) 1 c 1) (n - 1) (c - 1)) (n - 1) (xs.drop 1)) := hJ (by have h1 := Sl.cutA HS0.out (m := 1) hn1; simpa using h1)
 have Hk0 := hJ hk0
 have Hps := hJ hps
 clear hcell hx0 hk0 hN0 hps hcm
 rw [← HW.out] at x0
 go_enter Tryz.func40, Tryz.ntmps40
 go_wp2_with fail
 rw [HW.out, Hb.out]
 refine (st_begun W _ A0 k0 c0 p0 Hb0.out Hk0.out hk0l).mono ?_
 rintro e w1 ⟨hX1, hO⟩
 have HA1 := hJ (hX1.blk HA.out id)
 have hbs : b < w1.heap.size := (Array.getElem?_eq_some_iff.1 HA1.out).1
 have hst : ∃ (o : Option zC) (cs : List Value), cs.length = 10 ∧ (∀ v ∈ cs, v.oneCell' = true) ∧ e = .returned (.tuple #[.agg cs.toArray, .bool o.isSome]) ∧ MdAt w w1 0 ps o cs := by
  have hm : za6 ps = match zaK p0 with
   | none => none
   | some h => xP h qs := by rw [Hps.out]; rfl
  rcases hbp : zaK p0 with _ | h
  · rw [hbp] at hO hm
    obtain ⟨cs, h1, h2, h3⟩ := hO
    exact ⟨none, cs, h1, h2, h3, hm⟩
  rw [hbp] at hO hm
  obtain ⟨sv, lv, h1, h2⟩ := hO
  obtain ⟨r1, r2, r3⟩ := zjL hbp
  exact ⟨some h, h.cells sv lv, rfl, xK h2, h1, by rw [hm, Hps.out]; rfl, r1, by have := Hk0.out; omega, r3, sv, lv, rfl, h2.up HE.out⟩
 obtain ⟨o0, cs0, hl0, hone0, rfl, hM0⟩ := hst
 clear hO
 have hz : (w1.alloc (.cells zH.toArray 34)).heap[w1.heap.size]? = some (.cells zH.toArray 34 (0, 0)) := heap_alloc_new w1 _
 go_wp2_with (refine zD rfl 34 _ _ rfl 10 w1.heap.size 0 cs0 rfl rfl zA _ zH cs0 hz hl0 (by simp) hone0 (by unfold put; simp [hl0]) ?_)
 intro w2 hb2 hm2 hs2
 obtain ⟨q, hq⟩ : ∃ q, w1.heap.size = q := ⟨_, rfl⟩
 rw [hq] at hb2 hm2 hbs hz ⊢
 have hE2 : Ext w1 w2 := by have h1 := ((Mod.refl (fun _ => False) w1).alloc (.cells zH.toArray 34)).trans hm2 (fun k hk e => by omega); exact h1
 have hM2 : MdAt w w2 0 ps o0 cs0 := by
  cases o0 with
  | none => exact hM0
  | some h =>
   obtain ⟨m1, m2, m3, m4, sv, lv, m5, m6⟩ := hM0
   exact ⟨m1, m2, m3, m4, sv, lv, m5, m6.ext hE2⟩
 have HM2 := hJ hM2
 have HQ2 := hJ hb2
 have HA2 := hJ (hE2.blk HA1.out id)
 have HX2 := hJ ((HE.out.ext hX1).ext hE2)
 have HW2 := hJ (hX1.ext hE2)
 have Hqb : Hid (b < q ∧ w.heap.size ≤ b) := hJ ⟨hbs, by rw [Hb.out]; exact Nat.le_refl _⟩
 obtain ⟨A2, hA2⟩ : ∃ A2, cutA (some ⟨g, off, none⟩) 1 c 1 = A2 := ⟨_, rfl⟩
 rw [hA2] at HS1
 have i0 : (0 : Int) ≤ 1 := by omega
 have i1 : (1 : Int) ≤ (n : Int) := by omega
 have HA2e := hJ hA2
 clear hz hm2 hs2 hE2 hM2 hb2 hM0 hX1 x0 hA2 hq
 go_wp2_with fail
 rw [HA2e.out]
 clear HA2e
 go_loopw [5, 22] (fun sv iv wr => ∃ (i : Nat) (o : Option zC) (cs : List Value), i ≤ n - 1 ∧ iv = .int .i64 i ∧ sv = .bool o.isSome ∧ cs.length = 10 ∧ (∀ v ∈ cs, v.oneCell' = true) ∧ MdAt w wr i ps o cs ∧ wr.heap[q]? = some (.cells cs.toArray 34 (0, 0)) ∧ wr.heap[b]? = some (.cells zH.toArray 34 (0, 0)) ∧ Ext w wr) (fun _ iv _ => (n - 1) - (intOf iv).toNat)
 case atStart => exact ⟨0, o0, cs0, by omega, rfl, rfl, hl0, hone0, HM2.out, HQ2.out, HA2.out, HX2.out⟩
 obtain ⟨i, o, cs, hin, rfl, rfl, hl, hone, hM, hQr, hBr, hXr⟩ := hrel
 have HM := hJ hM
 have HQr := hJ hQr
 have HBr := hJ hBr
 have HXr := hJ hXr
 clear hM hQr hBr hXr
 by_cases hi : i < n - 1
 rotate_left
 ·
  have hd : decide ((i : Int) < ((n - 1 : Nat) : Int)) = false := by simp; omega
  have hd2 : decide (i < n - 1) = false := by simp; omega
  have hie : ps.drop (i + 1) = [] := List.drop_of_length_le (by rw [Hn.out]; omega)
  cases o with
  | none =>
   have Hp : Hid (za6 ps = none) := hJ HM.out
   have hldt := zF (P := Tryz.prog) (o := 0) (cs := cs) zA HQr.out hl (fun j u hu => by rw [Nat.zero_add]; exact hu)
   go_wp2_with (first | (refine zG rfl 34 _ rfl _ _ rfl hldt ?_) | (refine zD rfl 34 _ _ rfl 10 b 0 (cs) rfl rfl zA _ zH (cs) HBr.out hl (by simp) hone (by unfold put; simp [hl]) ?_))
   intro w7 hb7 hm7 hs7
   have HX7 : Hid (Ext w w7) := hJ (HXr.out.trans hm7 (fun k hk e => by have := Hqb.out; omega))
   go_wp2_with fail
   exact bodyPost_ret (zL rfl _ w7 b _ _ zA rfl hb7 hl) rfl ⟨HX7.out, zcU.no Hp.out _ hl hone rfl⟩
  | some h =>
   obtain ⟨m1, m2, m3, m4, sv, lv, rfl, m6⟩ := HM.out
   have Hp : Hid (za6 ps = some h) := hJ (by rw [m1, hie]; rfl)
   have H6 := hJ m6
   clear m1 m6
   have hldt := zF (P := Tryz.prog) (o := 0) (cs := h.cells sv lv) zA HQr.out rfl (fun j u hu => by rw [Nat.zero_add]; exact hu)
   go_wp2_with (first | (refine zG rfl 34 _ rfl _ _ rfl hldt ?_) | (refine zD rfl 34 _ _ rfl 10 b 0 (h.cells sv lv) rfl rfl zA _ zH (h.cells sv lv) HBr.out rfl (by simp) hone (rfl) ?_))
   intro w7 hb7 hm7 hs7
   have HX7 : Hid (Ext w w7) := hJ (HXr.out.trans hm7 (fun k hk e => by have := Hqb.out; omega))
   go_wp2_with fail
   exact bodyPost_ret (zL rfl _ w7 b _ _ zA rfl hb7 rfl) rfl ⟨HX7.out, zcU.yes Hp.out sv lv rfl (H6.out.box HBr.out hm7 (by decide) (by decide))⟩
 have hd : decide ((i : Int) < ((n - 1 : Nat) : Int)) = true := by simp; omega
 obtain ⟨g2, off2, rfl, _, hcell⟩ := (by obtain ⟨_, A', c', e, _, _, hx⟩ := HS1.out; injection e with e1 _ e3; subst e1; exact hx (by omega) : ∃ g2 off2, A2 = some ⟨g2, off2, none⟩ ∧ True ∧ ∀ j u, (xs.drop 1)[j]? = some u → w.cell? ⟨g2, off2 + j, none⟩ = some u)
 obtain ⟨p, hp⟩ : ∃ p, ps[i + 1]? = some p := ⟨_, List.getElem?_eq_getElem (by rw [Hn.out]; omega)⟩
 obtain ⟨A1, k1, c1, hx1, hk1, hN1⟩ := HPW.out.2 (i + 1) p hp
 have hg1 : wr.cell? ⟨g2, off2 + i, none⟩ = some (.slice A1 k1 c1) := HXr.out.cell (hcell i _ (by rw [List.getElem?_drop, Nat.add_comm]; exact hx1)) id
 have hj0 : (0 : Int) ≤ (i : Int) := by omega
 have hj1 : (i : Int) < ((n - 1 : Nat) : Int) := by omega
 have Hb1 : Hid (Byt wr (zZ wp.heap.size) (.slice A1 k1 c1) p) := hJ (by have h1 := yO.sl (w := wp) (hN1.ext HXr.out); exact h1)
 have hk1l : k1 ≤ 100000 := by rw [← hk1]; exact Hpl.out p (List.mem_of_getElem? hp)
 have hdp : ps.drop (i + 1) = p :: ps.drop (i + 1 + 1) := by
  obtain ⟨h1, h2⟩ := List.getElem?_eq_some_iff.1 hp
  rw [List.drop_eq_getElem_cons h1, h2]
 have Hk1 := hJ hk1
 have Hdp := hJ hdp
 clear hcell hp hx1 hk1 hN1 hdp
 cases o with
 | none =>
  have Hp : Hid (za6 ps = none) := hJ HM.out
  have hos : (none : Option zC).isSome = false := rfl
  rw [hos]
  clear hos
  have hldt := zF (P := Tryz.prog) (o := 0) (cs := cs) zA HQr.out hl (fun j u hu => by rw [Nat.zero_add]; exact hu)
  go_wp2_with (first | (refine zG rfl 34 _ rfl _ _ rfl hldt ?_) | (refine zD rfl 34 _ _ rfl 10 b 0 (cs) rfl rfl zA _ zH (cs) HBr.out hl (by simp) hone (by unfold put; simp [hl]) ?_))
  intro w7 hb7 hm7 hs7
  have HX7 : Hid (Ext w w7) := hJ (HXr.out.trans hm7 (fun k hk e => by have := Hqb.out; omega))
  go_wp2_with fail
  exact bodyPost_ret (zL rfl _ w7 b _ _ zA rfl hb7 hl) rfl ⟨HX7.out, zcU.no Hp.out _ hl hone rfl⟩
 | some h =>
  obtain ⟨m1, m2, m3, m4, sv, lv, rfl, m6⟩ := HM.out
  obtain ⟨As, sc, Al, lc, rfl, rfl⟩ := m6.forms
  obtain ⟨sl, hsl⟩ : ∃ sl, h.snap.length = sl := ⟨_, rfl⟩
  obtain ⟨ll, hll⟩ : ∃ ll, h.log.length = ll := ⟨_, rfl⟩
  have hos : (some h).isSome = true := rfl
  rw [hos]
  rw [hsl, hll] at m6 HM HQr hone
  have hI : ChIn w wr h As sl sc Al ll lc := ⟨m6, HXr.out, hsl, hll, by omega, m2⟩
  have hldt := zF (P := Tryz.prog) (o := 0) (cs := h.cells (.slice As sl sc) (.slice Al ll lc)) zA HQr.out rfl (fun j u hu => by rw [Nat.zero_add]; exact hu)
  have HI := hJ hI
  have H1 := hJ m1
  have H3 := hJ m3
  have H4 := hJ m4
  clear hI m1 m3 m4 m6 HM hos hsl hll hl hone
  go_wp2_with (refine zG rfl 34 _ rfl _ _ rfl hldt ?_)
  clear hldt
  refine (znG wr w _ h As sl sc Al ll lc A1 k1 c1 p HI.out Hb1.out Hk1.out hk1l).mono ?_
  rintro e w4 ⟨hC, hO⟩
  have HQ4 := hJ (hC.M.blk HQr.out (fun e => zT HI.out.N.2.1 e HQr.out (by decide) rfl))
  have HB4 := hJ (hC.M.blk HBr.out (fun e => zT HI.out.N.2.1 e HBr.out (by decide) rfl))
  have HX4 := hJ hC.E
  have hst : ∃ (o' : Option zC) (cs' : List Value), cs'.length = 10 ∧ (∀ v ∈ cs', v.oneCell' = true) ∧ e = .returned (.tuple #[.agg cs'.toArray, .bool o'.isSome]) ∧ MdAt w w4 (i + 1) ps o' cs' := by
   have hm := H1.out
   rw [Hdp.out, xP] at hm
   rcases hcp : yE h p with _ | g'
   · rw [hcp] at hO hm
     obtain ⟨cs', h1, h2, h3⟩ := hO
     exact ⟨none, cs', h1, h2, h3, hm⟩
   rw [hcp] at hO hm
   obtain ⟨sv', lv', h1, h2⟩ := hO
   obtain ⟨r1, r2, r3⟩ := zgH hcp
   exact ⟨some g', g'.cells sv' lv', rfl, xK h2, h1, hm, r1, by have := H3.out; omega, by rw [r3]; exact H4.out, sv', lv', rfl, h2⟩
  obtain ⟨o', cs', hl', hone', rfl, hM'⟩ := hst
  have HM' := hJ hM'
  clear hO hC hM'
  go_wp2_with (refine zD rfl 34 _ _ rfl 10 q 0 cs' rfl rfl zA _ (h.cells (.slice As sl sc) (.slice Al ll lc)) cs' HQ4.out hl' (by simp) hone' (by unfold put; simp [hl']) ?_)
  intro w5 hb5 hm5 hs5
  have hX5 : Ext w w5 := HX4.out.trans hm5 (fun k hk e => by have := Hqb.out; omega)
  have hB5 := hm5.blk HB4.out (by have := Hqb.out; omega)
  have hM5 : MdAt w w5 (i + 1) ps o' cs' := by
   have h1 := HM'.out
   cases o' with
   | none => exact h1
   | some g' =>
    obtain ⟨m1, m2, m3, m4, sv, lv, m5, m6⟩ := h1
    exact ⟨m1, m2, m3, m4, sv, lv, m5, m6.box HQ4.out hm5 (by decide) (by decide)⟩
  have HX5 := hJ hX5
  have HB5 := hJ hB5
  have HM5 := hJ hM5
  have HQ5 := hJ hb5
  clear hX5 hB5 hM5 hb5 hm5 hs5
  go_wp2_with fail
  go_roundw
  case rel => exact ⟨i + 1, o', cs', by omega, by go_num, rfl, hl', hone', HM5.out, HQ5.out, HB5.out, HX5.out⟩
  case measure => simp [intOf]; omega
end Go.Proofs.YtjhnlncgmejkcaaGreat
