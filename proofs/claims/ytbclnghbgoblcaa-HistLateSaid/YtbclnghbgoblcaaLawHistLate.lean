/-
 The walk of HistLate. Conditions: as the theorems name them.
-/
import Derived.Test.YtbclnghbgoblcaaHisTkn
import Derived.Test.YtbclnghbgoblcaaHisLog
namespace Go.Proofs.Ytbclnghbgoblcaa
set_option linter.unusedSimpArgs false
open Go.RowKit

def entC (c : ACall) : AEntry := ⟨1, 1, c, AConf.zero⟩
theorem entC_ok {c : ACall} (h : c.ok) : (entC c).ok := ⟨by unfold I64 entC; simp, by unfold I64 entC; simp, h, conf0_ok⟩
theorem evA_ok {c : ACall} (h : c.ok) : (evA c).ok := ⟨h, rep0_ok, (show I64 0 from ⟨by decide, by decide⟩)⟩
theorem val0_ok : AVal.zero.ok := ⟨⟨by decide, by decide⟩, by decide, Nat.zero_le _⟩
theorem val1_ok : (⟨1, 4607182418800017408, ⟨#[]⟩⟩ : AVal).ok := ⟨⟨by decide, by decide⟩, by decide, Nat.zero_le _⟩
theorem evT_ok {c : ACall} {r : AReply} {z : Int} (h : c.ok) (hr : r.ok) (hz : I64 z) : (evT ⟨c, r, z⟩).ok := ⟨h, hr, hz⟩
theorem sl_entC (w : World) (c : ACall) : Sl (w.alloc (.cells #[.int .i64 1, .int .i64 1, .int .i64 c.client, .int .i64 c.seq, .int .i64 c.cmd.kind, .string c.cmd.key, .int .i64 c.cmd.old.kind, .float .f64 c.cmd.old.num, .string c.cmd.old.text, .int .i64 c.cmd.val.kind, .float .f64 c.cmd.val.num, .string c.cmd.val.text, .int .i64 0, .int .i64 0, .int .i64 0, .int .i64 0] 39)) (fun h => h = w.heap.size) 16 (.slice (some ⟨w.heap.size, 0, none⟩) 1 1) 1 ([entC c].flatMap AEntry.cells) :=
 sl_lit (xs := [entC c].flatMap AEntry.cells) (heap_alloc_new w _) rfl (by decide)
theorem sl_evAT (w : World) (c : ACall) (r : AReply) (z : Int) : Sl (w.alloc (.cells #[.bool true, .int .i64 c.client, .int .i64 c.seq, .int .i64 c.cmd.kind, .string c.cmd.key, .int .i64 c.cmd.old.kind, .float .f64 c.cmd.old.num, .string c.cmd.old.text, .int .i64 c.cmd.val.kind, .float .f64 c.cmd.val.num, .string c.cmd.val.text, .int .i64 0, .int .i64 0, .float .f64 0, .string ⟨#[]⟩, .int .i64 0, .bool false, .int .i64 c.client, .int .i64 c.seq, .int .i64 c.cmd.kind, .string c.cmd.key, .int .i64 c.cmd.old.kind, .float .f64 c.cmd.old.num, .string c.cmd.old.text, .int .i64 c.cmd.val.kind, .float .f64 c.cmd.val.num, .string c.cmd.val.text, .int .i64 r.code, .int .i64 r.val.kind, .float .f64 r.val.num, .string r.val.text, .int .i64 z] 56)) (fun h => h = w.heap.size) 16 (.slice (some ⟨w.heap.size, 0, none⟩) 2 2) 2 ([evA c, evT ⟨c, r, z⟩].flatMap AEvent.cells) :=
 sl_lit (xs := [evA c, evT ⟨c, r, z⟩].flatMap AEvent.cells) (heap_alloc_new w _) rfl (by decide)
theorem sl_evAF (w : World) (c : ACall) (f : Nat) (z : Int) : Sl (w.alloc (.cells #[.bool true, .int .i64 c.client, .int .i64 c.seq, .int .i64 c.cmd.kind, .string c.cmd.key, .int .i64 c.cmd.old.kind, .float .f64 c.cmd.old.num, .string c.cmd.old.text, .int .i64 c.cmd.val.kind, .float .f64 c.cmd.val.num, .string c.cmd.val.text, .int .i64 0, .int .i64 0, .float .f64 0, .string ⟨#[]⟩, .int .i64 0, .bool false, .int .i64 c.client, .int .i64 c.seq, .int .i64 c.cmd.kind, .string c.cmd.key, .int .i64 c.cmd.old.kind, .float .f64 c.cmd.old.num, .string c.cmd.old.text, .int .i64 c.cmd.val.kind, .float .f64 c.cmd.val.num, .string c.cmd.val.text, .int .i64 0, .int .i64 1, .float .f64 f, .string ⟨#[]⟩, .int .i64 z] 56)) (fun h => h = w.heap.size) 16 (.slice (some ⟨w.heap.size, 0, none⟩) 2 2) 2 ([evA c, evT ⟨c, ⟨0, ⟨1, f, ⟨#[]⟩⟩⟩, z⟩].flatMap AEvent.cells) :=
 sl_lit (xs := [evA c, evT ⟨c, ⟨0, ⟨1, f, ⟨#[]⟩⟩⟩, z⟩].flatMap AEvent.cells) (heap_alloc_new w _) rfl (by decide)
theorem sl_evA (w : World) (c : ACall) : Sl (w.alloc (.cells #[.bool true, .int .i64 c.client, .int .i64 c.seq, .int .i64 c.cmd.kind, .string c.cmd.key, .int .i64 c.cmd.old.kind, .float .f64 c.cmd.old.num, .string c.cmd.old.text, .int .i64 c.cmd.val.kind, .float .f64 c.cmd.val.num, .string c.cmd.val.text, .int .i64 0, .int .i64 0, .float .f64 0, .string ⟨#[]⟩, .int .i64 0] 56)) (fun h => h = w.heap.size) 16 (.slice (some ⟨w.heap.size, 0, none⟩) 1 1) 1 ([evA c].flatMap AEvent.cells) :=
 sl_lit (xs := [evA c].flatMap AEvent.cells) (heap_alloc_new w _) rfl (by decide)
theorem sl_evT (w : World) (c : ACall) (r : AReply) (z : Int) : Sl (w.alloc (.cells #[.bool false, .int .i64 c.client, .int .i64 c.seq, .int .i64 c.cmd.kind, .string c.cmd.key, .int .i64 c.cmd.old.kind, .float .f64 c.cmd.old.num, .string c.cmd.old.text, .int .i64 c.cmd.val.kind, .float .f64 c.cmd.val.num, .string c.cmd.val.text, .int .i64 r.code, .int .i64 r.val.kind, .float .f64 r.val.num, .string r.val.text, .int .i64 z] 56)) (fun h => h = w.heap.size) 16 (.slice (some ⟨w.heap.size, 0, none⟩) 1 1) 1 ([evT ⟨c, r, z⟩].flatMap AEvent.cells) :=
 sl_lit (xs := [evT ⟨c, r, z⟩].flatMap AEvent.cells) (heap_alloc_new w _) rfl (by decide)
theorem own_evA (w : World) (c : ACall) : (w.alloc (.cells #[.bool true, .int .i64 c.client, .int .i64 c.seq, .int .i64 c.cmd.kind, .string c.cmd.key, .int .i64 c.cmd.old.kind, .float .f64 c.cmd.old.num, .string c.cmd.old.text, .int .i64 c.cmd.val.kind, .float .f64 c.cmd.val.num, .string c.cmd.val.text, .int .i64 0, .int .i64 0, .float .f64 0, .string ⟨#[]⟩, .int .i64 0] 56)).ownsRow 0 56 16 (.slice (some ⟨w.heap.size, 0, none⟩) 1 1) 1 ([evA c].flatMap AEvent.cells) :=
 Row.own (cur := [evA c].flatMap AEvent.cells) (heap_alloc_new w _) rfl (Nat.le_refl _) (by decide) (by rfl)
theorem lateC_ok {key : ByteArray} (hk : key.size ≤ 8) {i : Nat} (hi : i ≤ 40) : (lateC key i).ok :=
 ⟨(show I64 1 from ⟨by decide, by decide⟩), (show I64 ((i : Int) + 1) from by unfold I64; omega), (show I64 5 from ⟨by decide, by decide⟩), (show key.size ≤ maxLen from by unfold maxLen; omega), val0_ok, val1_ok⟩
theorem lateG_ok {key : ByteArray} (hk : key.size ≤ 8) : (lateG key).ok :=
 ⟨(show I64 2 from ⟨by decide, by decide⟩), (show I64 1 from ⟨by decide, by decide⟩), (show I64 1 from ⟨by decide, by decide⟩), (show key.size ≤ maxLen from by unfold maxLen; omega), val0_ok, val0_ok⟩
theorem lateV_ok {k : Nat} (hk : k < 42) : (lateV k).ok := ⟨(show I64 1 from ⟨by decide, by decide⟩), flN_lt k hk, Nat.zero_le _⟩
theorem lateR_ok {k : Nat} (hk : k < 42) : (lateR k).ok := by
 unfold lateR
 split
 ·
  exact rep0_ok
 ·
  exact ⟨by unfold I64; simp, lateV_ok hk⟩

set_option maxRecDepth 100000 in
set_option maxHeartbeats 8000000 in
theorem histLate_walk (w : World) (key : ByteArray) (N : Nat) (hk1 : 1 ≤ key.size) (hk8 : key.size ≤ 8) (hN1 : 1 ≤ N) (hN40 : N ≤ 40) :
  Calls Try.prog 5 #[.string key, .int .i64 (N : Int)] w fun e w' => e = .returned (.bool true) ∧ Below w.heap.size w w' := by
 have a1 : decide ((key.size : Int) < 1) = false := by simp; omega
 have a2 : decide ((8 : Int) < (key.size : Int)) = false := by simp; omega
 have a3 : decide ((N : Int) < 1) = false := by simp; omega
 have a4 : decide ((40 : Int) < (N : Int)) = false := by simp; omega
 have N0 : (0 : Int) ≤ (N : Int) := by omega
 have N4 : (N : Int) ≤ 40 := by omega
 obtain ⟨i0, hinf, hz0, hz1, hz2⟩ := info_parts info_entry
 obtain ⟨j0, hjnf, hy0, hy1, hy2⟩ := info_parts info_event
 have HX : Hid (Ext w w) := Lib.hid (Mod.refl _ w)
 go_enter Try.func5, Try.ntmps5
 go_wp2
 go_loopw [5, 6, 7] (fun lv hv iv wr => ∃ (i : Nat) (AL AH : Option Addr) (cl ch : Nat), i ≤ N ∧ lv = .slice AL i cl ∧ hv = .slice AH (2 * i) ch ∧ iv = .int .i64 i ∧ NewE w wr (.slice AL i cl) (lateL key i) ∧ NewV w wr (.slice AH (2 * i) ch) (tkn (lateH key i)) ∧ Ext w wr) (fun _ _ iv _ => N - (intOf iv).toNat)
 case atStart => exact ⟨0, none, none, 0, 0, by omega, rfl, rfl, rfl, newE_nil _ _, newV_nil _ _, Mod.refl _ w⟩
 case round =>
  clear HX
  obtain ⟨i, AL, AH, cl, ch, hin, rfl, rfl, rfl, hL, hH, hX⟩ := hrel
  have HL := Lib.hid hL
  have HH := Lib.hid hH
  have HX := Lib.hid hX
  clear hL hH hX
  by_cases hi : i < N
  case pos =>
   have hi0 : (0 : Int) ≤ (i : Int) := by omega
   have hi1 : (i : Int) < (N : Int) := by omega
   go_upto_region 9 with fail
   obtain ⟨c, hc⟩ : ∃ c, c = lateC key i := ⟨_, rfl⟩
   obtain ⟨q, hq⟩ : ∃ q, wr.heap.size = q := ⟨_, rfl⟩
   obtain ⟨W1, hW1⟩ : ∃ W1, W1 = wr.alloc (.cells #[.int .i64 1, .int .i64 ((i : Int) + 1), .int .i64 5, .string key, .int .i64 0, .float .f64 0, .string ⟨#[]⟩, .int .i64 1, .float .f64 4607182418800017408, .string ⟨#[]⟩] 35) := ⟨_, rfl⟩
   have hE1 : Ext wr W1 := by rw [hW1]; exact (Mod.refl _ _).alloc _
   have hKc : W1.heap[q]? = some (.cells #[.int .i64 c.client, .int .i64 c.seq, .int .i64 c.cmd.kind, .string c.cmd.key, .int .i64 c.cmd.old.kind, .float .f64 c.cmd.old.num, .string c.cmd.old.text, .int .i64 c.cmd.val.kind, .float .f64 c.cmd.val.num, .string c.cmd.val.text] 35 (0, 0)) := by rw [hW1, ← hq, hc]; exact heap_alloc_new wr _
   rw [← hW1, hq]
   have hcok : c.ok := by rw [hc]; exact lateC_ok hk8 (by omega)
   have Hc := Lib.hid hc
   have Hcok := Lib.hid hcok
   have HL1 := Lib.hid (newE_mod HL.out hE1 (fun _ _ => id))
   have HH1 := Lib.hid (newV_mod HH.out hE1 (fun _ _ => id))
   have HX1 := Lib.hid (HX.out.ext hE1)
   have hbq : w.heap.size ≤ q := by have := HX.out.size; omega
   have Kc1 := Lib.hid hKc
   have hld := load_call c (At.of (cs := c.cells) hKc)
   have hown : W1.ownsRow 0 39 16 (.slice AL i cl) i ((lateL key i).flatMap AEntry.cells) := by
    have := HL1.out.1
    rwa [lateL_len] at this
   have Hown := Lib.hid hown
   clear hc hq hW1 hE1 hKc hcok HL HH HX hown
   go_wp2_with (first | (refine wpList_load rfl 35 _ rfl _ _ rfl hld ?_) | (at_builtin; go_must (refine wpList_app _ rfl _ _ 23 rfl 39 i0 _ 16 152 Try.underlying23 hinf hz0 hz1 hz2 rfl (by omega) _ i _ rfl (Hown.out.alloc _) _ _ 1 ([entC c].flatMap AEntry.cells) rfl (sl_entC W1 c) (entry_one [entC c]) (by simp only [maxLen]; omega) (by omega) ?_)))
   intro v' w2 ho hgr hat
   have hL2 : NewE w w2 v' (lateL key (i + 1)) := by
    rw [lateL]
    have := newE_app (k := [entC c]) HL1.out (fun y hy => by rw [List.mem_singleton] at hy; rw [hy]; exact entC_ok Hcok.out) (lateL_len key i) rfl ho hat (by have := HX1.out.size; omega)
    rwa [Hc.out] at this
   have hM2 : Mod (fun k => (Value.slice AL i cl).ownBlock = some k) W1 w2 := ((Mod.refl _ _).alloc _).grown hgr (fun k e => .inr e)
   have hlo := HL1.out.2.2
   have HX2 : Hid (Ext w w2) := Lib.hid (Mod.toExt ((Ext.mod HX1.out (Since w.heap.size)).trans hM2 (fun k _ e => hlo k e)))
   have HH2 := Lib.hid (newV_mod HH1.out hM2 (fun k e1 e2 => own_own HL1.out.1 HH1.out.1 (by decide) e2 e1))
   have hKc2 := hM2.blk Kc1.out (fun e => own_apart HL1.out.1 e Kc1.out (by decide) rfl)
   obtain ⟨A2, c2, rfl⟩ := hL2.form
   rw [lateL_len] at hL2 ⊢
   have HL2 := Lib.hid hL2
   have Kc2 := Lib.hid hKc2
   clear ho hgr hat hL2 hM2 hlo hld Hown Kc1 HH1 HX1 HL1
   have hld := load_call c (At.of (cs := c.cells) hKc2)
   obtain ⟨f, hf⟩ : ∃ f, floatOfInt FloatKind.f64 ((i : Int) + 1) = f := ⟨_, rfl⟩
   have Hf : Hid (flN (i + 1) = f) := Lib.hid (by rw [← hf]; unfold flN; congr 1)
   have hown : w2.ownsRow 0 56 16 (.slice AH (2 * i) ch) (2 * i) ((tkn (lateH key i)).flatMap AEvent.cells) := by
    have := HH2.out.1
    rwa [tkn_len, lateH_len] at this
   have Hown := Lib.hid hown
   clear hKc2 hown
   go_wp2_with (first | (refine wpList_load rfl 35 _ rfl _ _ rfl hld ?_) | (at_builtin; go_must (refine wpList_app _ rfl _ _ 49 rfl 56 j0 _ 16 160 Try.underlying49 hjnf hy0 hy1 hy2 rfl (by omega) _ (2 * i) _ rfl (Hown.out.alloc _) _ _ 2 ([evA c, evT ⟨c, ⟨0, ⟨1, f, ⟨#[]⟩⟩⟩, (i : Int) + 1⟩].flatMap AEvent.cells) rfl (sl_evAF w2 c f ((i : Int) + 1)) (event_one _) (by simp only [maxLen]; omega) (by omega) ?_)))
   intro v' w3 ho hgr hat
   have hlen : (tkn (lateH key i)).length = 2 * i := by rw [tkn_len, lateH_len]
   have hH3 : NewV w w3 v' (tkn (lateH key (i + 1))) := by
    rw [lateH, tkn_snoc]
    have := newV_app (k := [evA c, evT ⟨c, ⟨0, ⟨1, f, ⟨#[]⟩⟩⟩, (i : Int) + 1⟩]) HH2.out (fun y hy => by
     simp only [List.mem_cons, List.not_mem_nil, or_false] at hy
     rcases hy with rfl | rfl
     ·
      exact evA_ok Hcok.out
     ·
      refine evT_ok Hcok.out ⟨by unfold I64; simp, ?_⟩ (by unfold I64; omega)
      rw [← Hf.out]
      exact lateV_ok (by omega)) hlen rfl ho hat (by have := HX2.out.size; omega)
    rw [Hc.out, ← Hf.out] at this
    exact this
   have hM3 : Mod (fun k => (Value.slice AH (2 * i) ch).ownBlock = some k) w2 w3 := ((Mod.refl _ _).alloc _).grown hgr (fun k e => .inr e)
   have hlo := HH2.out.2.2
   have HX3 : Hid (Ext w w3) := Lib.hid (Mod.toExt ((Ext.mod HX2.out (Since w.heap.size)).trans hM3 (fun k _ e => hlo k e)))
   have HL3 := Lib.hid (newE_mod HL2.out hM3 (fun k e1 e2 => own_own HH2.out.1 HL2.out.1 (by decide) e2 e1))
   obtain ⟨A3, c3, rfl⟩ := hH3.form
   have hlen3 : (tkn (lateH key (i + 1))).length = 2 * (i + 1) := by rw [tkn_len, lateH_len]
   rw [hlen3] at hH3 ⊢
   have HH3 := Lib.hid hH3
   clear ho hgr hat hH3 hM3 hlo hld Hown Kc2 HH2 HX2 HL2 hlen hlen3 hf Hf
   go_wp2
   exact ⟨⟨i + 1, A2, A3, c2, c3, by omega, rfl, rfl, by go_num, HL3.out, HH3.out, HX3.out⟩, by simp [intOf]; omega⟩
  obtain rfl : i = N := by omega
  obtain ⟨ws, rfl⟩ : ∃ ws : World, ws = wr := ⟨_, rfl⟩
  go_upto_region 12 with fail
  obtain ⟨c, hc⟩ : ∃ c, c = lateG key := ⟨_, rfl⟩
  obtain ⟨q, hq⟩ : ∃ q, ws.heap.size = q := ⟨_, rfl⟩
  obtain ⟨W1, hW1⟩ : ∃ W1, W1 = ws.alloc (.cells #[.int .i64 2, .int .i64 1, .int .i64 1, .string key, .int .i64 0, .float .f64 0, .string ⟨#[]⟩, .int .i64 0, .float .f64 0, .string ⟨#[]⟩] 35) := ⟨_, rfl⟩
  have hE1 : Ext ws W1 := by rw [hW1]; exact (Mod.refl _ _).alloc _
  have hKc : W1.heap[q]? = some (.cells #[.int .i64 c.client, .int .i64 c.seq, .int .i64 c.cmd.kind, .string c.cmd.key, .int .i64 c.cmd.old.kind, .float .f64 c.cmd.old.num, .string c.cmd.old.text, .int .i64 c.cmd.val.kind, .float .f64 c.cmd.val.num, .string c.cmd.val.text] 35 (0, 0)) := by rw [hW1, ← hq, hc]; exact heap_alloc_new ws _
  rw [← hW1, hq]
  have hcok : c.ok := by rw [hc]; exact lateG_ok hk8
  have Hc := Lib.hid hc
  have Hcok := Lib.hid hcok
  have HL1 := Lib.hid (newE_mod HL.out hE1 (fun _ _ => id))
  have HH1 := Lib.hid (newV_mod HH.out hE1 (fun _ _ => id))
  have HX1 := Lib.hid (HX.out.ext hE1)
  have hbq : w.heap.size ≤ q := by have := HX.out.size; omega
  have Kc1 := Lib.hid hKc
  have hll : (lateL key i).length = i := lateL_len key i
  have hlh : (tkn (lateH key i)).length = 2 * i := by rw [tkn_len, lateH_len]
  have Hll := Lib.hid hll
  have Hlh := Lib.hid hlh
  obtain ⟨lg, hlg⟩ : ∃ lg, lg = lateL key i := ⟨_, rfl⟩
  obtain ⟨hh, hhh⟩ : ∃ hh, hh = tkn (lateH key i) := ⟨_, rfl⟩
  rw [← hlg] at HL1 Hll
  rw [← hhh] at HH1 Hlh
  have Hlg := Lib.hid hlg
  have Hhh := Lib.hid hhh
  clear hc hq hW1 hE1 hKc hcok HL HH HX hll hlh hi hin hlg hhh
  go_wp2_with fail
  go_loopw [10] (fun kv wr => ∃ k : Nat, k ≤ i + 1 ∧ kv = .int .i64 k ∧ Ext w wr ∧ NewE w wr (.slice AL i cl) lg ∧ NewV w wr (.slice AH (2 * i) ch) hh ∧ wr.heap[q]? = some (.cells #[.int .i64 c.client, .int .i64 c.seq, .int .i64 c.cmd.kind, .string c.cmd.key, .int .i64 c.cmd.old.kind, .float .f64 c.cmd.old.num, .string c.cmd.old.text, .int .i64 c.cmd.val.kind, .float .f64 c.cmd.val.num, .string c.cmd.val.text] 35 (0, 0))) (fun kv _ => i + 1 - (intOf kv).toNat)
  case atStart => exact ⟨0, by omega, rfl, HX1.out, HL1.out, HH1.out, Kc1.out⟩
  case round =>
   clear HX1 HL1 HH1 Kc1
   obtain ⟨k, hkn, rfl, hX, hL, hH, hK⟩ := hrel
   have HX := Lib.hid hX
   have HL := Lib.hid hL
   have HH := Lib.hid hH
   have Kc := Lib.hid hK
   clear hX hL hH hK
   by_cases hk : k ≤ i
   case neg =>
    have dk : decide ((k : Int) ≤ (i : Int)) = false := by simp; omega
    go_wp2_with fail
    refine (l_wakes25 _).mono ?_
    rintro e wk ⟨rfl, hE⟩
    have HXk := Lib.hid (HX.out.ext hE)
    clear hE
    go_wp2
    go_ret
    exact ⟨rfl, Ext.below HXk.out⟩
   have dk : decide ((k : Int) ≤ (i : Int)) = true := by simp; omega
   have k0 : (0 : Int) ≤ (k : Int) := by omega
   obtain ⟨r, hr⟩ : ∃ r, r = lateR k := ⟨_, rfl⟩
   have hrok : r.ok := by rw [hr]; exact lateR_ok (by omega)
   have Hr := Lib.hid hr
   have Hrok := Lib.hid hrok
   obtain ⟨wo, rfl⟩ : ∃ wo : World, wo = wr := ⟨_, rfl⟩
   clear hr hrok
   go_upto_if 72 with fail
   obtain ⟨u, hu⟩ : ∃ u, wo.heap.size = u := ⟨_, rfl⟩
   obtain ⟨W2, hW2⟩ : ∃ W2, W2 = wo.alloc (.cells #[.int .i64 0, .int .i64 0, .float .f64 0, .string ⟨#[]⟩] 42) := ⟨_, rfl⟩
   have hE2 : Ext wo W2 := by rw [hW2]; exact (Mod.refl _ _).alloc _
   have hKr : W2.heap[u]? = some (.cells #[.int .i64 0, .int .i64 0, .float .f64 0, .string ⟨#[]⟩] 42 (0, 0)) := by rw [hW2, ← hu]; exact heap_alloc_new wo _
   rw [← hW2, hu]
   have hul : wo.heap.size ≤ u := by omega
   have HL2 := Lib.hid (newE_mod HL.out hE2 (fun _ _ => id))
   have HH2 := Lib.hid (newV_mod HH.out hE2 (fun _ _ => id))
   have HX2 := Lib.hid (HX.out.ext hE2)
   have Kc2 := Lib.hid (hE2.blk Kc.out id)
   have Kr2 := Lib.hid hKr
   have hqu : q < u := by have := (Array.getElem?_eq_some_iff.1 Kc.out).1; omega
   have huw : w.heap.size ≤ u := by have := HX.out.size; omega
   clear hu hW2 hE2 HL HH HX Kc
   go_cut [11] (fun s11 wx => s11 = .pointer (some ⟨u, 0, none⟩) ∧ wx.heap[u]? = some (.cells #[.int .i64 r.code, .int .i64 r.val.kind, .float .f64 r.val.num, .string r.val.text] 42 (0, 0)) ∧ Mod (fun g => g = u) W2 wx)
   case first =>
    by_cases h0 : k = 0
    ·
     have d0 : decide ((0 : Int) < (k : Int)) = false := by simp; omega
     have d0' : decide (0 < k) = false := by simp; omega
     have d0'' : ¬ 0 < k := by omega
     have hr0 : r = AReply.zero := by rw [Hr.out, h0]; rfl
     have Hr0 := Lib.hid hr0
     clear hr0 h0
     go_wp2
     go_meet
     exact ⟨rfl, by rw [Hr0.out]; exact hKr, Mod.refl _ _⟩
    ·
     have d0 : decide ((0 : Int) < (k : Int)) = true := by simp; omega
     have d0' : decide (0 < k) = true := by simp; omega
     have d0'' : 0 < k := by omega
     obtain ⟨g0, g1, g2, g3⟩ := cq4 hKr
     obtain ⟨f, hf⟩ : ∃ f, floatOfInt FloatKind.f64 (k : Int) = f := ⟨_, rfl⟩
     have hr0 : r = ⟨0, ⟨1, f, ⟨#[]⟩⟩⟩ := by
      rw [Hr.out]
      unfold lateR lateV flN
      rw [if_neg h0, hf]
     have Hr0 := Lib.hid hr0
     have f1 := blk_free 1 hKr
     have f2 := blk_free 2 hKr
     have f3 := blk_free 3 hKr
     clear hr0 h0
     go_wp2
     go_meet
     refine ⟨rfl, ?_, mod_same (mod_same (mod_same (Mod.refl _ _) _ _) _ _) _ _⟩
     rw [Hr0.out]
     simp [World.setCell, Array.getElem?_modify, hKr]
   obtain ⟨rfl, hKr3, hM3⟩ := hcut
   obtain ⟨w3, rfl⟩ : ∃ w3 : World, w3 = wc := ⟨_, rfl⟩
   have HL3 := Lib.hid (newE_box HL2.out Kr2.out hM3 (by decide))
   have HH3 := Lib.hid (newV_box HH2.out Kr2.out hM3 (by decide))
   have HX3 : Hid (Ext w w3) := Lib.hid (Mod.toExt ((Ext.mod HX2.out (Since w.heap.size)).trans hM3 (fun g _ e => by unfold Since; omega)))
   have Kc3 := Lib.hid (hM3.blk Kc2.out (by omega))
   have Kr3 := Lib.hid hKr3
   clear hKr hKr3 hM3 HL2 HH2 HX2 Kc2 Kr2
   go_upto_region 18 with fail
   go_cut [12] (fun s12 wx => ∃ (AX : Option Addr) (cx : Nat), s12 = .slice AX (2 * i + 2) cx ∧ NewV w wx (.slice AX (2 * i + 2) cx) (hh ++ [evA c, evT ⟨c, r, (k : Int)⟩]) ∧ Ext w3 wx)
   case first =>
    obtain ⟨c_0, c_1, c_2, c_3, c_4, c_5, c_6, c_7, c_8, c_9⟩ := cq10 Kc3.out
    obtain ⟨r_0, r_1, r_2, r_3⟩ := cq4 Kr3.out
    have c_l : q < w3.heap.size := (Array.getElem?_eq_some_iff.1 Kc3.out).1
    have r_l : u < w3.heap.size := (Array.getElem?_eq_some_iff.1 Kr3.out).1
    refine wp_region_held_drew (S := fun W' => Ext w3 W') (by kernel_rfl) (Mod.refl _ w3).drew (fun hS => ?_)
    refine tkE 0 (some 77) rfl rfl ?_ hS ?_ ?_; rotate_left; · rintro W' _ _; go_simp; try with_reducible rfl
    try simp only [pL]
    refine tkE 2 (some 79) rfl rfl ?_ hS ?_ ?_; rotate_left; · rintro W' _ _; go_simp; try with_reducible rfl
    try simp only [pL]
    refine tkE 3 (some 80) rfl rfl ?_ hS ?_ ?_; rotate_left; · rintro W' _ _; go_simp; try with_reducible rfl
    try simp only [pL]
    refine tkE 4 (some 81) rfl rfl ?_ hS ?_ ?_; rotate_left; · rintro W' _ _; go_simp; try with_reducible rfl
    try simp only [pL]
    refine tkE 5 (some 82) rfl rfl ?_ hS ?_ ?_; rotate_left; · rintro W' _ _; go_simp; try with_reducible rfl
    try simp only [pL]
    refine tkE 6 (some 83) rfl rfl ?_ hS ?_ ?_; rotate_left; · rintro W' _ _; go_simp; try with_reducible rfl
    try simp only [pL]
    refine tkE 7 (some 84) rfl rfl ?_ hS ?_ ?_; rotate_left; · rintro W' _ _; go_simp; try with_reducible rfl
    try simp only [pL]
    refine tkE 8 (some 85) rfl rfl ?_ hS ?_ ?_; rotate_left; · rintro W' _ _; go_simp; try with_reducible rfl
    try simp only [pL]
    refine tkE 9 (some 86) rfl rfl ?_ hS ?_ ?_; rotate_left; · rintro W' _ _; go_simp; try with_reducible rfl
    try simp only [pL]
    clear c_0 c_1 c_2 c_3 c_4 c_5 c_6 c_7 c_8 c_9 r_0 r_1 r_2 r_3 c_l r_l
    obtain ⟨x0, hnw⟩ : ∃ x0, x0 = w3.drew := ⟨_, rfl⟩
    rw [← hnw] at hS ⊢
    clear hnw
    refine wpAnyH_ready (rs := [1, 10]) (by kernel_rfl) (by simp) ?_
    refine AllReadyH.cons rfl (fun K hK => ?_) (AllReadyH.cons rfl (fun K hK => ?_) AllReadyH.nil)
    ·
     go_simp
     go_wp2_with fail
     refine (k_twinEvents x0 _ _ hh (HH3.out.evs.ext hS) (by rw [Hlh.out]; omega)).mono ?_
     rintro e x1 ⟨v1, rfl, hN1, hE1⟩
     obtain ⟨A1, c1, rfl⟩ := hN1.form
     have hN1 := newV_up hN1 hS.size
     rw [Hlh.out] at hN1 ⊢
     have hX := Mod.ext hS hE1
     clear hE1 hS
     go_simp
     refine hK.out _ _ hX (fun hS => ?_)
     clear hK K hX
     try simp only [pL]
     refine wpAnyH_ready (rs := [10]) (by kernel_rfl) (by simp) ?_
     refine AllReadyH.cons rfl (fun K hK => ?_) AllReadyH.nil
     go_simp
     obtain ⟨x2, hnw⟩ : ∃ x2, x2 = x1.alloc (.cells #[.bool true, .int .i64 c.client, .int .i64 c.seq, .int .i64 c.cmd.kind, .string c.cmd.key, .int .i64 c.cmd.old.kind, .float .f64 c.cmd.old.num, .string c.cmd.old.text, .int .i64 c.cmd.val.kind, .float .f64 c.cmd.val.num, .string c.cmd.val.text, .int .i64 0, .int .i64 0, .float .f64 0, .string ⟨#[]⟩, .int .i64 0, .bool false, .int .i64 c.client, .int .i64 c.seq, .int .i64 c.cmd.kind, .string c.cmd.key, .int .i64 c.cmd.old.kind, .float .f64 c.cmd.old.num, .string c.cmd.old.text, .int .i64 c.cmd.val.kind, .float .f64 c.cmd.val.num, .string c.cmd.val.text, .int .i64 r.code, .int .i64 r.val.kind, .float .f64 r.val.num, .string r.val.text, .int .i64 (k : Int)] 56) := ⟨_, rfl⟩
     obtain ⟨bz, hbz⟩ : ∃ bz, x1.heap.size = bz := ⟨_, rfl⟩
     have hEa : Ext x1 x2 := by rw [hnw]; exact (Mod.refl _ _).alloc _
     have hsl : Sl x2 (fun y => y = bz) 16 (.slice (some ⟨bz, 0, none⟩) 2 2) 2 ([evA c, evT ⟨c, r, (k : Int)⟩].flatMap AEvent.cells) := by rw [hnw, ← hbz]; exact sl_evAT x1 c r (k : Int)
     rw [← hnw, hbz]
     clear hnw hbz
     replace hN1 := newV_mod hN1 hEa (fun _ _ => id)
     have hX := Mod.ext hS hEa
     clear hEa hS
     refine hK.out _ _ hX (fun hS => ?_)
     clear hK K hX
     try simp only [pL]
     refine wpAnyH_ready (rs := [11]) (by kernel_rfl) (by simp) ?_
     refine AllReadyH.cons rfl (fun K hK => ?_) AllReadyH.nil
     have hown : x2.ownsRow 0 56 16 (.slice A1 (2 * i) c1) (2 * i) (hh.flatMap AEvent.cells) := by
      have := hN1.1
      rwa [Hlh.out] at this
     refine step_app _ rfl _ _ 49 rfl 56 j0 _ 16 160 Try.underlying49 hjnf hy0 hy1 hy2 rfl (by omega) (.slice A1 (2 * i) c1) (2 * i) (hh.flatMap AEvent.cells) rfl hown _ (.slice (some ⟨bz, 0, none⟩) 2 2) 2 _ rfl hsl (event_one _) (by simp only [maxLen]; omega) (by omega) ?_
     intro v9 x3 ho hgr hat
     have hV9 : NewV w x3 v9 (hh ++ [evA c, evT ⟨c, r, (k : Int)⟩]) := newV_app (newV_up hN1 HX3.out.size) (fun y hy => by
      simp only [List.mem_cons, List.not_mem_nil, or_false] at hy
      rcases hy with rfl | rfl
      ·
       exact evA_ok Hcok.out
      ·
       exact evT_ok Hcok.out Hrok.out (by unfold I64; omega)) Hlh.out rfl ho hat (by have := HX3.out.size; have := hS.size; omega)
     have hlo := hN1.2.2
     have hM9 : Mod (fun g => (Value.slice A1 (2 * i) c1).ownBlock = some g) x2 x3 := (Mod.refl _ _).grown hgr (fun g e => .inr e)
     have hX : Ext w3 x3 := Mod.toExt ((Ext.mod hS (Since w3.heap.size)).trans hM9 (fun g _ e => hlo g e))
     obtain ⟨A9, c9, rfl⟩ := hV9.form
     have hl9 : (hh ++ [evA c, evT ⟨c, r, (k : Int)⟩]).length = 2 * i + 2 := by rw [List.length_append, Hlh.out]; rfl
     rw [hl9] at hV9 ⊢
     have HV9 := Lib.hid hV9
     clear ho hgr hat hlo hM9 hS hown hN1 hsl hV9 hl9
     refine hK.out _ _ hX (fun hS => ?_)
     clear hK K hX
     try simp only [pL]
     refine tkE 12 (some 12) rfl rfl ?_ hS ?_ ?_; rotate_left; · rintro W' _ _; go_simp; try with_reducible rfl
     try simp only [pL]
     refine wpAnyH_done (by kernel_rfl) ?_ _
     go_wp2
     go_meet
     exact ⟨A9, c9, rfl, HV9.out, hS⟩
    ·
     go_simp
     obtain ⟨x1, hnw⟩ : ∃ x1, x1 = x0.alloc (.cells #[.bool true, .int .i64 c.client, .int .i64 c.seq, .int .i64 c.cmd.kind, .string c.cmd.key, .int .i64 c.cmd.old.kind, .float .f64 c.cmd.old.num, .string c.cmd.old.text, .int .i64 c.cmd.val.kind, .float .f64 c.cmd.val.num, .string c.cmd.val.text, .int .i64 0, .int .i64 0, .float .f64 0, .string ⟨#[]⟩, .int .i64 0, .bool false, .int .i64 c.client, .int .i64 c.seq, .int .i64 c.cmd.kind, .string c.cmd.key, .int .i64 c.cmd.old.kind, .float .f64 c.cmd.old.num, .string c.cmd.old.text, .int .i64 c.cmd.val.kind, .float .f64 c.cmd.val.num, .string c.cmd.val.text, .int .i64 r.code, .int .i64 r.val.kind, .float .f64 r.val.num, .string r.val.text, .int .i64 (k : Int)] 56) := ⟨_, rfl⟩
     obtain ⟨bz, hbz⟩ : ∃ bz, x0.heap.size = bz := ⟨_, rfl⟩
     have hEa : Ext x0 x1 := by rw [hnw]; exact (Mod.refl _ _).alloc _
     have hsl : Sl x1 (fun y => y = bz) 16 (.slice (some ⟨bz, 0, none⟩) 2 2) 2 ([evA c, evT ⟨c, r, (k : Int)⟩].flatMap AEvent.cells) := by rw [hnw, ← hbz]; exact sl_evAT x0 c r (k : Int)
     rw [← hnw, hbz]
     clear hnw hbz
     have hX := Mod.ext hS hEa
     clear hEa hS
     refine hK.out _ _ hX (fun hS => ?_)
     clear hK K hX
     try simp only [pL]
     refine wpAnyH_ready (rs := [1]) (by kernel_rfl) (by simp) ?_
     refine AllReadyH.cons rfl (fun K hK => ?_) AllReadyH.nil
     go_simp
     go_wp2_with fail
     refine (k_twinEvents x1 _ _ hh (HH3.out.evs.ext hS) (by rw [Hlh.out]; omega)).mono ?_
     rintro e x2 ⟨v1, rfl, hN1, hE1⟩
     obtain ⟨A1, c1, rfl⟩ := hN1.form
     have hN1 := newV_up hN1 hS.size
     rw [Hlh.out] at hN1 ⊢
     replace hsl := hsl.ext hE1
     have hX := Mod.ext hS hE1
     clear hE1 hS
     go_simp
     refine hK.out _ _ hX (fun hS => ?_)
     clear hK K hX
     try simp only [pL]
     refine wpAnyH_ready (rs := [11]) (by kernel_rfl) (by simp) ?_
     refine AllReadyH.cons rfl (fun K hK => ?_) AllReadyH.nil
     have hown : x2.ownsRow 0 56 16 (.slice A1 (2 * i) c1) (2 * i) (hh.flatMap AEvent.cells) := by
      have := hN1.1
      rwa [Hlh.out] at this
     refine step_app _ rfl _ _ 49 rfl 56 j0 _ 16 160 Try.underlying49 hjnf hy0 hy1 hy2 rfl (by omega) (.slice A1 (2 * i) c1) (2 * i) (hh.flatMap AEvent.cells) rfl hown _ (.slice (some ⟨bz, 0, none⟩) 2 2) 2 _ rfl hsl (event_one _) (by simp only [maxLen]; omega) (by omega) ?_
     intro v9 x3 ho hgr hat
     have hV9 : NewV w x3 v9 (hh ++ [evA c, evT ⟨c, r, (k : Int)⟩]) := newV_app (newV_up hN1 HX3.out.size) (fun y hy => by
      simp only [List.mem_cons, List.not_mem_nil, or_false] at hy
      rcases hy with rfl | rfl
      ·
       exact evA_ok Hcok.out
      ·
       exact evT_ok Hcok.out Hrok.out (by unfold I64; omega)) Hlh.out rfl ho hat (by have := HX3.out.size; have := hS.size; omega)
     have hlo := hN1.2.2
     have hM9 : Mod (fun g => (Value.slice A1 (2 * i) c1).ownBlock = some g) x2 x3 := (Mod.refl _ _).grown hgr (fun g e => .inr e)
     have hX : Ext w3 x3 := Mod.toExt ((Ext.mod hS (Since w3.heap.size)).trans hM9 (fun g _ e => hlo g e))
     obtain ⟨A9, c9, rfl⟩ := hV9.form
     have hl9 : (hh ++ [evA c, evT ⟨c, r, (k : Int)⟩]).length = 2 * i + 2 := by rw [List.length_append, Hlh.out]; rfl
     rw [hl9] at hV9 ⊢
     have HV9 := Lib.hid hV9
     clear ho hgr hat hlo hM9 hS hown hN1 hsl hV9 hl9
     refine hK.out _ _ hX (fun hS => ?_)
     clear hK K hX
     try simp only [pL]
     refine tkE 12 (some 12) rfl rfl ?_ hS ?_ ?_; rotate_left; · rintro W' _ _; go_simp; try with_reducible rfl
     try simp only [pL]
     refine wpAnyH_done (by kernel_rfl) ?_ _
     go_wp2
     go_meet
     exact ⟨A9, c9, rfl, HV9.out, hS⟩
   obtain ⟨AX, cx, rfl, hV4, hE4⟩ := hcut
   obtain ⟨w4, rfl⟩ : ∃ w4 : World, w4 = wc := ⟨_, rfl⟩
   have HL4 := Lib.hid (newE_mod HL3.out hE4 (fun _ _ => id))
   have HH4 := Lib.hid (newV_mod HH3.out hE4 (fun _ _ => id))
   have HX4 := Lib.hid (HX3.out.ext hE4)
   have Kc4 := Lib.hid (hE4.blk Kc3.out id)
   have Kr4 := Lib.hid (hE4.blk Kr3.out id)
   have HV4 := Lib.hid hV4
   obtain ⟨b, hb⟩ : ∃ b, decide (k = i) = b := ⟨_, rfl⟩
   have dq : ((k : Int) == (i : Int)) = b := by rw [← hb, Bool.eq_iff_iff]; simp; omega
   have dbb : (b != b) = false := by cases b <;> rfl
   have Ho : Hid (orderB lg (hh ++ [evA c, evT ⟨c, r, (k : Int)⟩]) = b) := Lib.hid (by
    rw [Hlg.out, Hhh.out, Hc.out, Hr.out, ← hb]
    have := late_x (key := key) (k := k) (n := i) ⟨hk1, hk8⟩ hN40 hk
    rw [tkn_snoc] at this
    exact this)
   clear hb hV4 hE4 HL3 HH3 HX3 Kc3 Kr3
   go_wp2_with fail
   refine (h_order w4 _ _ _ _ lg (hh ++ [evA c, evT ⟨c, r, (k : Int)⟩]) HL4.out.ents HV4.out.evs).mono ?_
   rintro e w5 ⟨rfl, hE5⟩
   rw [Ho.out]
   have HL5 := Lib.hid (newE_mod HL4.out hE5 (fun _ _ => id))
   have HH5 := Lib.hid (newV_mod HH4.out hE5 (fun _ _ => id))
   have HX5 := Lib.hid (HX4.out.ext hE5)
   have Kc5 := Lib.hid (hE5.blk Kc4.out id)
   have Kr5 := Lib.hid (hE5.blk Kr4.out id)
   clear hE5 HL4 HH4 HX4 Kc4 Kr4 HV4 Ho
   have hld := load_call c (At.of (cs := c.cells) Kc5.out)
   have hsl : Sl (w5.alloc (.cells #[.bool true, .int .i64 c.client, .int .i64 c.seq, .int .i64 c.cmd.kind, .string c.cmd.key, .int .i64 c.cmd.old.kind, .float .f64 c.cmd.old.num, .string c.cmd.old.text, .int .i64 c.cmd.val.kind, .float .f64 c.cmd.val.num, .string c.cmd.val.text, .int .i64 0, .int .i64 0, .float .f64 0, .string ⟨#[]⟩, .int .i64 0] 56)) (fun g => (Value.slice AH (2 * i) ch).ownBlock = some g) 16 (.slice AH (2 * i) ch) (2 * i) (hh.flatMap AEvent.cells) := by
    have := HH5.out.evs.1
    rw [Hlh.out] at this
    exact this.alloc _
   have Hsl := Lib.hid hsl
   clear hsl
   go_wp2_with (first | (refine wpList_load rfl 35 _ rfl _ _ rfl hld ?_) | (at_builtin; go_must (refine wpList_app _ rfl _ _ 49 rfl 56 j0 _ 16 160 Try.underlying49 hjnf hy0 hy1 hy2 rfl (by omega) _ 1 _ rfl (own_evA w5 c) _ _ (2 * i) (hh.flatMap AEvent.cells) rfl Hsl.out (event_one hh) (by simp only [maxLen]; omega) (by omega) ?_)))
   intro v' w6 ho hgr hat
   have hE6 : Ext w5 w6 := ((Mod.refl _ _).alloc _).grown hgr (fun g e => by simp [Value.ownBlock] at e; exact .inl (by omega))
   have hV6 : NewV w w6 v' ([evA c] ++ hh) := by
    refine ⟨?_, fun x hx => ?_, fun g hg => ?_⟩
    ·
     rw [List.length_append, List.flatMap_append, Hlh.out]
     exact ho
    ·
     rcases List.mem_append.1 hx with hx | hx
     ·
      rw [List.mem_singleton] at hx; rw [hx]; exact evA_ok Hcok.out
     ·
      exact HH5.out.2.1 x hx
    ·
     have := HX5.out.size
     rcases hat with e | e <;> rw [e] at hg <;> simp [Value.ownBlock] at hg <;> omega
   have hl6 : ([evA c] ++ hh).length = 1 + 2 * i := by rw [List.length_append, Hlh.out]; rfl
   obtain ⟨A6, c6, rfl⟩ := hV6.form
   rw [hl6] at hV6 ho hat ⊢
   have HL6 := Lib.hid (newE_mod HL5.out hE6 (fun _ _ => id))
   have HH6 := Lib.hid (newV_mod HH5.out hE6 (fun _ _ => id))
   have HX6 := Lib.hid (HX5.out.ext hE6)
   have Kc6 := Lib.hid (hE6.blk Kc5.out id)
   have Kr6 := Lib.hid (hE6.blk Kr5.out id)
   have hown : w6.ownsRow 0 56 16 (.slice A6 (1 + 2 * i) c6) (1 + 2 * i) (([evA c] ++ hh).flatMap AEvent.cells) := by
    have := hV6.1
    rwa [hl6] at this
   have Hap : Hid (∀ g, (Value.slice AH (2 * i) ch).ownBlock = some g → (Value.slice A6 (1 + 2 * i) c6).ownBlock ≠ some g) := Lib.hid (fun g e1 e2 => by
    have h1 := (HH5.out.1.lt g e1).2
    rcases hat with e | e <;> rw [e] at e2 <;> simp [Value.ownBlock] at e2 <;> omega)
   have HV6 := Lib.hid hV6
   have Hown := Lib.hid hown
   have Hl6 := Lib.hid hl6
   clear ho hgr hat hE6 hV6 hown hl6 hld Hsl HL5 HH5 HX5 Kc5 Kr5
   have hld := load_call c (At.of (cs := c.cells) Kc6.out)
   have hldr := load_rep r (At.of (cs := r.cells) Kr6.out)
   go_wp2_with (first | (refine wpList_load rfl 35 _ rfl _ _ rfl hld ?_) | (refine wpList_load rfl 42 _ rfl _ _ rfl hldr ?_) | (at_builtin; go_must (refine wpList_app _ rfl _ _ 49 rfl 56 j0 _ 16 160 Try.underlying49 hjnf hy0 hy1 hy2 rfl (by omega) _ (1 + 2 * i) _ rfl (Hown.out.alloc _) _ _ 1 ([evT ⟨c, r, (k : Int)⟩].flatMap AEvent.cells) rfl (sl_evT w6 c r (k : Int)) (event_one _) (by simp only [maxLen]; omega) (by omega) ?_)))
   intro v' w7 ho hgr hat
   have hM7 : Mod (fun g => (Value.slice A6 (1 + 2 * i) c6).ownBlock = some g) w6 w7 := ((Mod.refl _ _).alloc _).grown hgr (fun g e => .inr e)
   have hV7 : NewV w w7 v' (([evA c] ++ hh) ++ [evT ⟨c, r, (k : Int)⟩]) := newV_app HV6.out (fun y hy => by
    rw [List.mem_singleton] at hy
    rw [hy]
    exact evT_ok Hcok.out Hrok.out (by unfold I64; omega)) Hl6.out rfl ho hat (by have := HX6.out.size; omega)
   have hlo := HV6.out.2.2
   have HX7 : Hid (Ext w w7) := Lib.hid (Mod.toExt ((Ext.mod HX6.out (Since w.heap.size)).trans hM7 (fun g _ e => hlo g e)))
   have HL7 := Lib.hid (newE_mod HL6.out hM7 (fun g e1 e2 => own_own HV6.out.1 HL6.out.1 (by decide) e2 e1))
   have HH7 := Lib.hid (newV_mod HH6.out hM7 (fun g e1 e2 => Hap.out g e1 e2))
   have Kc7 := Lib.hid (hM7.blk Kc6.out (fun e => own_apart HV6.out.1 e Kc6.out (by decide) rfl))
   obtain ⟨A7, c7, rfl⟩ := hV7.form
   obtain ⟨K7, hK7⟩ : ∃ K7, (([evA c] ++ hh) ++ [evT ⟨c, r, (k : Int)⟩]).length = K7 := ⟨_, rfl⟩
   rw [hK7] at hV7 ⊢
   clear hK7
   have HV7 := Lib.hid hV7
   have Ho7 : Hid (orderB lg (([evA c] ++ hh) ++ [evT ⟨c, r, (k : Int)⟩]) = true) := Lib.hid (by
    rw [List.append_assoc, List.singleton_append, Hlg.out, Hhh.out, Hc.out, Hr.out]
    exact late_y (key := key) (k := k) (n := i) ⟨hk1, hk8⟩ hN40 hk)
   clear ho hgr hat hM7 hV7 hlo hld hldr Hown HV6 Hl6 HL6 HH6 HX6 Kc6 Kr6 Hap
   go_wp2_with fail
   refine (h_order w7 _ _ _ _ lg (([evA c] ++ hh) ++ [evT ⟨c, r, (k : Int)⟩]) HL7.out.ents HV7.out.evs).mono ?_
   rintro e w8 ⟨rfl, hE8⟩
   rw [Ho7.out]
   have HL8 := Lib.hid (newE_mod HL7.out hE8 (fun _ _ => id))
   have HH8 := Lib.hid (newV_mod HH7.out hE8 (fun _ _ => id))
   have HX8 := Lib.hid (HX7.out.ext hE8)
   have Kc8 := Lib.hid (hE8.blk Kc7.out id)
   clear hE8 HL7 HH7 HX7 Kc7 HV7 Ho7
   go_wp2
   exact ⟨⟨k + 1, by omega, by go_num, HX8.out, HL8.out, HH8.out, Kc8.out⟩, by simp [intOf]; omega⟩
theorem histLate_a (w : World) (key : ByteArray) (n : Int) (_ : key.size ≤ maxLen) (_ : I64 n) :
  Calls Try.prog 5 #[.string key, .int .i64 n] w fun e w' => e = .returned (.bool true) ∧ Below w.heap.size w w' := by
 by_cases h1 : key.size < 1
 ·
  have a1 : decide ((key.size : Int) < 1) = true := by simp; omega
  go_enter Try.func5, Try.ntmps5
  go_wp2
  go_ret
  exact ⟨rfl, Ext.below (Mod.refl _ w)⟩
 have a1 : decide ((key.size : Int) < 1) = false := by simp; omega
 by_cases h2 : 8 < key.size
 ·
  have a2 : decide ((8 : Int) < (key.size : Int)) = true := by simp; omega
  go_enter Try.func5, Try.ntmps5
  go_wp2
  go_ret
  exact ⟨rfl, Ext.below (Mod.refl _ w)⟩
 have a2 : decide ((8 : Int) < (key.size : Int)) = false := by simp; omega
 by_cases h3 : n < 1
 ·
  have a3 : decide (n < 1) = true := by simp; omega
  go_enter Try.func5, Try.ntmps5
  go_wp2
  go_ret
  exact ⟨rfl, Ext.below (Mod.refl _ w)⟩
 have a3 : decide (n < 1) = false := by simp; omega
 by_cases h4 : 40 < n
 ·
  have a4 : decide (40 < n) = true := by simp; omega
  go_enter Try.func5, Try.ntmps5
  go_wp2
  go_ret
  exact ⟨rfl, Ext.below (Mod.refl _ w)⟩
 obtain ⟨N, rfl⟩ := Int.eq_ofNat_of_zero_le (show 0 ≤ n by omega)
 exact histLate_walk w key N (by omega) (by omega) (by omega) (by omega)
end Go.Proofs.Ytbclnghbgoblcaa
