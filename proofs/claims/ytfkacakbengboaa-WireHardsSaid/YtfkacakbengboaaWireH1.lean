/-
 Contracts of package wire's writer: hard states (wire.Hard). Conditions: as each theorem names them.
-/
import Derived.Test.YtfkacakbengboaaWireT
import Derived.Test.YtfkacakbengboaaWireEntP
import Derived.Test.YtfkacakbengboaaWireHrdP
import Derived.Test.YtfkacakbengboaaCopy
namespace Go.Proofs.Ytfkacakbengboaa
set_option linter.unusedSimpArgs false
open Go.RowKit

/-- A hard state's lists in memory. -/
def HardM (w : World) (T : Nat → Prop) (sv lv : Value) (h : AHard) : Prop := Byt w T sv h.snap ∧ Ents w T lv h.log
theorem HardM.mod {w w' : World} {S T : Nat → Prop} {sv lv : Value} {h : AHard} (hh : HardM w T sv lv h) (hm : Mod S w w') (hd : ∀ g, T g → ¬ S g) : HardM w' T sv lv h := ⟨hh.1.mod hm hd, hh.2.mod hm hd⟩
def AHard.ok (h : AHard) : Prop := I64 h.term ∧ I64 h.vote ∧ I64 h.base ∧ I64 h.baseTerm ∧ h.conf.ok
/-- The cells of a hard state. -/
abbrev AHard.cells (h : AHard) (sv lv : Value) : List Value := [.int .i64 h.term, .int .i64 h.vote, .int .i64 h.base, .int .i64 h.baseTerm, .int .i64 h.conf.full, .int .i64 h.conf.wit, .int .i64 h.conf.learn, .int .i64 h.conf.learnWit, sv, lv]
def AHard.w (h : AHard) : WO := wHard h.term h.vote h.base h.baseTerm h.conf h.snap h.log
theorem str_hard : Str Try.prog 54 10 := ⟨⟨_, Try.underlying54⟩, by kernel_rfl⟩

set_option maxRecDepth 100000 in
set_option maxHeartbeats 2000000 in
theorem wi_hard (w : World) (S T : Nat → Prop) (b : Nat) (bs : List UInt8) (long : Bool) (h : AHard) (sv lv : Value) (hs : St w S b bs long) (hv : HardM w T sv lv h) (ho : h.ok) (hd : ∀ g, T g → ¬ S g) (hT : ∀ g, T g → g < w.heap.size) (hb : bs.length ≤ 700000000) (hll : h.log.length ≤ 1000) :
  Calls Try.prog 44 #[.pointer (some ⟨b, 0, none⟩), .agg #[.int .i64 h.term, .int .i64 h.vote, .int .i64 h.base, .int .i64 h.baseTerm, .int .i64 h.conf.full, .int .i64 h.conf.wit, .int .i64 h.conf.learn, .int .i64 h.conf.learnWit, sv, lv]] w (WOut w S b bs long h.w) := by
 obtain ⟨hsnap, hents⟩ := hv
 obtain ⟨o1, o2, o3, o4, hconf⟩ := ho
 obtain ⟨As, cs, hsv⟩ := hsnap.form
 obtain ⟨Ae, ce, hlv⟩ := hents.1.form
 obtain ⟨wb, hwb⟩ : ∃ wb, wb = w.alloc (.cells #[.int .i64 h.term, .int .i64 h.vote, .int .i64 h.base, .int .i64 h.baseTerm, .int .i64 h.conf.full, .int .i64 h.conf.wit, .int .i64 h.conf.learn, .int .i64 h.conf.learnWit, sv, lv] 54) := ⟨_, rfl⟩
 have hE : Ext w wb := by rw [hwb]; exact (Mod.refl _ w).alloc _
 have hSb := hs.of_ext hE
 have hnS : ¬ S w.heap.size := fun h1 => by have := hs.2 _ h1; omega
 have hcs : ∀ w1, Mod S wb w1 → ∀ j u, (#[.int .i64 h.term, .int .i64 h.vote, .int .i64 h.base, .int .i64 h.baseTerm, .int .i64 h.conf.full, .int .i64 h.conf.wit, .int .i64 h.conf.learn, .int .i64 h.conf.learnWit, sv, lv] : Array Value)[j]? = some u → w1.cell? ⟨w.heap.size, j, none⟩ = some u := by
  intro w1 hm j u hu
  refine hm.cell ?_ hnS
  rw [hwb, cell_of_row _ _ _ _ _ _ (heap_alloc_new w _)]
  exact hu
 have hsz : wb.heap.size = w.heap.size + 1 := by rw [hwb]; simp
 have hdS : ∀ S1 : Nat → Prop, (∀ k, S1 k → S k ∨ wb.heap.size ≤ k) → ∀ g, T g → ¬ S1 g := fun S1 hg g hg1 hg2 => by
  rcases hg g hg2 with h | h
  ·
   exact hd g hg1 h
  ·
   have := hT g hg1; omega
 have Hwb := Lib.hid hwb
 have Hcs := Lib.hid hcs
 have Hsz := Lib.hid hsz
 have HdS := Lib.hid hdS
 have Hconf := Lib.hid hconf
 have Hints : Hid (∀ n ∈ [h.term, h.vote, h.base, h.baseTerm], I64 n) := Lib.hid (by simp; exact ⟨o1, o2, o3, o4⟩)
 have Hsnap := Lib.hid hsnap
 have Hents := Lib.hid hents
 have hlI := encInts_len [h.term, h.vote, h.base, h.baseTerm]
 have Hs : Hid (h.w = (((wRaw (encInts [h.term, h.vote, h.base, h.baseTerm])).seq (wConf h.conf)).seq (wText h.snap)).seq (wList h.log)) := Lib.hid rfl
 obtain ⟨I, hI⟩ : ∃ I, encInts [h.term, h.vote, h.base, h.baseTerm] = I := ⟨_, rfl⟩
 rw [hI] at Hs hlI
 have HI := Lib.hid hI
 clear hwb hcs hsz hdS hconf hI hsnap hents o1 o2 o3 o4
 simp only [List.length_cons, List.length_nil] at hlI
 have Hsv := Lib.hid hsv
 have Hlv := Lib.hid hlv
 clear hsv hlv
 go_enter Try.func44, Try.ntmps44
 go_wp2_with fail
 rw [← Hwb.out]
 have hE1 : Ext wb (wb.alloc (.cells #[.int .i64 h.term, .int .i64 h.vote, .int .i64 h.base, .int .i64 h.baseTerm] 3)) := (Mod.refl _ wb).alloc _
 have hsl := sl_lits wb [h.term, h.vote, h.base, h.baseTerm] 3 #[.int .i64 h.term, .int .i64 h.vote, .int .i64 h.base, .int .i64 h.baseTerm] rfl 4 rfl (by omega)
 rw [Hsz.out] at hsl
 refine (wi_ints _ S _ b bs long _ [h.term, h.vote, h.base, h.baseTerm] (hSb.of_ext hE1) hsl (fun g h1 h2 => by have := hSb.2 g h2; rw [Hsz.out] at this; omega) Hints.out (by simp) (by omega)).mono ?_
 rintro e w3 ⟨hm1, rfl, S3, hS3, hg1⟩
 rw [HI.out, Bool.or_false] at hS3
 have hm3 : Mod S wb w3 := (hE1.mod S).self hm1
 have Hg3 : Hid (∀ k, S3 k → S k ∨ wb.heap.size ≤ k) := Lib.hid (fun k hk => (hg1 k hk).imp id (fun h => Nat.le_trans hE1.size h))
 clear hg1 hE1 hsl hm1
 have z4 := Hcs.out w3 hm3 4 _ rfl
 have z5 := Hcs.out w3 hm3 5 _ rfl
 have z6 := Hcs.out w3 hm3 6 _ rfl
 have z7 := Hcs.out w3 hm3 7 _ rfl
 go_wp2_with fail
 refine (wi_conf w3 S3 b _ _ h.conf hS3 Hconf.out (by simp; omega)).mono ?_
 rintro e w4 ⟨hm4, rfl, S4, hS4, hg4⟩
 have hm4 := mod_gr hm3 hm4 Hg3.out
 have Hg4 := Lib.hid (gr_trans Hg3.out hg4 hm3.size)
 have hlc := encInts_len [h.conf.full, h.conf.wit, h.conf.learn, h.conf.learnWit]
 obtain ⟨C4, hC4⟩ : ∃ C, encInts [h.conf.full, h.conf.wit, h.conf.learn, h.conf.learnWit] = C := ⟨_, rfl⟩
 rw [hC4] at hS4 hlc
 have HC4 : Hid (wConf h.conf = some (C4, false)) := Lib.hid (by unfold wConf wRaw; rw [hC4])
 simp only [List.length_cons, List.length_nil] at hlc
 clear hg4 z4 z5 z6 z7 hC4
 have u8 := Hcs.out w4 hm4 8 _ rfl
 have hmw4 : Mod S w w4 := (hE.mod S).self hm4
 have hsn4 := Hsnap.out.mod hmw4 hd
 have hnS4 : ¬ S4 w.heap.size := fun h1 => by
  rcases Hg4.out _ h1 with h2 | h2
  ·
   exact hnS h2
  ·
   rw [Hsz.out] at h2; omega
 go_wp2_with fail
 go_region_held3 (fun W => W.cell? ⟨w.heap.size, 8, none⟩ = some sv) (first | go_keep | exact hy)
  ((go_at_call 66
    refine (w_text_any w4.drew S4 T b _ h.snap _ _ hS4.1 (by simp; omega) hsn4 (HdS.out S4 Hg4.out)).mono ?_
    rintro e w5 ⟨rfl, ⟨D, L, hTx, hW5⟩, hm5⟩
    have HT := Lib.hid hTx
    clear hTx
    have hy : w5.cell? ⟨w.heap.size, 8, none⟩ = some sv := hm5.cell u8 hnS4))
 obtain ⟨S5, hS5, hg5⟩ := st_of hW5
 have hS5 : St w5 S5 b (bs ++ ((I ++ C4) ++ D)) (long || L) := by simpa [Bool.or_assoc] using hS5
 have hDl := wText_len _ _ _ HT.out
 have hm5 := mod_gr hm4.drew hm5 Hg4.out
 have Hg5 := Lib.hid (gr_trans Hg4.out hg5 hm4.size)
 have Hd : Hid (h.w = WO.seq (some ((I ++ C4) ++ D, L)) (wList h.log)) := Lib.hid (by rw [Hs.out, HC4.out, HT.out]; simp [wRaw, seq_some])
 have v9 := Hcs.out w5 hm5 9 _ rfl
 have hmw5 : Mod S w w5 := (hE.mod S).self hm5
 have hen5 := Hents.out.mod hmw5 hd
 clear hg5 u8 hsn4
 go_wp2_with fail
 refine (wi_entries w5 S5 T b _ _ lv h.log hS5 hen5 (HdS.out S5 Hg5.out) hll (by simp; omega)).mono ?_
 rintro e w6 ⟨hm6, h6⟩
 have hm6 := mod_gr hm5 hm6 Hg5.out
 rcases hL : wList h.log with _ | ⟨D6, L6⟩
 ·
  rw [hL] at h6
  subst h6
  exact ⟨rfl, fin_none hE hm6 (by rw [Hd.out, hL]; rfl)⟩
 rw [hL] at h6
 obtain ⟨rfl, S6, hS6, hg6⟩ := h6
 have hF := fin_some (o := h.w) (d := ((I ++ C4) ++ D) ++ D6) (l := L || L6) hE hm6 (by simpa [Bool.or_assoc] using hS6) (gr_trans Hg5.out hg6 hm5.size) (by rw [Hd.out, hL]; rfl)
 have HF := Lib.hid hF
 clear hF hL hS6 hg6 v9
 go_wp2
 go_end0
 exact HF.out

theorem wHard_len (h : AHard) (hl : h.log.length ≤ 1000) : ∀ d l, h.w = some (d, l) → d.length ≤ 900000000 := by
 intro d l hh
 have h1 := encInts_len [h.term, h.vote, h.base, h.baseTerm]
 have h2 := encInts_len [h.conf.full, h.conf.wit, h.conf.learn, h.conf.learnWit]
 have := seq_len (seq_len (seq_len (wRaw_len h1) (wRaw_len h2)) (wText_len h.snap)) (seq_len (wRaw_len (encInt_len h.log.length)) (wEntries_len h.log)) d l hh
 simp at this
 have : h.log.length * 70000 ≤ 1000 * 70000 := Nat.mul_le_mul_right _ hl
 omega

set_option maxRecDepth 100000 in
set_option maxHeartbeats 2000000 in
theorem wo_hard1 (W : World) (T : Nat → Prop) (p b : Nat) (h : AHard) (sv lv : Value) (hp : W.heap[p]? = some (.cells #[.int .i64 h.term, .int .i64 h.vote, .int .i64 h.base, .int .i64 h.baseTerm, .int .i64 h.conf.full, .int .i64 h.conf.wit, .int .i64 h.conf.learn, .int .i64 h.conf.learnWit, sv, lv] 54 (0, 0))) (hv : HardM W T sv lv h) (ho : h.ok) (hs : St W (fun k => k = b) b [] false) (hT : ∀ g, T g → g < W.heap.size ∧ g ≠ b) (hl : h.log.length ≤ 1000) :
  Calls Try.prog 43 #[.pointer (some ⟨b, 0, none⟩), .pointer (some ⟨p, 0, none⟩)] W (WOut W (fun k => k = b) b [] false h.w) := by
 have hld := load_row (P := Try.prog) (o := 0) (cs := h.cells sv lv) str_hard hp rfl (fun j u hu => by rw [Nat.zero_add]; exact hu)
 have HV := Lib.hid hv
 have HT := Lib.hid hT
 clear hp hv hT
 go_enter Try.func43, Try.ntmps43
 go_wp2_with (refine wpList_ld rfl 54 _ rfl _ _ rfl hld ?_)
 clear hld
 refine (wi_hard W (fun k => k = b) T b [] false h sv lv hs HV.out ho (fun g hg => (HT.out g hg).2) (fun g hg => (HT.out g hg).1) (by simp) hl).mono ?_
 rintro e w1 ⟨hm, h1⟩
 rcases hV : h.w with _ | ⟨D, L⟩
 ·
  rw [hV] at h1
  subst h1
  exact ⟨rfl, fin_none (Mod.refl _ W) hm hV⟩
 ·
  rw [hV] at h1
  obtain ⟨rfl, S1, hS1, hg1⟩ := h1
  have HS1 := Lib.hid hS1
  have Hg1 := Lib.hid hg1
  have HVV := Lib.hid hV
  clear hS1 hg1 hV
  go_wp2
  go_end0
  exact fin_some (Mod.refl _ W) hm HS1.out Hg1.out HVV.out

set_option maxRecDepth 100000 in
set_option maxHeartbeats 2000000 in
theorem wo_hard (w : World) (T : Nat → Prop) (h : AHard) (sv lv : Value) (hv : HardM w T sv lv h) (ho : h.ok) (hT : ∀ g, T g → g < w.heap.size) (hl : h.log.length ≤ 1000) :
  Calls Try.prog 18 #[.agg #[.int .i64 h.term, .int .i64 h.vote, .int .i64 h.base, .int .i64 h.baseTerm, .int .i64 h.conf.full, .int .i64 h.conf.wit, .int .i64 h.conf.learn, .int .i64 h.conf.learnWit, sv, lv]] w (WrittenOk w h.w) := by
 have hmf : ∀ (fn : Fn) (first cap : Array Value) (w : World), (Instr.makeFunc fn first cap).run Try.prog w = .ok (.func fn first cap) w := fun _ _ _ _ => rfl
 obtain ⟨W, hW⟩ : ∃ W, W = w.alloc (.cells #[.int .i64 h.term, .int .i64 h.vote, .int .i64 h.base, .int .i64 h.baseTerm, .int .i64 h.conf.full, .int .i64 h.conf.wit, .int .i64 h.conf.learn, .int .i64 h.conf.learnWit, sv, lv] 54) := ⟨_, rfl⟩
 have hE : Ext w W := by rw [hW]; exact (Mod.refl _ w).alloc _
 have hp : W.heap[w.heap.size]? = some (.cells #[.int .i64 h.term, .int .i64 h.vote, .int .i64 h.base, .int .i64 h.baseTerm, .int .i64 h.conf.full, .int .i64 h.conf.wit, .int .i64 h.conf.learn, .int .i64 h.conf.learnWit, sv, lv] 54 (0, 0)) := by rw [hW]; exact heap_alloc_new w _
 have hsz : W.heap.size = w.heap.size + 1 := by rw [hW]; simp
 have HW := Lib.hid hW
 have HV := Lib.hid hv
 have HT := Lib.hid hT
 have Hp := Lib.hid hp
 have Hsz := Lib.hid hsz
 have Ho := Lib.hid ho
 clear hW hv hT hp hsz ho
 go_enter Try.func18, Try.ntmps18
 go_wp2_with fail
 rw [← HW.out]
 refine (written_any 43 w.heap.size W h.w (fun _ _ => by kernel_rfl) (wHard_len h hl) (fun W' b hE' hb hS => ?_)).mono ?_
 ·
  exact wo_hard1 W' T w.heap.size b h sv lv (hE'.blk Hp.out id) ((HV.out.mod hE (fun _ _ => id)).mod hE' (fun _ _ => id)) Ho.out hS (fun g hg => by have := HT.out g hg; have := hE'.size; have := Hsz.out; omega) hl
 rintro e w1 ⟨v, rfl, hN, hE1⟩
 have HN := Lib.hid hN
 have HE := Lib.hid (Mod.ext hE hE1)
 clear hN hE1
 go_wp2
 go_ret2
 exact ⟨v, rfl, ⟨HN.out.1, fun g hg => by have := HN.out.2 g hg; have := Hsz.out; omega⟩, HE.out⟩
end Go.Proofs.Ytfkacakbengboaa
