/-
 Contracts of package wire's writer: hard states (wire.Hard). Conditions: as each theorem names them.
 Rows that are known whole, elements of k cells: copy, clear, append of a make. No program is named here. Conditions: as each theorem names them.
 Lists of entries of one's own, their twins. Conditions: as each theorem names them.
 Contracts of logs.rightEntry, rightEntries, Check, Last and of the page's Entry, row, Hard, Last (printed by stbd.py). Conditions: as each theorem names them.
-/
import Derived.Test.YtjhnlncgmejkcaaGreatS7
import Derived.Test.YtjhnlncgmejkcaaGreatS3
import Derived.Test.YtjhnlncgmejkcaaGreatS4
import Derived.Test.YtjhnlncgmejkcaaGreatMem
import Derived.Laws.CopyOwn
import Derived.Lib.AppendZerosOnto
import Derived.Lib.Overlaps
import Derived.Test.YtjhnlncgmejkcaaGreatS1
import Derived.Test.YtjhnlncgmejkcaaGreatS5
import Derived.Test.YtjhnlncgmejkcaaGreatS6
namespace Go.Proofs.YtjhnlncgmejkcaaGreat
set_option linter.unusedSimpArgs false
open Go.RowKit

/-- A hard state's lists in memory. -/
def HardM (w : World) (T : Nat → Prop) (sv lv : Value) (h : AHard) : Prop := Byt w T sv h.snap ∧ Ents w T lv h.log
theorem HardM.mod {w w' : World} {S T : Nat → Prop} {sv lv : Value} {h : AHard} (hh : HardM w T sv lv h) (hm : Mod S w w') (hd : ∀ g, T g → ¬ S g) : HardM w' T sv lv h := ⟨hh.1.mod hm hd, hh.2.mod hm hd⟩
def AHard.ok (h : AHard) : Prop := I64 h.term ∧ I64 h.vote ∧ I64 h.base ∧ I64 h.baseTerm ∧ h.conf.ok
/-- The cells of a hard state. -/
abbrev AHard.cells (h : AHard) (sv lv : Value) : List Value := [.int .i64 h.term, .int .i64 h.vote, .int .i64 h.base, .int .i64 h.baseTerm, .int .i64 h.conf.full, .int .i64 h.conf.wit, .int .i64 h.conf.learn, .int .i64 h.conf.learnWit, sv, lv]
def AHard.w (h : AHard) : WO := wHard h.term h.vote h.base h.baseTerm h.conf h.snap h.log
theorem str_hard : Str Tryz.prog 34 10 := ⟨⟨_, Tryz.underlying34⟩, by kernel_rfl⟩

set_option maxRecDepth 100000 in
set_option maxHeartbeats 2000000 in
theorem wi_hard (w : World) (S T : Nat → Prop) (b : Nat) (bs : List UInt8) (long : Bool) (h : AHard) (sv lv : Value) (hs : St w S b bs long) (hv : HardM w T sv lv h) (ho : h.ok) (hd : ∀ g, T g → ¬ S g) (hT : ∀ g, T g → g < w.heap.size) (hb : bs.length + 70000 * h.log.length ≤ 895000000) (hll : h.log.length ≤ 12700) :
  Calls Tryz.prog 128 #[.pointer (some ⟨b, 0, none⟩), .agg #[.int .i64 h.term, .int .i64 h.vote, .int .i64 h.base, .int .i64 h.baseTerm, .int .i64 h.conf.full, .int .i64 h.conf.wit, .int .i64 h.conf.learn, .int .i64 h.conf.learnWit, sv, lv]] w (WOut w S b bs long h.w) := by
 obtain ⟨hsnap, hents⟩ := hv
 obtain ⟨o1, o2, o3, o4, hconf⟩ := ho
 obtain ⟨As, cs, hsv⟩ := hsnap.form
 obtain ⟨Ae, ce, hlv⟩ := hents.1.form
 obtain ⟨wb, hwb⟩ : ∃ wb, wb = w.alloc (.cells #[.int .i64 h.term, .int .i64 h.vote, .int .i64 h.base, .int .i64 h.baseTerm, .int .i64 h.conf.full, .int .i64 h.conf.wit, .int .i64 h.conf.learn, .int .i64 h.conf.learnWit, sv, lv] 34) := ⟨_, rfl⟩
 have hE : Ext w wb := by rw [hwb]; exact (Mod.refl _ w).alloc _
 have hSb := hs.of_ext hE
 have hnS : ¬ S w.heap.size := fun h1 => by have := hs.2 _ h1; omega
 have hcs : ∀ w1, Mod S wb w1 → ∀ j u, (#[.int .i64 h.term, .int .i64 h.vote, .int .i64 h.base, .int .i64 h.baseTerm, .int .i64 h.conf.full, .int .i64 h.conf.wit, .int .i64 h.conf.learn, .int .i64 h.conf.learnWit, sv, lv] : Array Value)[j]? = some u → w1.cell? ⟨w.heap.size, j, none⟩ = some u := by
  intro w1 hm j u hu
  refine hm.cell ?_ hnS
  rw [hwb, cell_of_row _ _ _ _ _ _ (heap_alloc_new w _)]
  exact hu
 have hsz : wb.heap.size = w.heap.size + 1 := by rw [hwb]; simp
 have hdS : ∀ S1 : Nat → Prop, (∀ k, S1 k → S k ∨ wb.heap.size ≤ k) → ∀ g, T g → ¬ S1 g := fun S1 hg g hg1 hg2 => by
  rcases hg g hg2 with h | h
  ·
   exact hd g hg1 h
  ·
   have := hT g hg1; omega
 have Hwb := Lib.hid hwb
 have Hcs := Lib.hid hcs
 have Hsz := Lib.hid hsz
 have HdS := Lib.hid hdS
 have Hconf := Lib.hid hconf
 have Hints : Hid (∀ n ∈ [h.term, h.vote, h.base, h.baseTerm], I64 n) := Lib.hid (by simp; exact ⟨o1, o2, o3, o4⟩)
 have Hsnap := Lib.hid hsnap
 have Hents := Lib.hid hents
 have hlI := encInts_len [h.term, h.vote, h.base, h.baseTerm]
 have Hs : Hid (h.w = (((wRaw (encInts [h.term, h.vote, h.base, h.baseTerm])).seq (wConf h.conf)).seq (wText h.snap)).seq (wList h.log)) := Lib.hid rfl
 obtain ⟨I, hI⟩ : ∃ I, encInts [h.term, h.vote, h.base, h.baseTerm] = I := ⟨_, rfl⟩
 rw [hI] at Hs hlI
 have HI := Lib.hid hI
 clear hwb hcs hsz hdS hconf hI hsnap hents o1 o2 o3 o4
 simp only [List.length_cons, List.length_nil] at hlI
 have Hsv := Lib.hid hsv
 have Hlv := Lib.hid hlv
 clear hsv hlv
 go_enter Tryz.func128, Tryz.ntmps128
 go_wp2_with fail
 rw [← Hwb.out]
 have hE1 : Ext wb (wb.alloc (.cells #[.int .i64 h.term, .int .i64 h.vote, .int .i64 h.base, .int .i64 h.baseTerm] 3)) := (Mod.refl _ wb).alloc _
 have hsl := sl_lits wb [h.term, h.vote, h.base, h.baseTerm] 3 #[.int .i64 h.term, .int .i64 h.vote, .int .i64 h.base, .int .i64 h.baseTerm] rfl 4 rfl (by omega)
 rw [Hsz.out] at hsl
 refine (wi_ints _ S _ b bs long _ [h.term, h.vote, h.base, h.baseTerm] (hSb.of_ext hE1) hsl (fun g h1 h2 => by have := hSb.2 g h2; rw [Hsz.out] at this; omega) Hints.out (by simp) (by omega)).mono ?_
 rintro e w3 ⟨hm1, rfl, S3, hS3, hg1⟩
 rw [HI.out, Bool.or_false] at hS3
 have hm3 : Mod S wb w3 := (hE1.mod S).self hm1
 have Hg3 : Hid (∀ k, S3 k → S k ∨ wb.heap.size ≤ k) := Lib.hid (fun k hk => (hg1 k hk).imp id (fun h => Nat.le_trans hE1.size h))
 clear hg1 hE1 hsl hm1
 have z4 := Hcs.out w3 hm3 4 _ rfl
 have z5 := Hcs.out w3 hm3 5 _ rfl
 have z6 := Hcs.out w3 hm3 6 _ rfl
 have z7 := Hcs.out w3 hm3 7 _ rfl
 go_wp2_with fail
 refine (wi_conf w3 S3 b _ _ h.conf hS3 Hconf.out (by simp; omega)).mono ?_
 rintro e w4 ⟨hm4, rfl, S4, hS4, hg4⟩
 have hm4 := mod_gr hm3 hm4 Hg3.out
 have Hg4 := Lib.hid (gr_trans Hg3.out hg4 hm3.size)
 have hlc := encInts_len [h.conf.full, h.conf.wit, h.conf.learn, h.conf.learnWit]
 obtain ⟨C4, hC4⟩ : ∃ C, encInts [h.conf.full, h.conf.wit, h.conf.learn, h.conf.learnWit] = C := ⟨_, rfl⟩
 rw [hC4] at hS4 hlc
 have HC4 : Hid (wConf h.conf = some (C4, false)) := Lib.hid (by unfold wConf wRaw; rw [hC4])
 simp only [List.length_cons, List.length_nil] at hlc
 clear hg4 z4 z5 z6 z7 hC4
 have u8 := Hcs.out w4 hm4 8 _ rfl
 have hmw4 : Mod S w w4 := (hE.mod S).self hm4
 have hsn4 := Hsnap.out.mod hmw4 hd
 have hnS4 : ¬ S4 w.heap.size := fun h1 => by
  rcases Hg4.out _ h1 with h2 | h2
  ·
   exact hnS h2
  ·
   rw [Hsz.out] at h2; omega
 go_wp2_with fail
 go_region_held3 (fun W => W.cell? ⟨w.heap.size, 8, none⟩ = some sv) (first | go_keep | exact hy)
  ((go_at_call 168
    refine (w_text_any w4.drew S4 T b _ h.snap _ _ hS4.1 (by simp; omega) hsn4 (HdS.out S4 Hg4.out)).mono ?_
    rintro e w5 ⟨rfl, ⟨D, L, hTx, hW5⟩, hm5⟩
    have HT := Lib.hid hTx
    clear hTx
    have hy : w5.cell? ⟨w.heap.size, 8, none⟩ = some sv := hm5.cell u8 hnS4))
 obtain ⟨S5, hS5, hg5⟩ := st_of hW5
 have hS5 : St w5 S5 b (bs ++ ((I ++ C4) ++ D)) (long || L) := by simpa [Bool.or_assoc] using hS5
 have hDl := wText_len _ _ _ HT.out
 have hm5 := mod_gr hm4.drew hm5 Hg4.out
 have Hg5 := Lib.hid (gr_trans Hg4.out hg5 hm4.size)
 have Hd : Hid (h.w = WO.seq (some ((I ++ C4) ++ D, L)) (wList h.log)) := Lib.hid (by rw [Hs.out, HC4.out, HT.out]; simp [wRaw, seq_some])
 have v9 := Hcs.out w5 hm5 9 _ rfl
 have hmw5 : Mod S w w5 := (hE.mod S).self hm5
 have hen5 := Hents.out.mod hmw5 hd
 clear hg5 u8 hsn4
 go_wp2_with fail
 refine (wi_entries w5 S5 T b _ _ lv h.log hS5 hen5 (HdS.out S5 Hg5.out) hll (by simp; omega)).mono ?_
 rintro e w6 ⟨hm6, h6⟩
 have hm6 := mod_gr hm5 hm6 Hg5.out
 rcases hL : wList h.log with _ | ⟨D6, L6⟩
 ·
  rw [hL] at h6
  subst h6
  exact ⟨rfl, fin_none hE hm6 (by rw [Hd.out, hL]; rfl)⟩
 rw [hL] at h6
 obtain ⟨rfl, S6, hS6, hg6⟩ := h6
 have hF := fin_some (o := h.w) (d := ((I ++ C4) ++ D) ++ D6) (l := L || L6) hE hm6 (by simpa [Bool.or_assoc] using hS6) (gr_trans Hg5.out hg6 hm5.size) (by rw [Hd.out, hL]; rfl)
 have HF := Lib.hid hF
 clear hF hL hS6 hg6 v9
 go_wp2
 go_end0
 exact HF.out

theorem wHard_len (h : AHard) (hl : h.log.length ≤ 12700) : ∀ d l, h.w = some (d, l) → d.length ≤ 900000000 := by
 intro d l hh
 have h1 := encInts_len [h.term, h.vote, h.base, h.baseTerm]
 have h2 := encInts_len [h.conf.full, h.conf.wit, h.conf.learn, h.conf.learnWit]
 have := seq_len (seq_len (seq_len (wRaw_len h1) (wRaw_len h2)) (wText_len h.snap)) (seq_len (wRaw_len (encInt_len h.log.length)) (wEntries_len h.log)) d l hh
 simp at this
 have : h.log.length * 70000 ≤ 12700 * 70000 := Nat.mul_le_mul_right _ hl
 omega

set_option maxRecDepth 100000 in
set_option maxHeartbeats 2000000 in
theorem wo_hard1 (W : World) (T : Nat → Prop) (p b : Nat) (h : AHard) (sv lv : Value) (hp : W.heap[p]? = some (.cells #[.int .i64 h.term, .int .i64 h.vote, .int .i64 h.base, .int .i64 h.baseTerm, .int .i64 h.conf.full, .int .i64 h.conf.wit, .int .i64 h.conf.learn, .int .i64 h.conf.learnWit, sv, lv] 34 (0, 0))) (hv : HardM W T sv lv h) (ho : h.ok) (hs : St W (fun k => k = b) b [] false) (hT : ∀ g, T g → g < W.heap.size ∧ g ≠ b) (hl : h.log.length ≤ 12700) :
  Calls Tryz.prog 127 #[.pointer (some ⟨b, 0, none⟩), .pointer (some ⟨p, 0, none⟩)] W (WOut W (fun k => k = b) b [] false h.w) := by
 have hld := load_row (P := Tryz.prog) (o := 0) (cs := h.cells sv lv) str_hard hp rfl (fun j u hu => by rw [Nat.zero_add]; exact hu)
 have HV := Lib.hid hv
 have HT := Lib.hid hT
 clear hp hv hT
 go_enter Tryz.func127, Tryz.ntmps127
 go_wp2_with (refine wpList_ld rfl 34 _ rfl _ _ rfl hld ?_)
 clear hld
 refine (wi_hard W (fun k => k = b) T b [] false h sv lv hs HV.out ho (fun g hg => (HT.out g hg).2) (fun g hg => (HT.out g hg).1) (by simp; omega) hl).mono ?_
 rintro e w1 ⟨hm, h1⟩
 rcases hV : h.w with _ | ⟨D, L⟩
 ·
  rw [hV] at h1
  subst h1
  exact ⟨rfl, fin_none (Mod.refl _ W) hm hV⟩
 ·
  rw [hV] at h1
  obtain ⟨rfl, S1, hS1, hg1⟩ := h1
  have HS1 := Lib.hid hS1
  have Hg1 := Lib.hid hg1
  have HVV := Lib.hid hV
  clear hS1 hg1 hV
  go_wp2
  go_end0
  exact fin_some (Mod.refl _ W) hm HS1.out Hg1.out HVV.out

set_option maxRecDepth 100000 in
set_option maxHeartbeats 2000000 in
theorem wo_hard (w : World) (T : Nat → Prop) (h : AHard) (sv lv : Value) (hv : HardM w T sv lv h) (ho : h.ok) (hT : ∀ g, T g → g < w.heap.size) (hl : h.log.length ≤ 12700) :
  Calls Tryz.prog 99 #[.agg #[.int .i64 h.term, .int .i64 h.vote, .int .i64 h.base, .int .i64 h.baseTerm, .int .i64 h.conf.full, .int .i64 h.conf.wit, .int .i64 h.conf.learn, .int .i64 h.conf.learnWit, sv, lv]] w (WrittenOk w h.w) := by
 have hmf : ∀ (fn : Fn) (first cap : Array Value) (w : World), (Instr.makeFunc fn first cap).run Tryz.prog w = .ok (.func fn first cap) w := fun _ _ _ _ => rfl
 obtain ⟨W, hW⟩ : ∃ W, W = w.alloc (.cells #[.int .i64 h.term, .int .i64 h.vote, .int .i64 h.base, .int .i64 h.baseTerm, .int .i64 h.conf.full, .int .i64 h.conf.wit, .int .i64 h.conf.learn, .int .i64 h.conf.learnWit, sv, lv] 34) := ⟨_, rfl⟩
 have hE : Ext w W := by rw [hW]; exact (Mod.refl _ w).alloc _
 have hp : W.heap[w.heap.size]? = some (.cells #[.int .i64 h.term, .int .i64 h.vote, .int .i64 h.base, .int .i64 h.baseTerm, .int .i64 h.conf.full, .int .i64 h.conf.wit, .int .i64 h.conf.learn, .int .i64 h.conf.learnWit, sv, lv] 34 (0, 0)) := by rw [hW]; exact heap_alloc_new w _
 have hsz : W.heap.size = w.heap.size + 1 := by rw [hW]; simp
 have HW := Lib.hid hW
 have HV := Lib.hid hv
 have HT := Lib.hid hT
 have Hp := Lib.hid hp
 have Hsz := Lib.hid hsz
 have Ho := Lib.hid ho
 clear hW hv hT hp hsz ho
 go_enter Tryz.func99, Tryz.ntmps99
 go_wp2_with fail
 rw [← HW.out]
 refine (written_any 127 w.heap.size W h.w (fun _ _ => by kernel_rfl) (wHard_len h hl) (fun W' b hE' hb hS => ?_)).mono ?_
 ·
  exact wo_hard1 W' T w.heap.size b h sv lv (hE'.blk Hp.out id) ((HV.out.mod hE (fun _ _ => id)).mod hE' (fun _ _ => id)) Ho.out hS (fun g hg => by have := HT.out g hg; have := hE'.size; have := Hsz.out; omega) hl
 rintro e w1 ⟨v, rfl, hN, hE1⟩
 have HN := Lib.hid hN
 have HE := Lib.hid (Mod.ext hE hE1)
 clear hN hE1
 go_wp2
 go_ret2
 exact ⟨v, rfl, ⟨HN.out.1, fun g hg => by have := HN.out.2 g hg; have := Hsz.out; omega⟩, HE.out⟩
end Go.Proofs.YtjhnlncgmejkcaaGreat
namespace Go.Proofs.YtjhnlncgmejkcaaGreat
open Go.RowKit

/-- Block g is known whole. -/
def Row (w : World) (g : Nat) (e : TypeId) (cur : List Value) : Prop := w.heap[g]? = some (.cells cur.toArray e (0, 0))
theorem Row.mod {w w' : World} {S : Nat → Prop} {g : Nat} {e : TypeId} {cur : List Value} (h : Row w g e cur) (hm : Mod S w w') (hS : ¬ S g) : Row w' g e cur := hm.blk h hS
theorem Row.lt {w : World} {g : Nat} {e : TypeId} {cur : List Value} (h : Row w g e cur) : g < w.heap.size := (Array.getElem?_eq_some_iff.1 h).1
theorem Row.cell {w : World} {g : Nat} {e : TypeId} {cur : List Value} (h : Row w g e cur) {j : Nat} {v : Value} (hj : cur[j]? = some v) : w.cell? ⟨g, j, none⟩ = some v := by
 unfold Row at h; simp [World.cell?, h, hj]
theorem Row.free {w : World} {g : Nat} {e : TypeId} {cur : List Value} (h : Row w g e cur) (j : Nat) : w.frozen? ⟨g, j, none⟩ = false := by
 unfold Row at h; simp [World.frozen?, h]
theorem Row.set {w : World} {g : Nat} {e : TypeId} {cur : List Value} (h : Row w g e cur) (cur' : List Value) : Row (w.setRow g cur'.toArray) g e cur' := setRow_heap w g _ _ e _ h
theorem Mod.setRow {S : Nat → Prop} {a w : World} (h : Mod S a w) {g : Nat} (hg : a.heap.size ≤ g ∨ S g) (cs : Array Value) : Mod S a (w.setRow g cs) :=
 ⟨h.os, h.tape, h.output, by simpa using h.size, fun k hk hn => (setRow_other w g k cs (fun e => by
  subst e
  rcases hg with hg | hg
  ·
   omega
  ·
   exact hn hg)).trans (h.block k hk hn)⟩
theorem Row.own {w : World} {g cap n : Nat} {e : TypeId} {cur : List Value} {size : Nat} {xs : List Value} (h : Row w g e cur) (hc : cur.length = cap * size) (hn : n ≤ cap) (hm : cap ≤ maxLen) (ht : cur.take (n * size) = xs) :
  w.ownsRow 0 e size (.slice (some ⟨g, 0, none⟩) n cap) n xs := by
 refine ⟨?_, .inr ⟨g, cap, cur.toArray, rfl, Nat.zero_le _, h, hn, hm, by simpa using hc, by simpa using ht⟩⟩
 rw [← ht, List.length_take]
 exact Nat.min_eq_left (by rw [hc]; exact Nat.mul_le_mul_right _ hn)
theorem row_of_own {w : World} {e : TypeId} {size n : Nat} {v : Value} {xs : List Value} (h : w.ownsRow 0 e size v n xs) :
  (v = .slice none 0 0 ∧ n = 0) ∨ ∃ g cap cur, v = .slice (some ⟨g, 0, none⟩) n cap ∧ Row w g e cur ∧ cur.length = cap * size ∧ n ≤ cap ∧ cap ≤ maxLen ∧ cur.take (n * size) = xs := by
 rcases h.2 with h1 | ⟨g, cap, cur, rfl, _, hg, hn, hm, hs, ht⟩
 ·
  exact .inl h1
 ·
  exact .inr ⟨g, cap, cur.toList, rfl, by unfold Row; simpa using hg, by simpa using hs, hn, hm, ht⟩

section
variable {P : Program} (w : World)
/-- copy, elements of k cells, into a row that is known whole. -/
theorem run_copyK (dT sT ty elem : TypeId) (k g o dLen dCap : Nat) (a : Addr) (sLen sCap n : Nat) (e : TypeId) (cur cs : List Value)
  (hu : P.underlying dT = some (.slice elem)) (hs : (P.info? elem).map (·.size) = some k) (hg : Row w g e cur) (hn : Nat.min sLen dLen = n) (hl : cs.length = n * k)
  (hsrc : ∀ j v, cs[j]? = some v → w.cell? (a.add j) = some v) (hfit : o + cs.length ≤ cur.length) (h1 : ∀ v ∈ cs, v.oneCell' = true) :
  (Builtin.copy_ #[dT, sT] ty #[.slice (some ⟨g, o, none⟩) dLen dCap, .slice (some a) sLen sCap]).run P w = .ok (goInt n) (w.setRow g (splice cur o cs).toArray) := by
 have hf := run_firstCells_some (P := P) w k n a sLen sCap cs hl hsrc
 have hst := run_storeCells_at P g o e cs 0 cur.toArray w hg (by simpa using hfit) h1
 cases hq : P.info? elem with
 | none => simp [hq] at hs
 | some i =>
  have hi : i.size = k := by simpa [hq] using hs
  have e1 : (cur.toArray.toList.take (o + 0) ++ cs ++ cur.toArray.toList.drop (o + 0 + cs.length)).toArray = (splice cur o cs).toArray := by simp [splice]
  rw [e1] at hst
  simp [Builtin.copy_, run_underlying hu, Builtin.lenOf, sizeOf, typeInfo, hq, hi, hn, hf, hst]
theorem splice_nil {α : Type} (L : List α) (o : Nat) : splice L o [] = L := by simp [splice]
/-- append, in the room that there is, onto a row that is known whole. -/
theorem run_appK (t ty elem : TypeId) (i : TypeInfo) (k g n cap : Nat) (x : Value) (m : Nat) (e : TypeId) (cur news : List Value) (T : Nat → Prop)
  (ht : P.underlying t = some (.slice elem)) (hi : P.info? elem = some i) (hk : i.size = k) (hg : Row w g e cur) (hx : Sl w T k x m news) (hroom : n + m ≤ cap) (hc : cur.length = cap * k) (h1 : ∀ v ∈ news, v.oneCell' = true) :
  (Builtin.append_ #[t, t] ty #[.slice (some ⟨g, 0, none⟩) n cap, x]).run P w = .ok (.slice (some ⟨g, 0, none⟩) (n + m) cap) (w.setRow g (splice cur (n * k) news).toArray) := by
 obtain ⟨hl, A, c, rfl, hmc, hcm, hsrc⟩ := hx
 have hfit : n * k + news.length ≤ cur.length := by rw [hl, hc, ← Nat.add_mul]; exact Nat.mul_le_mul_right _ hroom
 have hst := run_storeCells_at P g (n * k) e news 0 cur.toArray w hg (by simpa using hfit) h1
 have e1 : (cur.toArray.toList.take (n * k + 0) ++ news ++ cur.toArray.toList.drop (n * k + 0 + news.length)).toArray = (splice cur (n * k) news).toArray := by simp [splice]
 rw [e1] at hst
 rcases Nat.eq_zero_or_pos m with h0 | h0
 ·
  subst h0
  obtain rfl : news = [] := List.eq_nil_of_length_eq_zero (by simpa using hl)
  rw [splice_nil] at hst ⊢
  have hw : w.setRow g cur.toArray = w := setRow_self w g _ e _ hg
  rw [hw] at hst ⊢
  have hroom' : n ≤ cap := by omega
  rcases A with _ | a
  ·
   simp [Builtin.append_, run_underlying ht, sizeOf, typeInfo, hi, Builtin.lenOf, Builtin.firstCells, hroom', storeCells]
  ·
   have hf := run_firstCells_some (P := P) w k 0 a 0 c [] (by simp) (by simp)
   simp [Builtin.append_, run_underlying ht, sizeOf, typeInfo, hi, hk, Builtin.lenOf, hf, hroom', storeCells]
 ·
  obtain ⟨g', off, rfl, _, hcell⟩ := hsrc h0
  have hf := run_firstCells_some (P := P) w k m ⟨g', off, none⟩ m c news hl (fun j u hu => by rw [addMk]; exact hcell j u hu)
  simp [Builtin.append_, run_underlying ht, sizeOf, typeInfo, hi, hk, Builtin.lenOf, hf, hroom, Addr.add_lit, hst]
/-- clear of one element. -/
theorem run_clearK (t elem ty : TypeId) (z : Value) (k g o c : Nat) (e : TypeId) (cur : List Value) (ht : P.underlying t = some (.slice elem)) (hv : (zeroValue elem).run P w = .ok z w) (hz : z.cells.size = k)
  (h1 : ∀ u ∈ z.cells.toList, u.oneCell' = true) (hg : Row w g e cur) (hfit : o + k ≤ cur.length) :
  (Builtin.clear_ #[t] ty #[.slice (some ⟨g, o, none⟩) 1 c]).run P w = .ok (.tuple #[]) (w.setRow g (splice cur o z.cells.toList).toArray) := by
 have hzc : (Builtin.zeroCells z.cells 1).toList = z.cells.toList := by
  apply List.ext_getElem
  ·
   simp [Builtin.zeroCells]
  ·
   intro i h1 h2
   have hi : i < z.cells.size := by simpa using h2
   simp [Builtin.zeroCells, Nat.mod_eq_of_lt hi, getElem!_pos z.cells i hi]
 have hl : z.cells.toList.length = k := by simpa using hz
 have hst := run_storeCells_at P g o e z.cells.toList 0 cur.toArray w hg (by simpa [hz] using hfit) h1
 have e1 : (cur.toArray.toList.take (o + 0) ++ z.cells.toList ++ cur.toArray.toList.drop (o + 0 + z.cells.toList.length)).toArray = (splice cur o z.cells.toList).toArray := by simp [splice]
 rw [e1] at hst
 simp [Builtin.clear_, run_underlying ht, hv, hzc, hst]
end

/-- An append or a copy whose run is known, for the walk. -/
theorem wpList_copy_at {P : Program} (w : World) {ops : Array Oper} {rest : List Oper} {o : Oper} {a : Act} {Q : Exit → Act → World → Prop} (hgd : o.guard = none) (d s : Operand) (t t' : TypeId)
  (ho : o.op = .call { callee := .builtin .copy, args := #[d, s], argTypes := #[t, t'] }) (v u : Value) (hd : a.eval d = v) (hs : a.eval s = u) {v' : Value} {w' : World}
  (hr : (Builtin.copy_ #[t, t'] o.type #[v, u]).run P w = .ok v' w') (h : wpList P ops Q rest (a.put o.dst v') w') : wpList P ops Q (o :: rest) a w := by
 refine wpList_plain hgd fun K hK => ?_
 unfold Oper.wp
 simp [execOp, ho, resolve, invoke, builtin, hd, hs, hr, Result.andThen]
 exact hK _ _ h
theorem wpList_clear_at {P : Program} (w : World) {ops : Array Oper} {rest : List Oper} {o : Oper} {a : Act} {Q : Exit → Act → World → Prop} (hgd : o.guard = none) (d : Operand) (t : TypeId)
  (ho : o.op = .call { callee := .builtin .clear, args := #[d], argTypes := #[t] }) (v : Value) (hd : a.eval d = v) {v' : Value} {w' : World}
  (hr : (Builtin.clear_ #[t] o.type #[v]).run P w = .ok v' w') (h : wpList P ops Q rest (a.put o.dst v') w') : wpList P ops Q (o :: rest) a w := by
 refine wpList_plain hgd fun K hK => ?_
 unfold Oper.wp
 simp [execOp, ho, resolve, invoke, builtin, hd, hr, Result.andThen]
 exact hK _ _ h
theorem step_copy_at {P : Program} {ops : Array Oper} {o : Oper} {a : Act} {w : World} {K : Act → World → Prop} {Q : Exit → Act → World → Prop} {E : Prop}
  (hg : o.guard = none) (d x : Operand) (dT sT : TypeId) (hop : o.op = Op.call { callee := Callee.builtin Builtin.copy, args := #[d, x], argTypes := #[dT, sT] })
  (v u : Value) (hd : a.eval d = v) (hx : a.eval x = u) {v' : Value} {w' : World} (hr : (Builtin.copy_ #[dT, sT] o.type #[v, u]).run P w = .ok v' w') (hK : K (a.put o.dst v') w') :
  if Region.wanted o (yielded ops a.tmps) = true then Oper.wp P o a w K Q else E := by
 have hw : Region.wanted o (yielded ops a.tmps) = true := by simp [Region.wanted, hg]
 rw [if_pos hw]
 unfold Oper.wp
 simp [execOp, hop, resolve, invoke, builtin, hd, hx, hr, Result.andThen]
 exact hK
theorem step_app_at {P : Program} {ops : Array Oper} {o : Oper} {a : Act} {w : World} {K : Act → World → Prop} {Q : Exit → Act → World → Prop} {E : Prop}
  (hg : o.guard = none) (d x : Operand) (dT sT : TypeId) (hop : o.op = Op.call { callee := Callee.builtin Builtin.append, args := #[d, x], argTypes := #[dT, sT] })
  (v u : Value) (hd : a.eval d = v) (hx : a.eval x = u) {v' : Value} {w' : World} (hr : (Builtin.append_ #[dT, sT] o.type #[v, u]).run P w = .ok v' w') (hK : K (a.put o.dst v') w') :
  if Region.wanted o (yielded ops a.tmps) = true then Oper.wp P o a w K Q else E := by
 have hw : Region.wanted o (yielded ops a.tmps) = true := by simp [Region.wanted, hg]
 rw [if_pos hw]
 unfold Oper.wp
 simp [execOp, hop, resolve, invoke, builtin, hd, hx, hr, Result.andThen]
 exact hK
theorem splice_mid {α : Type} (a b c cs : List α) (h : cs.length = b.length) : splice (a ++ (b ++ c)) a.length cs = a ++ (cs ++ c) := by
 unfold splice
 rw [List.take_left, h, ← List.append_assoc a b c, ← List.length_append, List.drop_left]
/-- A box of another type is none of a row's blocks. -/
theorem own_apart {w : World} {e t : TypeId} {k n b g : Nat} {v : Value} {xs : List Value} {cs : Array Value} {q : Nat × Nat} (h : w.ownsRow 0 e k v n xs) (hg : v.ownBlock = some g) (hb : w.heap[b]? = some (.cells cs t q)) (ht : e ≠ t) : g ≠ b := by
 rintro rfl
 rcases row_of_own h with ⟨rfl, _⟩ | ⟨g', cap, cur, rfl, hR, _⟩
 ·
  simp [Value.ownBlock] at hg
 ·
  simp [Value.ownBlock] at hg
  subst hg
  unfold Row at hR
  rw [hR] at hb
  injection hb with hb
  injection hb with _ hb
  exact ht hb
end Go.Proofs.YtjhnlncgmejkcaaGreat
namespace Go.Proofs.YtjhnlncgmejkcaaGreat
set_option linter.unusedSimpArgs false
open Go.RowKit

theorem own_own {w : World} {e t : TypeId} {k n k' n' g : Nat} {v v' : Value} {xs xs' : List Value} (h : w.ownsRow 0 e k v n xs) (h' : w.ownsRow 0 t k' v' n' xs') (ht : e ≠ t) (hg : v.ownBlock = some g) : v'.ownBlock ≠ some g := by
 intro hg'
 rcases row_of_own h' with ⟨rfl, _⟩ | ⟨g', cap, cur, rfl, hR, _⟩
 ·
  simp [Value.ownBlock] at hg'
 ·
  simp [Value.ownBlock] at hg'
  subst hg'
  exact own_apart h hg hR ht rfl
theorem any_step {α : Type} {p : α → Bool} {l : List α} {i : Nat} {x : α} (h : (l.take i).any p = false) (hx : l[i]? = some x) (e : p x = false) : (l.take (i + 1)).any p = false := by
 obtain ⟨hi, rfl⟩ := List.getElem?_eq_some_iff.1 hx
 rw [List.take_succ_eq_append_getElem hi, List.any_append, h]; simp [e]
theorem info_entry : (Tryz.prog.info? 56).map (fun i => (i.zero, i.size, i.bytes)) = some (some (.agg #[.int .i64 0, .int .i64 0, .int .i64 0, .int .i64 0, .int .i64 0, .string ⟨#[]⟩, .int .i64 0, .float .f64 0, .string ⟨#[]⟩, .int .i64 0, .float .f64 0, .string ⟨#[]⟩, .int .i64 0, .int .i64 0, .int .i64 0, .int .i64 0]), 16, 152) := by kernel_rfl
theorem entry_one (l : List AEntry) : ∀ u ∈ l.flatMap AEntry.cells, u.oneCell' = true := by
 intro u hu
 obtain ⟨p, _, hp⟩ := List.mem_flatMap.1 hu
 simp only [AEntry.cells, List.mem_cons, List.not_mem_nil, or_false] at hp
 rcases hp with rfl | rfl | rfl | rfl | rfl | rfl | rfl | rfl | rfl | rfl | rfl | rfl | rfl | rfl | rfl | rfl <;> rfl
/-- Of one's own. -/
def NewE (w w' : World) (v : Value) (l : List AEntry) : Prop := w'.ownsRow 0 56 16 v l.length (l.flatMap AEntry.cells) ∧ (∀ x ∈ l, x.ok) ∧ ∀ g, v.ownBlock = some g → w.heap.size ≤ g
theorem NewE.ents {w w' : World} {v : Value} {l : List AEntry} (h : NewE w w' v l) : Ents w' (fun g => v.ownBlock = some g) v l := ⟨Sl.of_own h.1 (fun _ h => h), h.2.1⟩
theorem newE_mod {W w1 w2 : World} {S : Nat → Prop} {v : Value} {l : List AEntry} (h : NewE W w1 v l) (hm : Mod S w1 w2) (hd : ∀ g, v.ownBlock = some g → ¬ S g) : NewE W w2 v l := ⟨own_mod h.1 hm hd, h.2.1, h.2.2⟩
theorem newE_up {W w0 w1 : World} {v : Value} {l : List AEntry} (h : NewE w0 w1 v l) (hs : W.heap.size ≤ w0.heap.size) : NewE W w1 v l := ⟨h.1, h.2.1, fun g hg => Nat.le_trans hs (h.2.2 g hg)⟩
theorem newE_nil (W w : World) : NewE W w (.slice none 0 0) [] := ⟨World.ownsRow_nil _ _ _ _, by simp, by simp [Value.ownBlock]⟩
theorem newE_box {W w w' : World} {v : Value} {l : List AEntry} {b : Nat} {t : TypeId} {cs : Array Value} {q : Nat × Nat} (h : NewE W w v l) (hb : w.heap[b]? = some (.cells cs t q)) (hM : Mod (fun k => k = b) w w') (h1 : 56 ≠ t) : NewE W w' v l :=
 newE_mod h hM (fun _ hg => own_apart h.1 hg hb h1)
theorem NewE.form {w w' : World} {v : Value} {l : List AEntry} (h : NewE w w' v l) : ∃ A c, v = .slice A l.length c := own_form h.1
/-- Behind an append. -/
theorem newE_app {W w w' : World} {v v' : Value} {l k : List AEntry} {n m q : Nat} (h : NewE W w v l) (hk : ∀ x ∈ k, x.ok) (hn : l.length = n) (hm : k.length = m) (ho : w'.ownsRow 0 56 16 v' (n + m) (l.flatMap AEntry.cells ++ k.flatMap AEntry.cells)) (hat : v'.ownBlock = v.ownBlock ∨ v'.ownBlock = some q) (hs : W.heap.size ≤ q) : NewE W w' v' (l ++ k) := by
 refine ⟨by rw [List.length_append, List.flatMap_append, hn, hm]; exact ho, fun x hx => ?_, fun g hg => ?_⟩
 ·
  rcases List.mem_append.1 hx with hx | hx
  ·
   exact h.2.1 x hx
  ·
   exact hk x hx
 ·
  rcases hat with e | e <;> rw [e] at hg
  ·
   exact h.2.2 g hg
  ·
   injection hg with hg; omega
set_option maxRecDepth 100000 in
set_option maxHeartbeats 400000 in
theorem k_twinEntries (w : World) (T : Nat → Prop) (v : Value) (l : List AEntry) (h : Ents w T v l) (hl : l.length ≤ 1000000) :
  Calls Tryz.prog 77 #[v] w fun e w' => ∃ v', e = .returned v' ∧ NewE w w' v' l ∧ Ext w w' := by
 obtain ⟨i0, hi, hz0, hz1, hz2⟩ := info_parts info_entry
 obtain ⟨n, hn⟩ : ∃ n, l.length = n := ⟨_, rfl⟩
 obtain ⟨A, c, rfl⟩ : ∃ A c, v = .slice A l.length c := by
  obtain ⟨_, A, c, e, _⟩ := h.1
  exact ⟨A, c, e⟩
 obtain ⟨h1, h2⟩ := h
 rw [hn] at hl h1 ⊢
 have Hn := Lib.hid hn
 have H2 := Lib.hid h2
 clear hn h2
 go_enter Tryz.func77, Tryz.ntmps77
 go_wp2_with (at_builtin; refine wpList_app _ rfl _ _ 32 rfl 56 i0 _ 16 152 Tryz.underlying32 hi hz0 hz1 hz2 rfl (by omega) _ 0 [] rfl (World.ownsRow_nil _ _ _ _) T _ n (l.flatMap AEntry.cells) rfl h1 (entry_one l) (by simp only [maxLen]; omega) (by omega) ?_)
 intro v' w1 ho hgr hat
 have hE : Ext w w1 := (Mod.refl _ w).grown hgr (by simp [Value.ownBlock])
 have hN : NewE w w1 v' l := by
  refine ⟨by rw [Hn.out]; simpa using ho, H2.out, fun g hgg => ?_⟩
  rcases hat with e | e <;> rw [e] at hgg <;> simp [Value.ownBlock] at hgg <;> omega
 go_wp2
 go_ret
 exact ⟨v', rfl, hN, hE⟩
end Go.Proofs.YtjhnlncgmejkcaaGreat
namespace Go.Proofs.YtjhnlncgmejkcaaGreat
set_option linter.unusedSimpArgs false
open Go.RowKit
attribute [local go_sem high] conf_eql

set_option maxRecDepth 100000 in
set_option maxHeartbeats 2000000 in
theorem r8_zcall (c : ACall) (w : World) : Calls Tryz.prog 144 #[.agg #[.int .i64 c.client, .int .i64 c.seq, .int .i64 c.cmd.kind, .string c.cmd.key, .int .i64 c.cmd.old.kind, .float .f64 c.cmd.old.num, .string c.cmd.old.text, .int .i64 c.cmd.val.kind, .float .f64 c.cmd.val.num, .string c.cmd.val.text]] w fun e w' => e = .returned (.bool (eqCall c ACall.zero)) ∧ Ext w w' := by
 go_enter Tryz.func144, Tryz.ntmps144
 go_wp2_with fail
 refine (k_call c ACall.zero _).mono ?_
 rintro e w1 ⟨rfl, hE⟩
 have HE := Lib.hid (((Mod.refl (fun _ => False) w).alloc _).ext hE)
 clear hE
 go_wp2
 go_ret
 exact ⟨rfl, HE.out⟩
set_option maxRecDepth 100000 in
set_option maxHeartbeats 2000000 in
theorem r8_zconf (c : AConf) (w : World) : Calls Tryz.prog 145 #[.agg #[.int .i64 c.full, .int .i64 c.wit, .int .i64 c.learn, .int .i64 c.learnWit]] w fun e w' => e = .returned (.bool (eqConf c AConf.zero)) ∧ Ext w w' := by
 go_enter Tryz.func145, Tryz.ntmps145
 go_wp2_with fail
 refine (k_conf c AConf.zero _).mono ?_
 rintro e w1 ⟨rfl, hE⟩
 have HE := Lib.hid (((Mod.refl (fun _ => False) w).alloc _).ext hE)
 clear hE
 go_wp2
 go_ret
 exact ⟨rfl, HE.out⟩
set_option maxRecDepth 100000 in
set_option maxHeartbeats 2000000 in
theorem l_entry (x : AEntry) (w : World) : Calls Tryz.prog 98 #[.agg #[.int .i64 x.term, .int .i64 x.kind, .int .i64 x.call.client, .int .i64 x.call.seq, .int .i64 x.call.cmd.kind, .string x.call.cmd.key, .int .i64 x.call.cmd.old.kind, .float .f64 x.call.cmd.old.num, .string x.call.cmd.old.text, .int .i64 x.call.cmd.val.kind, .float .f64 x.call.cmd.val.num, .string x.call.cmd.val.text, .int .i64 x.conf.full, .int .i64 x.conf.wit, .int .i64 x.conf.learn, .int .i64 x.conf.learnWit]] w fun e w' => e = .returned (.bool (rightE x)) ∧ Ext w w' := by
 obtain ⟨wb, hwb⟩ : ∃ wb, w.alloc (.cells #[.int .i64 x.term, .int .i64 x.kind, .int .i64 x.call.client, .int .i64 x.call.seq, .int .i64 x.call.cmd.kind, .string x.call.cmd.key, .int .i64 x.call.cmd.old.kind, .float .f64 x.call.cmd.old.num, .string x.call.cmd.old.text, .int .i64 x.call.cmd.val.kind, .float .f64 x.call.cmd.val.num, .string x.call.cmd.val.text, .int .i64 x.conf.full, .int .i64 x.conf.wit, .int .i64 x.conf.learn, .int .i64 x.conf.learnWit] 56) = wb := ⟨_, rfl⟩
 have hE : Ext w wb := by rw [← hwb]; exact (Mod.refl _ w).alloc _
 have hcs : ∀ w1, Ext wb w1 → ∀ j u, x.cells[j]? = some u → w1.cell? ⟨w.heap.size, j, none⟩ = some u := by
  intro w1 hm j u hu
  refine hm.cell ?_ id
  rw [← hwb, cell_of_row _ _ _ _ _ _ (heap_alloc_new w _)]
  simpa using hu
 obtain ⟨r, hr⟩ : ∃ r, rightE x = r := ⟨_, rfl⟩
 rw [hr]
 have Hwb := Lib.hid hwb
 have Hcs := Lib.hid hcs
 have Hr := Lib.hid hr
 have HE := Lib.hid hE
 clear hwb hcs hr hE
 by_cases k0 : x.kind = 0
 ·
  have e0 : (x.kind == 0) = true := by simpa using k0
  have Ho : Hid (r = (noCallB x.call && confB x.conf)) := Lib.hid (by rw [← Hr.out]; simp [rightE, k0])
  clear k0
  go_enter Tryz.func98, Tryz.ntmps98
  go_wp2_with fail
  rw [Hwb.out]
  refine (l_noCall x.call _).mono ?_
  rintro e w1 ⟨rfl, hE1⟩
  have y0 := (Hcs.out w1 hE1) 0 _ rfl
  have y1 := (Hcs.out w1 hE1) 1 _ rfl
  have y2 := (Hcs.out w1 hE1) 2 _ rfl
  have y3 := (Hcs.out w1 hE1) 3 _ rfl
  have y4 := (Hcs.out w1 hE1) 4 _ rfl
  have y5 := (Hcs.out w1 hE1) 5 _ rfl
  have y6 := (Hcs.out w1 hE1) 6 _ rfl
  have y7 := (Hcs.out w1 hE1) 7 _ rfl
  have y8 := (Hcs.out w1 hE1) 8 _ rfl
  have y9 := (Hcs.out w1 hE1) 9 _ rfl
  have y10 := (Hcs.out w1 hE1) 10 _ rfl
  have y11 := (Hcs.out w1 hE1) 11 _ rfl
  have y12 := (Hcs.out w1 hE1) 12 _ rfl
  have y13 := (Hcs.out w1 hE1) 13 _ rfl
  have y14 := (Hcs.out w1 hE1) 14 _ rfl
  have y15 := (Hcs.out w1 hE1) 15 _ rfl
  have HE1 := Lib.hid (HE.out.ext hE1)
  clear hE1
  rcases hn : noCallB x.call with _ | _
  ·
   go_wp2
   go_ret
   exact ⟨by rw [Ho.out, hn]; rfl, HE1.out⟩
  rcases hc : confB x.conf with _ | _
  ·
   go_wp2
   go_ret
   exact ⟨by rw [Ho.out, hc, Bool.and_false]; rfl, HE1.out⟩
  ·
   go_wp2
   go_ret
   exact ⟨by rw [Ho.out, hc, hn]; rfl, HE1.out⟩
 have e0 : (x.kind == 0) = false := by simpa using k0
 by_cases k1 : x.kind = 1
 ·
  have e1 : (x.kind == 1) = true := by simpa using k1
  have Ho : Hid (r = ((callE x.call == 0) && confB x.conf)) := Lib.hid (by rw [← Hr.out]; simp [rightE, k1])
  clear k0 k1
  go_enter Tryz.func98, Tryz.ntmps98
  go_wp2_with fail
  rw [Hwb.out]
  refine (s_right x.call _).mono ?_
  rintro e w1 ⟨rfl, hE1⟩
  have y0 := (Hcs.out w1 hE1) 0 _ rfl
  have y1 := (Hcs.out w1 hE1) 1 _ rfl
  have y2 := (Hcs.out w1 hE1) 2 _ rfl
  have y3 := (Hcs.out w1 hE1) 3 _ rfl
  have y4 := (Hcs.out w1 hE1) 4 _ rfl
  have y5 := (Hcs.out w1 hE1) 5 _ rfl
  have y6 := (Hcs.out w1 hE1) 6 _ rfl
  have y7 := (Hcs.out w1 hE1) 7 _ rfl
  have y8 := (Hcs.out w1 hE1) 8 _ rfl
  have y9 := (Hcs.out w1 hE1) 9 _ rfl
  have y10 := (Hcs.out w1 hE1) 10 _ rfl
  have y11 := (Hcs.out w1 hE1) 11 _ rfl
  have y12 := (Hcs.out w1 hE1) 12 _ rfl
  have y13 := (Hcs.out w1 hE1) 13 _ rfl
  have y14 := (Hcs.out w1 hE1) 14 _ rfl
  have y15 := (Hcs.out w1 hE1) 15 _ rfl
  have HE1 := Lib.hid (HE.out.ext hE1)
  clear hE1
  rcases hn : (callE x.call == 0) with _ | _
  ·
   go_wp2
   go_ret
   exact ⟨by rw [Ho.out, hn]; rfl, HE1.out⟩
  rcases hc : confB x.conf with _ | _
  ·
   go_wp2
   go_ret
   exact ⟨by rw [Ho.out, hc, Bool.and_false]; rfl, HE1.out⟩
  ·
   go_wp2
   go_ret
   exact ⟨by rw [Ho.out, hc, hn]; rfl, HE1.out⟩
 have e1 : (x.kind == 1) = false := by simpa using k1
 by_cases k2 : x.kind = 2
 ·
  have e2 : (x.kind == 2) = true := by simpa using k2
  have Ho : Hid (r = (noCallB x.call && confOk x.conf)) := Lib.hid (by rw [← Hr.out]; simp [rightE, k2])
  clear k0 k1 k2
  go_enter Tryz.func98, Tryz.ntmps98
  go_wp2_with fail
  rw [Hwb.out]
  refine (l_noCall x.call _).mono ?_
  rintro e w1 ⟨rfl, hE1⟩
  have y0 := (Hcs.out w1 hE1) 0 _ rfl
  have y1 := (Hcs.out w1 hE1) 1 _ rfl
  have y2 := (Hcs.out w1 hE1) 2 _ rfl
  have y3 := (Hcs.out w1 hE1) 3 _ rfl
  have y4 := (Hcs.out w1 hE1) 4 _ rfl
  have y5 := (Hcs.out w1 hE1) 5 _ rfl
  have y6 := (Hcs.out w1 hE1) 6 _ rfl
  have y7 := (Hcs.out w1 hE1) 7 _ rfl
  have y8 := (Hcs.out w1 hE1) 8 _ rfl
  have y9 := (Hcs.out w1 hE1) 9 _ rfl
  have y10 := (Hcs.out w1 hE1) 10 _ rfl
  have y11 := (Hcs.out w1 hE1) 11 _ rfl
  have y12 := (Hcs.out w1 hE1) 12 _ rfl
  have y13 := (Hcs.out w1 hE1) 13 _ rfl
  have y14 := (Hcs.out w1 hE1) 14 _ rfl
  have y15 := (Hcs.out w1 hE1) 15 _ rfl
  have HE1 := Lib.hid (HE.out.ext hE1)
  clear hE1
  rcases hn : noCallB x.call with _ | _
  ·
   go_wp2
   go_ret
   exact ⟨by rw [Ho.out, hn]; rfl, HE1.out⟩
  go_wp2_with fail
  refine (c_check x.conf _).mono ?_
  rintro e w2 ⟨rfl, hE2⟩
  have HE2 := Lib.hid (HE1.out.ext hE2)
  clear hE2
  rcases hc : confOk x.conf with _ | _
  ·
   rw [if_neg (by simp)]
   go_wp2
   go_ret
   exact ⟨by rw [Ho.out, hc, Bool.and_false]; rfl, HE2.out⟩
  ·
   rw [if_pos rfl]
   go_wp2
   go_ret
   exact ⟨by rw [Ho.out, hc, hn]; rfl, HE2.out⟩
 ·
  have e2 : (x.kind == 2) = false := by simpa using k2
  have Ho : Hid (r = false) := Lib.hid (by rw [← Hr.out]; simp [rightE, k0, k1, k2])
  clear k0 k1 k2
  go_enter Tryz.func98, Tryz.ntmps98
  go_wp2
  rw [Hwb.out]
  go_ret
  exact ⟨by rw [Ho.out]; rfl, HE.out⟩
set_option maxRecDepth 100000 in
set_option maxHeartbeats 2000000 in
theorem r8_entry (x : AEntry) (w : World) : Calls Tryz.prog 110 #[.agg #[.int .i64 x.term, .int .i64 x.kind, .int .i64 x.call.client, .int .i64 x.call.seq, .int .i64 x.call.cmd.kind, .string x.call.cmd.key, .int .i64 x.call.cmd.old.kind, .float .f64 x.call.cmd.old.num, .string x.call.cmd.old.text, .int .i64 x.call.cmd.val.kind, .float .f64 x.call.cmd.val.num, .string x.call.cmd.val.text, .int .i64 x.conf.full, .int .i64 x.conf.wit, .int .i64 x.conf.learn, .int .i64 x.conf.learnWit]] w fun e w' => e = .returned (.bool (rightE x)) ∧ Ext w w' := by
 obtain ⟨wb, hwb⟩ : ∃ wb, w.alloc (.cells #[.int .i64 x.term, .int .i64 x.kind, .int .i64 x.call.client, .int .i64 x.call.seq, .int .i64 x.call.cmd.kind, .string x.call.cmd.key, .int .i64 x.call.cmd.old.kind, .float .f64 x.call.cmd.old.num, .string x.call.cmd.old.text, .int .i64 x.call.cmd.val.kind, .float .f64 x.call.cmd.val.num, .string x.call.cmd.val.text, .int .i64 x.conf.full, .int .i64 x.conf.wit, .int .i64 x.conf.learn, .int .i64 x.conf.learnWit] 56) = wb := ⟨_, rfl⟩
 have hE : Ext w wb := by rw [← hwb]; exact (Mod.refl _ w).alloc _
 have hcs : ∀ w1, Ext wb w1 → ∀ j u, x.cells[j]? = some u → w1.cell? ⟨w.heap.size, j, none⟩ = some u := by
  intro w1 hm j u hu
  refine hm.cell ?_ id
  rw [← hwb, cell_of_row _ _ _ _ _ _ (heap_alloc_new w _)]
  simpa using hu
 obtain ⟨r, hr⟩ : ∃ r, rightE x = r := ⟨_, rfl⟩
 rw [hr]
 have Hwb := Lib.hid hwb
 have Hcs := Lib.hid hcs
 have Hr := Lib.hid hr
 have HE := Lib.hid hE
 clear hwb hcs hr hE
 by_cases k0 : x.kind = 0
 ·
  have e0 : (x.kind == 0) = true := by simpa using k0
  have Ho : Hid (r = (eqCall x.call ACall.zero && confB x.conf)) := Lib.hid (by rw [← Hr.out]; simp [rightE, k0, noCall_eq])
  clear k0
  go_enter Tryz.func110, Tryz.ntmps110
  go_wp2_with fail
  rw [Hwb.out]
  refine (r8_zcall x.call _).mono ?_
  rintro e w1 ⟨rfl, hE1⟩
  have y0 := (Hcs.out w1 hE1) 0 _ rfl
  have y1 := (Hcs.out w1 hE1) 1 _ rfl
  have y2 := (Hcs.out w1 hE1) 2 _ rfl
  have y3 := (Hcs.out w1 hE1) 3 _ rfl
  have y4 := (Hcs.out w1 hE1) 4 _ rfl
  have y5 := (Hcs.out w1 hE1) 5 _ rfl
  have y6 := (Hcs.out w1 hE1) 6 _ rfl
  have y7 := (Hcs.out w1 hE1) 7 _ rfl
  have y8 := (Hcs.out w1 hE1) 8 _ rfl
  have y9 := (Hcs.out w1 hE1) 9 _ rfl
  have y10 := (Hcs.out w1 hE1) 10 _ rfl
  have y11 := (Hcs.out w1 hE1) 11 _ rfl
  have y12 := (Hcs.out w1 hE1) 12 _ rfl
  have y13 := (Hcs.out w1 hE1) 13 _ rfl
  have y14 := (Hcs.out w1 hE1) 14 _ rfl
  have y15 := (Hcs.out w1 hE1) 15 _ rfl
  have HE1 := Lib.hid (HE.out.ext hE1)
  clear hE1
  rcases hn : eqCall x.call ACall.zero with _ | _
  ·
   go_wp2
   go_ret
   exact ⟨by rw [Ho.out, hn]; rfl, HE1.out⟩
  go_wp2_with fail
  refine (r8_zconf x.conf _).mono ?_
  rintro e w2 ⟨rfl, hE2⟩
  have HE2 := Lib.hid (HE1.out.ext hE2)
  clear hE2
  go_wp2
  go_ret
  exact ⟨by rw [Ho.out, hn, confB_eq]; rfl, HE2.out⟩
 have e0 : (x.kind == 0) = false := by simpa using k0
 by_cases k1 : x.kind = 1
 ·
  have e1 : (x.kind == 1) = true := by simpa using k1
  have Ho : Hid (r = ((callE x.call == 0) && confB x.conf)) := Lib.hid (by rw [← Hr.out]; simp [rightE, k1])
  clear k0 k1
  go_enter Tryz.func110, Tryz.ntmps110
  go_wp2_with fail
  rw [Hwb.out]
  refine (r_call x.call _).mono ?_
  rintro e w1 ⟨rfl, hE1⟩
  have y0 := (Hcs.out w1 hE1) 0 _ rfl
  have y1 := (Hcs.out w1 hE1) 1 _ rfl
  have y2 := (Hcs.out w1 hE1) 2 _ rfl
  have y3 := (Hcs.out w1 hE1) 3 _ rfl
  have y4 := (Hcs.out w1 hE1) 4 _ rfl
  have y5 := (Hcs.out w1 hE1) 5 _ rfl
  have y6 := (Hcs.out w1 hE1) 6 _ rfl
  have y7 := (Hcs.out w1 hE1) 7 _ rfl
  have y8 := (Hcs.out w1 hE1) 8 _ rfl
  have y9 := (Hcs.out w1 hE1) 9 _ rfl
  have y10 := (Hcs.out w1 hE1) 10 _ rfl
  have y11 := (Hcs.out w1 hE1) 11 _ rfl
  have y12 := (Hcs.out w1 hE1) 12 _ rfl
  have y13 := (Hcs.out w1 hE1) 13 _ rfl
  have y14 := (Hcs.out w1 hE1) 14 _ rfl
  have y15 := (Hcs.out w1 hE1) 15 _ rfl
  have HE1 := Lib.hid (HE.out.ext hE1)
  clear hE1
  rcases hn : (callE x.call == 0) with _ | _
  ·
   go_wp2
   go_ret
   exact ⟨by rw [Ho.out, hn]; rfl, HE1.out⟩
  go_wp2_with fail
  refine (r8_zconf x.conf _).mono ?_
  rintro e w2 ⟨rfl, hE2⟩
  have HE2 := Lib.hid (HE1.out.ext hE2)
  clear hE2
  go_wp2
  go_ret
  exact ⟨by rw [Ho.out, hn, confB_eq]; rfl, HE2.out⟩
 have e1 : (x.kind == 1) = false := by simpa using k1
 by_cases k2 : x.kind = 2
 ·
  have e2 : (x.kind == 2) = true := by simpa using k2
  have Ho : Hid (r = (eqCall x.call ACall.zero && confOk x.conf)) := Lib.hid (by rw [← Hr.out]; simp [rightE, k2, noCall_eq])
  clear k0 k1 k2
  go_enter Tryz.func110, Tryz.ntmps110
  go_wp2_with fail
  rw [Hwb.out]
  refine (r8_zcall x.call _).mono ?_
  rintro e w1 ⟨rfl, hE1⟩
  have y0 := (Hcs.out w1 hE1) 0 _ rfl
  have y1 := (Hcs.out w1 hE1) 1 _ rfl
  have y2 := (Hcs.out w1 hE1) 2 _ rfl
  have y3 := (Hcs.out w1 hE1) 3 _ rfl
  have y4 := (Hcs.out w1 hE1) 4 _ rfl
  have y5 := (Hcs.out w1 hE1) 5 _ rfl
  have y6 := (Hcs.out w1 hE1) 6 _ rfl
  have y7 := (Hcs.out w1 hE1) 7 _ rfl
  have y8 := (Hcs.out w1 hE1) 8 _ rfl
  have y9 := (Hcs.out w1 hE1) 9 _ rfl
  have y10 := (Hcs.out w1 hE1) 10 _ rfl
  have y11 := (Hcs.out w1 hE1) 11 _ rfl
  have y12 := (Hcs.out w1 hE1) 12 _ rfl
  have y13 := (Hcs.out w1 hE1) 13 _ rfl
  have y14 := (Hcs.out w1 hE1) 14 _ rfl
  have y15 := (Hcs.out w1 hE1) 15 _ rfl
  have HE1 := Lib.hid (HE.out.ext hE1)
  clear hE1
  rcases hn : eqCall x.call ACall.zero with _ | _
  ·
   go_wp2
   go_ret
   exact ⟨by rw [Ho.out, hn]; rfl, HE1.out⟩
  go_wp2_with fail
  refine (r_conf x.conf _).mono ?_
  rintro e w2 ⟨rfl, hE2⟩
  have HE2 := Lib.hid (HE1.out.ext hE2)
  clear hE2
  rcases hc : confOk x.conf with _ | _
  ·
   skip
   go_wp2
   go_ret
   exact ⟨by rw [Ho.out, hc, Bool.and_false]; rfl, HE2.out⟩
  ·
   skip
   go_wp2
   go_ret
   exact ⟨by rw [Ho.out, hc, hn]; rfl, HE2.out⟩
 ·
  have e2 : (x.kind == 2) = false := by simpa using k2
  have Ho : Hid (r = false) := Lib.hid (by rw [← Hr.out]; simp [rightE, k0, k1, k2])
  clear k0 k1 k2
  go_enter Tryz.func110, Tryz.ntmps110
  go_wp2
  rw [Hwb.out]
  go_ret
  exact ⟨by rw [Ho.out]; rfl, HE.out⟩
end Go.Proofs.YtjhnlncgmejkcaaGreat
