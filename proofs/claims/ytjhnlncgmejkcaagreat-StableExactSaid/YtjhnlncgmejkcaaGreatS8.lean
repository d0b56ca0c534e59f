/-
  Contracts of package wire's writer: hard states (wire.Hard). Conditions: as each theorem names them.
-/
import Derived.Test.YtjhnlncgmejkcaaGreatS7
import Derived.Test.YtjhnlncgmejkcaaGreatS3
import Derived.Test.YtjhnlncgmejkcaaGreatS4
import Derived.Test.YtjhnlncgmejkcaaGreatMem
import Derived.Laws.CopyOwn
import Derived.Lib.AppendZerosOnto
import Derived.Lib.Overlaps
import Derived.Test.YtjhnlncgmejkcaaGreatS1
import Derived.Test.YtjhnlncgmejkcaaGreatS5
import Derived.Test.YtjhnlncgmejkcaaGreatS6
set_option maxRecDepth 100000
set_option maxHeartbeats 2000000
namespace Go.Proofs.YtjhnlncgmejkcaaGreat
set_option linter.unusedSimpArgs false
open Go.RowKit
def zY (w : World) (T : Nat → Prop) (sv lv : Value) (h : zC) : Prop := Byt w T sv h.snap ∧ zbJ w T lv h.log
theorem zY.mod {w w' : World} {S T : Nat → Prop} {sv lv : Value} {h : zC} (hh : zY w T sv lv h) (hm : Mod S w w') (hd : ∀ g, T g → ¬ S g) : zY w' T sv lv h := ⟨hh.1.mod hm hd, hh.2.mod hm hd⟩
def zC.ok (h : zC) : Prop := I64 h.term ∧ I64 h.vote ∧ I64 h.base ∧ I64 h.baseTerm ∧ h.conf.ok
abbrev zC.cells (h : zC) (sv lv : Value) : List Value := [.int .i64 h.term, .int .i64 h.vote, .int .i64 h.base, .int .i64 h.baseTerm, .int .i64 h.conf.full, .int .i64 h.conf.wit, .int .i64 h.conf.learn, .int .i64 h.conf.learnWit, sv, lv]
def zC.w (h : zC) : WO := wHard h.term h.vote h.base h.baseTerm h.conf h.snap h.log
theorem zA : Str Tryz.prog 34 10 := ⟨⟨_, Tryz.underlying34⟩, by kernel_rfl⟩
theorem wi_hard (w : World) (S T : Nat → Prop) (b : Nat) (bs : List UInt8) (long : Bool) (h : zC) (sv lv : Value) (hs : St w S b bs long) (hv : zY w T sv lv h) (ho : h.ok) (hd : ∀ g, T g → ¬ S g) (hT : ∀ g, T g → g < w.heap.size) (hb : bs.length + 70000 * h.log.length ≤ 895000000) (hll : h.log.length ≤ 12700) :
  Calls Tryz.prog 128 #[.pointer (some ⟨b, 0, none⟩), .agg #[.int .i64 h.term, .int .i64 h.vote, .int .i64 h.base, .int .i64 h.baseTerm, .int .i64 h.conf.full, .int .i64 h.conf.wit, .int .i64 h.conf.learn, .int .i64 h.conf.learnWit, sv, lv]] w (znQ w S b bs long h.w) := by
 obtain ⟨hsnap, hents⟩ := hv
 obtain ⟨o1, o2, o3, o4, hconf⟩ := ho
 obtain ⟨As, cs, hsv⟩ := hsnap.form
 obtain ⟨Ae, ce, hlv⟩ := hents.1.form
 obtain ⟨wb, hwb⟩ : ∃ wb, wb = w.alloc (.cells #[.int .i64 h.term, .int .i64 h.vote, .int .i64 h.base, .int .i64 h.baseTerm, .int .i64 h.conf.full, .int .i64 h.conf.wit, .int .i64 h.conf.learn, .int .i64 h.conf.learnWit, sv, lv] 34) := ⟨_, rfl⟩
 have hE : Ext w wb := by rw [hwb]; exact (Mod.refl _ w).alloc _
 have hSb := hs.of_ext hE
 have hnS : ¬ S w.heap.size := fun h1 => by have := hs.2 _ h1; omega
 have hcs : ∀ w1, Mod S wb w1 → ∀ j u, (#[.int .i64 h.term, .int .i64 h.vote, .int .i64 h.base, .int .i64 h.baseTerm, .int .i64 h.conf.full, .int .i64 h.conf.wit, .int .i64 h.conf.learn, .int .i64 h.conf.learnWit, sv, lv] : Array Value)[j]? = some u → w1.cell? ⟨w.heap.size, j, none⟩ = some u := by
  intro w1 hm j u hu
  refine hm.cell ?_ hnS
  rw [hwb, cell_of_row _ _ _ _ _ _ (heap_alloc_new w _)]
  exact hu
 have hsz : wb.heap.size = w.heap.size + 1 := by rw [hwb]; simp
 have hdS : ∀ S1 : Nat → Prop, (∀ k, S1 k → S k ∨ wb.heap.size ≤ k) → ∀ g, T g → ¬ S1 g := fun S1 hg g hg1 hg2 => by
  rcases hg g hg2 with h | h
  · exact hd g hg1 h
  have := hT g hg1; omega
 have Hwb := hJ hwb
 have Hcs := hJ hcs
 have Hsz := hJ hsz
 have HdS := hJ hdS
 have Hconf := hJ hconf
 have Hints : Hid (∀ n ∈ [h.term, h.vote, h.base, h.baseTerm], I64 n) := hJ (by simp; exact ⟨o1, o2, o3, o4⟩)
 have Hsnap := hJ hsnap
 have Hents := hJ hents
 have hlI := yM [h.term, h.vote, h.base, h.baseTerm]
 have Hs : Hid (h.w = (((zcH (zQ [h.term, h.vote, h.base, h.baseTerm])).seq (zgU h.conf)).seq (zbT h.snap)).seq (zhN h.log)) := hJ rfl
 obtain ⟨I, hI⟩ : ∃ I, zQ [h.term, h.vote, h.base, h.baseTerm] = I := ⟨_, rfl⟩
 rw [hI] at Hs hlI
 have HI := hJ hI
 clear hwb hcs hsz hdS hconf hI hsnap hents o1 o2 o3 o4
 simp only [List.length_cons, List.length_nil] at hlI
 have Hsv := hJ hsv
 have Hlv := hJ hlv
 clear hsv hlv
 go_enter Tryz.func128, Tryz.ntmps128
 go_wp2_with fail
 rw [← Hwb.out]
 have hE1 : Ext wb (wb.alloc (.cells #[.int .i64 h.term, .int .i64 h.vote, .int .i64 h.base, .int .i64 h.baseTerm] 3)) := (Mod.refl _ wb).alloc _
 have hsl := zbU wb [h.term, h.vote, h.base, h.baseTerm] 3 #[.int .i64 h.term, .int .i64 h.vote, .int .i64 h.base, .int .i64 h.baseTerm] rfl 4 rfl (by omega)
 rw [Hsz.out] at hsl
 refine (zh2 _ S _ b bs long _ [h.term, h.vote, h.base, h.baseTerm] (hSb.of_ext hE1) hsl (fun g h1 h2 => by have := hSb.2 g h2; rw [Hsz.out] at this; omega) Hints.out (by simp) (by omega)).mono ?_
 rintro e w3 ⟨hm1, rfl, S3, hS3, hg1⟩
 rw [HI.out, Bool.or_false] at hS3
 have hm3 : Mod S wb w3 := (hE1.mod S).self hm1
 have Hg3 : Hid (∀ k, S3 k → S k ∨ wb.heap.size ≤ k) := hJ (fun k hk => (hg1 k hk).imp id (fun h => Nat.le_trans hE1.size h))
 clear hg1 hE1 hsl hm1
 have z4 := Hcs.out w3 hm3 4 _ rfl
 have z5 := Hcs.out w3 hm3 5 _ rfl
 have z6 := Hcs.out w3 hm3 6 _ rfl
 have z7 := Hcs.out w3 hm3 7 _ rfl
 go_wp2_with fail
 refine (zoY w3 S3 b _ _ h.conf hS3 Hconf.out (by simp; omega)).mono ?_
 rintro e w4 ⟨hm4, rfl, S4, hS4, hg4⟩
 have hm4 := zb6 hm3 hm4 Hg3.out
 have Hg4 := hJ (jW Hg3.out hg4 hm3.size)
 have hlc := yM [h.conf.full, h.conf.wit, h.conf.learn, h.conf.learnWit]
 obtain ⟨C4, hC4⟩ : ∃ C, zQ [h.conf.full, h.conf.wit, h.conf.learn, h.conf.learnWit] = C := ⟨_, rfl⟩
 rw [hC4] at hS4 hlc
 have HC4 : Hid (zgU h.conf = some (C4, false)) := hJ (by unfold zgU zcH; rw [hC4])
 simp only [List.length_cons, List.length_nil] at hlc
 clear hg4 z4 z5 z6 z7 hC4
 have u8 := Hcs.out w4 hm4 8 _ rfl
 have hmw4 : Mod S w w4 := (hE.mod S).self hm4
 have hsn4 := Hsnap.out.mod hmw4 hd
 have hnS4 : ¬ S4 w.heap.size := fun h1 => by
  rcases Hg4.out _ h1 with h2 | h2
  · exact hnS h2
  rw [Hsz.out] at h2; omega
 go_wp2_with fail
 go_region_held3 (fun W => W.cell? ⟨w.heap.size, 8, none⟩ = some sv) (first | go_keep | exact hy)
  ((go_at_call 168
    refine (zm1 w4.drew S4 T b _ h.snap _ _ hS4.1 (by simp; omega) hsn4 (HdS.out S4 Hg4.out)).mono ?_
    rintro e w5 ⟨rfl, ⟨D, L, hTx, hW5⟩, hm5⟩
    have HT := hJ hTx
    clear hTx
    have hy : w5.cell? ⟨w.heap.size, 8, none⟩ = some sv := hm5.cell u8 hnS4))
 obtain ⟨S5, hS5, hg5⟩ := zh1 hW5
 have hS5 : St w5 S5 b (bs ++ ((I ++ C4) ++ D)) (long || L) := by simpa [Bool.or_assoc] using hS5
 have hDl := zcM _ _ _ HT.out
 have hm5 := zb6 hm4.drew hm5 Hg4.out
 have Hg5 := hJ (jW Hg4.out hg5 hm4.size)
 have Hd : Hid (h.w = WO.seq (some ((I ++ C4) ++ D, L)) (zhN h.log)) := hJ (by rw [Hs.out, HC4.out, HT.out]; simp [zcH, xA])
 have v9 := Hcs.out w5 hm5 9 _ rfl
 have hmw5 : Mod S w w5 := (hE.mod S).self hm5
 have hen5 := Hents.out.mod hmw5 hd
 clear hg5 u8 hsn4
 go_wp2_with fail
 refine (zm3 w5 S5 T b _ _ lv h.log hS5 hen5 (HdS.out S5 Hg5.out) hll (by simp; omega)).mono ?_
 rintro e w6 ⟨hm6, h6⟩
 have hm6 := zb6 hm5 hm6 Hg5.out
 rcases hL : zhN h.log with _ | ⟨D6, L6⟩
 ·
  rw [hL] at h6
  subst h6
  exact ⟨rfl, xV hE hm6 (by rw [Hd.out, hL]; rfl)⟩
 rw [hL] at h6
 obtain ⟨rfl, S6, hS6, hg6⟩ := h6
 have hF := jX (o := h.w) (d := ((I ++ C4) ++ D) ++ D6) (l := L || L6) hE hm6 (by simpa [Bool.or_assoc] using hS6) (jW Hg5.out hg6 hm5.size) (by rw [Hd.out, hL]; rfl)
 have HF := hJ hF
 clear hF hL hS6 hg6 v9
 go_wp2
 go_end0
 exact HF.out
theorem zo1 (h : zC) (hl : h.log.length ≤ 12700) : ∀ d l, h.w = some (d, l) → d.length ≤ 900000000 := by
 intro d l hh
 have h1 := yM [h.term, h.vote, h.base, h.baseTerm]
 have h2 := yM [h.conf.full, h.conf.wit, h.conf.learn, h.conf.learnWit]
 have := zaA (zaA (zaA (zaW h1) (zaW h2)) (zcM h.snap)) (zaA (zaW (zV h.log.length)) (zeY h.log)) d l hh
 simp at this
 have : h.log.length * 70000 ≤ 12700 * 70000 := Nat.mul_le_mul_right _ hl
 omega
theorem wo_hard1 (W : World) (T : Nat → Prop) (p b : Nat) (h : zC) (sv lv : Value) (hp : W.heap[p]? = some (.cells #[.int .i64 h.term, .int .i64 h.vote, .int .i64 h.base, .int .i64 h.baseTerm, .int .i64 h.conf.full, .int .i64 h.conf.wit, .int .i64 h.conf.learn, .int .i64 h.conf.learnWit, sv, lv] 34 (0, 0))) (hv : zY W T sv lv h) (ho : h.ok) (hs : St W (fun k => k = b) b [] false) (hT : ∀ g, T g → g < W.heap.size ∧ g ≠ b) (hl : h.log.length ≤ 12700) :
  Calls Tryz.prog 127 #[.pointer (some ⟨b, 0, none⟩), .pointer (some ⟨p, 0, none⟩)] W (znQ W (fun k => k = b) b [] false h.w) := by
 have hld := zF (P := Tryz.prog) (o := 0) (cs := h.cells sv lv) zA hp rfl (fun j u hu => by rw [Nat.zero_add]; exact hu)
 have HV := hJ hv
 have HT := hJ hT
 clear hp hv hT
 go_enter Tryz.func127, Tryz.ntmps127
 go_wp2_with (refine zG rfl 34 _ rfl _ _ rfl hld ?_)
 clear hld
 refine (wi_hard W (fun k => k = b) T b [] false h sv lv hs HV.out ho (fun g hg => (HT.out g hg).2) (fun g hg => (HT.out g hg).1) (by simp; omega) hl).mono ?_
 rintro e w1 ⟨hm, h1⟩
 rcases hV : h.w with _ | ⟨D, L⟩
 ·
  rw [hV] at h1
  subst h1
  exact ⟨rfl, xV (Mod.refl _ W) hm hV⟩
 rw [hV] at h1
 obtain ⟨rfl, S1, hS1, hg1⟩ := h1
 have HS1 := hJ hS1
 have Hg1 := hJ hg1
 have HVV := hJ hV
 clear hS1 hg1 hV
 go_wp2
 go_end0
 exact jX (Mod.refl _ W) hm HS1.out Hg1.out HVV.out
theorem wo_hard (w : World) (T : Nat → Prop) (h : zC) (sv lv : Value) (hv : zY w T sv lv h) (ho : h.ok) (hT : ∀ g, T g → g < w.heap.size) (hl : h.log.length ≤ 12700) :
  Calls Tryz.prog 99 #[.agg #[.int .i64 h.term, .int .i64 h.vote, .int .i64 h.base, .int .i64 h.baseTerm, .int .i64 h.conf.full, .int .i64 h.conf.wit, .int .i64 h.conf.learn, .int .i64 h.conf.learnWit, sv, lv]] w (zbK w h.w) := by
 have hmf : ∀ (fn : Fn) (first cap : Array Value) (w : World), (Instr.makeFunc fn first cap).run Tryz.prog w = .ok (.func fn first cap) w := fun _ _ _ _ => rfl
 obtain ⟨W, hW⟩ : ∃ W, W = w.alloc (.cells #[.int .i64 h.term, .int .i64 h.vote, .int .i64 h.base, .int .i64 h.baseTerm, .int .i64 h.conf.full, .int .i64 h.conf.wit, .int .i64 h.conf.learn, .int .i64 h.conf.learnWit, sv, lv] 34) := ⟨_, rfl⟩
 have hE : Ext w W := by rw [hW]; exact (Mod.refl _ w).alloc _
 have hp : W.heap[w.heap.size]? = some (.cells #[.int .i64 h.term, .int .i64 h.vote, .int .i64 h.base, .int .i64 h.baseTerm, .int .i64 h.conf.full, .int .i64 h.conf.wit, .int .i64 h.conf.learn, .int .i64 h.conf.learnWit, sv, lv] 34 (0, 0)) := by rw [hW]; exact heap_alloc_new w _
 have hsz : W.heap.size = w.heap.size + 1 := by rw [hW]; simp
 have HW := hJ hW
 have HV := hJ hv
 have HT := hJ hT
 have Hp := hJ hp
 have Hsz := hJ hsz
 have Ho := hJ ho
 clear hW hv hT hp hsz ho
 go_enter Tryz.func99, Tryz.ntmps99
 go_wp2_with fail
 rw [← HW.out]
 refine (zfY 127 w.heap.size W h.w (fun _ _ => by kernel_rfl) (zo1 h hl) (fun W' b hE' hb hS => ?_)).mono ?_
 · exact wo_hard1 W' T w.heap.size b h sv lv (hE'.blk Hp.out id) ((HV.out.mod hE (fun _ _ => id)).mod hE' (fun _ _ => id)) Ho.out hS (fun g hg => by have := HT.out g hg; have := hE'.size; have := Hsz.out; omega) hl
 rintro e w1 ⟨v, rfl, hN, hE1⟩
 have HN := hJ hN
 have HE := hJ (Mod.ext hE hE1)
 clear hN hE1
 go_wp2
 go_ret2
 exact ⟨v, rfl, ⟨HN.out.1, fun g hg => by have := HN.out.2 g hg; have := Hsz.out; omega⟩, HE.out⟩
end Go.Proofs.YtjhnlncgmejkcaaGreat
namespace Go.Proofs.YtjhnlncgmejkcaaGreat
open Go.RowKit
def Row (w : World) (g : Nat) (e : TypeId) (cur : List Value) : Prop := w.heap[g]? = some (.cells cur.toArray e (0, 0))
theorem Mod.setRow {S : Nat → Prop} {a w : World} (h : Mod S a w) {g : Nat} (hg : a.heap.size ≤ g ∨ S g) (cs : Array Value) : Mod S a (w.setRow g cs) :=
 ⟨h.os, h.tape, h.output, by simpa using h.size, fun k hk hn => (setRow_other w g k cs (fun e => by
  subst e
  rcases hg with hg | hg
  · omega
  exact hn hg)).trans (h.block k hk hn)⟩
theorem zbB {w : World} {e : TypeId} {size n : Nat} {v : Value} {xs : List Value} (h : w.ownsRow 0 e size v n xs) :
  (v = .slice none 0 0 ∧ n = 0) ∨ ∃ g cap cur, v = .slice (some ⟨g, 0, none⟩) n cap ∧ Row w g e cur ∧ cur.length = cap * size ∧ n ≤ cap ∧ cap ≤ maxLen ∧ cur.take (n * size) = xs := by
 rcases h.2 with h1 | ⟨g, cap, cur, rfl, _, hg, hn, hm, hs, ht⟩
 · exact .inl h1
 exact .inr ⟨g, cap, cur.toList, rfl, by unfold Row; simpa using hg, by simpa using hs, hn, hm, ht⟩
section
variable {P : Program} (w : World)
end
theorem zT {w : World} {e t : TypeId} {k n b g : Nat} {v : Value} {xs : List Value} {cs : Array Value} {q : Nat × Nat} (h : w.ownsRow 0 e k v n xs) (hg : v.ownBlock = some g) (hb : w.heap[b]? = some (.cells cs t q)) (ht : e ≠ t) : g ≠ b := by
 rintro rfl
 rcases zbB h with ⟨rfl, _⟩ | ⟨g', cap, cur, rfl, hR, _⟩
 · simp [Value.ownBlock] at hg
 simp [Value.ownBlock] at hg
 subst hg
 unfold Row at hR
 rw [hR] at hb
 injection hb with hb
 injection hb with _ hb
 exact ht hb
end Go.Proofs.YtjhnlncgmejkcaaGreat
namespace Go.Proofs.YtjhnlncgmejkcaaGreat
set_option linter.unusedSimpArgs false
open Go.RowKit
theorem zbV {w : World} {e t : TypeId} {k n k' n' g : Nat} {v v' : Value} {xs xs' : List Value} (h : w.ownsRow 0 e k v n xs) (h' : w.ownsRow 0 t k' v' n' xs') (ht : e ≠ t) (hg : v.ownBlock = some g) : v'.ownBlock ≠ some g := by
 intro hg'
 rcases zbB h' with ⟨rfl, _⟩ | ⟨g', cap, cur, rfl, hR, _⟩
 · simp [Value.ownBlock] at hg'
 simp [Value.ownBlock] at hg'
 subst hg'
 exact zT h hg hR ht rfl
theorem zbC : (Tryz.prog.info? 56).map (fun i => (i.zero, i.size, i.bytes)) = some (some (.agg #[.int .i64 0, .int .i64 0, .int .i64 0, .int .i64 0, .int .i64 0, .string ⟨#[]⟩, .int .i64 0, .float .f64 0, .string ⟨#[]⟩, .int .i64 0, .float .f64 0, .string ⟨#[]⟩, .int .i64 0, .int .i64 0, .int .i64 0, .int .i64 0]), 16, 152) := by kernel_rfl
theorem xX (l : List zI) : ∀ u ∈ l.flatMap zI.cells, u.oneCell' = true := by
 intro u hu
 obtain ⟨p, _, hp⟩ := List.mem_flatMap.1 hu
 simp only [zI.cells, List.mem_cons, List.not_mem_nil, or_false] at hp
 rcases hp with rfl | rfl | rfl | rfl | rfl | rfl | rfl | rfl | rfl | rfl | rfl | rfl | rfl | rfl | rfl | rfl <;> rfl
def zaX (w w' : World) (v : Value) (l : List zI) : Prop := w'.ownsRow 0 56 16 v l.length (l.flatMap zI.cells) ∧ (∀ x ∈ l, x.ok) ∧ ∀ g, v.ownBlock = some g → w.heap.size ≤ g
theorem zaX.ents {w w' : World} {v : Value} {l : List zI} (h : zaX w w' v l) : zbJ w' (fun g => v.ownBlock = some g) v l := ⟨Sl.of_own h.1 (fun _ h => h), h.2.1⟩
theorem jF {W w1 w2 : World} {S : Nat → Prop} {v : Value} {l : List zI} (h : zaX W w1 v l) (hm : Mod S w1 w2) (hd : ∀ g, v.ownBlock = some g → ¬ S g) : zaX W w2 v l := ⟨zU h.1 hm hd, h.2.1, h.2.2⟩
theorem jT {W w0 w1 : World} {v : Value} {l : List zI} (h : zaX w0 w1 v l) (hs : W.heap.size ≤ w0.heap.size) : zaX W w1 v l := ⟨h.1, h.2.1, fun g hg => Nat.le_trans hs (h.2.2 g hg)⟩
theorem zcE (W w : World) : zaX W w (.slice none 0 0) [] := ⟨World.ownsRow_nil _ _ _ _, by simp, by simp [Value.ownBlock]⟩
theorem newE_box {W w w' : World} {v : Value} {l : List zI} {b : Nat} {t : TypeId} {cs : Array Value} {q : Nat × Nat} (h : zaX W w v l) (hb : w.heap[b]? = some (.cells cs t q)) (hM : Mod (fun k => k = b) w w') (h1 : 56 ≠ t) : zaX W w' v l :=
 jF h hM (fun _ hg => zT h.1 hg hb h1)
theorem zaX.form {w w' : World} {v : Value} {l : List zI} (h : zaX w w' v l) : ∃ A c, v = .slice A l.length c := zN h.1
theorem zdX {W w w' : World} {v v' : Value} {l k : List zI} {n m q : Nat} (h : zaX W w v l) (hk : ∀ x ∈ k, x.ok) (hn : l.length = n) (hm : k.length = m) (ho : w'.ownsRow 0 56 16 v' (n + m) (l.flatMap zI.cells ++ k.flatMap zI.cells)) (hat : v'.ownBlock = v.ownBlock ∨ v'.ownBlock = some q) (hs : W.heap.size ≤ q) : zaX W w' v' (l ++ k) := by
 refine ⟨by rw [List.length_append, List.flatMap_append, hn, hm]; exact ho, fun x hx => ?_, fun g hg => ?_⟩
 ·
  rcases List.mem_append.1 hx with hx | hx
  · exact h.2.1 x hx
  exact hk x hx
 rcases hat with e | e <;> rw [e] at hg
 · exact h.2.2 g hg
 injection hg with hg; omega
theorem jG (w : World) (T : Nat → Prop) (v : Value) (l : List zI) (h : zbJ w T v l) (hl : l.length ≤ 1000000) :
  Calls Tryz.prog 77 #[v] w fun e w' => ∃ v', e = .returned v' ∧ zaX w w' v' l ∧ Ext w w' := by
 obtain ⟨i0, hi, hz0, hz1, hz2⟩ := info_parts zbC
 obtain ⟨n, hn⟩ : ∃ n, l.length = n := ⟨_, rfl⟩
 obtain ⟨A, c, rfl⟩ : ∃ A c, v = .slice A l.length c := by
  obtain ⟨_, A, c, e, _⟩ := h.1
  exact ⟨A, c, e⟩
 obtain ⟨h1, h2⟩ := h
 rw [hn] at hl h1 ⊢
 have Hn := hJ hn
 have H2 := hJ h2
 clear hn h2
 go_enter Tryz.func77, Tryz.ntmps77
 go_wp2_with (at_builtin; refine yA _ rfl _ _ 32 rfl 56 i0 _ 16 152 Tryz.underlying32 hi hz0 hz1 hz2 rfl (by omega) _ 0 [] rfl (World.ownsRow_nil _ _ _ _) T _ n (l.flatMap zI.cells) rfl h1 (xX l) (by simp only [maxLen]; omega) (by omega) ?_)
 intro v' w1 ho hgr hat
 have hE : Ext w w1 := (Mod.refl _ w).grown hgr (by simp [Value.ownBlock])
 have hN : zaX w w1 v' l := by
  refine ⟨by rw [Hn.out]; simpa using ho, H2.out, fun g hgg => ?_⟩
  rcases hat with e | e <;> rw [e] at hgg <;> simp [Value.ownBlock] at hgg <;> omega
 go_wp2
 go_ret
 exact ⟨v', rfl, hN, hE⟩
end Go.Proofs.YtjhnlncgmejkcaaGreat
namespace Go.Proofs.YtjhnlncgmejkcaaGreat
set_option linter.unusedSimpArgs false
open Go.RowKit
attribute [local go_sem high] zlP
theorem zlT (c : yK) (w : World) : Calls Tryz.prog 144 #[.agg #[.int .i64 c.client, .int .i64 c.seq, .int .i64 c.cmd.kind, .string c.cmd.key, .int .i64 c.cmd.old.kind, .float .f64 c.cmd.old.num, .string c.cmd.old.text, .int .i64 c.cmd.val.kind, .float .f64 c.cmd.val.num, .string c.cmd.val.text]] w fun e w' => e = .returned (.bool (jJ c yK.zero)) ∧ Ext w w' := by
 go_enter Tryz.func144, Tryz.ntmps144
 go_wp2_with fail
 refine (zoR c yK.zero _).mono ?_
 rintro e w1 ⟨rfl, hE⟩
 have HE := hJ (((Mod.refl (fun _ => False) w).alloc _).ext hE)
 clear hE
 go_wp2
 go_ret
 exact ⟨rfl, HE.out⟩
theorem zlU (c : yF) (w : World) : Calls Tryz.prog 145 #[.agg #[.int .i64 c.full, .int .i64 c.wit, .int .i64 c.learn, .int .i64 c.learnWit]] w fun e w' => e = .returned (.bool (xI c yF.zero)) ∧ Ext w w' := by
 go_enter Tryz.func145, Tryz.ntmps145
 go_wp2_with fail
 refine (zi1 c yF.zero _).mono ?_
 rintro e w1 ⟨rfl, hE⟩
 have HE := hJ (((Mod.refl (fun _ => False) w).alloc _).ext hE)
 clear hE
 go_wp2
 go_ret
 exact ⟨rfl, HE.out⟩
theorem l_entry (x : zI) (w : World) : Calls Tryz.prog 98 #[.agg #[.int .i64 x.term, .int .i64 x.kind, .int .i64 x.call.client, .int .i64 x.call.seq, .int .i64 x.call.cmd.kind, .string x.call.cmd.key, .int .i64 x.call.cmd.old.kind, .float .f64 x.call.cmd.old.num, .string x.call.cmd.old.text, .int .i64 x.call.cmd.val.kind, .float .f64 x.call.cmd.val.num, .string x.call.cmd.val.text, .int .i64 x.conf.full, .int .i64 x.conf.wit, .int .i64 x.conf.learn, .int .i64 x.conf.learnWit]] w fun e w' => e = .returned (.bool (xB x)) ∧ Ext w w' := by
 obtain ⟨wb, hwb⟩ : ∃ wb, w.alloc (.cells #[.int .i64 x.term, .int .i64 x.kind, .int .i64 x.call.client, .int .i64 x.call.seq, .int .i64 x.call.cmd.kind, .string x.call.cmd.key, .int .i64 x.call.cmd.old.kind, .float .f64 x.call.cmd.old.num, .string x.call.cmd.old.text, .int .i64 x.call.cmd.val.kind, .float .f64 x.call.cmd.val.num, .string x.call.cmd.val.text, .int .i64 x.conf.full, .int .i64 x.conf.wit, .int .i64 x.conf.learn, .int .i64 x.conf.learnWit] 56) = wb := ⟨_, rfl⟩
 have hE : Ext w wb := by rw [← hwb]; exact (Mod.refl _ w).alloc _
 have hcs : ∀ w1, Ext wb w1 → ∀ j u, x.cells[j]? = some u → w1.cell? ⟨w.heap.size, j, none⟩ = some u := by
  intro w1 hm j u hu
  refine hm.cell ?_ id
  rw [← hwb, cell_of_row _ _ _ _ _ _ (heap_alloc_new w _)]
  simpa using hu
 obtain ⟨r, hr⟩ : ∃ r, xB x = r := ⟨_, rfl⟩
 rw [hr]
 have Hwb := hJ hwb
 have Hcs := hJ hcs
 have Hr := hJ hr
 have HE := hJ hE
 clear hwb hcs hr hE
 by_cases k0 : x.kind = 0
 ·
  have e0 : (x.kind == 0) = true := by simpa using k0
  have Ho : Hid (r = (yV x.call && zcI x.conf)) := hJ (by rw [← Hr.out]; simp [xB, k0])
  clear k0
  go_enter Tryz.func98, Tryz.ntmps98
  go_wp2_with fail
  rw [Hwb.out]
  refine (zlM x.call _).mono ?_
  rintro e w1 ⟨rfl, hE1⟩
  have y0 := (Hcs.out w1 hE1) 0 _ rfl
  have y1 := (Hcs.out w1 hE1) 1 _ rfl
  have y2 := (Hcs.out w1 hE1) 2 _ rfl
  have y3 := (Hcs.out w1 hE1) 3 _ rfl
  have y4 := (Hcs.out w1 hE1) 4 _ rfl
  have y5 := (Hcs.out w1 hE1) 5 _ rfl
  have y6 := (Hcs.out w1 hE1) 6 _ rfl
  have y7 := (Hcs.out w1 hE1) 7 _ rfl
  have y8 := (Hcs.out w1 hE1) 8 _ rfl
  have y9 := (Hcs.out w1 hE1) 9 _ rfl
  have y10 := (Hcs.out w1 hE1) 10 _ rfl
  have y11 := (Hcs.out w1 hE1) 11 _ rfl
  have y12 := (Hcs.out w1 hE1) 12 _ rfl
  have y13 := (Hcs.out w1 hE1) 13 _ rfl
  have y14 := (Hcs.out w1 hE1) 14 _ rfl
  have y15 := (Hcs.out w1 hE1) 15 _ rfl
  have HE1 := hJ (HE.out.ext hE1)
  clear hE1
  rcases hn : yV x.call with _ | _
  · go_wp2
    go_ret
    exact ⟨by rw [Ho.out, hn]; rfl, HE1.out⟩
  rcases hc : zcI x.conf with _ | _
  · go_wp2
    go_ret
    exact ⟨by rw [Ho.out, hc, Bool.and_false]; rfl, HE1.out⟩
  go_wp2
  go_ret
  exact ⟨by rw [Ho.out, hc, hn]; rfl, HE1.out⟩
 have e0 : (x.kind == 0) = false := by simpa using k0
 by_cases k1 : x.kind = 1
 ·
  have e1 : (x.kind == 1) = true := by simpa using k1
  have Ho : Hid (r = ((zeL x.call == 0) && zcI x.conf)) := hJ (by rw [← Hr.out]; simp [xB, k1])
  clear k0 k1
  go_enter Tryz.func98, Tryz.ntmps98
  go_wp2_with fail
  rw [Hwb.out]
  refine (s_right x.call _).mono ?_
  rintro e w1 ⟨rfl, hE1⟩
  have y0 := (Hcs.out w1 hE1) 0 _ rfl
  have y1 := (Hcs.out w1 hE1) 1 _ rfl
  have y2 := (Hcs.out w1 hE1) 2 _ rfl
  have y3 := (Hcs.out w1 hE1) 3 _ rfl
  have y4 := (Hcs.out w1 hE1) 4 _ rfl
  have y5 := (Hcs.out w1 hE1) 5 _ rfl
  have y6 := (Hcs.out w1 hE1) 6 _ rfl
  have y7 := (Hcs.out w1 hE1) 7 _ rfl
  have y8 := (Hcs.out w1 hE1) 8 _ rfl
  have y9 := (Hcs.out w1 hE1) 9 _ rfl
  have y10 := (Hcs.out w1 hE1) 10 _ rfl
  have y11 := (Hcs.out w1 hE1) 11 _ rfl
  have y12 := (Hcs.out w1 hE1) 12 _ rfl
  have y13 := (Hcs.out w1 hE1) 13 _ rfl
  have y14 := (Hcs.out w1 hE1) 14 _ rfl
  have y15 := (Hcs.out w1 hE1) 15 _ rfl
  have HE1 := hJ (HE.out.ext hE1)
  clear hE1
  rcases hn : (zeL x.call == 0) with _ | _
  · go_wp2
    go_ret
    exact ⟨by rw [Ho.out, hn]; rfl, HE1.out⟩
  rcases hc : zcI x.conf with _ | _
  · go_wp2
    go_ret
    exact ⟨by rw [Ho.out, hc, Bool.and_false]; rfl, HE1.out⟩
  go_wp2
  go_ret
  exact ⟨by rw [Ho.out, hc, hn]; rfl, HE1.out⟩
 have e1 : (x.kind == 1) = false := by simpa using k1
 by_cases k2 : x.kind = 2
 ·
  have e2 : (x.kind == 2) = true := by simpa using k2
  have Ho : Hid (r = (yV x.call && jK x.conf)) := hJ (by rw [← Hr.out]; simp [xB, k2])
  clear k0 k1 k2
  go_enter Tryz.func98, Tryz.ntmps98
  go_wp2_with fail
  rw [Hwb.out]
  refine (zlM x.call _).mono ?_
  rintro e w1 ⟨rfl, hE1⟩
  have y0 := (Hcs.out w1 hE1) 0 _ rfl
  have y1 := (Hcs.out w1 hE1) 1 _ rfl
  have y2 := (Hcs.out w1 hE1) 2 _ rfl
  have y3 := (Hcs.out w1 hE1) 3 _ rfl
  have y4 := (Hcs.out w1 hE1) 4 _ rfl
  have y5 := (Hcs.out w1 hE1) 5 _ rfl
  have y6 := (Hcs.out w1 hE1) 6 _ rfl
  have y7 := (Hcs.out w1 hE1) 7 _ rfl
  have y8 := (Hcs.out w1 hE1) 8 _ rfl
  have y9 := (Hcs.out w1 hE1) 9 _ rfl
  have y10 := (Hcs.out w1 hE1) 10 _ rfl
  have y11 := (Hcs.out w1 hE1) 11 _ rfl
  have y12 := (Hcs.out w1 hE1) 12 _ rfl
  have y13 := (Hcs.out w1 hE1) 13 _ rfl
  have y14 := (Hcs.out w1 hE1) 14 _ rfl
  have y15 := (Hcs.out w1 hE1) 15 _ rfl
  have HE1 := hJ (HE.out.ext hE1)
  clear hE1
  rcases hn : yV x.call with _ | _
  · go_wp2
    go_ret
    exact ⟨by rw [Ho.out, hn]; rfl, HE1.out⟩
  go_wp2_with fail
  refine (zkG x.conf _).mono ?_
  rintro e w2 ⟨rfl, hE2⟩
  have HE2 := hJ (HE1.out.ext hE2)
  clear hE2
  rcases hc : jK x.conf with _ | _
  ·
   rw [if_neg (by simp)]
   go_wp2
   go_ret
   exact ⟨by rw [Ho.out, hc, Bool.and_false]; rfl, HE2.out⟩
  rw [if_pos rfl]
  go_wp2
  go_ret
  exact ⟨by rw [Ho.out, hc, hn]; rfl, HE2.out⟩
 have e2 : (x.kind == 2) = false := by simpa using k2
 have Ho : Hid (r = false) := hJ (by rw [← Hr.out]; simp [xB, k0, k1, k2])
 clear k0 k1 k2
 go_enter Tryz.func98, Tryz.ntmps98
 go_wp2
 rw [Hwb.out]
 go_ret
 exact ⟨by rw [Ho.out]; rfl, HE.out⟩
theorem zlV (x : zI) (w : World) : Calls Tryz.prog 110 #[.agg #[.int .i64 x.term, .int .i64 x.kind, .int .i64 x.call.client, .int .i64 x.call.seq, .int .i64 x.call.cmd.kind, .string x.call.cmd.key, .int .i64 x.call.cmd.old.kind, .float .f64 x.call.cmd.old.num, .string x.call.cmd.old.text, .int .i64 x.call.cmd.val.kind, .float .f64 x.call.cmd.val.num, .string x.call.cmd.val.text, .int .i64 x.conf.full, .int .i64 x.conf.wit, .int .i64 x.conf.learn, .int .i64 x.conf.learnWit]] w fun e w' => e = .returned (.bool (xB x)) ∧ Ext w w' := by
 obtain ⟨wb, hwb⟩ : ∃ wb, w.alloc (.cells #[.int .i64 x.term, .int .i64 x.kind, .int .i64 x.call.client, .int .i64 x.call.seq, .int .i64 x.call.cmd.kind, .string x.call.cmd.key, .int .i64 x.call.cmd.old.kind, .float .f64 x.call.cmd.old.num, .string x.call.cmd.old.text, .int .i64 x.call.cmd.val.kind, .float .f64 x.call.cmd.val.num, .string x.call.cmd.val.text, .int .i64 x.conf.full, .int .i64 x.conf.wit, .int .i64 x.conf.learn, .int .i64 x.conf.learnWit] 56) = wb := ⟨_, rfl⟩
 have hE : Ext w wb := by rw [← hwb]; exact (Mod.refl _ w).alloc _
 have hcs : ∀ w1, Ext wb w1 → ∀ j u, x.cells[j]? = some u → w1.cell? ⟨w.heap.size, j, none⟩ = some u := by
  intro w1 hm j u hu
  refine hm.cell ?_ id
  rw [← hwb, cell_of_row _ _ _ _ _ _ (heap_alloc_new w _)]
  simpa using hu
 obtain ⟨r, hr⟩ : ∃ r, xB x = r := ⟨_, rfl⟩
 rw [hr]
 have Hwb := hJ hwb
 have Hcs := hJ hcs
 have Hr := hJ hr
 have HE := hJ hE
 clear hwb hcs hr hE
 by_cases k0 : x.kind = 0
 ·
  have e0 : (x.kind == 0) = true := by simpa using k0
  have Ho : Hid (r = (jJ x.call yK.zero && zcI x.conf)) := hJ (by rw [← Hr.out]; simp [xB, k0, zdP])
  clear k0
  go_enter Tryz.func110, Tryz.ntmps110
  go_wp2_with fail
  rw [Hwb.out]
  refine (zlT x.call _).mono ?_
  rintro e w1 ⟨rfl, hE1⟩
  have y0 := (Hcs.out w1 hE1) 0 _ rfl
  have y1 := (Hcs.out w1 hE1) 1 _ rfl
  have y2 := (Hcs.out w1 hE1) 2 _ rfl
  have y3 := (Hcs.out w1 hE1) 3 _ rfl
  have y4 := (Hcs.out w1 hE1) 4 _ rfl
  have y5 := (Hcs.out w1 hE1) 5 _ rfl
  have y6 := (Hcs.out w1 hE1) 6 _ rfl
  have y7 := (Hcs.out w1 hE1) 7 _ rfl
  have y8 := (Hcs.out w1 hE1) 8 _ rfl
  have y9 := (Hcs.out w1 hE1) 9 _ rfl
  have y10 := (Hcs.out w1 hE1) 10 _ rfl
  have y11 := (Hcs.out w1 hE1) 11 _ rfl
  have y12 := (Hcs.out w1 hE1) 12 _ rfl
  have y13 := (Hcs.out w1 hE1) 13 _ rfl
  have y14 := (Hcs.out w1 hE1) 14 _ rfl
  have y15 := (Hcs.out w1 hE1) 15 _ rfl
  have HE1 := hJ (HE.out.ext hE1)
  clear hE1
  rcases hn : jJ x.call yK.zero with _ | _
  · go_wp2
    go_ret
    exact ⟨by rw [Ho.out, hn]; rfl, HE1.out⟩
  go_wp2_with fail
  refine (zlU x.conf _).mono ?_
  rintro e w2 ⟨rfl, hE2⟩
  have HE2 := hJ (HE1.out.ext hE2)
  clear hE2
  go_wp2
  go_ret
  exact ⟨by rw [Ho.out, hn, zfA]; rfl, HE2.out⟩
 have e0 : (x.kind == 0) = false := by simpa using k0
 by_cases k1 : x.kind = 1
 ·
  have e1 : (x.kind == 1) = true := by simpa using k1
  have Ho : Hid (r = ((zeL x.call == 0) && zcI x.conf)) := hJ (by rw [← Hr.out]; simp [xB, k1])
  clear k0 k1
  go_enter Tryz.func110, Tryz.ntmps110
  go_wp2_with fail
  rw [Hwb.out]
  refine (r_call x.call _).mono ?_
  rintro e w1 ⟨rfl, hE1⟩
  have y0 := (Hcs.out w1 hE1) 0 _ rfl
  have y1 := (Hcs.out w1 hE1) 1 _ rfl
  have y2 := (Hcs.out w1 hE1) 2 _ rfl
  have y3 := (Hcs.out w1 hE1) 3 _ rfl
  have y4 := (Hcs.out w1 hE1) 4 _ rfl
  have y5 := (Hcs.out w1 hE1) 5 _ rfl
  have y6 := (Hcs.out w1 hE1) 6 _ rfl
  have y7 := (Hcs.out w1 hE1) 7 _ rfl
  have y8 := (Hcs.out w1 hE1) 8 _ rfl
  have y9 := (Hcs.out w1 hE1) 9 _ rfl
  have y10 := (Hcs.out w1 hE1) 10 _ rfl
  have y11 := (Hcs.out w1 hE1) 11 _ rfl
  have y12 := (Hcs.out w1 hE1) 12 _ rfl
  have y13 := (Hcs.out w1 hE1) 13 _ rfl
  have y14 := (Hcs.out w1 hE1) 14 _ rfl
  have y15 := (Hcs.out w1 hE1) 15 _ rfl
  have HE1 := hJ (HE.out.ext hE1)
  clear hE1
  rcases hn : (zeL x.call == 0) with _ | _
  · go_wp2
    go_ret
    exact ⟨by rw [Ho.out, hn]; rfl, HE1.out⟩
  go_wp2_with fail
  refine (zlU x.conf _).mono ?_
  rintro e w2 ⟨rfl, hE2⟩
  have HE2 := hJ (HE1.out.ext hE2)
  clear hE2
  go_wp2
  go_ret
  exact ⟨by rw [Ho.out, hn, zfA]; rfl, HE2.out⟩
 have e1 : (x.kind == 1) = false := by simpa using k1
 by_cases k2 : x.kind = 2
 ·
  have e2 : (x.kind == 2) = true := by simpa using k2
  have Ho : Hid (r = (jJ x.call yK.zero && jK x.conf)) := hJ (by rw [← Hr.out]; simp [xB, k2, zdP])
  clear k0 k1 k2
  go_enter Tryz.func110, Tryz.ntmps110
  go_wp2_with fail
  rw [Hwb.out]
  refine (zlT x.call _).mono ?_
  rintro e w1 ⟨rfl, hE1⟩
  have y0 := (Hcs.out w1 hE1) 0 _ rfl
  have y1 := (Hcs.out w1 hE1) 1 _ rfl
  have y2 := (Hcs.out w1 hE1) 2 _ rfl
  have y3 := (Hcs.out w1 hE1) 3 _ rfl
  have y4 := (Hcs.out w1 hE1) 4 _ rfl
  have y5 := (Hcs.out w1 hE1) 5 _ rfl
  have y6 := (Hcs.out w1 hE1) 6 _ rfl
  have y7 := (Hcs.out w1 hE1) 7 _ rfl
  have y8 := (Hcs.out w1 hE1) 8 _ rfl
  have y9 := (Hcs.out w1 hE1) 9 _ rfl
  have y10 := (Hcs.out w1 hE1) 10 _ rfl
  have y11 := (Hcs.out w1 hE1) 11 _ rfl
  have y12 := (Hcs.out w1 hE1) 12 _ rfl
  have y13 := (Hcs.out w1 hE1) 13 _ rfl
  have y14 := (Hcs.out w1 hE1) 14 _ rfl
  have y15 := (Hcs.out w1 hE1) 15 _ rfl
  have HE1 := hJ (HE.out.ext hE1)
  clear hE1
  rcases hn : jJ x.call yK.zero with _ | _
  · go_wp2
    go_ret
    exact ⟨by rw [Ho.out, hn]; rfl, HE1.out⟩
  go_wp2_with fail
  refine (zoV x.conf _).mono ?_
  rintro e w2 ⟨rfl, hE2⟩
  have HE2 := hJ (HE1.out.ext hE2)
  clear hE2
  rcases hc : jK x.conf with _ | _
  ·
   skip
   go_wp2
   go_ret
   exact ⟨by rw [Ho.out, hc, Bool.and_false]; rfl, HE2.out⟩
  skip
  go_wp2
  go_ret
  exact ⟨by rw [Ho.out, hc, hn]; rfl, HE2.out⟩
 have e2 : (x.kind == 2) = false := by simpa using k2
 have Ho : Hid (r = false) := hJ (by rw [← Hr.out]; simp [xB, k0, k1, k2])
 clear k0 k1 k2
 go_enter Tryz.func110, Tryz.ntmps110
 go_wp2
 rw [Hwb.out]
 go_ret
 exact ⟨by rw [Ho.out]; rfl, HE.out⟩
end Go.Proofs.YtjhnlncgmejkcaaGreat
