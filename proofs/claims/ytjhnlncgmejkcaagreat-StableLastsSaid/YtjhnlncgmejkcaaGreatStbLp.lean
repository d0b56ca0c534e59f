/-
 Plain: a save on a disk that may be tripped, and what is found behind a crash (T3). No program is walked here. Conditions: as each theorem names them.
-/
import Derived.Test.YtjhnlncgmejkcaaGreatS25
namespace Go.Proofs.YtjhnlncgmejkcaaGreat
set_option linter.unusedSimpArgs false

/-- What a disk has, tripped or not. -/
structure StA (D : ADisk) (g : AHard) (room : Int) (m : Nat) : Prop where
 on : D.off = false
 sy : D.synced = D.file.length
 kp : Kept D.file g
 hd : Held g
 rm : D.room = room
 lg : g.log.length ≤ m
theorem StP.sta {D : ADisk} {g : AHard} {room : Int} {m : Nat} (h : StP D g room m) : StA D g room m := ⟨h.wh.on, h.wh.sync, h.kp, h.hd, h.rm, h.lg⟩
theorem count_keeps (D : ADisk) : D.count.1.file = D.file ∧ D.count.1.synced = D.synced ∧ D.count.1.off = D.off ∧ D.count.1.room = D.room := by
 unfold ADisk.count
 split <;> exact ⟨rfl, rfl, rfl, rfl⟩
theorem crash_twice {D : ADisk} (h : D.off = false) (k k2 : Int) : ((D.crash k).crash k2).start = { D with trip := 0, file := D.file.take (D.left k), synced := D.left k } := by
 have h1 : D.crash k = { D with trip := 0, off := true, file := D.file.take (D.left k), synced := D.left k } := by
  unfold ADisk.crash
  rw [h]
  rfl
 rw [h1]
 unfold ADisk.crash ADisk.start
 simp only [if_true]
 rw [← h]
theorem crash_open {D : ADisk} {g first : AHard} {f : List UInt8} {qs : List (List UInt8)} {P : AHard → Prop} (h1 : D.off = false) (h2 : D.file = f ++ qs.flatMap frameP) (h3 : D.synced = f.length) (hq : ∀ q ∈ qs, q.length ≤ 16384) (hk : Kept f g)
  (hx : ∀ j, ∃ x, applyP g (qs.take j) = some x ∧ P x) (k k2 : Int) (hok : (((D.crash k).crash k2).start).ok) (hc : checkH first = true) :
  ∃ D2 x, openP ((D.crash k).crash k2).start first = (D2, some x, 0) ∧ Whole D2 ∧ Kept D2.file x ∧ D2.room = D.room ∧ P x := by
 rw [crash_twice h1] at hok ⊢
 obtain ⟨j, hj⟩ : ∃ j, D.left k = f.length + j := by
  have := left_le D k (by rw [h2, h3, List.length_append]; omega)
  exact ⟨D.left k - f.length, by omega⟩
 have ht : D.file.take (D.left k) = f ++ (qs.flatMap frameP).take j := by
  rw [h2, hj, List.take_append, List.take_of_length_le (by omega), Nat.add_sub_cancel_left]
 obtain ⟨i, r, hi, e, hr⟩ := frames_cut qs hq j
 obtain ⟨x, hx1, hx2⟩ := hx i
 obtain ⟨ps, p1, rfl, p2⟩ := hk
 have hK : Kept ((ps ++ qs.take i).flatMap frameP) x := ⟨ps ++ qs.take i, fun p hp => by
  rcases List.mem_append.1 hp with hp | hp
  ·
   exact p1 p hp
  ·
   exact hq p (List.mem_of_mem_take hp), rfl, by rw [made_append p2]; exact hx1⟩
 have hlen : D.left k ≤ D.file.length := (left_le D k (by rw [h2, h3, List.length_append]; omega)).2
 have h4 := open_torn (D := { D with trip := 0, file := D.file.take (D.left k), synced := D.left k }) (g := x) (first := first) (r := r) (f := (ps ++ qs.take i).flatMap frameP) h1 rfl hK (by simp only [ht, e, List.flatMap_append, List.append_assoc]) hr hok hc (fun _ => by simp only [List.length_take]; omega)
 exact ⟨_, x, h4, ⟨h1, rfl, rfl⟩, hK, rfl, hx2⟩
theorem sta_open {D : ADisk} {g first : AHard} {room : Int} {m : Nat} (h : StA D g room m) (k k2 : Int) (hok : (((D.crash k).crash k2).start).ok) (hc : checkH first = true) :
  ∃ D2 x, openP ((D.crash k).crash k2).start first = (D2, some x, 0) ∧ Whole D2 ∧ Kept D2.file x ∧ D2.room = D.room ∧ x = g :=
 crash_open (qs := []) (P := fun x => x = g) h.on (by simp) h.sy (by simp) h.kp (fun j => ⟨g, by rw [List.take_nil]; rfl, rfl⟩) k k2 hok hc
/-- What may be found. -/
def Found (g y x : AHard) : Prop := x = g ∨ (nearB g y = true ∧ Held y ∧ g.term ≤ y.term ∧ Btwn g y x)
theorem found_held {g y x : AHard} (hg : Held g) (h : Found g y x) : Held x ∧ x.log.length ≤ max g.log.length y.log.length := by
 rcases h with rfl | ⟨hn, hy, ht, h⟩
 ·
  exact ⟨hg, by omega⟩
 ·
  rcases h with rfl | rfl | ⟨i, h1, h2, rfl⟩
  ·
   exact ⟨hg, by omega⟩
  ·
   exact ⟨⟨hg.1.vote ht hy.1.t1 hy.1.v0 hy.1.v1, hg.2⟩, by simp only; omega⟩
  ·
   exact ⟨⟨hy.1.cut i, fun x hx => hy.2.1 x (List.mem_of_mem_take hx), hy.2.2.1, by simp only [List.length_take]; have := hy.2.2.2; omega⟩, by simp only [List.length_take]; omega⟩
/-- What a save on an armed disk leaves. -/
def SaveA (g y : AHard) (room : Int) (R : ADisk × Int) : Prop :=
 (R.2 = 0 ∧ R.1.off = false ∧ R.1.synced = R.1.file.length ∧ Kept R.1.file y ∧ R.1.room = room) ∨
 (R.2 ≠ 0 ∧ R.2 ≠ 4 ∧ R.1.off = false ∧ R.1.synced = R.1.file.length ∧ Kept R.1.file g ∧ R.1.room = room) ∨
 (R.2 = 4 ∧ ∀ (k2 : Int) (first : AHard), ((R.1.crash k2).start).ok → checkH first = true → ∃ D2 x, openP (R.1.crash k2).start first = (D2, some x, 0) ∧ Whole D2 ∧ Kept D2.file x ∧ D2.room = room ∧ Found g y x)
theorem StA.replace {D : ADisk} {g y : AHard} {room : Int} {m : Nat} (h : StA D g room m) {b : List UInt8} (hb : Kept b y) : SaveA g y room (D.replace b) := by
 obtain ⟨c1, c2, c3, c4⟩ := count_keeps D
 unfold ADisk.replace
 rw [if_neg (by rw [h.on]; simp)]
 split
 ·
  exact .inr (.inl ⟨by simp, by simp, h.on, h.sy, h.kp, h.rm⟩)
 split
 ·
  refine .inr (.inr ⟨rfl, fun k2 first hok hc => ?_⟩)
  have hA : StA D.count.1 g room m := ⟨by rw [c3]; exact h.on, by rw [c1, c2]; exact h.sy, by rw [c1]; exact h.kp, h.hd, by rw [c4]; exact h.rm, h.lg⟩
  obtain ⟨D2, x, e1, e2, e3, e4, e5⟩ := sta_open hA D.keep k2 hok hc
  exact ⟨D2, x, e1, e2, e3, by rw [e4, c4]; exact h.rm, .inl e5⟩
 ·
  exact .inl ⟨rfl, by simp only; rw [c3]; exact h.on, rfl, hb, by simp only; rw [c4]; exact h.rm⟩
theorem StA.anew {D : ADisk} {g y : AHard} {room : Int} {m : Nat} (h : StA D g room m) (hy : Held y) : SaveA g y room (anewP D y) := by
 unfold anewP
 split
 ·
  exact .inr (.inl ⟨by simp, by simp, h.on, h.sy, h.kp, h.rm⟩)
 ·
  rename_i hl
  exact h.replace (kept_all hy hl)
theorem StA.write {D : ADisk} {g y : AHard} {room : Int} {m : Nat} (h : StA D g room m) (hy : Held y) (ht : g.term ≤ y.term) : SaveA g y room (writeP D g y) := by
 unfold writeP
 by_cases hn : nearB g y = false
 ·
  rw [if_pos hn]; exact h.anew hy
 rw [if_neg hn]
 have hn : nearB g y = true := by simpa using hn
 have hkm := kept_more h.kp h.hd hy hn ht
 by_cases hm : (moreP g y).length = 0
 ·
  rw [if_pos hm]
  rw [List.eq_nil_of_length_eq_zero hm, List.append_nil] at hkm
  exact .inl ⟨rfl, h.on, h.sy, hkm, h.rm⟩
 rw [if_neg hm]
 have hcut : ∀ (D1 : ADisk) (k k2 : Int) (first : AHard), D1.off = false → D1.file = D.file ++ moreP g y → D1.synced = D.file.length → D1.room = D.room → (((D1.crash k).crash k2).start).ok → checkH first = true →
   ∃ D2 x, openP ((D1.crash k).crash k2).start first = (D2, some x, 0) ∧ Whole D2 ∧ Kept D2.file x ∧ D2.room = room ∧ Found g y x := by
  intro D1 k k2 first a1 a2 a3 a4 hok hc
  obtain ⟨D2, x, e1, e2, e3, e4, e5⟩ := crash_open (qs := recsP g y) (P := Btwn g y) a1 a2 a3 (recs_len hy) h.kp (fun j => apply_recs h.hd.1 hy.1 h.hd.2.1 hy.2.1 (near_of hn) ht h.hd.2.2.2 j) k k2 hok hc
  exact ⟨D2, x, e1, e2, e3, by rw [e4, a4]; exact h.rm, .inr ⟨hn, hy, ht, e5⟩⟩
 have hap : D.append (moreP g y) = (D, 5) ∨ (∃ D1 : ADisk, D.append (moreP g y) = (D1.crash D.keep, 4) ∧ D1.off = false ∧ D1.file = D.file ++ moreP g y ∧ D1.synced = D.file.length ∧ D1.room = D.room) ∨ (∃ D1 : ADisk, D.append (moreP g y) = (D1, 0) ∧ D1.off = false ∧ D1.file = D.file ++ moreP g y ∧ D1.synced = D.file.length ∧ D1.room = D.room) := by
  obtain ⟨c1, c2, c3, c4⟩ := count_keeps { D with file := D.file ++ moreP g y }
  unfold ADisk.append
  rw [if_neg (by rw [h.on]; simp)]
  split
  ·
   exact .inl rfl
  simp only
  split
  ·
   exact .inr (.inl ⟨_, rfl, by rw [c3]; exact h.on, c1, by rw [c2]; exact h.sy, c4⟩)
  ·
   exact .inr (.inr ⟨_, rfl, by rw [c3]; exact h.on, c1, by rw [c2]; exact h.sy, c4⟩)
 rcases hap with e | ⟨D1, e, a1, a2, a3, a4⟩ | ⟨D1, e, a1, a2, a3, a4⟩
 ·
  rw [e, if_neg (show ¬ (5 : Int) = 0 by omega), if_pos rfl]
  exact h.anew hy
 ·
  rw [e, if_neg (show ¬ (4 : Int) = 0 by omega), if_neg (show ¬ (4 : Int) = 5 by omega)]
  exact .inr (.inr ⟨rfl, fun k2 first hok hc => hcut D1 D.keep k2 first a1 a2 a3 a4 hok hc⟩)
 ·
  rw [e, if_pos rfl]
  simp only
  obtain ⟨c1, c2, c3, c4⟩ := count_keeps D1
  unfold ADisk.sync
  rw [if_neg (by rw [a1]; simp)]
  split
  ·
   exact .inr (.inr ⟨rfl, fun k2 first hok hc => hcut D1.count.1 D1.keep k2 first (by rw [c3]; exact a1) (by rw [c1]; exact a2) (by rw [c2]; exact a3) (by rw [c4]; exact a4) hok hc⟩)
  ·
   exact .inl ⟨rfl, by simp only; rw [c3]; exact a1, by simp only; rw [c1], by simp only; rw [c1, a2]; exact hkm, by simp only; rw [c4, a4]; exact h.rm⟩
/-- A save on a disk that may be tripped. -/
theorem StA.save {D : ADisk} {g y : AHard} {room : Int} {m k : Nat} (h : StA D g room m) (h1 : ∀ x ∈ y.log, x.ok) (h2 : y.conf.ok) (h3 : y.log.length ≤ k) (hm : m ≤ k) (hk : k ≤ 1000000) :
  ((saveP D g y).2.2 = 0 ∧ (saveP D g y).2.1 = y ∧ StA (saveP D g y).1 y room k) ∨
  ((saveP D g y).2.2 ≠ 0 ∧ (saveP D g y).2.2 ≠ 4 ∧ (saveP D g y).2.1 = g ∧ StA (saveP D g y).1 g room k) ∨
  ((saveP D g y).2.2 = 4 ∧ (saveP D g y).2.1 = g ∧ ∀ (k2 : Int) (first : AHard), (((saveP D g y).1.crash k2).start).ok → checkH first = true → ∃ D2 x, openP ((saveP D g y).1.crash k2).start first = (D2, some x, 0) ∧ StP D2 x room k ∧ Found g y x) := by
 have hlg := h.lg
 unfold saveP
 rw [h.on]
 simp only [Bool.false_eq_true, if_false]
 by_cases hb : checkH y = false ∨ y.term < g.term ∨ y.base < g.base
 ·
  rw [if_pos hb]
  exact .inr (.inl ⟨by simp, by simp, rfl, ⟨h.on, h.sy, h.kp, h.hd, h.rm, by omega⟩⟩)
 rw [if_neg hb]
 have hr : Right y := (checkH_iff y).1 (by
  rcases hc : checkH y with _ | _
  ·
   exact absurd (.inl hc) hb
  ·
   rfl)
 have hy : Held y := ⟨hr, h1, h2, by omega⟩
 simp only
 rcases h.write hy (by omega) with ⟨a1, a2, a3, a4, a5⟩ | ⟨a0, a1, a2, a3, a4, a5⟩ | ⟨a1, a2⟩
 ·
  rw [if_pos a1]
  exact .inl ⟨a1, rfl, ⟨a2, a3, a4, hy, a5, h3⟩⟩
 ·
  rw [if_neg a0]
  exact .inr (.inl ⟨a0, a1, rfl, ⟨a2, a3, a4, h.hd, a5, by omega⟩⟩)
 ·
  rw [if_neg (by omega)]
  refine .inr (.inr ⟨a1, rfl, fun k2 first hok hc => ?_⟩)
  obtain ⟨D2, x, e1, e2, e3, e4, e5⟩ := a2 k2 first hok hc
  obtain ⟨f1, f2⟩ := found_held h.hd e5
  exact ⟨D2, x, e1, ⟨e2, e3, f1, e4, by omega⟩, e5⟩
theorem StA.arm {D : ADisk} {g : AHard} {room : Int} {m : Nat} (h : StA D g room m) (n k : Int) : StA (D.arm n k) g room m := by
 have ha : D.arm n k = { D with trip := (max n 0).toNat, keep := k } := by unfold ADisk.arm; rw [if_neg (by rw [h.on]; simp)]
 rw [ha]
 exact ⟨h.on, h.sy, h.kp, h.hd, h.rm, h.lg⟩
theorem StA.more {D : ADisk} {g : AHard} {room : Int} {m k : Nat} (h : StA D g room m) (hk : m ≤ k) : StA D g room k := ⟨h.on, h.sy, h.kp, h.hd, h.rm, by have := h.lg; omega⟩
theorem StA.again {D : ADisk} {g first : AHard} {room : Int} {m : Nat} (h : StA D g room m) (k : Int) (hok : ((D.crash k).start).ok) (hc : checkH first = true) : openP (D.crash k).start first = ((D.crash k).start, some g, 0) := by
 have h1 := crash_whole h.sy h.on k
 rw [h1] at hok ⊢
 exact open_whole ⟨h.on, rfl, h.sy⟩ h.kp hok hc
end Go.Proofs.YtjhnlncgmejkcaaGreat
