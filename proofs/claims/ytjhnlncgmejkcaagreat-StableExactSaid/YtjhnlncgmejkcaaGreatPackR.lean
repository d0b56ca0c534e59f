/-
 What the calls of pack.Reader do: contracts. Conditions: as each theorem names them.
-/
import Derived.Test.YtjhnlncgmejkcaaGreatS2
import Derived.Deep.QuietTactic
import Derived.BigQuiet
set_option maxRecDepth 100000
set_option maxHeartbeats 400000
namespace Go.Proofs.YtjhnlncgmejkcaaGreat
open Go.RowKit
def Rd (w : World) (S : Nat → Prop) (b : Nat) (r : RS) : Prop :=
 ∃ v t, w.heap[b]? = some (.cells #[v, .int .i64 r.e] t (0, 0)) ∧ Sl w (fun g => S g ∧ g ≠ b) 1 v r.left.length (r.left.map B) ∧ S b
theorem Rd.mod {w w' : World} {S T : Nat → Prop} {b : Nat} {r : RS} (h : Rd w S b r) (hm : Mod T w w') (hd : ∀ g, S g → ¬ T g) : Rd w' S b r := by
 obtain ⟨v, t, hb, hs, hS⟩ := h
 exact ⟨v, t, hm.blk hb (hd b hS), hs.mod hm (fun g hg => hd g hg.1), hS⟩
theorem Wr.mod {w w' : World} {S T : Nat → Prop} {b : Nat} {bs : List UInt8} {long : Bool} (h : Wr w S b bs long) (hm : Mod T w w') (hd : ∀ g, S g → ¬ T g) : Wr w' S b bs long := by
 obtain ⟨v, t, hb, ho, hS, hg⟩ := h
 exact ⟨v, t, hm.blk hb (hd b hS), zU ho hm (fun g h => hd g (hg g h).1), hS, hg⟩
theorem zn3 {w : World} {S : Nat → Prop} {b n : Nat} {t : TypeId} {v v' : Value} {e : Int} {l : List UInt8} {xs : List Value} (hb : w.heap[b]? = some (.cells #[v, .int .i64 e] t (0, 0)))
  (hs : Sl w (fun g => S g ∧ g ≠ b) 1 v' n xs) (hS : S b) (hl : xs = l.map B) :
  Rd (w.setCell ⟨b, 0, none⟩ v') S b ⟨l, e⟩ ∧ Mod S w (w.setCell ⟨b, 0, none⟩ v') := by
 subst hl
 obtain rfl : n = l.length := by have := hs.1; simp at this; omega
 have hM : Mod (fun k => k = b) w (w.setCell ⟨b, 0, none⟩ v') := (Mod.refl (fun k => k = b) w).setCell (p := ⟨b, 0, none⟩) (.inr rfl) _
 refine ⟨⟨v', t, ?_, ?_, hS⟩, hM.mono (fun k _ e => by subst e; exact hS)⟩
 · simp [World.setCell, Array.getElem?_modify, hb]
 exact hs.mod hM (fun g hg h => hg.2 h)
theorem rd_err {w : World} {S : Nat → Prop} {b : Nat} {t : TypeId} {v x : Value} {l : List UInt8} (e : Int) (hb : w.heap[b]? = some (.cells #[v, x] t (0, 0)))
  (hs : Sl w (fun g => S g ∧ g ≠ b) 1 v l.length (l.map B)) (hS : S b) :
  Rd (w.setCell ⟨b, 1, none⟩ (.int .i64 e)) S b ⟨l, e⟩ ∧ Mod S w (w.setCell ⟨b, 1, none⟩ (.int .i64 e)) := by
 have hM : Mod (fun k => k = b) w (w.setCell ⟨b, 1, none⟩ (.int .i64 e)) := (Mod.refl (fun k => k = b) w).setCell (p := ⟨b, 1, none⟩) (.inr rfl) _
 refine ⟨⟨v, t, ?_, ?_, hS⟩, hM.mono (fun k _ e => by subst e; exact hS)⟩
 · simp [World.setCell, Array.getElem?_modify, hb]
 exact hs.mod hM (fun g hg h => hg.2 h)
theorem r_new (w : World) (T : Nat → Prop) (v : Value) (bs : List UInt8) (h : Byt w T v bs) (hl : bs.length ≤ 1000000000) :
  Calls Tryz.prog 134 #[v] w fun e w' =>
   ∃ b, e = .returned (.pointer (some ⟨b, 0, none⟩)) ∧ w.heap.size ≤ b ∧ Rd w' (fun k => w.heap.size ≤ k) b ⟨bs, 0⟩ ∧ Ext w w' := by
 obtain ⟨i0, hi, hz0, hz1, hz2⟩ := info_parts jN
 obtain ⟨n, hn⟩ : ∃ n, bs.length = n := ⟨_, rfl⟩
 unfold Byt at h
 rw [hn] at hl h
 have Hn := hJ hn
 clear hn
 obtain ⟨A, c, rfl⟩ := h.form
 go_enter Tryz.func134, Tryz.ntmps134
 go_wp2_with (at_builtin; refine yA _ rfl _ _ 25 rfl 5 i0 _ 1 1 Tryz.underlying25 hi hz0 hz1 hz2 rfl (by omega) _ 0 [] rfl (World.ownsRow_made w #[] 0 (Nat.zero_le _) (Nat.zero_le _) rfl) T _ n (bs.map B) rfl (h.alloc _) (zdL bs) (by simp only [maxLen]; omega) (by omega) ?_)
 intro v' w1 ho hgr hat
 have hE : Ext w w1 := (Mod.alloc (Mod.refl _ w) _).grown hgr (by simp [Value.ownBlock])
 have hN : ∀ g, v'.ownBlock = some g → w.heap.size ≤ g ∧ g < w1.heap.size := by
  intro g hgg
  refine ⟨?_, (ho.lt g hgg).2⟩
  rcases hat with e | e <;> rw [e] at hgg <;> simp [Value.ownBlock] at hgg <;> omega
 have hs := hE.size
 obtain ⟨A1, c1, rfl⟩ := zN ho
 go_wp2
 go_ret
 refine ⟨w1.heap.size, rfl, hs, ⟨_, _, heap_alloc_new w1 _, ?_, hs⟩, hE.alloc _⟩
 have := (Sl.of_own (T := fun g => w.heap.size ≤ g ∧ g ≠ w1.heap.size) ho (fun g hg => ⟨(hN g hg).1, by have := (hN g hg).2; omega⟩))
 show Sl _ _ 1 _ bs.length (bs.map B)
 rw [Hn.out]
 simpa using this.alloc _
theorem r_left (w : World) (S : Nat → Prop) (b : Nat) (r : RS) (h : Rd w S b r) :
  Calls Tryz.prog 177 #[.pointer (some ⟨b, 0, none⟩)] w fun e w' => e = .returned (.int .i64 r.leftN) ∧ w = w' := by
 obtain ⟨v, t, hb, hs, hS⟩ := h
 obtain ⟨hc0, hc1, _, hf1⟩ := qG hb
 obtain ⟨A, c, rfl⟩ := hs.form
 clear hb
 by_cases he : r.e = 0
 ·
  have hL : Hid (r.leftN = (r.left.length : Int)) := hJ (by unfold RS.leftN; rw [if_neg (by simp [he])])
  rw [hL.out]
  rw [he] at hc1
  go_enter Tryz.func177, Tryz.ntmps177
  go_wp2
  go_ret
  exact ⟨rfl, rfl⟩
 have hL : Hid (r.leftN = 0) := hJ (by unfold RS.leftN; rw [if_pos he])
 rw [hL.out]
 have he' : (r.e != 0) = true := by simp [he]
 go_enter Tryz.func177, Tryz.ntmps177
 go_wp2
 go_ret
 exact ⟨rfl, rfl⟩
theorem zeX (w : World) (S : Nat → Prop) (b : Nat) (l : List UInt8) (x : Int) (h : Rd w S b ⟨l, 0⟩) :
  Calls Tryz.prog 178 #[.pointer (some ⟨b, 0, none⟩), .int .i64 x] w fun e w' => e = .returned (.tuple #[]) ∧ Rd w' S b ⟨l, x⟩ ∧ Mod S w w' := by
 obtain ⟨v, t, hb, hs, hS⟩ := h
 obtain ⟨hc0, hc1, _, hf1⟩ := qG hb
 obtain ⟨h1, h2⟩ := rd_err x hb hs hS
 have Hb := hJ hb
 clear hb
 go_enter Tryz.func178, Tryz.ntmps178
 go_wp2
 go_end0
 exact ⟨rfl, h1, h2⟩
theorem zhU (c : UInt8) : c.toNat < 256 := c.toNat_lt
theorem zb0 {w : World} {T : Nat → Prop} {A : Option Addr} {n c : Nat} {l : List UInt8} (hs : Sl w T 1 (.slice A n c) n (l.map B)) {i : Nat} (hi : i < n) :
  ∃ g off x, A = some ⟨g, off, none⟩ ∧ l[i]? = some x ∧ w.cell? ⟨g, off + i, none⟩ = some (.int .u8 (x.toNat : Int)) := by
 obtain ⟨hl, A', c', e, hn, hc, hx⟩ := hs
 injection e with e1 _ e3; subst e1; subst e3
 obtain ⟨g, off, rfl, hT, hcell⟩ := hx (by omega)
 have hli : i < l.length := by simp at hl; omega
 exact ⟨g, off, l[i], rfl, List.getElem?_eq_getElem hli, hcell i _ (by simp [List.getElem?_eq_getElem hli, B])⟩
theorem zn4 (w : World) (S : Nat → Prop) (b : Nat) (r : RS) (h : Rd w S b r) :
  Calls Tryz.prog 136 #[.pointer (some ⟨b, 0, none⟩)] w fun e w' => e = .returned (.int .i64 r.done) ∧ w = w' := by
 obtain ⟨v, t, hb, hs, hS⟩ := h
 obtain ⟨hc0, hc1, _, hf1⟩ := qG hb
 obtain ⟨A, c, rfl⟩ := hs.form
 clear hb
 obtain ⟨n, hn⟩ : ∃ n, r.left.length = n := ⟨_, rfl⟩
 rw [hn] at hc0
 by_cases he : r.e = 0
 ·
  rw [he] at hc1
  by_cases h0 : 0 < n
  focus
   have hL : Hid (r.done = 3) := hJ (by unfold RS.done; rw [if_pos ⟨he, by omega⟩])
  rotate_left
  focus
   have hL : Hid (r.done = 0) := hJ (by unfold RS.done; rw [if_neg (by omega)]; exact he)
  all_goals
   rw [hL.out]
   clear hn
   go_enter Tryz.func136, Tryz.ntmps136
   go_wp2
   go_ret
   exact ⟨rfl, rfl⟩
 have hL : Hid (r.done = r.e) := hJ (by unfold RS.done; rw [if_neg (by omega)])
 rw [hL.out]
 have he' : (r.e == 0) = false := by simp [he]
 clear hn
 go_enter Tryz.func136, Tryz.ntmps136
 go_wp2
 go_ret
 exact ⟨rfl, rfl⟩
theorem zn5 (w : World) (S : Nat → Prop) (b : Nat) (r : RS) (h : Rd w S b r) (he : r.e ≠ 0) :
  Calls Tryz.prog 135 #[.pointer (some ⟨b, 0, none⟩)] w fun e w' => e = .returned (.int .i64 0) ∧ w = w' := by
 obtain ⟨v, t, hb, hs, hS⟩ := h
 obtain ⟨hc0, hc1, _, hf1⟩ := qG hb
 clear hb
 have he2 : (r.e != 0) = true := by simp [he]
 go_enter Tryz.func135, Tryz.ntmps135
 go_wp2
 go_ret
 exact ⟨rfl, rfl⟩
def zn6 (w : World) (S : Nat → Prop) (b : Nat) (l : List UInt8) (e : Ending) (w' : World) : Prop := e = .returned (.int .i64 (RS.int ⟨l, 0⟩).1) ∧ Rd w' S b (RS.int ⟨l, 0⟩).2 ∧ Mod S w w'
theorem r_int_ok (w : World) (S : Nat → Prop) (b : Nat) (l : List UInt8) (h : Rd w S b ⟨l, 0⟩) :
  Calls Tryz.prog 135 #[.pointer (some ⟨b, 0, none⟩)] w (zn6 w S b l) := by
 have H := hJ h
 obtain ⟨v, t, hb, hs, hS⟩ := h
 obtain ⟨hc0, hc1, hf0, hf1⟩ := qG hb
 obtain ⟨A, c, rfl⟩ := hs.form
 have Hb := hJ hb
 have hlen : l.length ≤ maxLen := hs.le
 unfold maxLen at hlen
 obtain ⟨n, hn⟩ : ∃ n, l.length = n := ⟨_, rfl⟩
 simp only [hn] at hs hc0 hlen Hb
 have Hn := hJ hn
 clear hb hn
 go_enter Tryz.func135, Tryz.ntmps135
 go_wp2
 go_loop [3, 16] (fun zv iv => ∃ i z : Nat, i ≤ 9 ∧ i ≤ n ∧ iv = .int .i64 i ∧ zv = .int .u64 z ∧ z < 2 ^ (7 * i) ∧ zaY 0 0 l = zaY i z (l.drop i)) (fun _ iv => n - (intOf iv).toNat)
 case atStart => exact ⟨0, 0, by omega, by omega, rfl, rfl, by decide, rfl⟩
 obtain ⟨i, z, hi9, hin, rfl, rfl, hz, hrd⟩ := hrel
 have Hz := hJ hz
 have Hrd := hJ hrd
 clear hz hrd
 have hfail : zaY i z (l.drop i) = none → ∀ w', Rd w' S b ⟨l, 3⟩ → Mod S w w' → zn6 w S b l (.returned (.int .i64 0)) w' := by
  intro h w' h1 h2
  unfold zn6
  rw [zlD (Hrd.out.trans h)]
  exact ⟨rfl, h1, h2⟩
 have Hfail := hJ hfail
 clear hfail
 by_cases hi : i < n
 ·
  obtain ⟨g, off, x, rfl, hx, hcell⟩ := zb0 hs hi
  have hxlt := zhU x
  obtain ⟨m, hm⟩ : ∃ m, x.toNat = m := ⟨_, rfl⟩
  rw [hm] at hcell hxlt
  have Hm := hJ hm
  obtain ⟨mi, hmi⟩ : ∃ mi : Int, (m : Int) = mi := ⟨_, rfl⟩
  rw [hmi] at hcell
  have b1 : 0 ≤ mi := by omega
  have b2 : mi < 256 := by omega
  have HM := hJ hmi
  have Hx := hJ hx
  clear hx hm hmi
  by_cases hA : i = 9 ∧ 1 < m
  ·
   have h9 : ((i : Int) == 9) = true := by simp; omega
   have hgt : decide ((1 : Int) < mi) = true := by have := HM.out; simp; omega
   have HA := hJ hA
   clear hA
   go_wp2_with fail
   refine (zeX w S b l 3 H.out).mono ?_
   rintro e w1 ⟨rfl, hR, hmd⟩
   go_wp2
   go_ret
   exact Hfail.out (zhQ Hx.out Hm.out (.inl HA.out)) _ hR hmd
  obtain ⟨hor, hz1, hz2⟩ := zj6 z m i Hz.out hxlt hi9 (by omega)
  obtain ⟨z', hz'⟩ : ∃ z', z + m % 128 * 2 ^ (7 * i) = z' := ⟨_, rfl⟩
  rw [hz'] at hor hz1 hz2
  rw [HM.out] at hor
  have hg : ((i : Int) == 9) = false ∨ (((i : Int) == 9) = true ∧ decide ((1 : Int) < mi) = false) := by have := HM.out; simp; omega
  have Hz1 := hJ hz1
  have Hz2 := hJ hz2
  have Hz' := hJ hz'
  have HA := hJ hA
  clear hz1 hz2 hz' hA
  by_cases hC : 128 ≤ m
  ·
   have hlt : decide (mi < 128) = false := by have := HM.out; simp; omega
   rcases hg with h9 | ⟨h9, hgt⟩
   · go_wp2
     refine ⟨⟨i + 1, z', by have := HA.out; simp at h9; omega, by omega, by go_num, rfl, Hz2.out (by simp at h9; omega), ?_⟩, by simp [intOf]; omega⟩
     rw [Hrd.out, znY Hx.out Hm.out HA.out (by omega), Hz'.out]
   exfalso; have := HA.out; have := HM.out; simp at h9 hgt; omega
  have hlt : decide (mi < 128) = true := by have := HM.out; simp; omega
  by_cases h1 : m = 0 ∧ 0 < i
  ·
   have e1 : (mi == 0) = true := by have := HM.out; simp; omega
   have e2 : decide (0 < i) = true := by simp; omega
   have H1 := hJ h1
   clear h1
   rcases hg with h9 | ⟨h9, hgt⟩
   all_goals
    go_wp2_with fail
    refine (zeX w S b l 3 H.out).mono ?_
    rintro e w1 ⟨rfl, hR, hmd⟩
    go_wp2
    go_ret
    exact Hfail.out (zhQ Hx.out Hm.out (.inr H1.out)) _ hR hmd
  have hzag := zag_bits z' Hz1.out
  have hcut := hs.cutA (m := i + 1) (by omega)
  have hput := zn3 (l := l.drop (i + 1)) Hb.out hcut hS (by simp)
  have hput2 : zn6 w S b l (.returned (.int .i64 (zag z'))) (w.setCell ⟨b, 0, none⟩ (.slice (cutA (some ⟨g, off, none⟩) (i + 1) c 1) (n - (i + 1)) (c - (i + 1)))) := by
   unfold zn6
   rw [zhP (Hrd.out.trans ((rd_end Hx.out Hm.out HA.out h1 (by omega)).trans (by rw [Hz'.out])))]
   exact ⟨rfl, hput⟩
  rw [← hzag] at hput2
  have HP := hJ hput2
  clear hcut hput hput2 hzag
  have e1 : (mi == 0) = false ∨ ((mi == 0) = true ∧ decide (0 < i) = false) := by have := HM.out; simp; omega
  clear h1
  rcases hg with h9 | ⟨h9, hgt⟩
  ·
   rcases e1 with e1 | ⟨e1, e2⟩
   · go_wp2
     go_ret
     exact HP.out
   go_wp2
   go_ret
   exact HP.out
  rcases e1 with e1 | ⟨e1, e2⟩
  · go_wp2
    go_ret
    exact HP.out
  exfalso; simp at h9 e2; omega
 go_wp2_with fail
 refine (zeX w S b l 3 H.out).mono ?_
 rintro e w1 ⟨rfl, hR, hmd⟩
 go_wp2
 go_ret
 exact Hfail.out (by rw [List.drop_eq_nil_of_le (by rw [Hn.out]; omega)]; rfl) _ hR hmd
theorem zn7 (w : World) (S : Nat → Prop) (b : Nat) (r : RS) (h : Rd w S b r) :
  Calls Tryz.prog 135 #[.pointer (some ⟨b, 0, none⟩)] w fun e w' => e = .returned (.int .i64 r.int.1) ∧ Rd w' S b r.int.2 ∧ Mod S w w' := by
 obtain ⟨l, x⟩ := r
 by_cases he : x = 0
 · subst he; exact (r_int_ok w S b l h).mono fun _ _ h => h
 refine (zn5 w S b _ h he).mono ?_
 rintro e w' ⟨rfl, rfl⟩
 have : RS.int ⟨l, x⟩ = (0, ⟨l, x⟩) := by simp [RS.int, he]
 rw [this]
 exact ⟨rfl, h, Mod.refl _ _⟩
attribute [local go_sem] yP jA
theorem zj7 (w : World) (S : Nat → Prop) (b : Nat) (r : RS) (h : Rd w S b r) (he : r.e ≠ 0) :
  Calls Tryz.prog 201 #[.pointer (some ⟨b, 0, none⟩)] w fun e w' => e = .returned (.float .f64 0) ∧ w = w' := by
 obtain ⟨v, t, hb, hs, hS⟩ := h
 obtain ⟨hc0, hc1, _, hf1⟩ := qG hb
 clear hb
 have he2 : (r.e != 0) = true := by simp [he]
 go_enter Tryz.func201, Tryz.ntmps201
 go_wp2
 go_ret
 exact ⟨rfl, rfl⟩
def zfK (w : World) (S : Nat → Prop) (b : Nat) (l : List UInt8) (e : Ending) (w' : World) : Prop := e = .returned (.float .f64 (RS.float ⟨l, 0⟩).1) ∧ Rd w' S b (RS.float ⟨l, 0⟩).2 ∧ Mod S w w'
theorem ziQ {l : List UInt8} (h : l.length < 8) : RS.float ⟨l, 0⟩ = (0, ⟨l, 3⟩) := by simp [RS.float, h]
theorem ziR {l : List UInt8} (_ : ¬ l.length < 8) (h1 : yU (zaZ (l.take 8)) ≠ zaZ (l.take 8)) : RS.float ⟨l, 0⟩ = (0, ⟨l, 3⟩) := by simp [RS.float, h1]
theorem zfL {l : List UInt8} (h : ¬ l.length < 8) (h1 : yU (zaZ (l.take 8)) = zaZ (l.take 8)) : RS.float ⟨l, 0⟩ = (zaZ (l.take 8), ⟨l.drop 8, 0⟩) := by simp [RS.float, h, h1]
theorem zmV (w : World) (S : Nat → Prop) (b : Nat) (l : List UInt8) (h : Rd w S b ⟨l, 0⟩) :
  Calls Tryz.prog 201 #[.pointer (some ⟨b, 0, none⟩)] w (zfK w S b l) := by
 have H := hJ h
 obtain ⟨v, t, hb, hs, hS⟩ := h
 obtain ⟨hc0, hc1, hf0, hf1⟩ := qG hb
 obtain ⟨A, c, rfl⟩ := hs.form
 have Hb := hJ hb
 have hlen : l.length ≤ maxLen := hs.le
 unfold maxLen at hlen
 obtain ⟨n, hn⟩ : ∃ n, l.length = n := ⟨_, rfl⟩
 simp only [hn] at hs hc0 hlen Hb
 have Hn := hJ hn
 clear hb hn
 have hfail : RS.float ⟨l, 0⟩ = (0, ⟨l, 3⟩) → ∀ w', Rd w' S b ⟨l, 3⟩ → Mod S w w' → zfK w S b l (.returned (.float .f64 0)) w' := by
  intro h w' h1 h2
  unfold zfK
  rw [h]
  exact ⟨rfl, h1, h2⟩
 have Hfail := hJ hfail
 clear hfail
 by_cases h8 : n < 8
 ·
  go_enter Tryz.func201, Tryz.ntmps201
  go_wp2_with fail
  refine (zeX w S b l 3 H.out).mono ?_
  rintro e w1 ⟨rfl, hR, hmd⟩
  go_wp2
  go_ret
  exact Hfail.out (ziQ (by rw [Hn.out]; exact h8)) _ hR hmd
 have h8' : 8 ≤ n := by omega
 have hnc : n ≤ c := by obtain ⟨_, A', c', e, h1, _⟩ := hs; injection e with _ _ e3; omega
 have hc8 : (8 : Int) ≤ (c : Int) := by omega
 go_enter Tryz.func201, Tryz.ntmps201
 go_wp2
 go_loop [3, 26] (fun xv iv => ∃ i : Nat, i ≤ 8 ∧ iv = .int .i64 i ∧ xv = .int .u64 (zaZ (l.take i))) (fun _ iv => 8 - (intOf iv).toNat)
 case atStart => exact ⟨0, by omega, rfl, rfl⟩
 obtain ⟨i, hi8, rfl, rfl⟩ := hrel
 by_cases hi : i < 8
 ·
  obtain ⟨g, off, x, rfl, hx, hcell⟩ := zb0 hs (i := i) (by omega)
  have hxlt := zhU x
  have hor := or8 (zaZ (l.take i)) x.toNat (by
   have h1 := zhS i (l.take i) (by rw [List.length_take, Hn.out]; omega)
   have h2 : 256 ^ i ≤ 256 ^ 7 := Nat.pow_le_pow_right (by omega) (by omega)
   omega) hxlt
  have Hx := hJ hx
  have e1 : zaZ (l.take i) * 256 + x.toNat = zaZ (l.take (i + 1)) := by rw [zhT hx, zfI]
  rw [e1] at hor
  clear hx e1
  go_wp2
  exact ⟨⟨i + 1, by omega, by go_num, rfl⟩, by simp [intOf]; omega⟩
 obtain rfl : i = 8 := by omega
 obtain ⟨y, hy⟩ : ∃ y, zaZ (l.take 8) = y := ⟨_, rfl⟩
 rw [hy]
 have Hy := hJ hy
 clear hy
 by_cases hc : yU y = y
 ·
  have hne : ((yU y : Int) != (y : Int)) = false := by simp [hc]
  have hcut := hs.cutA (m := 8) (by omega)
  have hput := zn3 (l := l.drop 8) Hb.out hcut hS (by simp)
  have hput2 : zfK w S b l (.returned (.float .f64 y)) (w.setCell ⟨b, 0, none⟩ (.slice (cutA A 8 c 1) (n - 8) (c - 8))) := by
   unfold zfK
   rw [zfL (by rw [Hn.out]; omega) (by rw [Hy.out]; exact hc), Hy.out]
   exact ⟨rfl, hput⟩
  have HP := hJ hput2
  clear hcut hput hput2 hc
  go_wp2_with (go_at_call 199; refine (zbG _ _).mono ?_; rintro e w' ⟨rfl, rfl⟩)
  go_ret
  exact HP.out
 have hne : ((yU y : Int) != (y : Int)) = true := by simp; omega
 have Hc := hJ hc
 clear hc
 go_wp2_with (go_at_call 199; refine (zbG _ _).mono ?_; rintro e w' ⟨rfl, rfl⟩)
 refine (zeX w S b l 3 H.out).mono ?_
 rintro e w1 ⟨rfl, hR, hmd⟩
 go_wp2
 go_ret
 exact Hfail.out (ziR (by rw [Hn.out]; omega) (by rw [Hy.out]; exact Hc.out)) _ hR hmd
theorem r_float (w : World) (S : Nat → Prop) (b : Nat) (r : RS) (h : Rd w S b r) :
  Calls Tryz.prog 201 #[.pointer (some ⟨b, 0, none⟩)] w fun e w' => e = .returned (.float .f64 r.float.1) ∧ Rd w' S b r.float.2 ∧ Mod S w w' := by
 obtain ⟨l, x⟩ := r
 by_cases he : x = 0
 · subst he; exact (zmV w S b l h).mono fun _ _ h => h
 refine (zj7 w S b _ h he).mono ?_
 rintro e w' ⟨rfl, rfl⟩
 have : RS.float ⟨l, x⟩ = (0, ⟨l, x⟩) := by simp [RS.float, he]
 rw [this]
 exact ⟨rfl, h, Mod.refl _ _⟩
theorem zn8 (z : Nat) (h : z < 18446744073709551616) : -9223372036854775808 ≤ zag z ∧ zag z ≤ 9223372036854775807 := by
 unfold zag; split <;> omega
theorem ze7 : ∀ (l : List UInt8) (k z : Nat) (z' : Nat) (r : List UInt8), k ≤ 9 → z < 2 ^ (7 * k) → zaY k z l = some (z', r) → z' < 18446744073709551616 ∧ r.length < l.length
 | [], _, _, _, _, _, _, h => by simp [zaY] at h
 | c :: l, k, z, z', r, hk, hz, h => by
  have hc := c.toNat_lt
  rw [zaY] at h
  split at h
  · cases h
  rename_i h9
  have hj := zj6 z c.toNat k hz hc hk (by omega)
  split at h
  ·
   split at h
   · cases h
   simp only [Option.some.injEq, Prod.mk.injEq] at h
   obtain ⟨rfl, rfl⟩ := h
   exact ⟨hj.2.1, by simp⟩
  have := ze7 l (k + 1) _ z' r (by omega) (hj.2.2 (by omega)) h
  exact ⟨this.1, by simp; omega⟩
theorem zb1 (r : RS) : -9223372036854775808 ≤ r.int.1 ∧ r.int.1 ≤ 9223372036854775807 := by
 unfold RS.int
 split
 · simp
 split
 · simp
 rename_i z l h
 exact zn8 z (ze7 _ 0 0 z l (by omega) (by decide) h).1
theorem yJ (r : RS) : r.int.2.left.length ≤ r.left.length := by
 unfold RS.int
 split
 · simp
 split
 · simp
 rename_i z l h
 exact Nat.le_of_lt (ze7 _ 0 0 z l (by omega) (by decide) h).2
theorem zeH (r : RS) : r.text = (if r.int.2.e ≠ 0 then ([], r.int.2) else if 16384 < r.int.1 then ([], ⟨r.int.2.left, 2⟩) else
  if r.int.1 < 0 ∨ (r.int.2.left.length : Int) < r.int.1 then ([], ⟨r.int.2.left, 3⟩) else (r.int.2.left.take r.int.1.toNat, ⟨r.int.2.left.drop r.int.1.toNat, 0⟩)) := rfl
def ziS (w : World) (S : Nat → Prop) (b : Nat) (r : RS) (e : Ending) (w' : World) : Prop := ∃ v, e = .returned v ∧ yO w w' v r.text.1 ∧ Rd w' S b r.text.2 ∧ Mod S w w'
theorem zn9 (w : World) (S : Nat → Prop) (b : Nat) (r : RS) (h : Rd w S b r) (hS : ∀ k, S k → k < w.heap.size) :
  Calls Tryz.prog 175 #[.pointer (some ⟨b, 0, none⟩)] w (ziS w S b r) := by
 obtain ⟨i0, hi, hz0, hz1, hz2⟩ := info_parts jN
 have hR0 := zb1 r
 go_enter Tryz.func175, Tryz.ntmps175
 go_wp2_with fail
 refine (zn7 w S b r h).mono ?_
 rintro e w1 ⟨rfl, hR, hmd⟩
 obtain ⟨⟨l, x⟩, hrr⟩ : ∃ r1, r.int.2 = r1 := ⟨_, rfl⟩
 obtain ⟨k, hk⟩ : ∃ k, r.int.1 = k := ⟨_, rfl⟩
 rw [hrr] at hR
 have hll : l.length ≤ r.left.length := by have := yJ r; rw [hrr] at this; exact this
 rw [hk] at hR0 ⊢
 have hfail : ∀ y, r.text = ([], ⟨l, y⟩) → ∀ w', Rd w' S b ⟨l, y⟩ → Mod S w1 w' → ziS w S b r (.returned (.slice none 0 0)) w' := by
  intro y h w' h1 h2
  unfold ziS
  rw [h]
  exact ⟨_, rfl, ⟨World.ownsRow_nil _ _ _ _, by simp [Value.ownBlock]⟩, h1, hmd.trans h2 (fun _ _ h => h)⟩
 have Hfail := hJ hfail
 have H := hJ hR
 have ht := zeH r
 rw [hrr, hk] at ht
 have Ht := hJ ht
 clear hfail ht hrr hk
 obtain ⟨v, t, hb, hs, hSb⟩ := hR
 simp only at hb hs
 obtain ⟨hc0, hc1, hf0, hf1⟩ := qG hb
 obtain ⟨A, c, rfl⟩ := hs.form
 have Hb := hJ hb
 clear hb
 by_cases hx : x = 0
 ·
  subst hx
  by_cases h1 : 16384 < k
  ·
   have Hq : Hid (r.text = ([], ⟨l, 2⟩)) := hJ (by rw [Ht.out]; simp [h1])
   go_wp2_with fail
   refine (zeX w1 S b l 2 H.out).mono ?_
   rintro e w2 ⟨rfl, hR2, hm2⟩
   go_wp2
   go_ret
   exact Hfail.out 2 Hq.out _ hR2 hm2
  by_cases h2 : k < 0
  ·
   have Hq : Hid (r.text = ([], ⟨l, 3⟩)) := hJ (by rw [Ht.out]; simp [h1, h2])
   have d1 : decide (k < 0) = true := by simp [h2]
   go_wp2_with fail
   refine (zeX w1 S b l 3 H.out).mono ?_
   rintro e w2 ⟨rfl, hR2, hm2⟩
   go_wp2
   go_ret
   exact Hfail.out 3 Hq.out _ hR2 hm2
  have d1 : decide (k < 0) = false := by simp; omega
  obtain ⟨n, hn⟩ : ∃ n, l.length = n := ⟨_, rfl⟩
  rw [hn] at hs hc0 hll
  simp only [hn] at Hb
  have Hn := hJ hn
  clear hn
  by_cases h3 : (n : Int) < k
  ·
   have Hq : Hid (r.text = ([], ⟨l, 3⟩)) := hJ (by rw [Ht.out]; simp [h1, Hn.out, h3])
   go_wp2_with fail
   refine (zeX w1 S b l 3 H.out).mono ?_
   rintro e w2 ⟨rfl, hR2, hm2⟩
   go_wp2
   go_ret
   exact Hfail.out 3 Hq.out _ hR2 hm2
  obtain ⟨m, rfl⟩ := Int.eq_ofNat_of_zero_le (show 0 ≤ k by omega)
  have Hq : Hid (r.text = (l.take m, ⟨l.drop m, 0⟩)) := hJ (by rw [Ht.out]; simp [h1, Hn.out]; omega)
  have d3 : decide ((n : Int) < (m : Int)) = false := by simp; omega
  have hnc : n ≤ c := by obtain ⟨_, A', c', e, h1, _⟩ := hs; injection e with _ _ e3; omega
  have hmc : (m : Int) ≤ (c : Int) := by omega
  have hmn : (m : Int) ≤ (n : Int) := by omega
  have hblt : b < w1.heap.size := World.block_lt_of_cell? _ _ hc0
  have hup := (hs.upto (m := m) (by omega)).alloc (.cells #[] 5)
  have hml : m ≤ 16384 := by omega
  go_wp2_with (at_builtin; refine yA _ rfl _ _ 25 rfl 5 i0 _ 1 1 Tryz.underlying25 hi hz0 hz1 hz2 rfl (by omega) _ 0 [] rfl (World.ownsRow_made w1 #[] 0 (Nat.zero_le _) (Nat.zero_le _) rfl) _ _ m _ rfl hup (by rw [← List.map_take]; exact zdL _) (by simp only [maxLen]; omega) (by omega) ?_)
  intro v' w2 ho hgr hat
  have hE : Ext w1 w2 := (Mod.alloc (Mod.refl _ w1) _).grown hgr (by simp [Value.ownBlock])
  have hN : yO w w2 v' (l.take m) := by
   have e1 : (l.take m).length = m := by rw [List.length_take, Hn.out]; omega
   refine ⟨by rw [e1]; simpa using ho, fun g hgg => ?_⟩
   have := hmd.size
   rcases hat with e | e <;> rw [e] at hgg <;> simp [Value.ownBlock] at hgg <;> omega
  have hb2 := hE.blk Hb.out id
  have hs2 := (hs.ext hE).cutA (m := m) (by omega)
  have hput := zn3 (l := l.drop m) hb2 hs2 hSb (by simp)
  obtain ⟨hd0, _, he0, _⟩ := qG hb2
  have hfin : ziS w S b r (.returned v') (w2.setCell ⟨b, 0, none⟩ (.slice (cutA A m c 1) (n - m) (c - m))) := by
   unfold ziS
   rw [Hq.out]
   refine ⟨v', rfl, ⟨?_, hN.2⟩, hput.1, (hmd.ext hE).trans hput.2 (fun _ _ h => h)⟩
   exact zU hN.1 ((Mod.refl (fun k => k = b) w2).setCell (p := ⟨b, 0, none⟩) (.inr rfl) _) (fun g h1 h2 => by have := hN.2 g h1; have := hS b hSb; omega)
  have HF := hJ hfin
  clear hfin hput hs2 hb2 hN hat hgr
  go_wp2
  go_ret
  exact HF.out
 have hx1 : (x != 0) = true := by simp [hx]
 have Hq : Hid (r.text = ([], ⟨l, x⟩)) := hJ (by rw [Ht.out]; simp [hx])
 go_wp2
 go_ret
 exact Hfail.out x Hq.out _ H.out (Mod.refl _ _)
end Go.Proofs.YtjhnlncgmejkcaaGreat
