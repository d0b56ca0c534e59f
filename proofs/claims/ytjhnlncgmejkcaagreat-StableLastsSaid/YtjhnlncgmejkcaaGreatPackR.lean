/-
 What the calls of pack.Reader do: contracts. Conditions: as each theorem names them.
-/
import Derived.Test.YtjhnlncgmejkcaaGreatS2
import Derived.Deep.QuietTactic
import Derived.BigQuiet
namespace Go.Proofs.YtjhnlncgmejkcaaGreat
open Go.RowKit

/-- A pack.Reader at the head of block b; S: all blocks that are its own. -/
def Rd (w : World) (S : Nat → Prop) (b : Nat) (r : RS) : Prop :=
 ∃ v t, w.heap[b]? = some (.cells #[v, .int .i64 r.e] t (0, 0)) ∧ Sl w (fun g => S g ∧ g ≠ b) 1 v r.left.length (r.left.map B) ∧ S b

theorem Rd.mod {w w' : World} {S T : Nat → Prop} {b : Nat} {r : RS} (h : Rd w S b r) (hm : Mod T w w') (hd : ∀ g, S g → ¬ T g) : Rd w' S b r := by
 obtain ⟨v, t, hb, hs, hS⟩ := h
 exact ⟨v, t, hm.blk hb (hd b hS), hs.mod hm (fun g hg => hd g hg.1), hS⟩
theorem Rd.mono {w : World} {S T : Nat → Prop} {b : Nat} {r : RS} (h : Rd w S b r) (hk : ∀ k, S k → T k) : Rd w T b r := by
 obtain ⟨v, t, hb, hs, hS⟩ := h
 exact ⟨v, t, hb, hs.mono (fun g hg => ⟨hk g hg.1, hg.2⟩), hk b hS⟩
theorem Rd.len {w : World} {S : Nat → Prop} {b : Nat} {r : RS} (h : Rd w S b r) : r.left.length ≤ maxLen := by
 obtain ⟨v, t, hb, hs, hS⟩ := h; exact hs.le
theorem Wr.mod {w w' : World} {S T : Nat → Prop} {b : Nat} {bs : List UInt8} {long : Bool} (h : Wr w S b bs long) (hm : Mod T w w') (hd : ∀ g, S g → ¬ T g) : Wr w' S b bs long := by
 obtain ⟨v, t, hb, ho, hS, hg⟩ := h
 exact ⟨v, t, hm.blk hb (hd b hS), own_mod ho hm (fun g h => hd g (hg g h).1), hS, hg⟩

/-- A store into the reader's first field. -/
theorem rd_put {w : World} {S : Nat → Prop} {b n : Nat} {t : TypeId} {v v' : Value} {e : Int} {l : List UInt8} {xs : List Value} (hb : w.heap[b]? = some (.cells #[v, .int .i64 e] t (0, 0)))
  (hs : Sl w (fun g => S g ∧ g ≠ b) 1 v' n xs) (hS : S b) (hl : xs = l.map B) :
  Rd (w.setCell ⟨b, 0, none⟩ v') S b ⟨l, e⟩ ∧ Mod S w (w.setCell ⟨b, 0, none⟩ v') := by
 subst hl
 obtain rfl : n = l.length := by have := hs.1; simp at this; omega
 have hM : Mod (fun k => k = b) w (w.setCell ⟨b, 0, none⟩ v') := (Mod.refl (fun k => k = b) w).setCell (p := ⟨b, 0, none⟩) (.inr rfl) _
 refine ⟨⟨v', t, ?_, ?_, hS⟩, hM.mono (fun k _ e => by subst e; exact hS)⟩
 ·
  simp [World.setCell, Array.getElem?_modify, hb]
 ·
  exact hs.mod hM (fun g hg h => hg.2 h)
/-- A store into the reader's second field. -/
theorem rd_err {w : World} {S : Nat → Prop} {b : Nat} {t : TypeId} {v x : Value} {l : List UInt8} (e : Int) (hb : w.heap[b]? = some (.cells #[v, x] t (0, 0)))
  (hs : Sl w (fun g => S g ∧ g ≠ b) 1 v l.length (l.map B)) (hS : S b) :
  Rd (w.setCell ⟨b, 1, none⟩ (.int .i64 e)) S b ⟨l, e⟩ ∧ Mod S w (w.setCell ⟨b, 1, none⟩ (.int .i64 e)) := by
 have hM : Mod (fun k => k = b) w (w.setCell ⟨b, 1, none⟩ (.int .i64 e)) := (Mod.refl (fun k => k = b) w).setCell (p := ⟨b, 1, none⟩) (.inr rfl) _
 refine ⟨⟨v, t, ?_, ?_, hS⟩, hM.mono (fun k _ e => by subst e; exact hS)⟩
 ·
  simp [World.setCell, Array.getElem?_modify, hb]
 ·
  exact hs.mod hM (fun g hg h => hg.2 h)

set_option maxRecDepth 100000 in
set_option maxHeartbeats 400000 in
theorem r_new (w : World) (T : Nat → Prop) (v : Value) (bs : List UInt8) (h : Byt w T v bs) (hl : bs.length ≤ 1000000000) :
  Calls Tryz.prog 134 #[v] w fun e w' =>
   ∃ b, e = .returned (.pointer (some ⟨b, 0, none⟩)) ∧ w.heap.size ≤ b ∧ Rd w' (fun k => w.heap.size ≤ k) b ⟨bs, 0⟩ ∧ Ext w w' := by
 obtain ⟨i0, hi, hz0, hz1, hz2⟩ := info_parts info_u8
 obtain ⟨n, hn⟩ : ∃ n, bs.length = n := ⟨_, rfl⟩
 unfold Byt at h
 rw [hn] at hl h
 have Hn := Lib.hid hn
 clear hn
 obtain ⟨A, c, rfl⟩ := h.form
 go_enter Tryz.func134, Tryz.ntmps134
 go_wp2_with (at_builtin; refine wpList_app _ rfl _ _ 25 rfl 5 i0 _ 1 1 Tryz.underlying25 hi hz0 hz1 hz2 rfl (by omega) _ 0 [] rfl (World.ownsRow_made w #[] 0 (Nat.zero_le _) (Nat.zero_le _) rfl) T _ n (bs.map B) rfl (h.alloc _) (B_one bs) (by simp only [maxLen]; omega) (by omega) ?_)
 intro v' w1 ho hgr hat
 have hE : Ext w w1 := (Mod.alloc (Mod.refl _ w) _).grown hgr (by simp [Value.ownBlock])
 have hN : ∀ g, v'.ownBlock = some g → w.heap.size ≤ g ∧ g < w1.heap.size := by
  intro g hgg
  refine ⟨?_, (ho.lt g hgg).2⟩
  rcases hat with e | e <;> rw [e] at hgg <;> simp [Value.ownBlock] at hgg <;> omega
 have hs := hE.size
 obtain ⟨A1, c1, rfl⟩ := own_form ho
 go_wp2
 go_ret
 refine ⟨w1.heap.size, rfl, hs, ⟨_, _, heap_alloc_new w1 _, ?_, hs⟩, hE.alloc _⟩
 have := (Sl.of_own (T := fun g => w.heap.size ≤ g ∧ g ≠ w1.heap.size) ho (fun g hg => ⟨(hN g hg).1, by have := (hN g hg).2; omega⟩))
 show Sl _ _ 1 _ bs.length (bs.map B)
 rw [Hn.out]
 simpa using this.alloc _

set_option maxRecDepth 100000 in
set_option maxHeartbeats 400000 in
theorem r_left (w : World) (S : Nat → Prop) (b : Nat) (r : RS) (h : Rd w S b r) :
  Calls Tryz.prog 177 #[.pointer (some ⟨b, 0, none⟩)] w fun e w' => e = .returned (.int .i64 r.leftN) ∧ w = w' := by
 obtain ⟨v, t, hb, hs, hS⟩ := h
 obtain ⟨hc0, hc1, _, hf1⟩ := wr_cell hb
 obtain ⟨A, c, rfl⟩ := hs.form
 clear hb
 by_cases he : r.e = 0
 ·
  have hL : Hid (r.leftN = (r.left.length : Int)) := Lib.hid (by unfold RS.leftN; rw [if_neg (by simp [he])])
  rw [hL.out]
  rw [he] at hc1
  go_enter Tryz.func177, Tryz.ntmps177
  go_wp2
  go_ret
  exact ⟨rfl, rfl⟩
 ·
  have hL : Hid (r.leftN = 0) := Lib.hid (by unfold RS.leftN; rw [if_pos he])
  rw [hL.out]
  have he' : (r.e != 0) = true := by simp [he]
  go_enter Tryz.func177, Tryz.ntmps177
  go_wp2
  go_ret
  exact ⟨rfl, rfl⟩

set_option maxRecDepth 100000 in
set_option maxHeartbeats 400000 in
theorem r_fail (w : World) (S : Nat → Prop) (b : Nat) (l : List UInt8) (x : Int) (h : Rd w S b ⟨l, 0⟩) :
  Calls Tryz.prog 178 #[.pointer (some ⟨b, 0, none⟩), .int .i64 x] w fun e w' => e = .returned (.tuple #[]) ∧ Rd w' S b ⟨l, x⟩ ∧ Mod S w w' := by
 obtain ⟨v, t, hb, hs, hS⟩ := h
 obtain ⟨hc0, hc1, _, hf1⟩ := wr_cell hb
 obtain ⟨h1, h2⟩ := rd_err x hb hs hS
 have Hb := Lib.hid hb
 clear hb
 go_enter Tryz.func178, Tryz.ntmps178
 go_wp2
 go_end0
 exact ⟨rfl, h1, h2⟩

theorem byte_lt (c : UInt8) : c.toNat < 256 := c.toNat_lt
theorem cellB {w : World} {T : Nat → Prop} {A : Option Addr} {n c : Nat} {l : List UInt8} (hs : Sl w T 1 (.slice A n c) n (l.map B)) {i : Nat} (hi : i < n) :
  ∃ g off x, A = some ⟨g, off, none⟩ ∧ l[i]? = some x ∧ w.cell? ⟨g, off + i, none⟩ = some (.int .u8 (x.toNat : Int)) := by
 obtain ⟨hl, A', c', e, hn, hc, hx⟩ := hs
 injection e with e1 _ e3; subst e1; subst e3
 obtain ⟨g, off, rfl, hT, hcell⟩ := hx (by omega)
 have hli : i < l.length := by simp at hl; omega
 exact ⟨g, off, l[i], rfl, List.getElem?_eq_getElem hli, hcell i _ (by simp [List.getElem?_eq_getElem hli, B])⟩

set_option maxRecDepth 100000 in
set_option maxHeartbeats 400000 in
theorem r_done (w : World) (S : Nat → Prop) (b : Nat) (r : RS) (h : Rd w S b r) :
  Calls Tryz.prog 136 #[.pointer (some ⟨b, 0, none⟩)] w fun e w' => e = .returned (.int .i64 r.done) ∧ w = w' := by
 obtain ⟨v, t, hb, hs, hS⟩ := h
 obtain ⟨hc0, hc1, _, hf1⟩ := wr_cell hb
 obtain ⟨A, c, rfl⟩ := hs.form
 clear hb
 obtain ⟨n, hn⟩ : ∃ n, r.left.length = n := ⟨_, rfl⟩
 rw [hn] at hc0
 by_cases he : r.e = 0
 ·
  rw [he] at hc1
  by_cases h0 : 0 < n
  ·
   have hL : Hid (r.done = 3) := Lib.hid (by unfold RS.done; rw [if_pos ⟨he, by omega⟩])
   rw [hL.out]
   clear hn
   go_enter Tryz.func136, Tryz.ntmps136
   go_wp2
   go_ret
   exact ⟨rfl, rfl⟩
  ·
   have hL : Hid (r.done = 0) := Lib.hid (by unfold RS.done; rw [if_neg (by omega)]; exact he)
   rw [hL.out]
   clear hn
   go_enter Tryz.func136, Tryz.ntmps136
   go_wp2
   go_ret
   exact ⟨rfl, rfl⟩
 ·
  have hL : Hid (r.done = r.e) := Lib.hid (by unfold RS.done; rw [if_neg (by omega)])
  rw [hL.out]
  have he' : (r.e == 0) = false := by simp [he]
  clear hn
  go_enter Tryz.func136, Tryz.ntmps136
  go_wp2
  go_ret
  exact ⟨rfl, rfl⟩

set_option maxRecDepth 100000 in
set_option maxHeartbeats 400000 in
theorem r_int_bad (w : World) (S : Nat → Prop) (b : Nat) (r : RS) (h : Rd w S b r) (he : r.e ≠ 0) :
  Calls Tryz.prog 135 #[.pointer (some ⟨b, 0, none⟩)] w fun e w' => e = .returned (.int .i64 0) ∧ w = w' := by
 obtain ⟨v, t, hb, hs, hS⟩ := h
 obtain ⟨hc0, hc1, _, hf1⟩ := wr_cell hb
 clear hb
 have he2 : (r.e != 0) = true := by simp [he]
 go_enter Tryz.func135, Tryz.ntmps135
 go_wp2
 go_ret
 exact ⟨rfl, rfl⟩

def IntOk (w : World) (S : Nat → Prop) (b : Nat) (l : List UInt8) (e : Ending) (w' : World) : Prop := e = .returned (.int .i64 (RS.int ⟨l, 0⟩).1) ∧ Rd w' S b (RS.int ⟨l, 0⟩).2 ∧ Mod S w w'
set_option maxRecDepth 100000 in
set_option maxHeartbeats 400000 in
theorem r_int_ok (w : World) (S : Nat → Prop) (b : Nat) (l : List UInt8) (h : Rd w S b ⟨l, 0⟩) :
  Calls Tryz.prog 135 #[.pointer (some ⟨b, 0, none⟩)] w (IntOk w S b l) := by
 have H := Lib.hid h
 obtain ⟨v, t, hb, hs, hS⟩ := h
 obtain ⟨hc0, hc1, hf0, hf1⟩ := wr_cell hb
 obtain ⟨A, c, rfl⟩ := hs.form
 have Hb := Lib.hid hb
 have hlen : l.length ≤ maxLen := hs.le
 unfold maxLen at hlen
 obtain ⟨n, hn⟩ : ∃ n, l.length = n := ⟨_, rfl⟩
 simp only [hn] at hs hc0 hlen Hb
 have Hn := Lib.hid hn
 clear hb hn
 go_enter Tryz.func135, Tryz.ntmps135
 go_wp2
 go_loop [3, 16] (fun zv iv => ∃ i z : Nat, i ≤ 9 ∧ i ≤ n ∧ iv = .int .i64 i ∧ zv = .int .u64 z ∧ z < 2 ^ (7 * i) ∧ rdVar 0 0 l = rdVar i z (l.drop i)) (fun _ iv => n - (intOf iv).toNat)
 case atStart => exact ⟨0, 0, by omega, by omega, rfl, rfl, by decide, rfl⟩
 case round =>
  obtain ⟨i, z, hi9, hin, rfl, rfl, hz, hrd⟩ := hrel
  have Hz := Lib.hid hz
  have Hrd := Lib.hid hrd
  clear hz hrd
  have hfail : rdVar i z (l.drop i) = none → ∀ w', Rd w' S b ⟨l, 3⟩ → Mod S w w' → IntOk w S b l (.returned (.int .i64 0)) w' := by
   intro h w' h1 h2
   unfold IntOk
   rw [int_none (Hrd.out.trans h)]
   exact ⟨rfl, h1, h2⟩
  have Hfail := Lib.hid hfail
  clear hfail
  by_cases hi : i < n
  ·
   obtain ⟨g, off, x, rfl, hx, hcell⟩ := cellB hs hi
   have hxlt := byte_lt x
   obtain ⟨m, hm⟩ : ∃ m, x.toNat = m := ⟨_, rfl⟩
   rw [hm] at hcell hxlt
   have Hm := Lib.hid hm
   obtain ⟨mi, hmi⟩ : ∃ mi : Int, (m : Int) = mi := ⟨_, rfl⟩
   rw [hmi] at hcell
   have b1 : 0 ≤ mi := by omega
   have b2 : mi < 256 := by omega
   have HM := Lib.hid hmi
   have Hx := Lib.hid hx
   clear hx hm hmi
   by_cases hA : i = 9 ∧ 1 < m
   ·
    have h9 : ((i : Int) == 9) = true := by simp; omega
    have hgt : decide ((1 : Int) < mi) = true := by have := HM.out; simp; omega
    have HA := Lib.hid hA
    clear hA
    go_wp2_with fail
    refine (r_fail w S b l 3 H.out).mono ?_
    rintro e w1 ⟨rfl, hR, hmd⟩
    go_wp2
    go_ret
    exact Hfail.out (rd_none1 Hx.out Hm.out (.inl HA.out)) _ hR hmd
   ·
    obtain ⟨hor, hz1, hz2⟩ := or_join z m i Hz.out hxlt hi9 (by omega)
    obtain ⟨z', hz'⟩ : ∃ z', z + m % 128 * 2 ^ (7 * i) = z' := ⟨_, rfl⟩
    rw [hz'] at hor hz1 hz2
    rw [HM.out] at hor
    have hg : ((i : Int) == 9) = false ∨ (((i : Int) == 9) = true ∧ decide ((1 : Int) < mi) = false) := by have := HM.out; simp; omega
    have Hz1 := Lib.hid hz1
    have Hz2 := Lib.hid hz2
    have Hz' := Lib.hid hz'
    have HA := Lib.hid hA
    clear hz1 hz2 hz' hA
    by_cases hC : 128 ≤ m
    ·
     have hlt : decide (mi < 128) = false := by have := HM.out; simp; omega
     rcases hg with h9 | ⟨h9, hgt⟩
     ·
      go_wp2
      refine ⟨⟨i + 1, z', by have := HA.out; simp at h9; omega, by omega, by go_num, rfl, Hz2.out (by simp at h9; omega), ?_⟩, by simp [intOf]; omega⟩
      rw [Hrd.out, rd_more Hx.out Hm.out HA.out (by omega), Hz'.out]
     ·
      exfalso; have := HA.out; have := HM.out; simp at h9 hgt; omega
    ·
     have hlt : decide (mi < 128) = true := by have := HM.out; simp; omega
     by_cases h1 : m = 0 ∧ 0 < i
     ·
      have e1 : (mi == 0) = true := by have := HM.out; simp; omega
      have e2 : decide (0 < i) = true := by simp; omega
      have H1 := Lib.hid h1
      clear h1
      rcases hg with h9 | ⟨h9, hgt⟩
      all_goals
       go_wp2_with fail
       refine (r_fail w S b l 3 H.out).mono ?_
       rintro e w1 ⟨rfl, hR, hmd⟩
       go_wp2
       go_ret
       exact Hfail.out (rd_none1 Hx.out Hm.out (.inr H1.out)) _ hR hmd
     ·
      have hzag := zag_bits z' Hz1.out
      have hcut := hs.cutA (m := i + 1) (by omega)
      have hput := rd_put (l := l.drop (i + 1)) Hb.out hcut hS (by simp)
      have hput2 : IntOk w S b l (.returned (.int .i64 (zag z'))) (w.setCell ⟨b, 0, none⟩ (.slice (cutA (some ⟨g, off, none⟩) (i + 1) c 1) (n - (i + 1)) (c - (i + 1)))) := by
       unfold IntOk
       rw [int_some (Hrd.out.trans ((rd_end Hx.out Hm.out HA.out h1 (by omega)).trans (by rw [Hz'.out])))]
       exact ⟨rfl, hput⟩
      rw [← hzag] at hput2
      have HP := Lib.hid hput2
      clear hcut hput hput2 hzag
      have e1 : (mi == 0) = false ∨ ((mi == 0) = true ∧ decide (0 < i) = false) := by have := HM.out; simp; omega
      clear h1
      rcases hg with h9 | ⟨h9, hgt⟩
      ·
       rcases e1 with e1 | ⟨e1, e2⟩
       ·
        go_wp2
        go_ret
        exact HP.out
       ·
        go_wp2
        go_ret
        exact HP.out
      ·
       rcases e1 with e1 | ⟨e1, e2⟩
       ·
        go_wp2
        go_ret
        exact HP.out
       ·
        exfalso; simp at h9 e2; omega
  ·
   go_wp2_with fail
   refine (r_fail w S b l 3 H.out).mono ?_
   rintro e w1 ⟨rfl, hR, hmd⟩
   go_wp2
   go_ret
   exact Hfail.out (by rw [List.drop_eq_nil_of_le (by rw [Hn.out]; omega)]; rfl) _ hR hmd

theorem r_int (w : World) (S : Nat → Prop) (b : Nat) (r : RS) (h : Rd w S b r) :
  Calls Tryz.prog 135 #[.pointer (some ⟨b, 0, none⟩)] w fun e w' => e = .returned (.int .i64 r.int.1) ∧ Rd w' S b r.int.2 ∧ Mod S w w' := by
 obtain ⟨l, x⟩ := r
 by_cases he : x = 0
 ·
  subst he; exact (r_int_ok w S b l h).mono fun _ _ h => h
 ·
  refine (r_int_bad w S b _ h he).mono ?_
  rintro e w' ⟨rfl, rfl⟩
  have : RS.int ⟨l, x⟩ = (0, ⟨l, x⟩) := by simp [RS.int, he]
  rw [this]
  exact ⟨rfl, h, Mod.refl _ _⟩
attribute [local go_sem] call_frombits call_bits
set_option maxRecDepth 100000 in
set_option maxHeartbeats 400000 in
theorem r_float_bad (w : World) (S : Nat → Prop) (b : Nat) (r : RS) (h : Rd w S b r) (he : r.e ≠ 0) :
  Calls Tryz.prog 201 #[.pointer (some ⟨b, 0, none⟩)] w fun e w' => e = .returned (.float .f64 0) ∧ w = w' := by
 obtain ⟨v, t, hb, hs, hS⟩ := h
 obtain ⟨hc0, hc1, _, hf1⟩ := wr_cell hb
 clear hb
 have he2 : (r.e != 0) = true := by simp [he]
 go_enter Tryz.func201, Tryz.ntmps201
 go_wp2
 go_ret
 exact ⟨rfl, rfl⟩

def FloatOk (w : World) (S : Nat → Prop) (b : Nat) (l : List UInt8) (e : Ending) (w' : World) : Prop := e = .returned (.float .f64 (RS.float ⟨l, 0⟩).1) ∧ Rd w' S b (RS.float ⟨l, 0⟩).2 ∧ Mod S w w'
theorem float_few {l : List UInt8} (h : l.length < 8) : RS.float ⟨l, 0⟩ = (0, ⟨l, 3⟩) := by simp [RS.float, h]
theorem float_nan {l : List UInt8} (_ : ¬ l.length < 8) (h1 : canon (num8 (l.take 8)) ≠ num8 (l.take 8)) : RS.float ⟨l, 0⟩ = (0, ⟨l, 3⟩) := by simp [RS.float, h1]
theorem float_yes {l : List UInt8} (h : ¬ l.length < 8) (h1 : canon (num8 (l.take 8)) = num8 (l.take 8)) : RS.float ⟨l, 0⟩ = (num8 (l.take 8), ⟨l.drop 8, 0⟩) := by simp [RS.float, h, h1]

set_option maxRecDepth 100000 in
set_option maxHeartbeats 400000 in
theorem r_float_ok (w : World) (S : Nat → Prop) (b : Nat) (l : List UInt8) (h : Rd w S b ⟨l, 0⟩) :
  Calls Tryz.prog 201 #[.pointer (some ⟨b, 0, none⟩)] w (FloatOk w S b l) := by
 have H := Lib.hid h
 obtain ⟨v, t, hb, hs, hS⟩ := h
 obtain ⟨hc0, hc1, hf0, hf1⟩ := wr_cell hb
 obtain ⟨A, c, rfl⟩ := hs.form
 have Hb := Lib.hid hb
 have hlen : l.length ≤ maxLen := hs.le
 unfold maxLen at hlen
 obtain ⟨n, hn⟩ : ∃ n, l.length = n := ⟨_, rfl⟩
 simp only [hn] at hs hc0 hlen Hb
 have Hn := Lib.hid hn
 clear hb hn
 have hfail : RS.float ⟨l, 0⟩ = (0, ⟨l, 3⟩) → ∀ w', Rd w' S b ⟨l, 3⟩ → Mod S w w' → FloatOk w S b l (.returned (.float .f64 0)) w' := by
  intro h w' h1 h2
  unfold FloatOk
  rw [h]
  exact ⟨rfl, h1, h2⟩
 have Hfail := Lib.hid hfail
 clear hfail
 by_cases h8 : n < 8
 ·
  go_enter Tryz.func201, Tryz.ntmps201
  go_wp2_with fail
  refine (r_fail w S b l 3 H.out).mono ?_
  rintro e w1 ⟨rfl, hR, hmd⟩
  go_wp2
  go_ret
  exact Hfail.out (float_few (by rw [Hn.out]; exact h8)) _ hR hmd
 ·
  have h8' : 8 ≤ n := by omega
  have hnc : n ≤ c := by obtain ⟨_, A', c', e, h1, _⟩ := hs; injection e with _ _ e3; omega
  have hc8 : (8 : Int) ≤ (c : Int) := by omega
  go_enter Tryz.func201, Tryz.ntmps201
  go_wp2
  go_loop [3, 26] (fun xv iv => ∃ i : Nat, i ≤ 8 ∧ iv = .int .i64 i ∧ xv = .int .u64 (num8 (l.take i))) (fun _ iv => 8 - (intOf iv).toNat)
  case atStart => exact ⟨0, by omega, rfl, rfl⟩
  case round =>
   obtain ⟨i, hi8, rfl, rfl⟩ := hrel
   by_cases hi : i < 8
   ·
    obtain ⟨g, off, x, rfl, hx, hcell⟩ := cellB hs (i := i) (by omega)
    have hxlt := byte_lt x
    have hor := or8 (num8 (l.take i)) x.toNat (by
     have h1 := num8_lt i (l.take i) (by rw [List.length_take, Hn.out]; omega)
     have h2 : 256 ^ i ≤ 256 ^ 7 := Nat.pow_le_pow_right (by omega) (by omega)
     omega) hxlt
    have Hx := Lib.hid hx
    have e1 : num8 (l.take i) * 256 + x.toNat = num8 (l.take (i + 1)) := by rw [take_at hx, num8_snoc]
    rw [e1] at hor
    clear hx e1
    go_wp2
    exact ⟨⟨i + 1, by omega, by go_num, rfl⟩, by simp [intOf]; omega⟩
   ·
    obtain rfl : i = 8 := by omega
    obtain ⟨y, hy⟩ : ∃ y, num8 (l.take 8) = y := ⟨_, rfl⟩
    rw [hy]
    have Hy := Lib.hid hy
    clear hy
    by_cases hc : canon y = y
    ·
     have hne : ((canon y : Int) != (y : Int)) = false := by simp [hc]
     have hcut := hs.cutA (m := 8) (by omega)
     have hput := rd_put (l := l.drop 8) Hb.out hcut hS (by simp)
     have hput2 : FloatOk w S b l (.returned (.float .f64 y)) (w.setCell ⟨b, 0, none⟩ (.slice (cutA A 8 c 1) (n - 8) (c - 8))) := by
      unfold FloatOk
      rw [float_yes (by rw [Hn.out]; omega) (by rw [Hy.out]; exact hc), Hy.out]
      exact ⟨rfl, hput⟩
     have HP := Lib.hid hput2
     clear hcut hput hput2 hc
     go_wp2_with (go_at_call 199; refine (canon_any _ _).mono ?_; rintro e w' ⟨rfl, rfl⟩)
     go_ret
     exact HP.out
    ·
     have hne : ((canon y : Int) != (y : Int)) = true := by simp; omega
     have Hc := Lib.hid hc
     clear hc
     go_wp2_with (go_at_call 199; refine (canon_any _ _).mono ?_; rintro e w' ⟨rfl, rfl⟩)
     refine (r_fail w S b l 3 H.out).mono ?_
     rintro e w1 ⟨rfl, hR, hmd⟩
     go_wp2
     go_ret
     exact Hfail.out (float_nan (by rw [Hn.out]; omega) (by rw [Hy.out]; exact Hc.out)) _ hR hmd
theorem r_float (w : World) (S : Nat → Prop) (b : Nat) (r : RS) (h : Rd w S b r) :
  Calls Tryz.prog 201 #[.pointer (some ⟨b, 0, none⟩)] w fun e w' => e = .returned (.float .f64 r.float.1) ∧ Rd w' S b r.float.2 ∧ Mod S w w' := by
 obtain ⟨l, x⟩ := r
 by_cases he : x = 0
 ·
  subst he; exact (r_float_ok w S b l h).mono fun _ _ h => h
 ·
  refine (r_float_bad w S b _ h he).mono ?_
  rintro e w' ⟨rfl, rfl⟩
  have : RS.float ⟨l, x⟩ = (0, ⟨l, x⟩) := by simp [RS.float, he]
  rw [this]
  exact ⟨rfl, h, Mod.refl _ _⟩

theorem zag_range (z : Nat) (h : z < 18446744073709551616) : -9223372036854775808 ≤ zag z ∧ zag z ≤ 9223372036854775807 := by
 unfold zag; split <;> omega
theorem rdVar_lt : ∀ (l : List UInt8) (k z : Nat) (z' : Nat) (r : List UInt8), k ≤ 9 → z < 2 ^ (7 * k) → rdVar k z l = some (z', r) → z' < 18446744073709551616 ∧ r.length < l.length
 | [], _, _, _, _, _, _, h => by simp [rdVar] at h
 | c :: l, k, z, z', r, hk, hz, h => by
  have hc := c.toNat_lt
  rw [rdVar] at h
  split at h
  ·
   cases h
  ·
   rename_i h9
   have hj := or_join z c.toNat k hz hc hk (by omega)
   split at h
   ·
    split at h
    ·
     cases h
    ·
     simp only [Option.some.injEq, Prod.mk.injEq] at h
     obtain ⟨rfl, rfl⟩ := h
     exact ⟨hj.2.1, by simp⟩
   ·
    have := rdVar_lt l (k + 1) _ z' r (by omega) (hj.2.2 (by omega)) h
    exact ⟨this.1, by simp; omega⟩
theorem int_range (r : RS) : -9223372036854775808 ≤ r.int.1 ∧ r.int.1 ≤ 9223372036854775807 := by
 unfold RS.int
 split
 ·
  simp
 ·
  split
  ·
   simp
  ·
   rename_i z l h
   exact zag_range z (rdVar_lt _ 0 0 z l (by omega) (by decide) h).1

theorem int_left_le (r : RS) : r.int.2.left.length ≤ r.left.length := by
 unfold RS.int
 split
 ·
  simp
 ·
  split
  ·
   simp
  ·
   rename_i z l h
   exact Nat.le_of_lt (rdVar_lt _ 0 0 z l (by omega) (by decide) h).2
theorem text_eq (r : RS) : r.text = (if r.int.2.e ≠ 0 then ([], r.int.2) else if 16384 < r.int.1 then ([], ⟨r.int.2.left, 2⟩) else
  if r.int.1 < 0 ∨ (r.int.2.left.length : Int) < r.int.1 then ([], ⟨r.int.2.left, 3⟩) else (r.int.2.left.take r.int.1.toNat, ⟨r.int.2.left.drop r.int.1.toNat, 0⟩)) := rfl
def TextOk (w : World) (S : Nat → Prop) (b : Nat) (r : RS) (e : Ending) (w' : World) : Prop := ∃ v, e = .returned v ∧ NewB w w' v r.text.1 ∧ Rd w' S b r.text.2 ∧ Mod S w w'
set_option maxRecDepth 100000 in
set_option maxHeartbeats 400000 in
theorem r_text (w : World) (S : Nat → Prop) (b : Nat) (r : RS) (h : Rd w S b r) (hS : ∀ k, S k → k < w.heap.size) :
  Calls Tryz.prog 175 #[.pointer (some ⟨b, 0, none⟩)] w (TextOk w S b r) := by
 obtain ⟨i0, hi, hz0, hz1, hz2⟩ := info_parts info_u8
 have hR0 := int_range r
 go_enter Tryz.func175, Tryz.ntmps175
 go_wp2_with fail
 refine (r_int w S b r h).mono ?_
 rintro e w1 ⟨rfl, hR, hmd⟩
 obtain ⟨⟨l, x⟩, hrr⟩ : ∃ r1, r.int.2 = r1 := ⟨_, rfl⟩
 obtain ⟨k, hk⟩ : ∃ k, r.int.1 = k := ⟨_, rfl⟩
 rw [hrr] at hR
 have hll : l.length ≤ r.left.length := by have := int_left_le r; rw [hrr] at this; exact this
 rw [hk] at hR0 ⊢
 have hfail : ∀ y, r.text = ([], ⟨l, y⟩) → ∀ w', Rd w' S b ⟨l, y⟩ → Mod S w1 w' → TextOk w S b r (.returned (.slice none 0 0)) w' := by
  intro y h w' h1 h2
  unfold TextOk
  rw [h]
  exact ⟨_, rfl, ⟨World.ownsRow_nil _ _ _ _, by simp [Value.ownBlock]⟩, h1, hmd.trans h2 (fun _ _ h => h)⟩
 have Hfail := Lib.hid hfail
 have H := Lib.hid hR
 have ht := text_eq r
 rw [hrr, hk] at ht
 have Ht := Lib.hid ht
 clear hfail ht hrr hk
 obtain ⟨v, t, hb, hs, hSb⟩ := hR
 simp only at hb hs
 obtain ⟨hc0, hc1, hf0, hf1⟩ := wr_cell hb
 obtain ⟨A, c, rfl⟩ := hs.form
 have Hb := Lib.hid hb
 clear hb
 by_cases hx : x = 0
 ·
  subst hx
  by_cases h1 : 16384 < k
  ·
   have Hq : Hid (r.text = ([], ⟨l, 2⟩)) := Lib.hid (by rw [Ht.out]; simp [h1])
   go_wp2_with fail
   refine (r_fail w1 S b l 2 H.out).mono ?_
   rintro e w2 ⟨rfl, hR2, hm2⟩
   go_wp2
   go_ret
   exact Hfail.out 2 Hq.out _ hR2 hm2
  ·
   by_cases h2 : k < 0
   ·
    have Hq : Hid (r.text = ([], ⟨l, 3⟩)) := Lib.hid (by rw [Ht.out]; simp [h1, h2])
    have d1 : decide (k < 0) = true := by simp [h2]
    go_wp2_with fail
    refine (r_fail w1 S b l 3 H.out).mono ?_
    rintro e w2 ⟨rfl, hR2, hm2⟩
    go_wp2
    go_ret
    exact Hfail.out 3 Hq.out _ hR2 hm2
   ·
    have d1 : decide (k < 0) = false := by simp; omega
    obtain ⟨n, hn⟩ : ∃ n, l.length = n := ⟨_, rfl⟩
    rw [hn] at hs hc0 hll
    simp only [hn] at Hb
    have Hn := Lib.hid hn
    clear hn
    by_cases h3 : (n : Int) < k
    ·
     have Hq : Hid (r.text = ([], ⟨l, 3⟩)) := Lib.hid (by rw [Ht.out]; simp [h1, Hn.out, h3])
     go_wp2_with fail
     refine (r_fail w1 S b l 3 H.out).mono ?_
     rintro e w2 ⟨rfl, hR2, hm2⟩
     go_wp2
     go_ret
     exact Hfail.out 3 Hq.out _ hR2 hm2
    ·
     obtain ⟨m, rfl⟩ := Int.eq_ofNat_of_zero_le (show 0 ≤ k by omega)
     have Hq : Hid (r.text = (l.take m, ⟨l.drop m, 0⟩)) := Lib.hid (by rw [Ht.out]; simp [h1, Hn.out]; omega)
     have d3 : decide ((n : Int) < (m : Int)) = false := by simp; omega
     have hnc : n ≤ c := by obtain ⟨_, A', c', e, h1, _⟩ := hs; injection e with _ _ e3; omega
     have hmc : (m : Int) ≤ (c : Int) := by omega
     have hmn : (m : Int) ≤ (n : Int) := by omega
     have hblt : b < w1.heap.size := World.block_lt_of_cell? _ _ hc0
     have hup := (hs.upto (m := m) (by omega)).alloc (.cells #[] 5)
     have hml : m ≤ 16384 := by omega
     go_wp2_with (at_builtin; refine wpList_app _ rfl _ _ 25 rfl 5 i0 _ 1 1 Tryz.underlying25 hi hz0 hz1 hz2 rfl (by omega) _ 0 [] rfl (World.ownsRow_made w1 #[] 0 (Nat.zero_le _) (Nat.zero_le _) rfl) _ _ m _ rfl hup (by rw [← List.map_take]; exact B_one _) (by simp only [maxLen]; omega) (by omega) ?_)
     intro v' w2 ho hgr hat
     have hE : Ext w1 w2 := (Mod.alloc (Mod.refl _ w1) _).grown hgr (by simp [Value.ownBlock])
     have hN : NewB w w2 v' (l.take m) := by
      have e1 : (l.take m).length = m := by rw [List.length_take, Hn.out]; omega
      refine ⟨by rw [e1]; simpa using ho, fun g hgg => ?_⟩
      have := hmd.size
      rcases hat with e | e <;> rw [e] at hgg <;> simp [Value.ownBlock] at hgg <;> omega
     have hb2 := hE.blk Hb.out id
     have hs2 := (hs.ext hE).cutA (m := m) (by omega)
     have hput := rd_put (l := l.drop m) hb2 hs2 hSb (by simp)
     obtain ⟨hd0, _, he0, _⟩ := wr_cell hb2
     have hfin : TextOk w S b r (.returned v') (w2.setCell ⟨b, 0, none⟩ (.slice (cutA A m c 1) (n - m) (c - m))) := by
      unfold TextOk
      rw [Hq.out]
      refine ⟨v', rfl, ⟨?_, hN.2⟩, hput.1, (hmd.ext hE).trans hput.2 (fun _ _ h => h)⟩
      exact own_mod hN.1 ((Mod.refl (fun k => k = b) w2).setCell (p := ⟨b, 0, none⟩) (.inr rfl) _) (fun g h1 h2 => by have := hN.2 g h1; have := hS b hSb; omega)
     have HF := Lib.hid hfin
     clear hfin hput hs2 hb2 hN hat hgr
     go_wp2
     go_ret
     exact HF.out
 ·
  have hx1 : (x != 0) = true := by simp [hx]
  have Hq : Hid (r.text = ([], ⟨l, x⟩)) := Lib.hid (by rw [Ht.out]; simp [hx])
  go_wp2
  go_ret
  exact Hfail.out x Hq.out _ H.out (Mod.refl _ _)
end Go.Proofs.YtjhnlncgmejkcaaGreat
