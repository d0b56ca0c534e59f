/-
  Contracts of package stable's record, numbers, read, same, opened. Conditions: as each theorem names them.
-/
import Derived.Test.YtjhnlncgmejkcaaGreatStbT
import Derived.Test.YtjhnlncgmejkcaaGreatS14
import Derived.Test.YtjhnlncgmejkcaaGreatS15
import Derived.Test.YtjhnlncgmejkcaaGreatS4
import Derived.Test.YtjhnlncgmejkcaaGreatS2
import Derived.Test.YtjhnlncgmejkcaaGreatS11
import Derived.Test.YtjhnlncgmejkcaaGreatS8
import Derived.Test.YtjhnlncgmejkcaaGreatS13
set_option maxRecDepth 100000
set_option maxHeartbeats 2000000
namespace Go.Proofs.YtjhnlncgmejkcaaGreat
set_option linter.unusedSimpArgs false
open Go.RowKit
def zeZ (k : UInt8) (b : List UInt8) : List UInt8 × Int := if 16384 < b.length + 1 then ([], 2) else (zR (k :: b), 0)
theorem zf8 (w : World) (T : Nat → Prop) (A : Option Addr) (n c : Nat) (kv : Int) (k : UInt8) (b : List UInt8) (hk : kv = (k.toNat : Int)) (h : Byt w T (.slice A n c) b) (hn : b.length = n) (hnl : n ≤ 1000000) :
  Calls Tryz.prog 100 #[.int .u8 kv, .slice A n c] w fun e w' => ∃ v, e = .returned (.tuple #[v, .int .i64 (zeZ k b).2]) ∧ yO w w' v (zeZ k b).1 ∧ Ext w w' := by
 subst hk
 obtain ⟨w1, hw1⟩ : ∃ w1, w.alloc (.cells #[.int .u8 (k.toNat : Int)] 5) = w1 := ⟨_, rfl⟩
 have hN1 : yO w w1 (.slice (some ⟨w.heap.size, 0, none⟩) 1 1) [k] := by rw [← hw1]; exact zfE w [k] 1 _ rfl (by decide) rfl
 have hE1 : Ext w w1 := by rw [← hw1]; exact (Mod.refl _ w).alloc _
 have hb := h.ext hE1
 rw [← hw1] at hN1 hE1 hb
 have HN1 := hJ hN1
 have HE1 := hJ hE1
 have Hn := hJ hn
 have Hb := hJ hb
 clear hw1 hN1 hE1 hn h hb
 go_enter Tryz.func100, Tryz.ntmps100
 go_wp2_with (at_builtin; refine zW rfl _ _ rfl (.slice (some ⟨w.heap.size, 0, none⟩) 1 1) [k] w rfl HN1.out HE1.out T _ b rfl Hb.out (by rw [Hn.out]; simp only [List.length_cons, List.length_nil]; omega) ?_)
 rintro A5 n5 c5 w5 hn5 hN5 hE5 _ _
 have hl5 : (k :: b).length = n5 := by rw [hn5]; rfl
 have hn6 : n5 = n + 1 := by rw [← hl5, List.length_cons, Hn.out]
 have hb5 : Byt w5 (zZ w.heap.size) (.slice A5 n5 c5) (k :: b) := yO.sl (w := w) hN5
 have HE5 := hJ hE5
 have Hn6 := hJ hn6
 clear hN5 hn5 hE5 hn6
 by_cases hL : 16384 < n5
 ·
  have Hr : Hid (zeZ k b = ([], 2)) := hJ (by unfold zeZ; rw [if_pos (by rw [Hn.out, ← Hn6.out]; exact hL)])
  go_wp2_with fail
  refine (zjA w5 A5 n5 c5 hL).mono ?_
  rintro e w6 ⟨rfl, rfl⟩
  go_wp2
  go_ret2
  rw [Hr.out]
  exact ⟨_, rfl, ⟨World.ownsRow_nil _ _ _ _, by simp [Value.ownBlock]⟩, HE5.out⟩
 have Hr : Hid (zeZ k b = (zR (k :: b), 0)) := hJ (by unfold zeZ; rw [if_neg (by rw [Hn.out, ← Hn6.out]; exact hL)])
 have Hl5 := hJ hl5
 have Hb5 := hJ hb5
 clear hl5 hb5
 go_wp2_with fail
 refine (fr_seal w5 _ A5 n5 c5 (k :: b) Hb5.out Hl5.out (by omega)).mono ?_
 rintro e w6 ⟨A6, c6, rfl, hN6, hE6⟩
 have HN6 := hJ (hN6.up HE5.out)
 have HE6 := hJ (HE5.out.ext hE6)
 clear hN6 hE6
 go_wp2
 go_ret2
 rw [Hr.out]
 exact ⟨_, rfl, HN6.out, HE6.out⟩
theorem zhI (w : World) (T : Nat → Prop) (A : Option Addr) (m c : Nat) (kv : Int) (k : UInt8) (l : List Int) (hk : kv = (k.toNat : Int)) (h : Sl w T 1 (.slice A m c) m (l.map (Value.int .i64))) (hm : l.length = m) (hml : m ≤ 3) (hi : ∀ n ∈ l, I64 n) :
  Calls Tryz.prog 107 #[.int .u8 kv, .slice A m c] w fun e w' => ∃ v, e = .returned v ∧ yO w w' v (zR (k :: zQ l)) ∧ Ext w w' := by
 subst hk
 obtain ⟨w1, hw1⟩ : ∃ w1, w.alloc (.cells #[.slice none 0 0, .bool false] 171) = w1 := ⟨_, rfl⟩
 have hW : Wr w1 (zZ w.heap.size) w.heap.size [] false := by
  rw [← hw1]
  exact ⟨.slice none 0 0, 171, heap_alloc_new w _, World.ownsRow_nil _ _ _ _, Nat.le_refl _, by simp [Value.ownBlock]⟩
 have hE1 : Ext w w1 := by rw [← hw1]; exact (Mod.refl _ w).alloc _
 have Hw1 := hJ hw1
 have Hm := hJ hm
 have Hi := hJ hi
 have H := hJ h
 have HW := hJ hW
 have HE1 := hJ hE1
 clear hw1 hW hE1 hm hi h
 go_enter Tryz.func107, Tryz.ntmps107
 go_wp2_with fail
 rw [Hw1.out]
 go_loopw [14] (fun iv wr => ∃ i : Nat, i ≤ m ∧ iv = .int .i64 i ∧ Wr wr (zZ w.heap.size) w.heap.size (zQ (l.take i)) false ∧ Ext w wr) (fun iv _ => m - (intOf iv).toNat)
 case atStart => exact ⟨0, by omega, rfl, HW.out, HE1.out⟩
 obtain ⟨i, him, rfl, hWr, hEr⟩ := hrel
 have HWr := hJ hWr
 have HEr := hJ hEr
 have hbl : (zQ (l.take i)).length ≤ 100 := by
  have h1 : ∀ q : List Int, (zQ q).length ≤ 10 * q.length := fun q => by
   induction q with
   | nil => simp [zQ]
   | cons x q ih =>
    have := zV x
    unfold zQ at ih ⊢
    simp only [List.flatMap_cons, List.length_append, List.length_cons]
    omega
  have := h1 (l.take i)
  rw [List.length_take, Hm.out] at this
  omega
 clear hWr hEr
 by_cases him2 : i < m
 ·
  have hx : ∃ x, l[i]? = some x := ⟨_, List.getElem?_eq_getElem (by rw [Hm.out]; exact him2)⟩
  obtain ⟨x, hx⟩ := hx
  have hs := (H.out.ext HEr.out)
  obtain ⟨_, A', c', e, _, _, hcell⟩ := hs
  injection e with e1 _ e3
  subst e1; subst e3
  obtain ⟨g, off, rfl, _, hcell⟩ := hcell (by omega)
  have x0 := hcell i _ (by rw [List.getElem?_map, hx]; rfl)
  have hxi := Hi.out x (List.mem_of_getElem? hx)
  have ht : zQ (l.take (i + 1)) = zQ (l.take i) ++ zS x := by
   obtain ⟨h1, h2⟩ := List.getElem?_eq_some_iff.1 hx
   rw [List.take_succ_eq_append_getElem h1, h2]
   unfold zQ
   rw [List.flatMap_append]
   simp
  have Ht := hJ ht
  have i0 : (0 : Int) ≤ (i : Int) := by omega
  have i1 : (i : Int) < (m : Int) := by omega
  clear hcell hx ht
  go_wp2_with fail
  refine (zn0 wr (zZ w.heap.size) w.heap.size _ false x HWr.out (by omega) hxi.1 hxi.2).mono ?_
  rintro e w3 ⟨rfl, hW3, hm3⟩
  have HW3 : Hid (Wr w3 (zZ w.heap.size) w.heap.size (zQ (l.take (i + 1))) false) := hJ (by rw [Ht.out]; exact Wr.since hW3 HEr.out.size)
  have HE3 : Hid (Ext w w3) := hJ (Mod.toExt ((Ext.mod HEr.out (zZ w.heap.size)).self hm3))
  clear hW3 hm3 x0
  go_wp2_with fail
  go_roundw
  case rel =>
   exact ⟨i + 1, by omega, by go_num, HW3.out, HE3.out⟩
  case measure => simp [intOf]; omega
 have e : l.take i = l := List.take_of_length_le (by rw [Hm.out]; omega)
 rw [e] at HWr hbl
 have hd : decide ((i : Int) < (m : Int)) = false := by simp; omega
 go_wp2_with fail
 refine (zn2 wr _ _ _ HWr.out (by omega)).mono ?_
 rintro e w3 ⟨v, rfl, hN3, hE3⟩
 obtain ⟨A3, c3, rfl⟩ := zN hN3.1
 obtain ⟨q, hq⟩ : ∃ q, (zQ l).length = q := ⟨_, rfl⟩
 have hb3 : Byt w3 (zZ wr.heap.size) (.slice A3 (zQ l).length c3) (zQ l) := yO.sl (w := wr) hN3
 rw [hq] at hb3 hbl ⊢
 have Hq := hJ hq
 have Hb3 := hJ hb3
 have HE3 := hJ (HEr.out.ext hE3)
 clear hN3 hE3 hq hb3
 go_wp2_with fail
 refine (zf8 w3 _ A3 q c3 _ k (zQ l) rfl Hb3.out Hq.out (by omega)).mono ?_
 rintro e w4 ⟨v4, rfl, hN4, hE4⟩
 have Hr : Hid (zeZ k (zQ l) = (zR (k :: zQ l), 0)) := hJ (by unfold zeZ; rw [if_neg (by rw [Hq.out]; omega)])
 rw [Hr.out] at hN4 ⊢
 have HN4 := hJ (hN4.up HE3.out)
 have HE4 := hJ (HE3.out.ext hE4)
 clear hN4 hE4
 go_wp2
 go_ret
 exact ⟨v4, rfl, HN4.out, HE4.out⟩
theorem zf9 (w : World) (s : Value) (x : Int) :
  Calls Tryz.prog 38 #[s, .int .i64 x] w fun e w' => e = .returned (.tuple #[if x = 0 then s else .pointer none, .int .i64 x]) ∧ w = w' := by
 by_cases h : x = 0
 ·
  subst h
  rw [if_pos rfl]
  go_enter Tryz.func38, Tryz.ntmps38
  go_wp2
  go_ret2
  exact ⟨rfl, rfl⟩
 rw [if_neg h]
 have hb : (x != 0) = true := by simpa using h
 go_enter Tryz.func38, Tryz.ntmps38
 go_wp2
 go_ret2
 exact ⟨rfl, rfl⟩
theorem zpQ (w : World) (a b : zI) (ha : a.ok) (hb : b.ok) :
  Calls Tryz.prog 108 #[.agg #[.int .i64 a.term, .int .i64 a.kind, .int .i64 a.call.client, .int .i64 a.call.seq, .int .i64 a.call.cmd.kind, .string a.call.cmd.key, .int .i64 a.call.cmd.old.kind, .float .f64 a.call.cmd.old.num, .string a.call.cmd.old.text, .int .i64 a.call.cmd.val.kind, .float .f64 a.call.cmd.val.num, .string a.call.cmd.val.text, .int .i64 a.conf.full, .int .i64 a.conf.wit, .int .i64 a.conf.learn, .int .i64 a.conf.learnWit], .agg #[.int .i64 b.term, .int .i64 b.kind, .int .i64 b.call.client, .int .i64 b.call.seq, .int .i64 b.call.cmd.kind, .string b.call.cmd.key, .int .i64 b.call.cmd.old.kind, .float .f64 b.call.cmd.old.num, .string b.call.cmd.old.text, .int .i64 b.call.cmd.val.kind, .float .f64 b.call.cmd.val.num, .string b.call.cmd.val.text, .int .i64 b.conf.full, .int .i64 b.conf.wit, .int .i64 b.conf.learn, .int .i64 b.conf.learnWit]] w fun e w' => e = .returned (.bool (zf3 a b)) ∧ Ext w w' := by
 obtain ⟨W, hW⟩ : ∃ W, W = (w.alloc (.cells a.cells.toArray 56)).alloc (.cells b.cells.toArray 56) := ⟨_, rfl⟩
 obtain ⟨hA, hB, hsz⟩ := zaC w (.cells a.cells.toArray 56) (.cells b.cells.toArray 56)
 rw [← hW] at hA hB hsz
 have hE : Ext w W := by rw [hW]; exact ((Mod.refl _ w).alloc _).alloc _
 have hla := zF (P := Tryz.prog) (o := 0) (cs := a.cells) zM hA rfl (fun j u hu => by rw [Nat.zero_add]; exact hu)
 have HW := hJ hW
 have HB := hJ hB
 have HE := hJ hE
 clear hA hB hW hE hsz
 go_enter Tryz.func108, Tryz.ntmps108
 go_wp2_with (rw [← HW.out]; refine zG rfl 56 _ rfl _ _ rfl hla ?_)
 clear hla
 refine (zh7 W a ha).mono ?_
 rintro e w1 ⟨v1, rfl, hN1, hE1⟩
 obtain ⟨A1, c1, rfl⟩ := zN hN1.1
 have hlb := zF (P := Tryz.prog) (o := 0) (cs := b.cells) zM (hE1.blk HB.out id) rfl (fun j u hu => by rw [Nat.zero_add]; exact hu)
 have Hb1 : Hid (Byt w1 (zZ W.heap.size) (.slice A1 _ c1) (ziL (jR a)).1) := hJ (yO.sl (w := W) hN1)
 have HE1 := hJ (HE.out.ext hE1)
 clear hN1 hE1
 go_wp2_with (refine zG rfl 56 _ rfl _ _ rfl hlb ?_)
 clear hlb
 refine (zh7 w1 b hb).mono ?_
 rintro e w2 ⟨v2, rfl, hN2, hE2⟩
 obtain ⟨A2, c2, rfl⟩ := zN hN2.1
 have Hb2 : Hid (Byt w2 (zZ w1.heap.size) (.slice A2 _ c2) (ziL (jR b)).1) := hJ (yO.sl (w := w1) hN2)
 have Hb1 := hJ (Hb1.out.ext hE2)
 have HE2 := hJ (HE1.out.ext hE2)
 clear hN2 hE2
 go_wp2_with fail
 refine (zpO w2 _ _ _ _ _ _ Hb1.out Hb2.out).mono ?_
 rintro e w3 ⟨rfl, rfl⟩
 go_wp2
 go_ret
 exact ⟨rfl, HE2.out⟩
theorem info_int : (Tryz.prog.info? 3).map (fun i => (i.zero, i.size, i.bytes)) = some (some (.int .i64 0), 1, 8) := by kernel_rfl
def rdN : Nat → RS → List Int × RS
 | 0, r => ([], r)
 | k + 1, r => (r.int.1 :: (rdN k r.int.2).1, (rdN k r.int.2).2)
def NewI (w0 w : World) (v : Value) (l : List Int) : Prop := w.ownsRow 0 3 1 v l.length (l.map (Value.int .i64)) ∧ ∀ g, v.ownBlock = some g → w0.heap.size ≤ g
theorem NewI.at {w0 w : World} {v : Value} {l : List Int} (h : NewI w0 w v l) {i : Nat} {x : Int} (hx : l[i]? = some x) : ∃ g c, v = .slice (some ⟨g, 0, none⟩) l.length c ∧ w.cell? ⟨g, i, none⟩ = some (.int .i64 x) ∧ l.length ≤ c := by
 obtain ⟨h1, h2⟩ := List.getElem?_eq_some_iff.1 hx
 rcases h.1.2 with ⟨rfl, h3⟩ | ⟨g, cap, cur, rfl, _, hg, hnc, _, hsz, htk⟩
 · simp at h3; simp [h3] at h1
 refine ⟨g, cap, rfl, ?_, hnc⟩
 have : cur.toList[i]? = some (Value.int .i64 x) := by
  have h4 : (cur.toList.take (l.length * 1))[i]? = some (Value.int .i64 x) := by rw [htk, List.getElem?_map, hx]; rfl
  rw [List.getElem?_take_of_lt (by omega)] at h4
  exact h4
 simp only [World.cell?, hg]
 simpa using this
theorem zpR (w : World) (T : Nat → Prop) (v : Value) (bs : List UInt8) (many : Nat) (h : Byt w T v bs) (hl : bs.length ≤ 1000000) (hm : many ≤ 10) :
  Calls Tryz.prog 104 #[v, .int .i64 (many : Int)] w fun e w' => ∃ v', e = .returned (.tuple #[v', .bool ((rdN many ⟨bs, 0⟩).2.done == 0)]) ∧ NewI w w' v' (rdN many ⟨bs, 0⟩).1 ∧ Ext w w' := by
 obtain ⟨i0, hi, hz0, hz1, hz2⟩ := info_parts info_int
 obtain ⟨R, hR⟩ : ∃ R, rdN many ⟨bs, 0⟩ = R := ⟨_, rfl⟩
 rw [hR]
 have HR := hJ hR
 have H := hJ h
 clear hR h
 go_enter Tryz.func104, Tryz.ntmps104
 go_wp2_with fail
 refine (r_new w T v bs H.out (by omega)).mono ?_
 rintro e w1 ⟨b, rfl, hb, hRd, hE1⟩
 have hRd := hRd.fin
 have HRd := hJ hRd
 have HE1 := hJ hE1
 clear hRd hE1
 go_wp2_with fail
 go_loopw [7, 11] (fun lv iv wr => ∃ (i : Nat) (A : Option Addr) (c : Nat) (l : List Int) (r : RS), i ≤ many ∧ iv = .int .i64 i ∧ lv = .slice A i c ∧ l.length = i ∧ wr.ownsRow 0 3 1 (.slice A i c) i (l.map (Value.int .i64)) ∧ (∀ g, (Value.slice A i c).ownBlock = some g → w1.heap.size ≤ g) ∧ Rd wr (fun k => w.heap.size ≤ k ∧ k < w1.heap.size) b r ∧ (l ++ (rdN (many - i) r).1, (rdN (many - i) r).2) = R ∧ Mod (zZ w.heap.size) w1 wr) (fun _ iv _ => many - (intOf iv).toNat)
 case atStart => exact ⟨0, none, 0, [], ⟨bs, 0⟩, by omega, rfl, rfl, rfl, World.ownsRow_nil _ _ _ _, by simp [Value.ownBlock], HRd.out, by simpa using HR.out, Mod.refl _ _⟩
 obtain ⟨i, A, c, l, r, him, rfl, rfl, hli, ho, hof, hRd, hr, hM⟩ := hrel
 have hE : Ext w wr := Mod.toExt ((Ext.mod HE1.out (zZ w.heap.size)).self hM)
 have Ho := hJ ho
 have Hof := hJ hof
 have HRd := hJ hRd
 have Hr := hJ hr
 have HM := hJ hM
 have HE := hJ hE
 have Hli := hJ hli
 clear ho hof hRd hr hM hE hli
 by_cases him2 : i < many
 ·
  have hd : decide ((i : Int) < (many : Int)) = true := by simp; omega
  go_wp2_with fail
  refine (zn7 wr _ b r HRd.out).mono ?_
  rintro e w2 ⟨rfl, hR2, hM2⟩
  have ho2 : w2.ownsRow 0 3 1 (.slice A i c) i (l.map (Value.int .i64)) := zU Ho.out hM2 (fun g hg hk => by have := Hof.out g hg; omega)
  have hM2' : Mod (zZ w.heap.size) w1 w2 := HM.out.trans hM2 (fun k _ hk => hk.1)
  have hs2 : w1.heap.size ≤ w2.heap.size := hM2'.size
  obtain ⟨w3, hw3⟩ : ∃ w3, w2.alloc (.cells #[.int .i64 r.int.1] 3) = w3 := ⟨_, rfl⟩
  have hE3 : Ext w2 w3 := by rw [← hw3]; exact (Mod.refl _ w2).alloc _
  have ha : Sl w3 (fun _ => True) 1 (.slice (some ⟨w2.heap.size, 0, none⟩) 1 1) 1 [.int .i64 r.int.1] := by rw [← hw3]; exact Sl.of_own (zf6 w2 3 1 1 [.int .i64 r.int.1] rfl (by decide)) (fun _ _ => trivial)
  have ho3 := zU ho2 hE3 (fun _ _ => id)
  have hs3 : w2.heap.size ≤ w3.heap.size := hE3.size
  rw [← hw3] at ha ho3
  have Ha := hJ ha
  have Ho3 := hJ ho3
  have HR2 := hJ hR2
  have HM2 := hJ hM2'
  have HE3 := hJ hE3
  have Hw3 := hJ hw3
  have Hs3 := hJ hs2
  clear ha ho3 hR2 hM2 hM2' hE3 hw3 ho2 hs2 hs3
  go_wp2_with (at_builtin; refine yA _ rfl _ _ 134 rfl 3 i0 _ 1 8 Tryz.underlying134 hi hz0 hz1 hz2 rfl (by omega) (.slice A i c) i (l.map (Value.int .i64)) rfl Ho3.out _ _ 1 [.int .i64 r.int.1] rfl Ha.out (by intro u hu; simp only [List.mem_singleton] at hu; subst hu; rfl) (by simp only [maxLen]; omega) (by omega) ?_)
  intro v4 w4 ho4 hgr hat
  rw [Hw3.out] at hgr
  obtain ⟨A4, c4, rfl⟩ := zN ho4
  have hm4 : Mod (fun k => (Value.slice A i c).ownBlock = some k) w3 w4 := (Mod.refl _ w3).grown hgr (fun _ e => .inr e)
  have ho5 : w4.ownsRow 0 3 1 (.slice A4 (i + 1) c4) (i + 1) ((l ++ [r.int.1]).map (Value.int .i64)) := by rw [List.map_append]; exact ho4
  have hof5 : ∀ g, (Value.slice A4 (i + 1) c4).ownBlock = some g → w1.heap.size ≤ g := fun g hg => by
   rcases hat with e | e <;> rw [e] at hg
   · exact Hof.out g hg
   injection hg with hg; have := Hs3.out; omega
  have hRd5 : Rd w4 (fun k => w.heap.size ≤ k ∧ k < w1.heap.size) b r.int.2 := (HR2.out.mod HE3.out (fun _ _ => id)).mod hm4 (fun g hg e => by have := Hof.out g e; omega)
  have hM5 : Mod (zZ w.heap.size) w1 w4 := (HM2.out.ext HE3.out).trans hm4 (fun k hk e => by have := Hof.out k e; have := HE1.out.size; unfold zZ; omega)
  have hr5 : ((l ++ [r.int.1]) ++ (rdN (many - (i + 1)) r.int.2).1, (rdN (many - (i + 1)) r.int.2).2) = R := by
   rw [← Hr.out, show many - i = (many - (i + 1)) + 1 by omega, rdN]
   simp only [List.append_assoc, List.singleton_append]
  have Ho5 := hJ ho5
  have Hof5 := hJ hof5
  have HRd5 := hJ hRd5
  have HM5 := hJ hM5
  have Hr5 := hJ hr5
  clear ho4 hgr hat hm4 ho5 hof5 hRd5 hM5 hr5
  go_wp2_with fail
  go_roundw
  case rel => exact ⟨i + 1, A4, c4, l ++ [r.int.1], r.int.2, by omega, by go_num, rfl, by rw [List.length_append, Hli.out]; rfl, Ho5.out, Hof5.out, HRd5.out, Hr5.out, HM5.out⟩
  case measure => simp [intOf]; omega
 have hd : decide ((i : Int) < (many : Int)) = false := by simp; omega
 have e : many = i := by omega
 subst e
 have hr2 : (l, r) = R := by
  have h1 := Hr.out
  rw [Nat.sub_self, rdN, List.append_nil] at h1
  exact h1
 have Hr2 := hJ hr2
 clear hr2
 go_wp2_with fail
 refine (zn4 wr _ b r HRd.out).mono ?_
 rintro e w2 ⟨rfl, rfl⟩
 go_wp2
 go_ret2
 refine ⟨_, by rw [← Hr2.out]; rfl, ?_, HE.out⟩
 rw [← Hr2.out]
 exact ⟨by rw [Hli.out]; exact Ho.out, fun g hg => Nat.le_trans HE1.out.size (Hof.out g hg)⟩
theorem zpS (r : RS) : r.float.1 < 18446744073709551616 := by
 unfold RS.float
 split
 · simp
 split
 · simp
 split
 · simp
 rename_i h _
 have := zhS 8 (r.left.take 8) (by rw [List.length_take]; omega)
 simpa using this
theorem zdI (r : RS) : r.text.1.length ≤ 16384 := by
 rw [zeH]
 split
 · simp
 split
 · simp
 split
 · simp
 rw [List.length_take]; omega
theorem zgA : (⟨#[]⟩ : ByteArray).size ≤ maxLen := by simp [maxLen, ByteArray.size]
theorem zpT (r : RS) : r.valP.1.ok := by
 have h1 := zb1 r
 unfold RS.valP RS.val
 split
 ·
  split
  · exact ⟨by unfold I64; simp, zpS _, zgA⟩
  split
  ·
   refine ⟨by unfold I64; simp, by simp, ?_⟩
   have := zdI r.int.2
   simp only [ByteArray.size, List.size_toArray, maxLen]
   omega
  exact ⟨by unfold I64; simp only; omega, by simp, zgA⟩
 exact ⟨by unfold I64; simp only; omega, by simp, zgA⟩
theorem qA (r : RS) : I64 r.int.1 := zb1 r
theorem wconf_ok (r : RS) : r.confP.1.ok := ⟨qA _, qA _, qA _, qA _⟩
theorem zfF : yK.zero.ok := by simp [yK.ok, zeG.ok, jY.ok, I64, yK.zero, zeG.zero, jY.zero, maxLen, ByteArray.size]
theorem zfG : yF.zero.ok := by simp [yF.ok, I64, yF.zero]
theorem wcall_ok (r : RS) : r.callP.1.ok := by
 unfold RS.callP
 refine ⟨qA _, qA _, qA _, ?_, zpT _, zpT _⟩
 have := zdI r.int.2.int.2.int.2
 simp only [ByteArray.size, List.size_toArray, maxLen]
 omega
theorem zl8 (r : RS) : r.entP.1.ok := by
 unfold RS.entP
 simp only
 split
 · exact ⟨qA _, qA _, zfF, zfG⟩
 split
 · exact ⟨qA _, qA _, wcall_ok _, zfG⟩
 split
 · exact ⟨qA _, qA _, zfF, wconf_ok _⟩
 exact ⟨qA _, qA _, zfF, zfG⟩
theorem wr_count (w : World) (S : Nat → Prop) (c b : Nat) (r : RS) (h : Rw w S c b r) (most : Int) :
  Calls Tryz.prog 192 #[.pointer (some ⟨c, 0, none⟩), .int .i64 most] w (ROut w S c b (!decide (0 ≤ r.int.1) || !decide (r.int.1 ≤ most)) (.int .i64 r.int.1) r.int.2) := by
 have HR := hJ h
 have rc := h.cell
 clear h
 go_enter Tryz.func192, Tryz.ntmps192
 go_wp2_with fail
 refine (zn7 w S b r HR.out.1).mono ?_
 rintro e w1 ⟨rfl, hR1, hm1⟩
 have HR1 := hJ (HR.out.step hm1 hR1)
 have HM1 := hJ hm1
 obtain ⟨k, hk⟩ : ∃ k, r.int.1 = k := ⟨_, rfl⟩
 rw [hk]
 have Hk := hJ hk
 clear hR1 hm1 hk
 rcases h0 : decide (0 ≤ k) with _ | _
 ·
  have Hb : Hid ((!decide (0 ≤ r.int.1) || !decide (r.int.1 ≤ most)) = true) := hJ (by rw [Hk.out, h0]; rfl)
  go_wp2_with fail
  refine (zaI _).mono ?_
  rintro e w' ⟨rfl, rfl⟩
  exact ⟨rfl, zbQ Hb.out HM1.out⟩
 rcases h1 : decide (k ≤ most) with _ | _
 ·
  have Hb : Hid ((!decide (0 ≤ r.int.1) || !decide (r.int.1 ≤ most)) = true) := hJ (by rw [Hk.out, h0, h1]; rfl)
  go_wp2_with fail
  refine (zaI _).mono ?_
  rintro e w' ⟨rfl, rfl⟩
  exact ⟨rfl, zbQ Hb.out HM1.out⟩
 have Hb : Hid ((!decide (0 ≤ r.int.1) || !decide (r.int.1 ≤ most)) = false) := hJ (by rw [Hk.out, h0, h1]; rfl)
 go_wp2_with fail
 refine (zaH _).mono ?_
 rintro e w' ⟨rfl, rfl⟩
 go_wp2
 go_ret
 have := zbY (v := .int .i64 r.int.1) Hb.out HM1.out HR1.out
 rw [Hk.out] at this ⊢
 exact this
def EOut (w : World) (S : Nat → Prop) (c b : Nat) (o : Option (List zI × RS)) (e : Ending) (w' : World) : Prop :=
 Mod S w w' ∧ (o = none → e = zdW 3) ∧ ∀ l r', o = some (l, r') → ∃ A cp, e = .returned (.slice A l.length cp) ∧ zaX w w' (.slice A l.length cp) l ∧ Rw w' S c b r'
def behind (os : List zI) (o : Option (List zI × RS)) : Option (List zI × RS) := match o with
 | none => none
 | some (l, r) => some (os ++ l, r)
theorem zb8 (w : World) (x : zI) (hx : x.ok) : zbJ (w.alloc (.cells x.cells.toArray 56)) (fun g => g = w.heap.size) (.slice (some ⟨w.heap.size, 0, none⟩) 1 1) [x] := by
 refine ⟨⟨rfl, _, _, rfl, Nat.le_refl _, by simp [maxLen], fun _ => ⟨_, 0, rfl, rfl, fun j u hu => ?_⟩⟩, by simpa using hx⟩
 rw [cell_of_row _ _ _ _ _ _ (heap_alloc_new w _), Nat.zero_add]
 simpa using hu
theorem znA (w : World) (S : Nat → Prop) (c b : Nat) (r : RS) (h : Rw w S c b r) (most : Int) (hm : most ≤ 100000) :
  Calls Tryz.prog 176 #[.pointer (some ⟨c, 0, none⟩), .int .i64 most] w (EOut w S c b (r.listW most)) := by
 obtain ⟨i0, hi, hz0, hz1, hz2⟩ := info_parts zbC
 have hkr := zb1 r
 have hlow : ∀ g, S g → g < w.heap.size := h.2.2.2
 have HL := hJ hlow
 have H := hJ h
 clear h hlow
 go_enter Tryz.func176, Tryz.ntmps176
 go_wp2_with fail
 refine (wr_count w S c b r H.out most).mono ?_
 rintro e w1 ⟨hm1, hbad, hok⟩
 rcases hb : (!decide (0 ≤ r.int.1) || !decide (r.int.1 ≤ most)) with _ | _
 rotate_left
 ·
  obtain rfl := hbad hb
  refine ⟨rfl, hm1, fun _ => rfl, fun l r' h1 => ?_⟩
  unfold RS.listW at h1
  rw [if_neg] at h1
  · cases h1
  rintro ⟨g1, g2⟩
  rw [decide_eq_true g1, decide_eq_true g2] at hb
  cases hb
 obtain ⟨rfl, hR1⟩ := hok hb
 have hin : 0 ≤ r.int.1 ∧ r.int.1 ≤ most := by
  simpa using hb
 have hlw : r.listW most = wEs r.int.1.toNat r.int.2 := by unfold RS.listW; rw [if_pos hin]
 obtain ⟨r1, hr1⟩ : ∃ r1, r.int.2 = r1 := ⟨_, rfl⟩
 obtain ⟨K, hK⟩ := Int.eq_ofNat_of_zero_le hin.1
 rw [hr1] at hR1 hlw
 rw [hK] at hlw hin ⊢
 have hK2 : K ≤ 100000 := by omega
 rw [Int.toNat_natCast] at hlw
 have HR1 := hJ hR1
 have HM1 := hJ hm1
 have Hlw := hJ hlw
 clear hbad hok hb hR1 hm1 hlw hin hr1 hK hkr hm
 go_wp2
 go_loopw [4, 5] (fun lv nv wr => ∃ (k m : Nat) (A : Option Addr) (cp : Nat) (os : List zI) (r' : RS), nv = .int .i64 k ∧ lv = .slice A m cp ∧ os.length = m ∧ m + k = K ∧ zaX w wr (.slice A m cp) os ∧ Rw wr S c b r' ∧ Mod S w wr ∧ wEs K r1 = behind os (wEs k r')) (fun _ nv _ => (intOf nv).toNat)
 case atStart => exact ⟨K, 0, none, 0, [], r1, rfl, rfl, rfl, by omega, zcE _ _, HR1.out, HM1.out, by unfold behind; cases wEs K r1 <;> rfl⟩
 obtain ⟨k, m, A, cp, os, r', rfl, rfl, hom, hmk, hN, hR, hMm, hps⟩ := hrel
 have HN := hJ hN
 have HR := hJ hR
 have HM := hJ hMm
 have Hps := hJ hps
 have Hom := hJ hom
 clear hN hR hMm hps hom
 by_cases hk : 0 < k
 case neg =>
  obtain rfl : k = 0 := by omega
  have hd : decide ((0 : Int) < ((0 : Nat) : Int)) = false := by simp
  go_wp2
  go_ret
  refine ⟨HM.out, fun h => ?_, fun l r2 h => ?_⟩
  · rw [Hlw.out, Hps.out] at h
    cases h
  rw [Hlw.out, Hps.out] at h
  simp only [behind, wEs, List.append_nil, Option.some.injEq, Prod.mk.injEq] at h
  obtain ⟨rfl, rfl⟩ := h
  rw [Hom.out]
  exact ⟨A, cp, rfl, HN.out, HR.out⟩
 have hd : decide ((0 : Int) < (k : Int)) = true := by simp; omega
 go_wp2_with fail
 refine (zl6 wr S c b r' HR.out).mono ?_
 rintro e w2 ⟨hm2, hbad, hok⟩
 have hstep : wEs k r' = if r'.entT then none else match wEs (k - 1) r'.entP.2 with
  | none => none
  | some (l, s) => some (r'.entP.1 :: l, s) := by
  rw [show k = k - 1 + 1 by omega, wEs]
  rfl
 rcases hT : r'.entT with _ | _
 rotate_left
 ·
  obtain rfl := hbad hT
  refine ⟨rfl, HM.out.self hm2, fun _ => rfl, fun l r2 h => ?_⟩
  rw [Hlw.out, Hps.out, hstep, hT] at h
  cases h
 obtain ⟨rfl, hR2⟩ := hok hT
 obtain ⟨x, hx⟩ : ∃ x, r'.entP.1 = x := ⟨_, rfl⟩
 have hxok := zl8 r'
 rw [hx] at hxok hstep ⊢
 rw [hT] at hstep
 have HR2 := hJ hR2
 have HM2 := hJ (HM.out.self hm2)
 have hfar : ∀ g, (Value.slice A m cp).ownBlock = some g → ¬ S g := fun g hg e => by have := HN.out.2.2 g hg; have := HL.out g e; omega
 have hN2 := jF HN.out hm2 hfar
 have HN2 := hJ hN2
 have Hx := hJ hx
 have Hxok := hJ hxok
 have Hstep := hJ hstep
 clear hbad hok hR2 hT hx hxok hstep hN2 hm2 hfar
 have hown : ((w2.alloc (.cells x.cells.toArray 56))).ownsRow 0 56 16 (.slice A m cp) m (os.flatMap zI.cells) := by
  have h1 := HN2.out.1
  rw [Hom.out] at h1
  exact zU h1 ((Mod.refl (fun _ => False) w2).alloc _) (fun _ _ => id)
 go_wp2_with (at_builtin; refine yA _ rfl _ _ 32 rfl 56 i0 _ 16 152 Tryz.underlying32 hi hz0 hz1 hz2 rfl (by omega) (.slice A m cp) m (os.flatMap zI.cells) rfl hown _ _ 1 ([x].flatMap zI.cells) rfl (zb8 w2 x Hxok.out).1 (xX [x]) (by simp only [maxLen]; omega) (by omega) ?_)
 intro v' w3 ho hgr hat
 have hE0 : Ext w2 (w2.alloc (.cells x.cells.toArray 56)) := (Mod.refl _ _).alloc _
 have hN3 := zdX HN2.out (k := [x]) (by simpa using Hxok.out) Hom.out rfl ho hat (by have := HM2.out.size; simp; omega)
 have hgm : Mod (fun g => (Value.slice A m cp).ownBlock = some g) w2 w3 := (hE0.mod _).trans ((Mod.refl _ _).grown hgr (fun k_ e => .inr e)) (fun _ _ e => e)
 have hR3 := HR2.out.mod hgm (fun g hg e => by have := HN2.out.2.2 g e; have := HL.out g hg; omega) (fun e => by have := HN2.out.2.2 c e; have := H.out.lt; omega)
 have hM3 : Mod S w w3 := HM2.out.trans hgm (fun g hg e => absurd (HN2.out.2.2 g e) (by omega))
 obtain ⟨A3, c3, rfl⟩ := zN ho
 have hps : wEs K r1 = behind (os ++ [x]) (wEs (k - 1) r'.entP.2) := by
  rw [Hps.out, Hstep.out]
  simp only [if_neg (show ¬ (false = true) by simp)]
  cases wEs (k - 1) r'.entP.2 with
  | none => rfl
  | some q => simp [behind]
 have HN3 := hJ hN3
 have HR3 := hJ hR3
 have HM3 := hJ hM3
 have Hps3 := hJ hps
 clear ho hgr hat hown hE0 hN3 hgm hR3 hM3 hps
 go_wp2
 exact ⟨⟨k - 1, m + 1, A3, c3, os ++ [x], r'.entP.2, by go_num, rfl, by simp [Hom.out], by omega, HN3.out, HR3.out, HM3.out, Hps3.out⟩, by simp [intOf]; omega⟩
def HOut (w : World) (S : Nat → Prop) (c b : Nat) (o : Option (zC × RS)) (e : Ending) (w' : World) : Prop :=
 Mod S w w' ∧ (o = none → e = zdW 3) ∧ ∀ y r', o = some (y, r') → ∃ sv lv, e = .returned (.agg (y.cells sv lv).toArray) ∧ yO w w' sv y.snap ∧ zaX w w' lv y.log ∧ Rw w' S c b r'
theorem wr_hard (w : World) (S : Nat → Prop) (c b : Nat) (r : RS) (h : Rw w S c b r) (hlen : r.left.length ≤ 100000) :
  Calls Tryz.prog 133 #[.pointer (some ⟨c, 0, none⟩)] w (HOut w S c b r.hardW) := by
 obtain ⟨q, hq⟩ : ∃ q, w.heap.size = q := ⟨_, rfl⟩
 obtain ⟨W, hW⟩ : ∃ W, W = w.alloc (.cells zH.toArray 34) := ⟨_, rfl⟩
 have hE : Ext w W := by rw [hW]; exact (Mod.refl _ w).alloc _
 have hA : W.heap[q]? = some (.cells zH.toArray 34 (0, 0)) := by rw [hW, ← hq]; exact heap_alloc_new w _
 have hsz : W.heap.size = q + 1 := by rw [hW, ← hq]; simp
 have hnq : ¬ S q := fun e => by have := h.2.2.2 q e; omega
 have hcq : ¬ c = q := by have := h.lt; omega
 have hqc : ¬ q = c := by omega
 have Hnq := hJ hnq
 have HR : Hid (Rw W S c b r) := hJ (h.ext hE)
 have HM : Hid (Mod S w W) := hJ (hE.mod S)
 have HA := hJ hA
 have HW := hJ hW
 have Hq := hJ hq
 have hqw : w.heap.size ≤ q := by omega
 have Hqw := hJ hqw
 have Hsz := hJ hsz
 have rl := h.lt
 have Hlow := hJ h.2.2.2
 clear hW hq hE h hA hsz hqw
 go_enter Tryz.func133, Tryz.ntmps133
 go_wp2_with fail
 rw [← HW.out, Hq.out]
 have hE1 : Ext W (W.alloc (.cells #[.pointer (some ⟨q, 0, none⟩), .pointer (some ⟨q, 1, none⟩), .pointer (some ⟨q, 2, none⟩), .pointer (some ⟨q, 3, none⟩)] 200)) := (Mod.refl _ W).alloc _
 have hsl := ziA W q 4 200 #[.pointer (some ⟨q, 0, none⟩), .pointer (some ⟨q, 1, none⟩), .pointer (some ⟨q, 2, none⟩), .pointer (some ⟨q, 3, none⟩)] rfl (by omega)
 rw [Hsz.out] at hsl
 refine (zh6 _ S _ c b q r 4 [.int .i64 0, .int .i64 0, .int .i64 0, .int .i64 0] [.int .i64 0, .int .i64 0, .int .i64 0, .int .i64 0, .slice none 0 0, .slice none 0 0] 34 _ (HR.out.ext hE1) (hE1.blk HA.out id) rfl (by omega) hsl (fun g e => by
  subst e
  intro hh
  rcases hh with hh | hh
  · have := HR.out.2.2.2 _ hh; have := Hsz.out; omega
  omega) hnq hcq).mono ?_
 rintro e w1 ⟨rfl, hR1, hA1, hm1⟩
 obtain ⟨a0, a1, a2, a3, r1, hints⟩ := ints4 r
 rw [hints] at hR1 hA1
 replace hA1 : w1.heap[q]? = some (.cells #[.int .i64 a0, .int .i64 a1, .int .i64 a2, .int .i64 a3, .int .i64 0, .int .i64 0, .int .i64 0, .int .i64 0, .slice none 0 0, .slice none 0 0] 34 (0, 0)) := hA1
 replace HA := hJ hA1
 replace HM : Hid (Mod S w w1) := hJ ((HM.out.ext hE1).trans hm1 (fun i hi e => by
  rcases e with e | e
  · exact e
  have := Hqw.out; omega))
 replace HR := hJ hR1
 have Hints := hJ hints
 clear HW Hsz hE1 hsl hR1 hA1 hm1 hints
 have hle1 : r1.left.length ≤ r.left.length := by
  have h1 := Hints.out
  simp only [RS.ints, Prod.mk.injEq] at h1
  rw [← h1.2]
  have e1 := yJ r
  have e2 := yJ r.int.2
  have e3 := yJ r.int.2.int.2
  have e4 := yJ r.int.2.int.2.int.2
  omega
 go_wp2_with fail
 refine (zpM w1 S c b r1 HR.out).mono ?_
 rintro e w2 ⟨hm2, _, hok⟩
 obtain ⟨rfl, hR2⟩ := hok rfl
 replace HR := hJ hR2
 replace HM := hJ (HM.out.self hm2)
 replace HA := hJ (hm2.blk HA.out hnq)
 clear hok hR2 hm2
 go_wp2_with (refine zD rfl 23 _ _ rfl 4 q 4 [.int .i64 r1.confP.1.full, .int .i64 r1.confP.1.wit, .int .i64 r1.confP.1.learn, .int .i64 r1.confP.1.learnWit] rfl rfl xR _ _ [.int .i64 a0, .int .i64 a1, .int .i64 a2, .int .i64 a3, .int .i64 r1.confP.1.full, .int .i64 r1.confP.1.wit, .int .i64 r1.confP.1.learn, .int .i64 r1.confP.1.learnWit, .slice none 0 0, .slice none 0 0] HA.out rfl (by simp) (List.all_eq_true.1 rfl) rfl ?_)
 intro w3 hA4 hm4 hs4
 replace HA : Hid (w3.heap[q]? = some (.cells #[.int .i64 a0, .int .i64 a1, .int .i64 a2, .int .i64 a3, .int .i64 r1.confP.1.full, .int .i64 r1.confP.1.wit, .int .i64 r1.confP.1.learn, .int .i64 r1.confP.1.learnWit, .slice none 0 0, .slice none 0 0] 34 (0, 0))) := hJ hA4
 replace HR := hJ (HR.out.mod hm4 (fun g hg e => Hnq.out (e ▸ hg)) hcq)
 replace HM := hJ (jZ HM.out hm4 Hqw.out)
 clear hA4 hm4 hs4
 have rc := HR.out.cell
 go_wp2_with fail
 refine (zn9 w3 S b r1.confP.2 HR.out.1 HR.out.2.2.2).mono ?_
 rintro e w4 ⟨sv, rfl, hNB, hR2, hm2⟩
 clear rc
 have hsq : w.heap.size ≤ w3.heap.size := HM.out.size
 have HNB : Hid (yO w w4 sv r1.confP.2.text.1) := hJ ⟨hNB.1, fun g hg => Nat.le_trans hsq (hNB.2 g hg)⟩
 have HNq : Hid (∀ g, sv.ownBlock = some g → q < g) := hJ (fun g hg => by have h1 := hNB.2 g hg; have h2 := (Array.getElem?_eq_some_iff.1 HA.out).1; omega)
 obtain ⟨A5, c5, rfl⟩ := zN hNB.1
 replace HR := hJ (HR.out.step hm2 hR2)
 replace HM := hJ (HM.out.self hm2)
 replace HA := hJ (hm2.blk HA.out hnq)
 obtain ⟨tx, hx⟩ : ∃ x, r1.confP.2.text.1 = x := ⟨_, rfl⟩
 obtain ⟨r2, hr2⟩ : ∃ r, r1.confP.2.text.2 = r := ⟨_, rfl⟩
 rw [hx] at HNB HNq ⊢
 rw [hr2] at HR
 have Hxtx := hJ hx
 have Hrr2 := hJ hr2
 have hcv := trivial
 clear hx hr2 hNB hR2 hm2 hsq
 have a8 : w4.cell? ⟨q, 8, none⟩ = some _ := zB HA.out rfl
 have f8 : w4.frozen? ⟨q, 8, none⟩ = false := zK 8 HA.out
 obtain ⟨w5, hWn⟩ : ∃ w5, w4.setCell ⟨q, 8, none⟩ (.slice A5 tx.length c5) = w5 := ⟨_, rfl⟩
 have hA4 : w5.heap[q]? = some (.cells #[.int .i64 a0, .int .i64 a1, .int .i64 a2, .int .i64 a3, .int .i64 r1.confP.1.full, .int .i64 r1.confP.1.wit, .int .i64 r1.confP.1.learn, .int .i64 r1.confP.1.learnWit, .slice A5 tx.length c5, .slice none 0 0] 34 (0, 0)) := by rw [← hWn]; exact yC HA.out 8 (.slice A5 tx.length c5)
 have hm4 : Mod (fun k => k = q) w4 w5 := by rw [← hWn]; exact zO (Mod.refl _ _) _ _
 have rc := HR.out.cell
 replace HA := hJ hA4
 replace HR := hJ (HR.out.mod hm4 (fun g hg e => Hnq.out (e ▸ hg)) hcq)
 replace HM := hJ (jZ HM.out hm4 Hqw.out)
 replace HNB : Hid (yO w w5 (.slice A5 tx.length c5) tx) := hJ ⟨zU HNB.out.1 hm4 (fun g h1 h2 => by have := HNq.out g h1; omega), HNB.out.2⟩
 have HWn := hJ hWn
 clear hA4 hm4 hWn hcv
 go_wp2_with fail
 rw [HWn.out]
 refine (r_left w5 S b r2 HR.out.1).mono ?_
 rintro e w' ⟨rfl, rfl⟩
 rw [← HWn.out]
 have hln : r2.leftN ≤ 100000 := by
  have e1 := za5 r1
  have e2 := zbN r1.confP.2
  rw [Hrr2.out] at e2
  unfold RS.leftN
  split <;> omega
 go_wp2_with fail
 rw [HWn.out]
 clear HWn a8 f8 rc
 refine (znA w5 S c b r2 HR.out r2.leftN hln).mono ?_
 rintro e w6 ⟨hm2, hbad, hok⟩
 have hHW : r.hardW = (match r2.listW r2.leftN with
  | none => none
  | some l => some (⟨a0, a1, a2, a3, r1.confP.1, tx, l.1⟩, l.2)) := by
  have h1 := Hints.out
  simp only [RS.ints, Prod.mk.injEq, List.cons.injEq, and_true] at h1
  obtain ⟨⟨g1, g2, g3, g4⟩, g5⟩ := h1
  unfold RS.hardW
  simp only
  rw [g5, g1, g2, g3, g4, Hxtx.out, Hrr2.out]
  cases r2.listW r2.leftN <;> rfl
 rcases hT : r2.listW r2.leftN with _ | ⟨l, r3⟩
 ·
  obtain rfl := hbad hT
  refine ⟨rfl, HM.out.self hm2, fun _ => rfl, fun y r' h => ?_⟩
  rw [hHW, hT] at h
  cases h
 obtain ⟨A6, c6, rfl, hNE, hR2⟩ := hok _ _ hT
 have hsq : w.heap.size ≤ w5.heap.size := HM.out.size
 have HHW : Hid (r.hardW = some (⟨a0, a1, a2, a3, r1.confP.1, tx, l⟩, r3)) := hJ (by rw [hHW, hT])
 have HNE : Hid (zaX w w6 (.slice A6 l.length c6) l) := hJ (jT hNE hsq)
 have HNq2 : Hid (∀ g, (Value.slice A6 l.length c6).ownBlock = some g → q < g) := hJ (fun g hg => by have h1 := hNE.2.2 g hg; have h2 := (Array.getElem?_eq_some_iff.1 HA.out).1; omega)
 replace HNB : Hid (yO w w6 (.slice A5 tx.length c5) tx) := hJ ⟨zU HNB.out.1 hm2 (fun g h1 h2 => by have := HNB.out.2 g h1; have := HR.out.2.2.2 g h2; have := Hlow.out g h2; omega), HNB.out.2⟩
 replace HR := hJ hR2
 replace HM := hJ (HM.out.self hm2)
 replace HA := hJ (hm2.blk HA.out hnq)
 clear hbad hok hR2 hm2 hT hNE hsq hHW
 have a9 : w6.cell? ⟨q, 9, none⟩ = some _ := zB HA.out rfl
 have f9 : w6.frozen? ⟨q, 9, none⟩ = false := zK 9 HA.out
 obtain ⟨w7, hWn⟩ : ∃ w7, w6.setCell ⟨q, 9, none⟩ (.slice A6 l.length c6) = w7 := ⟨_, rfl⟩
 have hA4 : w7.heap[q]? = some (.cells #[.int .i64 a0, .int .i64 a1, .int .i64 a2, .int .i64 a3, .int .i64 r1.confP.1.full, .int .i64 r1.confP.1.wit, .int .i64 r1.confP.1.learn, .int .i64 r1.confP.1.learnWit, .slice A5 tx.length c5, .slice A6 l.length c6] 34 (0, 0)) := by rw [← hWn]; exact yC HA.out 9 (.slice A6 l.length c6)
 have hm4 : Mod (fun k => k = q) w6 w7 := by rw [← hWn]; exact zO (Mod.refl _ _) _ _
 replace HA := hJ hA4
 replace HR := hJ (HR.out.mod hm4 (fun g hg e => Hnq.out (e ▸ hg)) hcq)
 replace HM := hJ (jZ HM.out hm4 Hqw.out)
 replace HNB : Hid (yO w w7 (.slice A5 tx.length c5) tx) := hJ ⟨zU HNB.out.1 hm4 (fun g h1 h2 => by have := HNq.out g h1; omega), HNB.out.2⟩
 replace HNE : Hid (zaX w w7 (.slice A6 l.length c6) l) := hJ (jF HNE.out hm4 (fun g h1 h2 => by have := HNq2.out g h1; omega))
 have hld := zF (P := Tryz.prog) (o := 0) (cs := [.int .i64 a0, .int .i64 a1, .int .i64 a2, .int .i64 a3, .int .i64 r1.confP.1.full, .int .i64 r1.confP.1.wit, .int .i64 r1.confP.1.learn, .int .i64 r1.confP.1.learnWit, .slice A5 tx.length c5, .slice A6 l.length c6]) zA HA.out rfl (fun j u hu => by rw [Nat.zero_add]; exact hu)
 have hst := zaD (P := Tryz.prog) zA HA.out rfl (List.all_eq_true.1 rfl)
 rw [← hWn] at hld hst
 have HWn := hJ hWn
 clear hA4 hm4 hWn
 go_wp2_with (first | (refine zG rfl 34 _ rfl _ _ rfl hld ?_) | (refine zaJ rfl 34 _ _ rfl _ _ rfl rfl hst ?_))
 rw [HWn.out]
 clear hld hst
 obtain ⟨c_0, c_1, c_2, c_3, c_4, c_5, c_6, c_7, c_8, c_9⟩ := cq10 HA.out
 refine bodyPost_ret (v := .agg #[.int .i64 a0, .int .i64 a1, .int .i64 a2, .int .i64 a3, .int .i64 r1.confP.1.full, .int .i64 r1.confP.1.wit, .int .i64 r1.confP.1.learn, .int .i64 r1.confP.1.learnWit, .slice A5 tx.length c5, .slice A6 l.length c6]) (by simp [results, Tryz.results133, go_sem, c_0, c_1, c_2, c_3, c_4, c_5, c_6, c_7, c_8, c_9]) rfl ⟨HM.out, fun h => ?_, fun y r' h => ?_⟩
 · rw [HHW.out] at h
   cases h
 rw [HHW.out] at h
 simp only [Option.some.injEq, Prod.mk.injEq] at h
 obtain ⟨rfl, rfl⟩ := h
 exact ⟨_, _, rfl, HNB.out, HNE.out, HR.out⟩
def RdHard (w : World) (Y : Option zC) (e : Ending) (w' : World) : Prop := ∃ y c sv lv, y = Y.getD zC.zero ∧ c = (if Y.isSome then (0 : Int) else 3) ∧ e = .returned (.tuple #[.agg (y.cells sv lv).toArray, .int .i64 c]) ∧ yO w w' sv y.snap ∧ zaX w w' lv y.log ∧ Ext w w'
def zpU (w : World) (Y : Option zC) (e : Ending) (w' : World) : Prop := ∃ y c sv lv, y = Y.getD zC.zero ∧ c = Y.isSome ∧ e = .returned (.tuple #[.agg (y.cells sv lv).toArray, .bool c]) ∧ yO w w' sv y.snap ∧ zaX w w' lv y.log ∧ Ext w w'
theorem zjH {w w' : World} {Y : Option zC} (h : Y = none) (hE : Ext w w') : zpU w Y (.returned (.tuple #[.agg #[.int .i64 0, .int .i64 0, .int .i64 0, .int .i64 0, .int .i64 0, .int .i64 0, .int .i64 0, .int .i64 0, .slice none 0 0, .slice none 0 0], .bool false])) w' :=
 ⟨zC.zero, false, .slice none 0 0, .slice none 0 0, by rw [h]; rfl, by rw [h]; rfl, rfl, ⟨World.ownsRow_nil _ _ _ _, by simp [Value.ownBlock]⟩, zcE _ _, hE⟩
end Go.Proofs.YtjhnlncgmejkcaaGreat
