/-
 Contracts of package stable's record, numbers, read, same, opened. Conditions: as each theorem names them.
 Contracts of package stable's read, all. Conditions: as each theorem names them.
 Entries that are read are well formed. No program is walked here. Conditions: none.
 Contracts of wire.reader: count, entries, hard. Conditions: as each theorem names them.
-/
import Derived.Test.YtjhnlncgmejkcaaGreatStbT
import Derived.Test.YtjhnlncgmejkcaaGreatS14
import Derived.Test.YtjhnlncgmejkcaaGreatS15
import Derived.Test.YtjhnlncgmejkcaaGreatS4
import Derived.Test.YtjhnlncgmejkcaaGreatS2
import Derived.Test.YtjhnlncgmejkcaaGreatS11
import Derived.Test.YtjhnlncgmejkcaaGreatS8
import Derived.Test.YtjhnlncgmejkcaaGreatS13
namespace Go.Proofs.YtjhnlncgmejkcaaGreat
set_option linter.unusedSimpArgs false
open Go.RowKit

/-- The frame of a record. -/
def recP (k : UInt8) (b : List UInt8) : List UInt8 × Int := if 16384 < b.length + 1 then ([], 2) else (frameP (k :: b), 0)
set_option maxRecDepth 100000 in
set_option maxHeartbeats 1000000 in
theorem st_record (w : World) (T : Nat → Prop) (A : Option Addr) (n c : Nat) (kv : Int) (k : UInt8) (b : List UInt8) (hk : kv = (k.toNat : Int)) (h : Byt w T (.slice A n c) b) (hn : b.length = n) (hnl : n ≤ 1000000) :
  Calls Tryz.prog 100 #[.int .u8 kv, .slice A n c] w fun e w' => ∃ v, e = .returned (.tuple #[v, .int .i64 (recP k b).2]) ∧ NewB w w' v (recP k b).1 ∧ Ext w w' := by
 subst hk
 obtain ⟨w1, hw1⟩ : ∃ w1, w.alloc (.cells #[.int .u8 (k.toNat : Int)] 5) = w1 := ⟨_, rfl⟩
 have hN1 : NewB w w1 (.slice (some ⟨w.heap.size, 0, none⟩) 1 1) [k] := by rw [← hw1]; exact newB_lit w [k] 1 _ rfl (by decide) rfl
 have hE1 : Ext w w1 := by rw [← hw1]; exact (Mod.refl _ w).alloc _
 have hb := h.ext hE1
 rw [← hw1] at hN1 hE1 hb
 have HN1 := Lib.hid hN1
 have HE1 := Lib.hid hE1
 have Hn := Lib.hid hn
 have Hb := Lib.hid hb
 clear hw1 hN1 hE1 hn h hb
 go_enter Tryz.func100, Tryz.ntmps100
 go_wp2_with (at_builtin; refine wpList_appB rfl _ _ rfl (.slice (some ⟨w.heap.size, 0, none⟩) 1 1) [k] w rfl HN1.out HE1.out T _ b rfl Hb.out (by rw [Hn.out]; simp only [List.length_cons, List.length_nil]; omega) ?_)
 rintro A5 n5 c5 w5 hn5 hN5 hE5 _ _
 have hl5 : (k :: b).length = n5 := by rw [hn5]; rfl
 have hn6 : n5 = n + 1 := by rw [← hl5, List.length_cons, Hn.out]
 have hb5 : Byt w5 (Since w.heap.size) (.slice A5 n5 c5) (k :: b) := NewB.sl (w := w) hN5
 have HE5 := Lib.hid hE5
 have Hn6 := Lib.hid hn6
 clear hN5 hn5 hE5 hn6
 by_cases hL : 16384 < n5
 ·
  have Hr : Hid (recP k b = ([], 2)) := Lib.hid (by unfold recP; rw [if_pos (by rw [Hn.out, ← Hn6.out]; exact hL)])
  go_wp2_with fail
  refine (fr_seal_long w5 A5 n5 c5 hL).mono ?_
  rintro e w6 ⟨rfl, rfl⟩
  go_wp2
  go_ret2
  rw [Hr.out]
  exact ⟨_, rfl, ⟨World.ownsRow_nil _ _ _ _, by simp [Value.ownBlock]⟩, HE5.out⟩
 ·
  have Hr : Hid (recP k b = (frameP (k :: b), 0)) := Lib.hid (by unfold recP; rw [if_neg (by rw [Hn.out, ← Hn6.out]; exact hL)])
  have Hl5 := Lib.hid hl5
  have Hb5 := Lib.hid hb5
  clear hl5 hb5
  go_wp2_with fail
  refine (fr_seal w5 _ A5 n5 c5 (k :: b) Hb5.out Hl5.out (by omega)).mono ?_
  rintro e w6 ⟨A6, c6, rfl, hN6, hE6⟩
  have HN6 := Lib.hid (hN6.up HE5.out)
  have HE6 := Lib.hid (HE5.out.ext hE6)
  clear hN6 hE6
  go_wp2
  go_ret2
  rw [Hr.out]
  exact ⟨_, rfl, HN6.out, HE6.out⟩
set_option maxRecDepth 100000 in
set_option maxHeartbeats 1000000 in
theorem st_numbers (w : World) (T : Nat → Prop) (A : Option Addr) (m c : Nat) (kv : Int) (k : UInt8) (l : List Int) (hk : kv = (k.toNat : Int)) (h : Sl w T 1 (.slice A m c) m (l.map (Value.int .i64))) (hm : l.length = m) (hml : m ≤ 3) (hi : ∀ n ∈ l, I64 n) :
  Calls Tryz.prog 107 #[.int .u8 kv, .slice A m c] w fun e w' => ∃ v, e = .returned v ∧ NewB w w' v (frameP (k :: encInts l)) ∧ Ext w w' := by
 subst hk
 obtain ⟨w1, hw1⟩ : ∃ w1, w.alloc (.cells #[.slice none 0 0, .bool false] 171) = w1 := ⟨_, rfl⟩
 have hW : Wr w1 (Since w.heap.size) w.heap.size [] false := by
  rw [← hw1]
  exact ⟨.slice none 0 0, 171, heap_alloc_new w _, World.ownsRow_nil _ _ _ _, Nat.le_refl _, by simp [Value.ownBlock]⟩
 have hE1 : Ext w w1 := by rw [← hw1]; exact (Mod.refl _ w).alloc _
 have Hw1 := Lib.hid hw1
 have Hm := Lib.hid hm
 have Hi := Lib.hid hi
 have H := Lib.hid h
 have HW := Lib.hid hW
 have HE1 := Lib.hid hE1
 clear hw1 hW hE1 hm hi h
 go_enter Tryz.func107, Tryz.ntmps107
 go_wp2_with fail
 rw [Hw1.out]
 go_loopw [14] (fun iv wr => ∃ i : Nat, i ≤ m ∧ iv = .int .i64 i ∧ Wr wr (Since w.heap.size) w.heap.size (encInts (l.take i)) false ∧ Ext w wr) (fun iv _ => m - (intOf iv).toNat)
 case atStart => exact ⟨0, by omega, rfl, HW.out, HE1.out⟩
 case round =>
  obtain ⟨i, him, rfl, hWr, hEr⟩ := hrel
  have HWr := Lib.hid hWr
  have HEr := Lib.hid hEr
  have hbl : (encInts (l.take i)).length ≤ 100 := by
   have h1 : ∀ q : List Int, (encInts q).length ≤ 10 * q.length := fun q => by
    induction q with
    | nil => simp [encInts]
    | cons x q ih =>
     have := encInt_len x
     unfold encInts at ih ⊢
     simp only [List.flatMap_cons, List.length_append, List.length_cons]
     omega
   have := h1 (l.take i)
   rw [List.length_take, Hm.out] at this
   omega
  clear hWr hEr
  by_cases him2 : i < m
  ·
   have hx : ∃ x, l[i]? = some x := ⟨_, List.getElem?_eq_getElem (by rw [Hm.out]; exact him2)⟩
   obtain ⟨x, hx⟩ := hx
   have hs := (H.out.ext HEr.out)
   obtain ⟨_, A', c', e, _, _, hcell⟩ := hs
   injection e with e1 _ e3
   subst e1; subst e3
   obtain ⟨g, off, rfl, _, hcell⟩ := hcell (by omega)
   have x0 := hcell i _ (by rw [List.getElem?_map, hx]; rfl)
   have hxi := Hi.out x (List.mem_of_getElem? hx)
   have ht : encInts (l.take (i + 1)) = encInts (l.take i) ++ encInt x := by
    obtain ⟨h1, h2⟩ := List.getElem?_eq_some_iff.1 hx
    rw [List.take_succ_eq_append_getElem h1, h2]
    unfold encInts
    rw [List.flatMap_append]
    simp
   have Ht := Lib.hid ht
   have i0 : (0 : Int) ≤ (i : Int) := by omega
   have i1 : (i : Int) < (m : Int) := by omega
   clear hcell hx ht
   go_wp2_with fail
   refine (w_int wr (Since w.heap.size) w.heap.size _ false x HWr.out (by omega) hxi.1 hxi.2).mono ?_
   rintro e w3 ⟨rfl, hW3, hm3⟩
   have HW3 : Hid (Wr w3 (Since w.heap.size) w.heap.size (encInts (l.take (i + 1))) false) := Lib.hid (by rw [Ht.out]; exact Wr.since hW3 HEr.out.size)
   have HE3 : Hid (Ext w w3) := Lib.hid (Mod.toExt ((Ext.mod HEr.out (Since w.heap.size)).self hm3))
   clear hW3 hm3 x0
   go_wp2_with fail
   go_roundw
   case rel =>
    exact ⟨i + 1, by omega, by go_num, HW3.out, HE3.out⟩
   case measure => simp [intOf]; omega
  ·
   have e : l.take i = l := List.take_of_length_le (by rw [Hm.out]; omega)
   rw [e] at HWr hbl
   have hd : decide ((i : Int) < (m : Int)) = false := by simp; omega
   go_wp2_with fail
   refine (w_bytes wr _ _ _ HWr.out (by omega)).mono ?_
   rintro e w3 ⟨v, rfl, hN3, hE3⟩
   obtain ⟨A3, c3, rfl⟩ := own_form hN3.1
   obtain ⟨q, hq⟩ : ∃ q, (encInts l).length = q := ⟨_, rfl⟩
   have hb3 : Byt w3 (Since wr.heap.size) (.slice A3 (encInts l).length c3) (encInts l) := NewB.sl (w := wr) hN3
   rw [hq] at hb3 hbl ⊢
   have Hq := Lib.hid hq
   have Hb3 := Lib.hid hb3
   have HE3 := Lib.hid (HEr.out.ext hE3)
   clear hN3 hE3 hq hb3
   go_wp2_with fail
   refine (st_record w3 _ A3 q c3 _ k (encInts l) rfl Hb3.out Hq.out (by omega)).mono ?_
   rintro e w4 ⟨v4, rfl, hN4, hE4⟩
   have Hr : Hid (recP k (encInts l) = (frameP (k :: encInts l), 0)) := Lib.hid (by unfold recP; rw [if_neg (by rw [Hq.out]; omega)])
   rw [Hr.out] at hN4 ⊢
   have HN4 := Lib.hid (hN4.up HE3.out)
   have HE4 := Lib.hid (HE3.out.ext hE4)
   clear hN4 hE4
   go_wp2
   go_ret
   exact ⟨v4, rfl, HN4.out, HE4.out⟩
set_option maxRecDepth 100000 in
set_option maxHeartbeats 1000000 in
theorem st_opened (w : World) (s : Value) (x : Int) :
  Calls Tryz.prog 38 #[s, .int .i64 x] w fun e w' => e = .returned (.tuple #[if x = 0 then s else .pointer none, .int .i64 x]) ∧ w = w' := by
 by_cases h : x = 0
 ·
  subst h
  rw [if_pos rfl]
  go_enter Tryz.func38, Tryz.ntmps38
  go_wp2
  go_ret2
  exact ⟨rfl, rfl⟩
 ·
  rw [if_neg h]
  have hb : (x != 0) = true := by simpa using h
  go_enter Tryz.func38, Tryz.ntmps38
  go_wp2
  go_ret2
  exact ⟨rfl, rfl⟩
set_option maxRecDepth 100000 in
set_option maxHeartbeats 2000000 in
theorem st_same (w : World) (a b : AEntry) (ha : a.ok) (hb : b.ok) :
  Calls Tryz.prog 108 #[.agg #[.int .i64 a.term, .int .i64 a.kind, .int .i64 a.call.client, .int .i64 a.call.seq, .int .i64 a.call.cmd.kind, .string a.call.cmd.key, .int .i64 a.call.cmd.old.kind, .float .f64 a.call.cmd.old.num, .string a.call.cmd.old.text, .int .i64 a.call.cmd.val.kind, .float .f64 a.call.cmd.val.num, .string a.call.cmd.val.text, .int .i64 a.conf.full, .int .i64 a.conf.wit, .int .i64 a.conf.learn, .int .i64 a.conf.learnWit], .agg #[.int .i64 b.term, .int .i64 b.kind, .int .i64 b.call.client, .int .i64 b.call.seq, .int .i64 b.call.cmd.kind, .string b.call.cmd.key, .int .i64 b.call.cmd.old.kind, .float .f64 b.call.cmd.old.num, .string b.call.cmd.old.text, .int .i64 b.call.cmd.val.kind, .float .f64 b.call.cmd.val.num, .string b.call.cmd.val.text, .int .i64 b.conf.full, .int .i64 b.conf.wit, .int .i64 b.conf.learn, .int .i64 b.conf.learnWit]] w fun e w' => e = .returned (.bool (sameB a b)) ∧ Ext w w' := by
 obtain ⟨W, hW⟩ : ∃ W, W = (w.alloc (.cells #[.int .i64 a.term, .int .i64 a.kind, .int .i64 a.call.client, .int .i64 a.call.seq, .int .i64 a.call.cmd.kind, .string a.call.cmd.key, .int .i64 a.call.cmd.old.kind, .float .f64 a.call.cmd.old.num, .string a.call.cmd.old.text, .int .i64 a.call.cmd.val.kind, .float .f64 a.call.cmd.val.num, .string a.call.cmd.val.text, .int .i64 a.conf.full, .int .i64 a.conf.wit, .int .i64 a.conf.learn, .int .i64 a.conf.learnWit] 56)).alloc (.cells #[.int .i64 b.term, .int .i64 b.kind, .int .i64 b.call.client, .int .i64 b.call.seq, .int .i64 b.call.cmd.kind, .string b.call.cmd.key, .int .i64 b.call.cmd.old.kind, .float .f64 b.call.cmd.old.num, .string b.call.cmd.old.text, .int .i64 b.call.cmd.val.kind, .float .f64 b.call.cmd.val.num, .string b.call.cmd.val.text, .int .i64 b.conf.full, .int .i64 b.conf.wit, .int .i64 b.conf.learn, .int .i64 b.conf.learnWit] 56) := ⟨_, rfl⟩
 obtain ⟨hA, hB, hsz⟩ := two_new w (.cells #[.int .i64 a.term, .int .i64 a.kind, .int .i64 a.call.client, .int .i64 a.call.seq, .int .i64 a.call.cmd.kind, .string a.call.cmd.key, .int .i64 a.call.cmd.old.kind, .float .f64 a.call.cmd.old.num, .string a.call.cmd.old.text, .int .i64 a.call.cmd.val.kind, .float .f64 a.call.cmd.val.num, .string a.call.cmd.val.text, .int .i64 a.conf.full, .int .i64 a.conf.wit, .int .i64 a.conf.learn, .int .i64 a.conf.learnWit] 56) (.cells #[.int .i64 b.term, .int .i64 b.kind, .int .i64 b.call.client, .int .i64 b.call.seq, .int .i64 b.call.cmd.kind, .string b.call.cmd.key, .int .i64 b.call.cmd.old.kind, .float .f64 b.call.cmd.old.num, .string b.call.cmd.old.text, .int .i64 b.call.cmd.val.kind, .float .f64 b.call.cmd.val.num, .string b.call.cmd.val.text, .int .i64 b.conf.full, .int .i64 b.conf.wit, .int .i64 b.conf.learn, .int .i64 b.conf.learnWit] 56)
 rw [← hW] at hA hB hsz
 have hE : Ext w W := by rw [hW]; exact ((Mod.refl _ w).alloc _).alloc _
 have hla := load_row (P := Tryz.prog) (o := 0) (cs := a.cells) str_entry hA rfl (fun j u hu => by rw [Nat.zero_add]; exact hu)
 have HW := Lib.hid hW
 have HB := Lib.hid hB
 have HE := Lib.hid hE
 clear hA hB hW hE hsz
 go_enter Tryz.func108, Tryz.ntmps108
 go_wp2_with (rw [← HW.out]; refine wpList_ld rfl 56 _ rfl _ _ rfl hla ?_)
 clear hla
 refine (wo_entry W a ha).mono ?_
 rintro e w1 ⟨v1, rfl, hN1, hE1⟩
 obtain ⟨A1, c1, rfl⟩ := own_form hN1.1
 have hlb := load_row (P := Tryz.prog) (o := 0) (cs := b.cells) str_entry (hE1.blk HB.out id) rfl (fun j u hu => by rw [Nat.zero_add]; exact hu)
 have Hb1 : Hid (Byt w1 (Since W.heap.size) (.slice A1 _ c1) (told (wEntry a)).1) := Lib.hid (NewB.sl (w := W) hN1)
 have HE1 := Lib.hid (HE.out.ext hE1)
 clear hN1 hE1
 go_wp2_with (refine wpList_ld rfl 56 _ rfl _ _ rfl hlb ?_)
 clear hlb
 refine (wo_entry w1 b hb).mono ?_
 rintro e w2 ⟨v2, rfl, hN2, hE2⟩
 obtain ⟨A2, c2, rfl⟩ := own_form hN2.1
 have Hb2 : Hid (Byt w2 (Since w1.heap.size) (.slice A2 _ c2) (told (wEntry b)).1) := Lib.hid (NewB.sl (w := w1) hN2)
 have Hb1 := Lib.hid (Hb1.out.ext hE2)
 have HE2 := Lib.hid (HE1.out.ext hE2)
 clear hN2 hE2
 go_wp2_with fail
 refine (b_equal w2 _ _ _ _ _ _ Hb1.out Hb2.out).mono ?_
 rintro e w3 ⟨rfl, rfl⟩
 go_wp2
 go_ret
 exact ⟨rfl, HE2.out⟩
end Go.Proofs.YtjhnlncgmejkcaaGreat
namespace Go.Proofs.YtjhnlncgmejkcaaGreat
set_option linter.unusedSimpArgs false
open Go.RowKit

theorem info_int : (Tryz.prog.info? 3).map (fun i => (i.zero, i.size, i.bytes)) = some (some (.int .i64 0), 1, 8) := by kernel_rfl
/-- So many numbers, read one behind the other. -/
def rdN : Nat → RS → List Int × RS
 | 0, r => ([], r)
 | k + 1, r => (r.int.1 :: (rdN k r.int.2).1, (rdN k r.int.2).2)
theorem rdN_len : ∀ (k : Nat) (r : RS), (rdN k r).1.length = k
 | 0, _ => rfl
 | k + 1, r => by rw [rdN, List.length_cons, rdN_len k]
/-- Numbers of one's own. -/
def NewI (w0 w : World) (v : Value) (l : List Int) : Prop := w.ownsRow 0 3 1 v l.length (l.map (Value.int .i64)) ∧ ∀ g, v.ownBlock = some g → w0.heap.size ≤ g
theorem NewI.ext {w0 w w' : World} {v : Value} {l : List Int} (h : NewI w0 w v l) (hE : Ext w w') : NewI w0 w' v l := ⟨own_mod h.1 hE (fun _ _ => id), h.2⟩
theorem ints_one (l : List Int) : ∀ u ∈ l.map (Value.int .i64), u.oneCell' = true := by
 intro u hu; obtain ⟨b, _, rfl⟩ := List.mem_map.1 hu; rfl
/-- Its cells. -/
theorem NewI.at {w0 w : World} {v : Value} {l : List Int} (h : NewI w0 w v l) {i : Nat} {x : Int} (hx : l[i]? = some x) : ∃ g c, v = .slice (some ⟨g, 0, none⟩) l.length c ∧ w.cell? ⟨g, i, none⟩ = some (.int .i64 x) ∧ l.length ≤ c := by
 obtain ⟨h1, h2⟩ := List.getElem?_eq_some_iff.1 hx
 rcases h.1.2 with ⟨rfl, h3⟩ | ⟨g, cap, cur, rfl, _, hg, hnc, _, hsz, htk⟩
 ·
  simp at h3; simp [h3] at h1
 ·
  refine ⟨g, cap, rfl, ?_, hnc⟩
  have : cur.toList[i]? = some (Value.int .i64 x) := by
   have h4 : (cur.toList.take (l.length * 1))[i]? = some (Value.int .i64 x) := by rw [htk, List.getElem?_map, hx]; rfl
   rw [List.getElem?_take_of_lt (by omega)] at h4
   exact h4
  simp only [World.cell?, hg]
  simpa using this
set_option maxRecDepth 100000 in
set_option maxHeartbeats 2000000 in
theorem st_read (w : World) (T : Nat → Prop) (v : Value) (bs : List UInt8) (many : Nat) (h : Byt w T v bs) (hl : bs.length ≤ 1000000) (hm : many ≤ 10) :
  Calls Tryz.prog 104 #[v, .int .i64 (many : Int)] w fun e w' => ∃ v', e = .returned (.tuple #[v', .bool ((rdN many ⟨bs, 0⟩).2.done == 0)]) ∧ NewI w w' v' (rdN many ⟨bs, 0⟩).1 ∧ Ext w w' := by
 obtain ⟨i0, hi, hz0, hz1, hz2⟩ := info_parts info_int
 obtain ⟨R, hR⟩ : ∃ R, rdN many ⟨bs, 0⟩ = R := ⟨_, rfl⟩
 rw [hR]
 have HR := Lib.hid hR
 have H := Lib.hid h
 clear hR h
 go_enter Tryz.func104, Tryz.ntmps104
 go_wp2_with fail
 refine (r_new w T v bs H.out (by omega)).mono ?_
 rintro e w1 ⟨b, rfl, hb, hRd, hE1⟩
 have hRd := hRd.fin
 have HRd := Lib.hid hRd
 have HE1 := Lib.hid hE1
 clear hRd hE1
 go_wp2_with fail
 go_loopw [7, 11] (fun lv iv wr => ∃ (i : Nat) (A : Option Addr) (c : Nat) (l : List Int) (r : RS), i ≤ many ∧ iv = .int .i64 i ∧ lv = .slice A i c ∧ l.length = i ∧ wr.ownsRow 0 3 1 (.slice A i c) i (l.map (Value.int .i64)) ∧ (∀ g, (Value.slice A i c).ownBlock = some g → w1.heap.size ≤ g) ∧ Rd wr (fun k => w.heap.size ≤ k ∧ k < w1.heap.size) b r ∧ (l ++ (rdN (many - i) r).1, (rdN (many - i) r).2) = R ∧ Mod (Since w.heap.size) w1 wr) (fun _ iv _ => many - (intOf iv).toNat)
 case atStart => exact ⟨0, none, 0, [], ⟨bs, 0⟩, by omega, rfl, rfl, rfl, World.ownsRow_nil _ _ _ _, by simp [Value.ownBlock], HRd.out, by simpa using HR.out, Mod.refl _ _⟩
 case round =>
  obtain ⟨i, A, c, l, r, him, rfl, rfl, hli, ho, hof, hRd, hr, hM⟩ := hrel
  have hE : Ext w wr := Mod.toExt ((Ext.mod HE1.out (Since w.heap.size)).self hM)
  have Ho := Lib.hid ho
  have Hof := Lib.hid hof
  have HRd := Lib.hid hRd
  have Hr := Lib.hid hr
  have HM := Lib.hid hM
  have HE := Lib.hid hE
  have Hli := Lib.hid hli
  clear ho hof hRd hr hM hE hli
  by_cases him2 : i < many
  ·
   have hd : decide ((i : Int) < (many : Int)) = true := by simp; omega
   go_wp2_with fail
   refine (r_int wr _ b r HRd.out).mono ?_
   rintro e w2 ⟨rfl, hR2, hM2⟩
   have ho2 : w2.ownsRow 0 3 1 (.slice A i c) i (l.map (Value.int .i64)) := own_mod Ho.out hM2 (fun g hg hk => by have := Hof.out g hg; omega)
   have hM2' : Mod (Since w.heap.size) w1 w2 := HM.out.trans hM2 (fun k _ hk => hk.1)
   have hs2 : w1.heap.size ≤ w2.heap.size := hM2'.size
   obtain ⟨w3, hw3⟩ : ∃ w3, w2.alloc (.cells #[.int .i64 r.int.1] 3) = w3 := ⟨_, rfl⟩
   have hE3 : Ext w2 w3 := by rw [← hw3]; exact (Mod.refl _ w2).alloc _
   have ha : Sl w3 (fun _ => True) 1 (.slice (some ⟨w2.heap.size, 0, none⟩) 1 1) 1 [.int .i64 r.int.1] := by rw [← hw3]; exact Sl.of_own (own_lit w2 3 1 1 [.int .i64 r.int.1] rfl (by decide)) (fun _ _ => trivial)
   have ho3 := own_mod ho2 hE3 (fun _ _ => id)
   have hs3 : w2.heap.size ≤ w3.heap.size := hE3.size
   rw [← hw3] at ha ho3
   have Ha := Lib.hid ha
   have Ho3 := Lib.hid ho3
   have HR2 := Lib.hid hR2
   have HM2 := Lib.hid hM2'
   have HE3 := Lib.hid hE3
   have Hw3 := Lib.hid hw3
   have Hs3 := Lib.hid hs2
   clear ha ho3 hR2 hM2 hM2' hE3 hw3 ho2 hs2 hs3
   go_wp2_with (at_builtin; refine wpList_app _ rfl _ _ 134 rfl 3 i0 _ 1 8 Tryz.underlying134 hi hz0 hz1 hz2 rfl (by omega) (.slice A i c) i (l.map (Value.int .i64)) rfl Ho3.out _ _ 1 [.int .i64 r.int.1] rfl Ha.out (by intro u hu; simp only [List.mem_singleton] at hu; subst hu; rfl) (by simp only [maxLen]; omega) (by omega) ?_)
   intro v4 w4 ho4 hgr hat
   rw [Hw3.out] at hgr
   obtain ⟨A4, c4, rfl⟩ := own_form ho4
   have hm4 : Mod (fun k => (Value.slice A i c).ownBlock = some k) w3 w4 := (Mod.refl _ w3).grown hgr (fun _ e => .inr e)
   have ho5 : w4.ownsRow 0 3 1 (.slice A4 (i + 1) c4) (i + 1) ((l ++ [r.int.1]).map (Value.int .i64)) := by rw [List.map_append]; exact ho4
   have hof5 : ∀ g, (Value.slice A4 (i + 1) c4).ownBlock = some g → w1.heap.size ≤ g := fun g hg => by
    rcases hat with e | e <;> rw [e] at hg
    ·
     exact Hof.out g hg
    ·
     injection hg with hg; have := Hs3.out; omega
   have hRd5 : Rd w4 (fun k => w.heap.size ≤ k ∧ k < w1.heap.size) b r.int.2 := (HR2.out.mod HE3.out (fun _ _ => id)).mod hm4 (fun g hg e => by have := Hof.out g e; omega)
   have hM5 : Mod (Since w.heap.size) w1 w4 := (HM2.out.ext HE3.out).trans hm4 (fun k hk e => by have := Hof.out k e; have := HE1.out.size; unfold Since; omega)
   have hr5 : ((l ++ [r.int.1]) ++ (rdN (many - (i + 1)) r.int.2).1, (rdN (many - (i + 1)) r.int.2).2) = R := by
    rw [← Hr.out, show many - i = (many - (i + 1)) + 1 by omega, rdN]
    simp only [List.append_assoc, List.singleton_append]
   have Ho5 := Lib.hid ho5
   have Hof5 := Lib.hid hof5
   have HRd5 := Lib.hid hRd5
   have HM5 := Lib.hid hM5
   have Hr5 := Lib.hid hr5
   clear ho4 hgr hat hm4 ho5 hof5 hRd5 hM5 hr5
   go_wp2_with fail
   go_roundw
   case rel => exact ⟨i + 1, A4, c4, l ++ [r.int.1], r.int.2, by omega, by go_num, rfl, by rw [List.length_append, Hli.out]; rfl, Ho5.out, Hof5.out, HRd5.out, Hr5.out, HM5.out⟩
   case measure => simp [intOf]; omega
  ·
   have hd : decide ((i : Int) < (many : Int)) = false := by simp; omega
   have e : many = i := by omega
   subst e
   have hr2 : (l, r) = R := by
    have h1 := Hr.out
    rw [Nat.sub_self, rdN, List.append_nil] at h1
    exact h1
   have Hr2 := Lib.hid hr2
   clear hr2
   go_wp2_with fail
   refine (r_done wr _ b r HRd.out).mono ?_
   rintro e w2 ⟨rfl, rfl⟩
   go_wp2
   go_ret2
   refine ⟨_, by rw [← Hr2.out]; rfl, ?_, HE.out⟩
   rw [← Hr2.out]
   exact ⟨by rw [Hli.out]; exact Ho.out, fun g hg => Nat.le_trans HE1.out.size (Hof.out g hg)⟩
end Go.Proofs.YtjhnlncgmejkcaaGreat
namespace Go.Proofs.YtjhnlncgmejkcaaGreat
set_option linter.unusedSimpArgs false

theorem wfloat_lt (r : RS) : r.float.1 < 18446744073709551616 := by
 unfold RS.float
 split
 ·
  simp
 split
 ·
  simp
 split
 ·
  simp
 ·
  rename_i h _
  have := num8_lt 8 (r.left.take 8) (by rw [List.length_take]; omega)
  simpa using this
theorem wtext_small (r : RS) : r.text.1.length ≤ 16384 := by
 rw [text_eq]
 split
 ·
  simp
 split
 ·
  simp
 split
 ·
  simp
 ·
  rw [List.length_take]; omega
theorem zero_size : (⟨#[]⟩ : ByteArray).size ≤ maxLen := by simp [maxLen, ByteArray.size]
theorem wval_ok (r : RS) : r.valP.1.ok := by
 have h1 := int_range r
 unfold RS.valP RS.val
 split
 ·
  split
  ·
   exact ⟨by unfold I64; simp, wfloat_lt _, zero_size⟩
  split
  ·
   refine ⟨by unfold I64; simp, by simp, ?_⟩
   have := wtext_small r.int.2
   simp only [ByteArray.size, List.size_toArray, maxLen]
   omega
  ·
   exact ⟨by unfold I64; simp only; omega, by simp, zero_size⟩
 ·
  exact ⟨by unfold I64; simp only; omega, by simp, zero_size⟩
theorem wint_ok (r : RS) : I64 r.int.1 := int_range r
theorem wconf_ok (r : RS) : r.confP.1.ok := ⟨wint_ok _, wint_ok _, wint_ok _, wint_ok _⟩
theorem zcall_ok : ACall.zero.ok := by simp [ACall.ok, ACmd.ok, AVal.ok, I64, ACall.zero, ACmd.zero, AVal.zero, maxLen, ByteArray.size]
theorem zconf_ok : AConf.zero.ok := by simp [AConf.ok, I64, AConf.zero]
theorem wcall_ok (r : RS) : r.callP.1.ok := by
 unfold RS.callP
 refine ⟨wint_ok _, wint_ok _, wint_ok _, ?_, wval_ok _, wval_ok _⟩
 have := wtext_small r.int.2.int.2.int.2
 simp only [ByteArray.size, List.size_toArray, maxLen]
 omega
theorem ent_ok (r : RS) : r.entP.1.ok := by
 unfold RS.entP
 simp only
 split
 ·
  exact ⟨wint_ok _, wint_ok _, zcall_ok, zconf_ok⟩
 split
 ·
  exact ⟨wint_ok _, wint_ok _, wcall_ok _, zconf_ok⟩
 split
 ·
  exact ⟨wint_ok _, wint_ok _, zcall_ok, wconf_ok _⟩
 ·
  exact ⟨wint_ok _, wint_ok _, zcall_ok, zconf_ok⟩
theorem hardP_ok (r : RS) (n : Int) : (r.hardP n).1.term = r.int.1 ∧ I64 (r.hardP n).1.term ∧ I64 (r.hardP n).1.vote ∧ I64 (r.hardP n).1.base ∧ I64 (r.hardP n).1.baseTerm ∧ (r.hardP n).1.conf.ok :=
 ⟨rfl, wint_ok _, wint_ok _, wint_ok _, wint_ok _, wconf_ok _⟩
end Go.Proofs.YtjhnlncgmejkcaaGreat
namespace Go.Proofs.YtjhnlncgmejkcaaGreat
set_option linter.unusedSimpArgs false
open Go.RowKit

set_option maxRecDepth 100000 in
set_option maxHeartbeats 2000000 in
theorem wr_count (w : World) (S : Nat → Prop) (c b : Nat) (r : RS) (h : Rw w S c b r) (most : Int) :
  Calls Tryz.prog 192 #[.pointer (some ⟨c, 0, none⟩), .int .i64 most] w (ROut w S c b (!decide (0 ≤ r.int.1) || !decide (r.int.1 ≤ most)) (.int .i64 r.int.1) r.int.2) := by
 have HR := Lib.hid h
 have rc := h.cell
 clear h
 go_enter Tryz.func192, Tryz.ntmps192
 go_wp2_with fail
 refine (r_int w S b r HR.out.1).mono ?_
 rintro e w1 ⟨rfl, hR1, hm1⟩
 have HR1 := Lib.hid (HR.out.step hm1 hR1)
 have HM1 := Lib.hid hm1
 obtain ⟨k, hk⟩ : ∃ k, r.int.1 = k := ⟨_, rfl⟩
 rw [hk]
 have Hk := Lib.hid hk
 clear hR1 hm1 hk
 rcases h0 : decide (0 ≤ k) with _ | _
 ·
  have Hb : Hid ((!decide (0 ≤ r.int.1) || !decide (r.int.1 ≤ most)) = true) := Lib.hid (by rw [Hk.out, h0]; rfl)
  go_wp2_with fail
  refine (must_no _).mono ?_
  rintro e w' ⟨rfl, rfl⟩
  exact ⟨rfl, rout_bad Hb.out HM1.out⟩
 rcases h1 : decide (k ≤ most) with _ | _
 ·
  have Hb : Hid ((!decide (0 ≤ r.int.1) || !decide (r.int.1 ≤ most)) = true) := Lib.hid (by rw [Hk.out, h0, h1]; rfl)
  go_wp2_with fail
  refine (must_no _).mono ?_
  rintro e w' ⟨rfl, rfl⟩
  exact ⟨rfl, rout_bad Hb.out HM1.out⟩
 ·
  have Hb : Hid ((!decide (0 ≤ r.int.1) || !decide (r.int.1 ≤ most)) = false) := Lib.hid (by rw [Hk.out, h0, h1]; rfl)
  go_wp2_with fail
  refine (must_yes _).mono ?_
  rintro e w' ⟨rfl, rfl⟩
  go_wp2
  go_ret
  have := rout_ok (v := .int .i64 r.int.1) Hb.out HM1.out HR1.out
  rw [Hk.out] at this ⊢
  exact this

/-- What a reading of entries leaves. -/
def EOut (w : World) (S : Nat → Prop) (c b : Nat) (o : Option (List AEntry × RS)) (e : Ending) (w' : World) : Prop :=
 Mod S w w' ∧ (o = none → e = thrown 3) ∧ ∀ l r', o = some (l, r') → ∃ A cp, e = .returned (.slice A l.length cp) ∧ NewE w w' (.slice A l.length cp) l ∧ Rw w' S c b r'
/-- The rest of a list, behind what is read. -/
def behind (os : List AEntry) (o : Option (List AEntry × RS)) : Option (List AEntry × RS) := match o with
 | none => none
 | some (l, r) => some (os ++ l, r)
theorem ents_lit' (w : World) (x : AEntry) (hx : x.ok) : Ents (w.alloc (.cells #[.int .i64 x.term, .int .i64 x.kind, .int .i64 x.call.client, .int .i64 x.call.seq, .int .i64 x.call.cmd.kind, .string x.call.cmd.key, .int .i64 x.call.cmd.old.kind, .float .f64 x.call.cmd.old.num, .string x.call.cmd.old.text, .int .i64 x.call.cmd.val.kind, .float .f64 x.call.cmd.val.num, .string x.call.cmd.val.text, .int .i64 x.conf.full, .int .i64 x.conf.wit, .int .i64 x.conf.learn, .int .i64 x.conf.learnWit] 56)) (fun g => g = w.heap.size) (.slice (some ⟨w.heap.size, 0, none⟩) 1 1) [x] := by
 refine ⟨⟨rfl, _, _, rfl, Nat.le_refl _, by simp [maxLen], fun _ => ⟨_, 0, rfl, rfl, fun j u hu => ?_⟩⟩, by simpa using hx⟩
 rw [cell_of_row _ _ _ _ _ _ (heap_alloc_new w _), Nat.zero_add]
 simpa using hu
set_option maxRecDepth 100000 in
set_option maxHeartbeats 2000000 in
theorem wr_entries (w : World) (S : Nat → Prop) (c b : Nat) (r : RS) (h : Rw w S c b r) (most : Int) (hm : most ≤ 100000) :
  Calls Tryz.prog 176 #[.pointer (some ⟨c, 0, none⟩), .int .i64 most] w (EOut w S c b (r.listW most)) := by
 obtain ⟨i0, hi, hz0, hz1, hz2⟩ := info_parts info_entry
 have hkr := int_range r
 have hlow : ∀ g, S g → g < w.heap.size := h.2.2.2
 have HL := Lib.hid hlow
 have H := Lib.hid h
 clear h hlow
 go_enter Tryz.func176, Tryz.ntmps176
 go_wp2_with fail
 refine (wr_count w S c b r H.out most).mono ?_
 rintro e w1 ⟨hm1, hbad, hok⟩
 rcases hb : (!decide (0 ≤ r.int.1) || !decide (r.int.1 ≤ most)) with _ | _
 rotate_left
 ·
  obtain rfl := hbad hb
  refine ⟨rfl, hm1, fun _ => rfl, fun l r' h1 => ?_⟩
  unfold RS.listW at h1
  rw [if_neg] at h1
  ·
   cases h1
  ·
   rintro ⟨g1, g2⟩
   rw [decide_eq_true g1, decide_eq_true g2] at hb
   cases hb
 obtain ⟨rfl, hR1⟩ := hok hb
 have hin : 0 ≤ r.int.1 ∧ r.int.1 ≤ most := by
  simpa using hb
 have hlw : r.listW most = wEs r.int.1.toNat r.int.2 := by unfold RS.listW; rw [if_pos hin]
 obtain ⟨r1, hr1⟩ : ∃ r1, r.int.2 = r1 := ⟨_, rfl⟩
 obtain ⟨K, hK⟩ := Int.eq_ofNat_of_zero_le hin.1
 rw [hr1] at hR1 hlw
 rw [hK] at hlw hin ⊢
 have hK2 : K ≤ 100000 := by omega
 rw [Int.toNat_natCast] at hlw
 have HR1 := Lib.hid hR1
 have HM1 := Lib.hid hm1
 have Hlw := Lib.hid hlw
 clear hbad hok hb hR1 hm1 hlw hin hr1 hK hkr hm
 go_wp2
 go_loopw [4, 5] (fun lv nv wr => ∃ (k m : Nat) (A : Option Addr) (cp : Nat) (os : List AEntry) (r' : RS), nv = .int .i64 k ∧ lv = .slice A m cp ∧ os.length = m ∧ m + k = K ∧ NewE w wr (.slice A m cp) os ∧ Rw wr S c b r' ∧ Mod S w wr ∧ wEs K r1 = behind os (wEs k r')) (fun _ nv _ => (intOf nv).toNat)
 case atStart => exact ⟨K, 0, none, 0, [], r1, rfl, rfl, rfl, by omega, newE_nil _ _, HR1.out, HM1.out, by unfold behind; cases wEs K r1 <;> rfl⟩
 case round =>
  obtain ⟨k, m, A, cp, os, r', rfl, rfl, hom, hmk, hN, hR, hMm, hps⟩ := hrel
  have HN := Lib.hid hN
  have HR := Lib.hid hR
  have HM := Lib.hid hMm
  have Hps := Lib.hid hps
  have Hom := Lib.hid hom
  clear hN hR hMm hps hom
  by_cases hk : 0 < k
  case neg =>
   obtain rfl : k = 0 := by omega
   have hd : decide ((0 : Int) < ((0 : Nat) : Int)) = false := by simp
   go_wp2
   go_ret
   refine ⟨HM.out, fun h => ?_, fun l r2 h => ?_⟩
   ·
    rw [Hlw.out, Hps.out] at h
    cases h
   ·
    rw [Hlw.out, Hps.out] at h
    simp only [behind, wEs, List.append_nil, Option.some.injEq, Prod.mk.injEq] at h
    obtain ⟨rfl, rfl⟩ := h
    rw [Hom.out]
    exact ⟨A, cp, rfl, HN.out, HR.out⟩
  have hd : decide ((0 : Int) < (k : Int)) = true := by simp; omega
  go_wp2_with fail
  refine (wr_entry wr S c b r' HR.out).mono ?_
  rintro e w2 ⟨hm2, hbad, hok⟩
  have hstep : wEs k r' = if r'.entT then none else match wEs (k - 1) r'.entP.2 with
   | none => none
   | some (l, s) => some (r'.entP.1 :: l, s) := by
   rw [show k = k - 1 + 1 by omega, wEs]
   rfl
  rcases hT : r'.entT with _ | _
  rotate_left
  ·
   obtain rfl := hbad hT
   refine ⟨rfl, HM.out.self hm2, fun _ => rfl, fun l r2 h => ?_⟩
   rw [Hlw.out, Hps.out, hstep, hT] at h
   cases h
  obtain ⟨rfl, hR2⟩ := hok hT
  obtain ⟨x, hx⟩ : ∃ x, r'.entP.1 = x := ⟨_, rfl⟩
  have hxok := ent_ok r'
  rw [hx] at hxok hstep ⊢
  rw [hT] at hstep
  have HR2 := Lib.hid hR2
  have HM2 := Lib.hid (HM.out.self hm2)
  have hfar : ∀ g, (Value.slice A m cp).ownBlock = some g → ¬ S g := fun g hg e => by have := HN.out.2.2 g hg; have := HL.out g e; omega
  have hN2 := newE_mod HN.out hm2 hfar
  have HN2 := Lib.hid hN2
  have Hx := Lib.hid hx
  have Hxok := Lib.hid hxok
  have Hstep := Lib.hid hstep
  clear hbad hok hR2 hT hx hxok hstep hN2 hm2 hfar
  have hown : ((w2.alloc (.cells #[.int .i64 x.term, .int .i64 x.kind, .int .i64 x.call.client, .int .i64 x.call.seq, .int .i64 x.call.cmd.kind, .string x.call.cmd.key, .int .i64 x.call.cmd.old.kind, .float .f64 x.call.cmd.old.num, .string x.call.cmd.old.text, .int .i64 x.call.cmd.val.kind, .float .f64 x.call.cmd.val.num, .string x.call.cmd.val.text, .int .i64 x.conf.full, .int .i64 x.conf.wit, .int .i64 x.conf.learn, .int .i64 x.conf.learnWit] 56))).ownsRow 0 56 16 (.slice A m cp) m (os.flatMap AEntry.cells) := by
   have h1 := HN2.out.1
   rw [Hom.out] at h1
   exact own_mod h1 ((Mod.refl (fun _ => False) w2).alloc _) (fun _ _ => id)
  go_wp2_with (at_builtin; refine wpList_app _ rfl _ _ 32 rfl 56 i0 _ 16 152 Tryz.underlying32 hi hz0 hz1 hz2 rfl (by omega) (.slice A m cp) m (os.flatMap AEntry.cells) rfl hown _ _ 1 ([x].flatMap AEntry.cells) rfl (ents_lit' w2 x Hxok.out).1 (entry_one [x]) (by simp only [maxLen]; omega) (by omega) ?_)
  intro v' w3 ho hgr hat
  have hE0 : Ext w2 (w2.alloc (.cells #[.int .i64 x.term, .int .i64 x.kind, .int .i64 x.call.client, .int .i64 x.call.seq, .int .i64 x.call.cmd.kind, .string x.call.cmd.key, .int .i64 x.call.cmd.old.kind, .float .f64 x.call.cmd.old.num, .string x.call.cmd.old.text, .int .i64 x.call.cmd.val.kind, .float .f64 x.call.cmd.val.num, .string x.call.cmd.val.text, .int .i64 x.conf.full, .int .i64 x.conf.wit, .int .i64 x.conf.learn, .int .i64 x.conf.learnWit] 56)) := (Mod.refl _ _).alloc _
  have hN3 := newE_app HN2.out (k := [x]) (by simpa using Hxok.out) Hom.out rfl ho hat (by have := HM2.out.size; simp; omega)
  have hgm : Mod (fun g => (Value.slice A m cp).ownBlock = some g) w2 w3 := (hE0.mod _).trans ((Mod.refl _ _).grown hgr (fun k_ e => .inr e)) (fun _ _ e => e)
  have hR3 := HR2.out.mod hgm (fun g hg e => by have := HN2.out.2.2 g e; have := HL.out g hg; omega) (fun e => by have := HN2.out.2.2 c e; have := H.out.lt; omega)
  have hM3 : Mod S w w3 := HM2.out.trans hgm (fun g hg e => absurd (HN2.out.2.2 g e) (by omega))
  obtain ⟨A3, c3, rfl⟩ := own_form ho
  have hps : wEs K r1 = behind (os ++ [x]) (wEs (k - 1) r'.entP.2) := by
   rw [Hps.out, Hstep.out]
   simp only [if_neg (show ¬ (false = true) by simp)]
   cases wEs (k - 1) r'.entP.2 with
   | none => rfl
   | some q => simp [behind]
  have HN3 := Lib.hid hN3
  have HR3 := Lib.hid hR3
  have HM3 := Lib.hid hM3
  have Hps3 := Lib.hid hps
  clear ho hgr hat hown hE0 hN3 hgm hR3 hM3 hps
  go_wp2
  exact ⟨⟨k - 1, m + 1, A3, c3, os ++ [x], r'.entP.2, by go_num, rfl, by simp [Hom.out], by omega, HN3.out, HR3.out, HM3.out, Hps3.out⟩, by simp [intOf]; omega⟩
/-- What a reading of a hard state leaves. -/
def HOut (w : World) (S : Nat → Prop) (c b : Nat) (o : Option (AHard × RS)) (e : Ending) (w' : World) : Prop :=
 Mod S w w' ∧ (o = none → e = thrown 3) ∧ ∀ y r', o = some (y, r') → ∃ sv lv, e = .returned (.agg (y.cells sv lv).toArray) ∧ NewB w w' sv y.snap ∧ NewE w w' lv y.log ∧ Rw w' S c b r'
set_option maxRecDepth 100000 in
set_option maxHeartbeats 2000000 in
theorem wr_hard (w : World) (S : Nat → Prop) (c b : Nat) (r : RS) (h : Rw w S c b r) (hlen : r.left.length ≤ 100000) :
  Calls Tryz.prog 133 #[.pointer (some ⟨c, 0, none⟩)] w (HOut w S c b r.hardW) := by
 obtain ⟨q, hq⟩ : ∃ q, w.heap.size = q := ⟨_, rfl⟩
 obtain ⟨W, hW⟩ : ∃ W, W = w.alloc (.cells #[.int .i64 0, .int .i64 0, .int .i64 0, .int .i64 0, .int .i64 0, .int .i64 0, .int .i64 0, .int .i64 0, .slice none 0 0, .slice none 0 0] 34) := ⟨_, rfl⟩
 have hE : Ext w W := by rw [hW]; exact (Mod.refl _ w).alloc _
 have hA : W.heap[q]? = some (.cells #[.int .i64 0, .int .i64 0, .int .i64 0, .int .i64 0, .int .i64 0, .int .i64 0, .int .i64 0, .int .i64 0, .slice none 0 0, .slice none 0 0] 34 (0, 0)) := by rw [hW, ← hq]; exact heap_alloc_new w _
 have hsz : W.heap.size = q + 1 := by rw [hW, ← hq]; simp
 have hnq : ¬ S q := fun e => by have := h.2.2.2 q e; omega
 have hcq : ¬ c = q := by have := h.lt; omega
 have hqc : ¬ q = c := by omega
 have Hnq := Lib.hid hnq
 have HR : Hid (Rw W S c b r) := Lib.hid (h.ext hE)
 have HM : Hid (Mod S w W) := Lib.hid (hE.mod S)
 have HA := Lib.hid hA
 have HW := Lib.hid hW
 have Hq := Lib.hid hq
 have hqw : w.heap.size ≤ q := by omega
 have Hqw := Lib.hid hqw
 have Hsz := Lib.hid hsz
 have rl := h.lt
 have Hlow := Lib.hid h.2.2.2
 clear hW hq hE h hA hsz hqw
 go_enter Tryz.func133, Tryz.ntmps133
 go_wp2_with fail
 rw [← HW.out, Hq.out]
 have hE1 : Ext W (W.alloc (.cells #[.pointer (some ⟨q, 0, none⟩), .pointer (some ⟨q, 1, none⟩), .pointer (some ⟨q, 2, none⟩), .pointer (some ⟨q, 3, none⟩)] 200)) := (Mod.refl _ W).alloc _
 have hsl := sl_ptrs W q 4 200 #[.pointer (some ⟨q, 0, none⟩), .pointer (some ⟨q, 1, none⟩), .pointer (some ⟨q, 2, none⟩), .pointer (some ⟨q, 3, none⟩)] rfl (by omega)
 rw [Hsz.out] at hsl
 refine (wr_into _ S _ c b q r 4 [.int .i64 0, .int .i64 0, .int .i64 0, .int .i64 0] [.int .i64 0, .int .i64 0, .int .i64 0, .int .i64 0, .slice none 0 0, .slice none 0 0] 34 _ (HR.out.ext hE1) (hE1.blk HA.out id) rfl (by omega) hsl (fun g e => by
  subst e
  intro hh
  rcases hh with hh | hh
  ·
   have := HR.out.2.2.2 _ hh; have := Hsz.out; omega
  ·
   omega) hnq hcq).mono ?_
 rintro e w1 ⟨rfl, hR1, hA1, hm1⟩
 obtain ⟨a0, a1, a2, a3, r1, hints⟩ := ints4 r
 rw [hints] at hR1 hA1
 replace hA1 : w1.heap[q]? = some (.cells #[.int .i64 a0, .int .i64 a1, .int .i64 a2, .int .i64 a3, .int .i64 0, .int .i64 0, .int .i64 0, .int .i64 0, .slice none 0 0, .slice none 0 0] 34 (0, 0)) := hA1
 replace HA := Lib.hid hA1
 replace HM : Hid (Mod S w w1) := Lib.hid ((HM.out.ext hE1).trans hm1 (fun i hi e => by
  rcases e with e | e
  ·
   exact e
  ·
   have := Hqw.out; omega))
 replace HR := Lib.hid hR1
 have Hints := Lib.hid hints
 clear HW Hsz hE1 hsl hR1 hA1 hm1 hints
 have hle1 : r1.left.length ≤ r.left.length := by
  have h1 := Hints.out
  simp only [RS.ints, Prod.mk.injEq] at h1
  rw [← h1.2]
  have e1 := int_left_le r
  have e2 := int_left_le r.int.2
  have e3 := int_left_le r.int.2.int.2
  have e4 := int_left_le r.int.2.int.2.int.2
  omega
 go_wp2_with fail
 refine (wr_conf w1 S c b r1 HR.out).mono ?_
 rintro e w2 ⟨hm2, _, hok⟩
 obtain ⟨rfl, hR2⟩ := hok rfl
 replace HR := Lib.hid hR2
 replace HM := Lib.hid (HM.out.self hm2)
 replace HA := Lib.hid (hm2.blk HA.out hnq)
 clear hok hR2 hm2
 go_wp2_with (refine wpList_stR rfl 23 _ _ rfl 4 q 4 [.int .i64 r1.confP.1.full, .int .i64 r1.confP.1.wit, .int .i64 r1.confP.1.learn, .int .i64 r1.confP.1.learnWit] rfl rfl str_conf _ _ [.int .i64 a0, .int .i64 a1, .int .i64 a2, .int .i64 a3, .int .i64 r1.confP.1.full, .int .i64 r1.confP.1.wit, .int .i64 r1.confP.1.learn, .int .i64 r1.confP.1.learnWit, .slice none 0 0, .slice none 0 0] HA.out rfl (by simp) (List.all_eq_true.1 rfl) rfl ?_)
 intro w3 hA4 hm4 hs4
 replace HA : Hid (w3.heap[q]? = some (.cells #[.int .i64 a0, .int .i64 a1, .int .i64 a2, .int .i64 a3, .int .i64 r1.confP.1.full, .int .i64 r1.confP.1.wit, .int .i64 r1.confP.1.learn, .int .i64 r1.confP.1.learnWit, .slice none 0 0, .slice none 0 0] 34 (0, 0))) := Lib.hid hA4
 replace HR := Lib.hid (HR.out.mod hm4 (fun g hg e => Hnq.out (e ▸ hg)) hcq)
 replace HM := Lib.hid (mod_new HM.out hm4 Hqw.out)
 clear hA4 hm4 hs4
 have rc := HR.out.cell
 go_wp2_with fail
 refine (r_text w3 S b r1.confP.2 HR.out.1 HR.out.2.2.2).mono ?_
 rintro e w4 ⟨sv, rfl, hNB, hR2, hm2⟩
 clear rc
 have hsq : w.heap.size ≤ w3.heap.size := HM.out.size
 have HNB : Hid (NewB w w4 sv r1.confP.2.text.1) := Lib.hid ⟨hNB.1, fun g hg => Nat.le_trans hsq (hNB.2 g hg)⟩
 have HNq : Hid (∀ g, sv.ownBlock = some g → q < g) := Lib.hid (fun g hg => by have h1 := hNB.2 g hg; have h2 := (Array.getElem?_eq_some_iff.1 HA.out).1; omega)
 obtain ⟨A5, c5, rfl⟩ := own_form hNB.1
 replace HR := Lib.hid (HR.out.step hm2 hR2)
 replace HM := Lib.hid (HM.out.self hm2)
 replace HA := Lib.hid (hm2.blk HA.out hnq)
 obtain ⟨tx, hx⟩ : ∃ x, r1.confP.2.text.1 = x := ⟨_, rfl⟩
 obtain ⟨r2, hr2⟩ : ∃ r, r1.confP.2.text.2 = r := ⟨_, rfl⟩
 rw [hx] at HNB HNq ⊢
 rw [hr2] at HR
 have Hxtx := Lib.hid hx
 have Hrr2 := Lib.hid hr2
 have hcv := trivial
 clear hx hr2 hNB hR2 hm2 hsq
 have a8 : w4.cell? ⟨q, 8, none⟩ = some _ := blk_cell HA.out rfl
 have f8 : w4.frozen? ⟨q, 8, none⟩ = false := blk_free 8 HA.out
 obtain ⟨w5, hWn⟩ : ∃ w5, w4.setCell ⟨q, 8, none⟩ (.slice A5 tx.length c5) = w5 := ⟨_, rfl⟩
 have hA4 : w5.heap[q]? = some (.cells #[.int .i64 a0, .int .i64 a1, .int .i64 a2, .int .i64 a3, .int .i64 r1.confP.1.full, .int .i64 r1.confP.1.wit, .int .i64 r1.confP.1.learn, .int .i64 r1.confP.1.learnWit, .slice A5 tx.length c5, .slice none 0 0] 34 (0, 0)) := by rw [← hWn]; exact blk_set HA.out 8 (.slice A5 tx.length c5)
 have hm4 : Mod (fun k => k = q) w4 w5 := by rw [← hWn]; exact mod_same (Mod.refl _ _) _ _
 have rc := HR.out.cell
 replace HA := Lib.hid hA4
 replace HR := Lib.hid (HR.out.mod hm4 (fun g hg e => Hnq.out (e ▸ hg)) hcq)
 replace HM := Lib.hid (mod_new HM.out hm4 Hqw.out)
 replace HNB : Hid (NewB w w5 (.slice A5 tx.length c5) tx) := Lib.hid ⟨own_mod HNB.out.1 hm4 (fun g h1 h2 => by have := HNq.out g h1; omega), HNB.out.2⟩
 have HWn := Lib.hid hWn
 clear hA4 hm4 hWn hcv
 go_wp2_with fail
 rw [HWn.out]
 refine (r_left w5 S b r2 HR.out.1).mono ?_
 rintro e w' ⟨rfl, rfl⟩
 rw [← HWn.out]
 have hln : r2.leftN ≤ 100000 := by
  have e1 := confP_left_le r1
  have e2 := text_left_le r1.confP.2
  rw [Hrr2.out] at e2
  unfold RS.leftN
  split <;> omega
 go_wp2_with fail
 rw [HWn.out]
 clear HWn a8 f8 rc
 refine (wr_entries w5 S c b r2 HR.out r2.leftN hln).mono ?_
 rintro e w6 ⟨hm2, hbad, hok⟩
 have hHW : r.hardW = (match r2.listW r2.leftN with
  | none => none
  | some l => some (⟨a0, a1, a2, a3, r1.confP.1, tx, l.1⟩, l.2)) := by
  have h1 := Hints.out
  simp only [RS.ints, Prod.mk.injEq, List.cons.injEq, and_true] at h1
  obtain ⟨⟨g1, g2, g3, g4⟩, g5⟩ := h1
  unfold RS.hardW
  simp only
  rw [g5, g1, g2, g3, g4, Hxtx.out, Hrr2.out]
  cases r2.listW r2.leftN <;> rfl
 rcases hT : r2.listW r2.leftN with _ | ⟨l, r3⟩
 ·
  obtain rfl := hbad hT
  refine ⟨rfl, HM.out.self hm2, fun _ => rfl, fun y r' h => ?_⟩
  rw [hHW, hT] at h
  cases h
 obtain ⟨A6, c6, rfl, hNE, hR2⟩ := hok _ _ hT
 have hsq : w.heap.size ≤ w5.heap.size := HM.out.size
 have HHW : Hid (r.hardW = some (⟨a0, a1, a2, a3, r1.confP.1, tx, l⟩, r3)) := Lib.hid (by rw [hHW, hT])
 have HNE : Hid (NewE w w6 (.slice A6 l.length c6) l) := Lib.hid (newE_up hNE hsq)
 have HNq2 : Hid (∀ g, (Value.slice A6 l.length c6).ownBlock = some g → q < g) := Lib.hid (fun g hg => by have h1 := hNE.2.2 g hg; have h2 := (Array.getElem?_eq_some_iff.1 HA.out).1; omega)
 replace HNB : Hid (NewB w w6 (.slice A5 tx.length c5) tx) := Lib.hid ⟨own_mod HNB.out.1 hm2 (fun g h1 h2 => by have := HNB.out.2 g h1; have := HR.out.2.2.2 g h2; have := Hlow.out g h2; omega), HNB.out.2⟩
 replace HR := Lib.hid hR2
 replace HM := Lib.hid (HM.out.self hm2)
 replace HA := Lib.hid (hm2.blk HA.out hnq)
 clear hbad hok hR2 hm2 hT hNE hsq hHW
 have a9 : w6.cell? ⟨q, 9, none⟩ = some _ := blk_cell HA.out rfl
 have f9 : w6.frozen? ⟨q, 9, none⟩ = false := blk_free 9 HA.out
 obtain ⟨w7, hWn⟩ : ∃ w7, w6.setCell ⟨q, 9, none⟩ (.slice A6 l.length c6) = w7 := ⟨_, rfl⟩
 have hA4 : w7.heap[q]? = some (.cells #[.int .i64 a0, .int .i64 a1, .int .i64 a2, .int .i64 a3, .int .i64 r1.confP.1.full, .int .i64 r1.confP.1.wit, .int .i64 r1.confP.1.learn, .int .i64 r1.confP.1.learnWit, .slice A5 tx.length c5, .slice A6 l.length c6] 34 (0, 0)) := by rw [← hWn]; exact blk_set HA.out 9 (.slice A6 l.length c6)
 have hm4 : Mod (fun k => k = q) w6 w7 := by rw [← hWn]; exact mod_same (Mod.refl _ _) _ _
 replace HA := Lib.hid hA4
 replace HR := Lib.hid (HR.out.mod hm4 (fun g hg e => Hnq.out (e ▸ hg)) hcq)
 replace HM := Lib.hid (mod_new HM.out hm4 Hqw.out)
 replace HNB : Hid (NewB w w7 (.slice A5 tx.length c5) tx) := Lib.hid ⟨own_mod HNB.out.1 hm4 (fun g h1 h2 => by have := HNq.out g h1; omega), HNB.out.2⟩
 replace HNE : Hid (NewE w w7 (.slice A6 l.length c6) l) := Lib.hid (newE_mod HNE.out hm4 (fun g h1 h2 => by have := HNq2.out g h1; omega))
 have hld := load_row (P := Tryz.prog) (o := 0) (cs := [.int .i64 a0, .int .i64 a1, .int .i64 a2, .int .i64 a3, .int .i64 r1.confP.1.full, .int .i64 r1.confP.1.wit, .int .i64 r1.confP.1.learn, .int .i64 r1.confP.1.learnWit, .slice A5 tx.length c5, .slice A6 l.length c6]) str_hard HA.out rfl (fun j u hu => by rw [Nat.zero_add]; exact hu)
 have hst := store_self (P := Tryz.prog) str_hard HA.out rfl (List.all_eq_true.1 rfl)
 rw [← hWn] at hld hst
 have HWn := Lib.hid hWn
 clear hA4 hm4 hWn
 go_wp2_with (first | (refine wpList_ld rfl 34 _ rfl _ _ rfl hld ?_) | (refine wpList_st rfl 34 _ _ rfl _ _ rfl rfl hst ?_))
 rw [HWn.out]
 clear hld hst
 obtain ⟨c_0, c_1, c_2, c_3, c_4, c_5, c_6, c_7, c_8, c_9⟩ := cq10 HA.out
 refine bodyPost_ret (v := .agg #[.int .i64 a0, .int .i64 a1, .int .i64 a2, .int .i64 a3, .int .i64 r1.confP.1.full, .int .i64 r1.confP.1.wit, .int .i64 r1.confP.1.learn, .int .i64 r1.confP.1.learnWit, .slice A5 tx.length c5, .slice A6 l.length c6]) (by simp [results, Tryz.results133, go_sem, c_0, c_1, c_2, c_3, c_4, c_5, c_6, c_7, c_8, c_9]) rfl ⟨HM.out, fun h => ?_, fun y r' h => ?_⟩
 ·
  rw [HHW.out] at h
  cases h
 ·
  rw [HHW.out] at h
  simp only [Option.some.injEq, Prod.mk.injEq] at h
  obtain ⟨rfl, rfl⟩ := h
  exact ⟨_, _, rfl, HNB.out, HNE.out, HR.out⟩
/-- A hard state is told, and a code. -/
def RdHard (w : World) (Y : Option AHard) (e : Ending) (w' : World) : Prop := ∃ y c sv lv, y = Y.getD AHard.zero ∧ c = (if Y.isSome then (0 : Int) else 3) ∧ e = .returned (.tuple #[.agg (y.cells sv lv).toArray, .int .i64 c]) ∧ NewB w w' sv y.snap ∧ NewE w w' lv y.log ∧ Ext w w'
def RdHardP (w : World) (Y : Option AHard) (e : Ending) (w' : World) : Prop := ∃ y c sv lv, y = Y.getD AHard.zero ∧ c = Y.isSome ∧ e = .returned (.tuple #[.agg (y.cells sv lv).toArray, .bool c]) ∧ NewB w w' sv y.snap ∧ NewE w w' lv y.log ∧ Ext w w'
theorem rdHardP_none {w w' : World} {Y : Option AHard} (h : Y = none) (hE : Ext w w') : RdHardP w Y (.returned (.tuple #[.agg #[.int .i64 0, .int .i64 0, .int .i64 0, .int .i64 0, .int .i64 0, .int .i64 0, .int .i64 0, .int .i64 0, .slice none 0 0, .slice none 0 0], .bool false])) w' :=
 ⟨AHard.zero, false, .slice none 0 0, .slice none 0 0, by rw [h]; rfl, by rw [h]; rfl, rfl, ⟨World.ownsRow_nil _ _ _ _, by simp [Value.ownBlock]⟩, newE_nil _ _, hE⟩
end Go.Proofs.YtjhnlncgmejkcaaGreat
